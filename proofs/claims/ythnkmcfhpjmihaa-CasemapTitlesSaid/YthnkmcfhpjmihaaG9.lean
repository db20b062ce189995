/- Lemmas, printed and written for this claim: part 9. -/
import Derived.WalkKit
import Derived.WalkSpells
import Derived.IntWalk
import Derived.Deep.RegionHeld3
import Derived.Deep.RegionLaw
import Derived.Laws.Runes
import Derived.Test.YthnkmcfhpjmihaaG8
import Derived.Test.YthnkmcfhpjmihaaG2
import Derived.Test.YthnkmcfhpjmihaaG4
import Derived.Test.YthnkmcfhpjmihaaG3
import Derived.Test.YthnkmcfhpjmihaaG6
import Derived.Test.YthnkmcfhpjmihaaG7
section
namespace Go.Proofs.Ythnkmcfhpjmihaa.Q
open Go.RowKit Go.Proofs.YthnkmcfhpjmihaaW.PrintWords Go.Proofs.YthnkmcfhpjmihaaW.PrintLast Go.Proofs.YthnkmcfhpjmihaaW.PrintMore
set_option linter.unusedVariables false
theorem mappedF (l : List Mp) (x : Int) (h : okM l = true) : casemap_mapped.f l x = some (mapdS l x) := by
 unfold casemap_mapped.f mapping_Get.f
 rw [if_pos h, Option.bind_some]
 unfold mapdS getP tagE
 cases getM l x ⟨#[]⟩ with
 | none => rfl
 | some xs => rfl
theorem getF (l : List Mp) (x : Int) (t : ByteArray) (h : okM l = true) : mapping_Get.f l x t = some ((getP l x t).1, (getP l x t).2) := by unfold mapping_Get.f; rw [if_pos h]
set_option maxHeartbeats 4000000 in
set_option maxRecDepth 100000 in
theorem title_calls (b : Nat) (c : CaseS) (text : List Int) (i : Nat) (w : World) (hM : Mpr w b c text) (hi : i < text.length) (hok : okM c.ti = true) :
  Calls Try.prog 33 #[.pointer (some ⟨b, 0, none⟩), .int .i64 i] w fun e w' => ∃ v, e = .returned v ∧ Kd.R (Kd.int .i64) 3 w' w.heap.size (fun _ => True) v (mapdS c.ti (text.getD i 0)) ∧ Below w.heap.size w w' := by
 obtain ⟨A0, n0, A1, n1, A2, n2, A3, n3, A4, n4, A5, n5, At, nt, hA⟩ := hM
 have HM := aM hA
 obtain ⟨ad, e, t1⟩ := Kd.at_int HM.out.rt (i : Int) (by omega) (by omega)
 cases e
 rw [Int.toNat_natCast] at t1
 have hrd : rd text (i : Int) = text.getD i 0 := by unfold rd; rw [Int.toNat_natCast]
 rw [hrd] at t1
 have hp1 : (0 ≤ (i : Int)) = True := eq_true (by omega)
 have hp2 : ((i : Int) < (text.length : Int)) = True := eq_true (by omega)
 have hp3 : (i < text.length) = True := eq_true hi
 have hq1 : (0 : Int) ≤ (i : Int) := by omega
 have hq2 : (i : Int) < (text.length : Int) := by omega
 have c6 := HM.out.c6
 have HBR := aM (Below.refl w.heap.size w)
 have c2 := HM.out.c2
 have HMF := aM (mappedF c.ti (text.getD i 0) hok)
 generalize text.getD i 0 = x at *
 clear hA hi hok hrd
 go_enter Try.func33, Try.ntmps33
 go_wp2
 go_region_held3 (fun w' => w'.cell? ⟨b, 2, none⟩ = some (.slice A2 c.ti.length n2) ∧ w'.cell? ⟨b, 6, none⟩ = some (.slice (some ad) text.length nt) ∧ w'.cell? (ad.add i) = some (.int .i64 x)) (first | go_keep | (go_split_ands; refine ⟨?_, ?_, ?_⟩; (refine pcb hb ?_; assumption); (refine pcb hb ?_; assumption); (refine pcb hb ?_; assumption)))
  (first | (go_at_call 51; (with_reducible refine (casemap_mapped.calls A2 n2 c.ti x (mapdS c.ti x) _ ?s1 HM.out.l2 HMF.out).mono ?_); (case s1 => exact Kd.C_below HM.out.r2 (by repeat (first | (with_reducible first | exact HBR.out | apply bAl | apply pbN | apply bD1) | exact HBR.out))); rintro e w1 ⟨v1, rfl, hv, hb⟩; have HV := aM (Kd.R_lower hv (bSz (show Below w.heap.size w _ from (by repeat (first | (with_reducible first | exact HBR.out | apply bAl | apply pbN | apply bD1) | exact HBR.out))))); have HB1 := aM (bSp (show Below w.heap.size w _ from (by repeat (first | (with_reducible first | exact HBR.out | apply bAl | apply pbN | apply bD1) | exact HBR.out))) hb)))
 clear hb hv
 go_wp2
 go_ret
 exact ⟨v1, rfl, HV.out, HB1.out⟩
set_option maxHeartbeats 4000000 in
set_option maxRecDepth 100000 in
theorem lower_calls (b : Nat) (c : CaseS) (text : List Int) (i : Nat) (w : World) (hM : Mpr w b c text) (hi : i < text.length) (hok : okM c.lo = true) (ht : text.length < 1000000) (hs : c.ca.length < 1000000 ∧ c.ig.length < 1000000) :
  Calls Try.prog 34 #[.pointer (some ⟨b, 0, none⟩), .int .i64 i] w fun e w' => ∃ v, e = .returned v ∧ Kd.R (Kd.int .i64) 3 w' w.heap.size (fun _ => True) v (lowerS c text i) ∧ Below w.heap.size w w' := by
 have HMP := aM hM
 have HT := aM ht
 have HS := aM hs
 obtain ⟨A0, n0, A1, n1, A2, n2, A3, n3, A4, n4, A5, n5, At, nt, hA⟩ := hM
 have HM := aM hA
 obtain ⟨ad, e, t1⟩ := Kd.at_int HM.out.rt (i : Int) (by omega) (by omega)
 cases e
 rw [Int.toNat_natCast] at t1
 have hrd : rd text (i : Int) = text.getD i 0 := by unfold rd; rw [Int.toNat_natCast]
 rw [hrd] at t1
 have hp1 : (0 ≤ (i : Int)) = True := eq_true (by omega)
 have hp2 : ((i : Int) < (text.length : Int)) = True := eq_true (by omega)
 have hp3 : (i < text.length) = True := eq_true hi
 have hq1 : (0 : Int) ≤ (i : Int) := by omega
 have hq2 : (i : Int) < (text.length : Int) := by omega
 have c6 := HM.out.c6
 have HBR := aM (Below.refl w.heap.size w)
 have c0 := HM.out.c0
 have HMF := aM (mappedF c.lo (text.getD i 0) hok)
 have hgf := getF c.lo (text.getD i 0) ⟨#[102, 105, 110, 97, 108]⟩ hok
 have hls : lowerS c text i = match getM c.lo (text.getD i 0) tagF with | some xs => if finalS c text i then xs else mapdS c.lo (text.getD i 0) | none => mapdS c.lo (text.getD i 0) := rfl
 have hfi : finalI c text (i : Int) = finalS c text i := by
  unfold finalI
  rw [dT (by omega), dT (by omega), Int.toNat_natCast]; rfl
 rw [hls]
 generalize text.getD i 0 = x at *
 have T1 := aM t1
 cases hg : getM c.lo x tagF with
 | none =>
  obtain ⟨xs, HGF⟩ : ∃ xs : List Int, Aside0 (mapping_Get.f c.lo x ⟨#[102, 105, 110, 97, 108]⟩ = some (xs, false)) := ⟨[], ⟨by
   refine hgf.trans ?_
   unfold getP
   rw [show getM c.lo x ⟨#[102, 105, 110, 97, 108]⟩ = none from hg]⟩⟩
  clear hA hi hok hrd ht hs hg hgf hls hfi t1
  show Calls _ _ _ _ fun e w' => ∃ v, e = .returned v ∧ Kd.R (Kd.int .i64) 3 w' w.heap.size (fun _ => True) v (mapdS c.lo x) ∧ Below w.heap.size w w'
  have t1 := T1.out
  go_enter Try.func34, Try.ntmps34
  go_wp2
  go_region_held3 (fun w' => w'.cell? ⟨b, 0, none⟩ = some (.slice A0 c.lo.length n0) ∧ w'.cell? ⟨b, 6, none⟩ = some (.slice (some ad) text.length nt) ∧ w'.cell? (ad.add i) = some (.int .i64 x)) (first | go_keep | (go_split_ands; refine ⟨?_, ?_, ?_⟩; (refine pcb hb ?_; assumption); (refine pcb hb ?_; assumption); (refine pcb hb ?_; assumption)))
   (first | (go_at_call 56; (with_reducible refine (mapping_Get.calls A0 n0 c.lo x ⟨#[102, 105, 110, 97, 108]⟩ xs false _ ?s1 HM.out.l0 HGF.out).mono ?_); (case s1 => exact Kd.C_below HM.out.r0 (by repeat (first | (with_reducible first | exact HBR.out | apply bAl | apply pbN | apply bD1) | exact HBR.out))); rintro e w1 ⟨v1, rfl, hv, hb⟩; have HV1 := aM (Kd.R_lower hv (bSz (show Below w.heap.size w _ from (by repeat (first | (with_reducible first | exact HBR.out | apply bAl | apply pbN | apply bD1) | exact HBR.out))))); have HB1 := aM (bSp (show Below w.heap.size w _ from (by repeat (first | (with_reducible first | exact HBR.out | apply bAl | apply pbN | apply bD1) | exact HBR.out))) hb)))
  clear hb hv t1 c0 c6
  have c0 := pcb HB1.out HM.out.c0
  have c6 := pcb HB1.out HM.out.c6
  have t2 := pcb HB1.out T1.out
  go_wp2
  go_region_held3 (fun w' => w'.cell? ⟨b, 0, none⟩ = some (.slice A0 c.lo.length n0) ∧ w'.cell? ⟨b, 6, none⟩ = some (.slice (some ad) text.length nt) ∧ w'.cell? (ad.add i) = some (.int .i64 x)) (first | go_keep | (go_split_ands; refine ⟨?_, ?_, ?_⟩; (refine pcb hb ?_; assumption); (refine pcb hb ?_; assumption); (refine pcb hb ?_; assumption)))
   (first | (go_at_call 51; (with_reducible refine (casemap_mapped.calls A0 n0 c.lo x (mapdS c.lo x) _ ?s1 HM.out.l0 HMF.out).mono ?_); (case s1 => exact Kd.C_below HM.out.r0 (by repeat (first | (with_reducible first | exact HB1.out | apply bAl | apply pbN | apply bD1) | exact HB1.out))); rintro e w3 ⟨v3, rfl, hv, hb⟩; have HV := aM (Kd.R_lower hv (bSz (show Below w.heap.size w _ from (by repeat (first | (with_reducible first | exact HB1.out | apply bAl | apply pbN | apply bD1) | exact HB1.out))))); have HB3 := aM (bSp (show Below w.heap.size w _ from (by repeat (first | (with_reducible first | exact HB1.out | apply bAl | apply pbN | apply bD1) | exact HB1.out))) hb)))
  clear hb hv
  go_wp2
  go_ret
  exact ⟨v3, rfl, HV.out, HB3.out⟩
 | some ys =>
  have HGF := aM (show mapping_Get.f c.lo x ⟨#[102, 105, 110, 97, 108]⟩ = some (ys, true) by
   refine hgf.trans ?_
   unfold getP
   rw [show getM c.lo x ⟨#[102, 105, 110, 97, 108]⟩ = some ys from hg])
  cases hf : finalS c text i with
  | true =>
   have HFI := aM (hfi.trans hf)
   clear hA hi hok hrd ht hs hg hgf hls hfi hf t1
   show Calls _ _ _ _ fun e w' => ∃ v, e = .returned v ∧ Kd.R (Kd.int .i64) 3 w' w.heap.size (fun _ => True) v ys ∧ Below w.heap.size w w'
   have t1 := T1.out
   obtain ⟨ok, hok2⟩ : ∃ ok, ok = true := ⟨_, rfl⟩
   obtain ⟨xs, hxs⟩ : ∃ xs, xs = ys := ⟨_, rfl⟩
   subst hok2 hxs
   go_enter Try.func34, Try.ntmps34
   go_wp2
   go_region_held3 (fun w' => w'.cell? ⟨b, 0, none⟩ = some (.slice A0 c.lo.length n0) ∧ w'.cell? ⟨b, 6, none⟩ = some (.slice (some ad) text.length nt) ∧ w'.cell? (ad.add i) = some (.int .i64 x)) (first | go_keep | (go_split_ands; refine ⟨?_, ?_, ?_⟩; (refine pcb hb ?_; assumption); (refine pcb hb ?_; assumption); (refine pcb hb ?_; assumption)))
    (first | (go_at_call 56; (with_reducible refine (mapping_Get.calls A0 n0 c.lo x ⟨#[102, 105, 110, 97, 108]⟩ xs true _ ?s1 HM.out.l0 HGF.out).mono ?_); (case s1 => exact Kd.C_below HM.out.r0 (by repeat (first | (with_reducible first | exact HBR.out | apply bAl | apply pbN | apply bD1) | exact HBR.out))); rintro e w1 ⟨v1, rfl, hv, hb⟩; have HV1 := aM (Kd.R_lower hv (bSz (show Below w.heap.size w _ from (by repeat (first | (with_reducible first | exact HBR.out | apply bAl | apply pbN | apply bD1) | exact HBR.out))))); have HB1 := aM (bSp (show Below w.heap.size w _ from (by repeat (first | (with_reducible first | exact HBR.out | apply bAl | apply pbN | apply bD1) | exact HBR.out))) hb)))
   clear hb hv t1 c0 c6
   go_wp2_with (first | (go_at_call 45; (with_reducible refine (final_calls b c text (i : Int) _ (HMP.out.below HB1.out) HT.out HS.out).mono ?_); rw [HFI.out]; rintro e w2 ⟨rfl, hb⟩; have HV2 := aM (Kd.R_below HV1.out hb); have HB2 := aM (bSp HB1.out hb); clear hb))
   go_ret
   exact ⟨v1, rfl, HV2.out, HB2.out⟩
  | false =>
   have HFI := aM (hfi.trans hf)
   clear hA hi hok hrd ht hs hg hgf hls hfi hf t1
   show Calls _ _ _ _ fun e w' => ∃ v, e = .returned v ∧ Kd.R (Kd.int .i64) 3 w' w.heap.size (fun _ => True) v (mapdS c.lo x) ∧ Below w.heap.size w w'
   have t1 := T1.out
   obtain ⟨ok, hok2⟩ : ∃ ok, ok = true := ⟨_, rfl⟩
   obtain ⟨xs, hxs⟩ : ∃ xs, xs = ys := ⟨_, rfl⟩
   subst hok2 hxs
   go_enter Try.func34, Try.ntmps34
   go_wp2
   go_region_held3 (fun w' => w'.cell? ⟨b, 0, none⟩ = some (.slice A0 c.lo.length n0) ∧ w'.cell? ⟨b, 6, none⟩ = some (.slice (some ad) text.length nt) ∧ w'.cell? (ad.add i) = some (.int .i64 x)) (first | go_keep | (go_split_ands; refine ⟨?_, ?_, ?_⟩; (refine pcb hb ?_; assumption); (refine pcb hb ?_; assumption); (refine pcb hb ?_; assumption)))
    (first | (go_at_call 56; (with_reducible refine (mapping_Get.calls A0 n0 c.lo x ⟨#[102, 105, 110, 97, 108]⟩ xs true _ ?s1 HM.out.l0 HGF.out).mono ?_); (case s1 => exact Kd.C_below HM.out.r0 (by repeat (first | (with_reducible first | exact HBR.out | apply bAl | apply pbN | apply bD1) | exact HBR.out))); rintro e w1 ⟨v1, rfl, hv, hb⟩; have HV1 := aM (Kd.R_lower hv (bSz (show Below w.heap.size w _ from (by repeat (first | (with_reducible first | exact HBR.out | apply bAl | apply pbN | apply bD1) | exact HBR.out))))); have HB1 := aM (bSp (show Below w.heap.size w _ from (by repeat (first | (with_reducible first | exact HBR.out | apply bAl | apply pbN | apply bD1) | exact HBR.out))) hb)))
   clear hb hv t1 c0 c6
   go_upto_region 4 with (first | (go_at_call 45; (with_reducible refine (final_calls b c text (i : Int) _ (HMP.out.below HB1.out) HT.out HS.out).mono ?_); rw [HFI.out]; rintro e w2 ⟨rfl, hb⟩; have HV2 := aM (Kd.R_below HV1.out hb); have HB2 := aM (bSp HB1.out hb); clear hb))
   have c0 := pcb HB2.out HM.out.c0
   have c6 := pcb HB2.out HM.out.c6
   have t2 := pcb HB2.out T1.out
   go_wp2
   go_region_held3 (fun w' => w'.cell? ⟨b, 0, none⟩ = some (.slice A0 c.lo.length n0) ∧ w'.cell? ⟨b, 6, none⟩ = some (.slice (some ad) text.length nt) ∧ w'.cell? (ad.add i) = some (.int .i64 x)) (first | go_keep | (go_split_ands; refine ⟨?_, ?_, ?_⟩; (refine pcb hb ?_; assumption); (refine pcb hb ?_; assumption); (refine pcb hb ?_; assumption)))
    (first | (go_at_call 51; (with_reducible refine (casemap_mapped.calls A0 n0 c.lo x (mapdS c.lo x) _ ?s1 HM.out.l0 HMF.out).mono ?_); (case s1 => exact Kd.C_below HM.out.r0 (by repeat (first | (with_reducible first | exact HB2.out | apply bAl | apply pbN | apply bD1) | exact HB2.out))); rintro e w3 ⟨v3, rfl, hv, hb⟩; have HV := aM (Kd.R_lower hv (bSz (show Below w.heap.size w _ from (by repeat (first | (with_reducible first | exact HB2.out | apply bAl | apply pbN | apply bD1) | exact HB2.out))))); have HB3 := aM (bSp (show Below w.heap.size w _ from (by repeat (first | (with_reducible first | exact HB2.out | apply bAl | apply pbN | apply bD1) | exact HB2.out))) hb)))
   clear hb hv
   go_wp2
   go_ret
   exact ⟨v3, rfl, HV.out, HB3.out⟩
theorem getM_len {l : List Mp} (h : okM l = true) {x : Int} {t : ByteArray} {xs : List Int} (hg : getM l x t = some xs) : xs.length < 100000 := by
 unfold getM at hg
 split at hg
 ·unfold findM at hg
  obtain ⟨y, hy, rfl⟩ := Option.map_eq_some_iff.1 hg
  exact ((okM_spec h).2 y (List.mem_of_find?_eq_some hy)).1
 ·cases hg
theorem mapdS_len {l : List Mp} (h : okM l = true) (x : Int) : (mapdS l x).length < 100000 := by
 unfold mapdS
 cases hg : getM l x tagE with
 | none => show (1 : Nat) < 100000; decide
 | some xs => exact getM_len h hg
theorem lowerS_len {c : CaseS} (h : okM c.lo = true) (text : List Int) (i : Nat) : (lowerS c text i).length < 100000 := by
 unfold lowerS
 split
 ·rename_i xs hg
  split
  ·exact getM_len h hg
  ·exact mapdS_len h _
 ·exact mapdS_len h _
theorem lowerA_len {c : CaseS} (h : okM c.lo = true) (text : List Int) : ∀ n, (lowerA c text n).length ≤ 100000 * n
 | 0 => Nat.le_refl _
 | n + 1 => by
  have h1 := lowerA_len h text n
  have h2 := lowerS_len h text n
  rw [lowerA, List.length_append]; omega
theorem caseData_ok {c : CaseS} (h : okC c = true) : okM (caseData c).lo = true ∧ okM (caseData c).up = true ∧ okM (caseData c).ti = true ∧ (caseData c).ca.length < 1000000 ∧ (caseData c).ig.length < 1000000 := by
 obtain ⟨h1, h2, h3, h4, h5, h6⟩ := okC_spec h
 unfold caseData
 split
 ·exact ⟨h1, h2, h3, h5, h6⟩
 ·exact ⟨rfl, rfl, rfl, by decide, by decide⟩
set_option maxHeartbeats 4000000 in
set_option maxRecDepth 100000 in
theorem each_lower (b : Nat) (c : CaseS) (text : List Int) (w : World) (hM : Mpr w b c text) (hok : okM c.lo = true) (ht : text.length < 100000) (hs : c.ca.length < 1000000 ∧ c.ig.length < 1000000) :
  Calls Try.prog 39 #[.pointer (some ⟨b, 0, none⟩), .func (.func 34) #[.pointer (some ⟨b, 0, none⟩)] #[]] w fun e w' => ∃ v, e = .returned v ∧ Kd.R (Kd.int .i64) 3 w' w.heap.size (fun _ => True) v (lowerA c text text.length) ∧ Below w.heap.size w w' := by
 have HMP := aM hM
 have HOK := aM hok
 have HT := aM ht
 have HS := aM hs
 clear hs
 obtain ⟨A0, n0, A1, n1, A2, n2, A3, n3, A4, n4, A5, n5, At, nt, hA⟩ := hM
 have c6 := hA.c6
 clear hA hok ht
 go_enter Try.func39, Try.ntmps39
 go_wp2
 go_loopw [5, 12] (fun lv i wr => ∃ k : Nat, i = .int .i64 k ∧ Aside0 (k ≤ text.length) ∧ Aside0 (Kd.R (Kd.int .i64) 3 wr w.heap.size (fun _ => True) lv (lowerA c text k)) ∧ Aside0 (Below w.heap.size w wr)) (fun _ i _ => text.length - (intOf i).toNat)
 case atStart => exact ⟨0, rfl, ⟨Nat.zero_le _⟩, ⟨Kd.R_nil _ _ _ _ _⟩, ⟨Below.refl _ _⟩⟩
 case round =>
  clear c6
  obtain ⟨k, rfl, HK, HO, HB⟩ := hrel
  by_cases hlt : k < text.length
  ·have HLT := aM hlt
   have hdl : decide ((k : Int) < (text.length : Int)) = true := dT (by omega)
   have hw : wrap64 ((k : Int) + 1) = (k : Int) + 1 := by have := HT.out; unfold wrap64; omega
   have hd2 : decide (k < text.length) = true := dT hlt
   have hd3 : (k < text.length) = True := eq_true hlt
   have hpc := fun W => lower_calls b c text k W
   have HWL := aM (lowerS_len HOK.out text k)
   have hnx : lowerA c text (k + 1) = lowerA c text k ++ lowerS c text k := rfl
   generalize lowerS c text k = wl at *
   have HPC := aM hpc
   have HNX := aM hnx
   clear hlt hpc hnx
   go_wp2_with (first | (go_at_call 34; (with_reducible refine (HPC.out _ (HMP.out.below HB.out) HLT.out HOK.out (by have := HT.out; omega) HS.out).mono ?_); rintro e w1 ⟨v1, rfl, hv, hb⟩; obtain ⟨A1, c1, rfl⟩ := Kd.R_slice hv; have HV := aM hv; have HO1 := aM (Kd.R_below HO.out hb); have HB1 := aM (bSp HB.out hb); clear hv hb) | (at_builtin; refine Kd.R_append_rows (Kd.int .i64) (w0 := w1) w.heap.size rfl (.tmp 15) (.tmp 18) 28 3 (.int .i64 0) 8 rfl Try.underlying28 info3 rfl (by decide) (by omega) u5 (lowerA c text k) wl _ _ _ (fun _ => True) (fun _ => False) rfl rfl ?aO ?aR (fun _ _ h => h) (fun _ h => h.elim) ?aF ?aB ?aS ?aL ?_; (case aR => exact (Kd.R_reads' HV.out).2.2); (case aB => exact Below.refl _ _); (case aF => exact (fun _ _ => trivial)); (case aO => exact HO1.out); (case aS => exact HB1.out.size); (case aL => have h1_ := lowerA_len HOK.out text k; have h2_ := HWL.out; have h3_ := HT.out; have h4_ := HLT.out; omega); intro v4 w4 ho hb hg hat; have HO4 := aM ho; have HB4 := aM (HB1.out.grown hg HB1.out.size (fun k_ hk_ => Kd.R_base HO1.out k_ hk_)); clear ho hb hg hat))
   go_roundw
   case rel => exact ⟨k + 1, by rw [hw]; rfl, HLT, ⟨by rw [HNX.out]; exact HO4.out⟩, HB4⟩
   case measure => rw [hw]; simp only [intOf]; have := HLT.out; omega
  ·obtain rfl : k = text.length := by have := HK.out; omega
   have hdl : decide ((text.length : Int) < (text.length : Int)) = false := decide_eq_false (by omega)
   have hd2 : decide (text.length < text.length) = false := decide_eq_false (by omega)
   have hd3 : (text.length < text.length) = False := eq_false (by omega)
   clear hlt
   go_wp2
   go_ret
   exact ⟨u5, rfl, HO.out, HB.out⟩
set_option maxHeartbeats 4000000 in
set_option maxRecDepth 100000 in
theorem casemap_Lower.calls (A0_0 : Option Addr) (c0_0 : Nat) (l0_0 : List Mp) (A0_1 : Option Addr) (c0_1 : Nat) (l0_1 : List Mp) (A0_2 : Option Addr) (c0_2 : Nat) (l0_2 : List Mp) (A0_3 : Option Addr) (c0_3 : Nat) (l0_3 : List Mp) (A0_4 : Option Addr) (c0_4 : Nat) (l0_4 : List Rg) (A0_5 : Option Addr) (c0_5 : Nat) (l0_5 : List Rg) (A1 : Option Addr) (c1 : Nat) (l1 : List Int) (r : List Int) (w : World) (hr0_0 : Kd.C k43 w A0_0 l0_0.length l0_0) (hc0_0 : l0_0.length ≤ c0_0) (hr0_1 : Kd.C k43 w A0_1 l0_1.length l0_1) (hc0_1 : l0_1.length ≤ c0_1) (hr0_2 : Kd.C k43 w A0_2 l0_2.length l0_2) (hc0_2 : l0_2.length ≤ c0_2) (hr0_3 : Kd.C k43 w A0_3 l0_3.length l0_3) (hc0_3 : l0_3.length ≤ c0_3) (hr0_4 : Kd.C k33 w A0_4 l0_4.length l0_4) (hc0_4 : l0_4.length ≤ c0_4) (hr0_5 : Kd.C k33 w A0_5 l0_5.length l0_5) (hc0_5 : l0_5.length ≤ c0_5) (hr1 : Kd.C (Kd.int .i64) w A1 l1.length l1) (hc1 : l1.length ≤ c1) (h : casemap_Lower.f l0_0 l0_1 l0_2 l0_3 l0_4 l0_5 l1 = some r) :
  Calls Try.prog 18 #[.agg #[.slice A0_0 l0_0.length c0_0, .slice A0_1 l0_1.length c0_1, .slice A0_2 l0_2.length c0_2, .slice A0_3 l0_3.length c0_3, .slice A0_4 l0_4.length c0_4, .slice A0_5 l0_5.length c0_5], .slice A1 l1.length c1] w fun e w' => ∃ v0_ : Value, e = .returned (v0_) ∧ Kd.R (Kd.int .i64) 3 w' w.heap.size (fun _ => True) v0_ r ∧ Below w.heap.size w w' := by
 unfold casemap_Lower.f at h
 by_cases hok : okC ⟨l0_0, l0_1, l0_2, l0_3, l0_4, l0_5⟩ = true ∧ okT l1 = true
 ·rw [if_pos hok] at h
  injection h with h
  subst h
  obtain ⟨hok, hot⟩ := hok
  have hlt : l1.length < 100000 := by unfold okT at hot; exact oD hot
  obtain ⟨d1, d2, d3, d4, d5⟩ := caseData_ok hok
  have HBX := aM (bAl (Below.refl w.heap.size w) (Obj.cells #[Value.slice A0_0 l0_0.length c0_0, Value.slice A0_1 l0_1.length c0_1, Value.slice A0_2 l0_2.length c0_2, Value.slice A0_3 l0_3.length c0_3, Value.slice A0_4 l0_4.length c0_4, Value.slice A0_5 l0_5.length c0_5] 27))
  have HOK := aM hok
  have HRT := aM hr1
  have HCT := aM hc1
  have HLT := aM hlt
  have HD := aM (And.intro d1 (And.intro d2 (And.intro d3 (And.intro d4 d5))))
  have hu := Try.underlying27
  have HR0 := aM hr0_0
  have HC0 := aM hc0_0
  have HR1 := aM hr0_1
  have HC1 := aM hc0_1
  have HR2 := aM hr0_2
  have HC2 := aM hc0_2
  have HR3 := aM hr0_3
  have HC3 := aM hc0_3
  have HR4 := aM hr0_4
  have HC4 := aM hc0_4
  have HR5 := aM hr0_5
  have HC5 := aM hc0_5
  clear hok hot hlt d1 d2 d3 d4 d5 hr1 hc1 hr0_0 hc0_0 hr0_1 hc0_1 hr0_2 hc0_2 hr0_3 hc0_3 hr0_4 hc0_4 hr0_5 hc0_5
  show Calls _ _ _ _ fun e w' => ∃ v0_ : Value, e = .returned (v0_) ∧ Kd.R (Kd.int .i64) 3 w' w.heap.size (fun _ => True) v0_ (lowerA (caseData ⟨l0_0, l0_1, l0_2, l0_3, l0_4, l0_5⟩) l1 l1.length) ∧ Below w.heap.size w w'
  go_enter Try.func18, Try.ntmps18
  go_wp2_with (first | (go_at_call 30; (with_reducible refine (open_calls A0_0 c0_0 l0_0 A0_1 c0_1 l0_1 A0_2 c0_2 l0_2 A0_3 c0_3 l0_3 A0_4 c0_4 l0_4 A0_5 c0_5 l0_5 A1 c1 l1 _ (Kd.C_below HR0.out HBX.out) HC0.out (Kd.C_below HR1.out HBX.out) HC1.out (Kd.C_below HR2.out HBX.out) HC2.out (Kd.C_below HR3.out HBX.out) HC3.out (Kd.C_below HR4.out HBX.out) HC4.out (Kd.C_below HR5.out HBX.out) HC5.out (Kd.C_below HRT.out HBX.out) HCT.out HOK.out).mono ?_); rintro e w2 ⟨b, rfl, hm, hb⟩; have HM := aM hm; have HB2 := aM (bSp HBX.out hb); clear hm hb) | (go_at_call 39; (with_reducible refine (each_lower b (caseData ⟨l0_0, l0_1, l0_2, l0_3, l0_4, l0_5⟩) l1 _ HM.out HD.out.1 HLT.out HD.out.2.2.2).mono ?_); rintro e w3 ⟨v3, rfl, hv, hb⟩; have HV := aM (Kd.R_lower hv HB2.out.size); have HB3 := aM (bSp HB2.out hb); clear hv hb))
  go_ret
  exact ⟨v3, rfl, HV.out, HB3.out⟩
 ·rw [if_neg hok] at h; cases h
set_option maxHeartbeats 4000000 in
set_option maxRecDepth 100000 in
theorem casemap_Final.calls (A0_0 : Option Addr) (c0_0 : Nat) (l0_0 : List Mp) (A0_1 : Option Addr) (c0_1 : Nat) (l0_1 : List Mp) (A0_2 : Option Addr) (c0_2 : Nat) (l0_2 : List Mp) (A0_3 : Option Addr) (c0_3 : Nat) (l0_3 : List Mp) (A0_4 : Option Addr) (c0_4 : Nat) (l0_4 : List Rg) (A0_5 : Option Addr) (c0_5 : Nat) (l0_5 : List Rg) (A1 : Option Addr) (c1 : Nat) (l1 : List Int) (a2 : Int) (r : Bool) (w : World) (hr0_0 : Kd.C k43 w A0_0 l0_0.length l0_0) (hc0_0 : l0_0.length ≤ c0_0) (hr0_1 : Kd.C k43 w A0_1 l0_1.length l0_1) (hc0_1 : l0_1.length ≤ c0_1) (hr0_2 : Kd.C k43 w A0_2 l0_2.length l0_2) (hc0_2 : l0_2.length ≤ c0_2) (hr0_3 : Kd.C k43 w A0_3 l0_3.length l0_3) (hc0_3 : l0_3.length ≤ c0_3) (hr0_4 : Kd.C k33 w A0_4 l0_4.length l0_4) (hc0_4 : l0_4.length ≤ c0_4) (hr0_5 : Kd.C k33 w A0_5 l0_5.length l0_5) (hc0_5 : l0_5.length ≤ c0_5) (hr1 : Kd.C (Kd.int .i64) w A1 l1.length l1) (hc1 : l1.length ≤ c1) (h : casemap_Final.f l0_0 l0_1 l0_2 l0_3 l0_4 l0_5 l1 a2 = some r) :
  Calls Try.prog 22 #[.agg #[.slice A0_0 l0_0.length c0_0, .slice A0_1 l0_1.length c0_1, .slice A0_2 l0_2.length c0_2, .slice A0_3 l0_3.length c0_3, .slice A0_4 l0_4.length c0_4, .slice A0_5 l0_5.length c0_5], .slice A1 l1.length c1, .int .i64 a2] w fun e w' => e = .returned (.bool r) ∧ Below w.heap.size w w' := by
 unfold casemap_Final.f at h
 by_cases hok : okC ⟨l0_0, l0_1, l0_2, l0_3, l0_4, l0_5⟩ = true ∧ okT l1 = true
 ·rw [if_pos hok] at h
  injection h with h
  subst h
  obtain ⟨hok, hot⟩ := hok
  have hlt : l1.length < 100000 := by unfold okT at hot; exact oD hot
  obtain ⟨d1, d2, d3, d4, d5⟩ := caseData_ok hok
  have HBX := aM (bAl (Below.refl w.heap.size w) (Obj.cells #[Value.slice A0_0 l0_0.length c0_0, Value.slice A0_1 l0_1.length c0_1, Value.slice A0_2 l0_2.length c0_2, Value.slice A0_3 l0_3.length c0_3, Value.slice A0_4 l0_4.length c0_4, Value.slice A0_5 l0_5.length c0_5] 27))
  have HOK := aM hok
  have HRT := aM hr1
  have HCT := aM hc1
  have HLT := aM hlt
  have HD := aM (And.intro d1 (And.intro d2 (And.intro d3 (And.intro d4 d5))))
  have hu := Try.underlying27
  have HR0 := aM hr0_0
  have HC0 := aM hc0_0
  have HR1 := aM hr0_1
  have HC1 := aM hc0_1
  have HR2 := aM hr0_2
  have HC2 := aM hc0_2
  have HR3 := aM hr0_3
  have HC3 := aM hc0_3
  have HR4 := aM hr0_4
  have HC4 := aM hc0_4
  have HR5 := aM hr0_5
  have HC5 := aM hc0_5
  clear hok hot hlt d1 d2 d3 d4 d5 hr1 hc1 hr0_0 hc0_0 hr0_1 hc0_1 hr0_2 hc0_2 hr0_3 hc0_3 hr0_4 hc0_4 hr0_5 hc0_5
  go_enter Try.func22, Try.ntmps22
  go_wp2_with (first | (go_at_call 30; (with_reducible refine (open_calls A0_0 c0_0 l0_0 A0_1 c0_1 l0_1 A0_2 c0_2 l0_2 A0_3 c0_3 l0_3 A0_4 c0_4 l0_4 A0_5 c0_5 l0_5 A1 c1 l1 _ (Kd.C_below HR0.out HBX.out) HC0.out (Kd.C_below HR1.out HBX.out) HC1.out (Kd.C_below HR2.out HBX.out) HC2.out (Kd.C_below HR3.out HBX.out) HC3.out (Kd.C_below HR4.out HBX.out) HC4.out (Kd.C_below HR5.out HBX.out) HC5.out (Kd.C_below HRT.out HBX.out) HCT.out HOK.out).mono ?_); rintro e w2 ⟨b, rfl, hm, hb⟩; have HM := aM hm; have HB2 := aM (bSp HBX.out hb); clear hm hb) | (go_at_call 45; (with_reducible refine (final_calls b (caseData ⟨l0_0, l0_1, l0_2, l0_3, l0_4, l0_5⟩) l1 a2 _ HM.out (by have := HLT.out; omega) HD.out.2.2.2).mono ?_); rintro e w3 ⟨rfl, hb⟩; have HB3 := aM (bSp HB2.out hb); clear hb))
  go_ret
  exact ⟨rfl, HB3.out⟩
 ·rw [if_neg hok] at h; cases h
end Go.Proofs.Ythnkmcfhpjmihaa.Q
end
section
namespace Go.Proofs.Ythnkmcfhpjmihaa.Q
open Go.RowKit Go.Proofs.YthnkmcfhpjmihaaW.PrintWords Go.Proofs.YthnkmcfhpjmihaaW.PrintLast Go.Proofs.YthnkmcfhpjmihaaW.PrintMore
attribute [local go_sem] max2_int min2_int max_two min_two max_three min_three max_four min_four
set_option linter.unusedVariables false
set_option linter.unusedSimpArgs false
mutual
def r37_near.l0 : Nat → List Int → Int → Int → List (S43) → List (S43) → List (S43) → List (S43) → List (S33) → List (S33) → Option (Bool)
 | 0, _, _, _, _, _, _, _, _, _ => none
 | k + 1, x1, x2, x3, x281000, x281001, x281002, x281003, x281004, x281005 => if x2 ≥ 0 then (r37_near.j1 k x1 x2 x3 (decide (x2 < (x1.length : Int))) x281000 x281001 x281002 x281003 x281004 x281005) else (r37_near.j1 k x1 x2 x3 false x281000 x281001 x281002 x281003 x281004 x281005)
def r37_near.j1 : Nat → List Int → Int → Int → Bool → List (S43) → List (S43) → List (S43) → List (S43) → List (S33) → List (S33) → Option (Bool)
 | 0, _, _, _, _, _, _, _, _, _, _ => none
 | k + 1, x1, x2, x3, x16, x281000, x281001, x281002, x281003, x281004, x281005 => if x16 = true then (if 0 ≤ x2 then (if x2 < (x1.length : Int) then ((r02_Has.f k x281005 (rd x1 x2)).bind fun t282 => (if t282 = true then (r37_near.l0 k x1 (wrap64 (x2 + x3)) x3 x281000 x281001 x281002 x281003 x281004 x281005) else ((r02_Has.f k x281004 (rd x1 x2)).bind fun t284 => (some t284)))) else (none)) else (none)) else (some false)
end
def r37_near.f (k : Nat) (l0_0 : List (S43)) (l0_1 : List (S43)) (l0_2 : List (S43)) (l0_3 : List (S43)) (l0_4 : List (S33)) (l0_5 : List (S33)) (l1 : List Int) (a2 : Int) (a3 : Int) : Option (Bool) := r37_near.l0 k l1 a2 a3 l0_0 l0_1 l0_2 l0_3 l0_4 l0_5
def r37_near.T2 : Bool × List (List Nat × List Nat) := (true, [([], []), ([0], [0]), ([], []), ([], []), ([2, 3], [2, 3]), ([4], [4]), ([1, 5], [1, 5]), ([6], [6])])
def r37_near.B2 : List Nat := [0, 1, 0, 0, 12, 28, 63, 127]
theorem r37_near.tab2 : rtab .any (opsOf Try.f66 2) = r37_near.T2 := by kernel_rfl
theorem r37_near.bits2 : waitsOk r37_near.T2.2 r37_near.B2 = true := by kernel_rfl
def r37_near.T3 : Bool × List (List Nat × List Nat) := (true, [([], []), ([0], [0]), ([], []), ([], []), ([2, 3], [2, 3]), ([4], [4]), ([1, 5], [1, 5]), ([6, 6, 0, 1, 2, 3, 4, 5, 6], [6])])
def r37_near.B3 : List Nat := [0, 1, 0, 0, 12, 28, 63, 127]
theorem r37_near.tab3 : rtab .any (opsOf Try.f66 3) = r37_near.T3 := by kernel_rfl
theorem r37_near.bits3 : waitsOk r37_near.T3.2 r37_near.B3 = true := by kernel_rfl
set_option maxHeartbeats 8000000 in
set_option maxRecDepth 100000 in
theorem r37_near.calls (k : Nat) (A0_0 : Option Addr) (c0_0 : Nat) (l0_0 : List (S43)) (A0_1 : Option Addr) (c0_1 : Nat) (l0_1 : List (S43)) (A0_2 : Option Addr) (c0_2 : Nat) (l0_2 : List (S43)) (A0_3 : Option Addr) (c0_3 : Nat) (l0_3 : List (S43)) (A0_4 : Option Addr) (c0_4 : Nat) (l0_4 : List (S33)) (A0_5 : Option Addr) (c0_5 : Nat) (l0_5 : List (S33)) (A1 : Option Addr) (c1 : Nat) (l1 : List Int) (a2 : Int) (a3 : Int) (r : Bool) (w : World) (hr0_0 : Kd.C k43 w A0_0 l0_0.length l0_0) (hc0_0 : l0_0.length ≤ c0_0) (hr0_1 : Kd.C k43 w A0_1 l0_1.length l0_1) (hc0_1 : l0_1.length ≤ c0_1) (hr0_2 : Kd.C k43 w A0_2 l0_2.length l0_2) (hc0_2 : l0_2.length ≤ c0_2) (hr0_3 : Kd.C k43 w A0_3 l0_3.length l0_3) (hc0_3 : l0_3.length ≤ c0_3) (hr0_4 : Kd.C k33 w A0_4 l0_4.length l0_4) (hc0_4 : l0_4.length ≤ c0_4) (hr0_5 : Kd.C k33 w A0_5 l0_5.length l0_5) (hc0_5 : l0_5.length ≤ c0_5) (hr1 : Kd.C (Kd.int .i64) w A1 l1.length l1) (hc1 : l1.length ≤ c1) (h : r37_near.f k l0_0 l0_1 l0_2 l0_3 l0_4 l0_5 l1 a2 a3 = some r) :
  Calls Try.prog 66 #[.agg #[.slice A0_0 l0_0.length c0_0, .slice A0_1 l0_1.length c0_1, .slice A0_2 l0_2.length c0_2, .slice A0_3 l0_3.length c0_3, .slice A0_4 l0_4.length c0_4, .slice A0_5 l0_5.length c0_5], .slice A1 l1.length c1, .int .i64 a2, .int .i64 a3] w fun e w' => e = .returned (.bool r) ∧ Below w.heap.size w w' := by
 have hu27 := Try.underlying27
 have hu25 := Try.underlying25
 have HR0_0 := aM hr0_0
 have HC0_0 := aM hc0_0
 clear hr0_0 hc0_0
 have HR0_1 := aM hr0_1
 have HC0_1 := aM hc0_1
 clear hr0_1 hc0_1
 have HR0_2 := aM hr0_2
 have HC0_2 := aM hc0_2
 clear hr0_2 hc0_2
 have HR0_3 := aM hr0_3
 have HC0_3 := aM hc0_3
 clear hr0_3 hc0_3
 have HR0_4 := aM hr0_4
 have HC0_4 := aM hc0_4
 clear hr0_4 hc0_4
 have HR0_5 := aM hr0_5
 have HC0_5 := aM hc0_5
 clear hr0_5 hc0_5
 have HR1 := aM hr1
 have HC1 := aM hc1
 clear hr1 hc1
 have HB := aM (Below.refl w.heap.size w)
 have H : (r37_near.l0 k l1 a2 a3 l0_0 l0_1 l0_2 l0_3 l0_4 l0_5) = some r := h
 clear h
 have H' := aM H
 clear H
 go_enter Try.func66, Try.ntmps66
 go_wp2_with (first | ((with_reducible refine gate_dst (N := 4) rfl ?_); (try (refine gate_guard (by rfl) ?_; dsimp only)); refine box_event ?hg (N := 4) ?hd (cs := #[.slice A0_0 l0_0.length c0_0, .slice A0_1 l0_1.length c0_1, .slice A0_2 l0_2.length c0_2, .slice A0_3 l0_3.length c0_3, .slice A0_4 l0_4.length c0_4, .slice A0_5 l0_5.length c0_5]) (t := 27) ?hr ?_; (case hd => rfl); (case hg => rfl); (case hr => first | (go_simp; done) | (go_simp; rfl)); intro gb280 hg w5 hbox hb; have n0_ := aM (bSp (by repeat (first | (with_reducible first | exact HB.out | apply bAl | apply pbN | apply bD1) | exact HB.out)) hb); have n1_ := aM (hbox); have n2_ := aM ((by rw [hg]; exact (bSz (by repeat (first | (with_reducible first | exact HB.out | apply bAl | apply pbN | apply bD1) | exact HB.out))) : w.heap.size ≤ gb280)); have n3_ := aM ((by rw [hg]; exact (bSz (by repeat (first | (with_reducible first | exact HB.out | apply bAl | apply pbN | apply bD1) | exact HB.out))) : w.heap.size ≤ gb280)); clear HB; have HB := n0_; have BK280 := n1_; have GW280 := n2_; have GE280 := n3_; clear n0_ n1_ n2_ n3_; clear hb hbox hg))
 go_loopg [2] k (fun kq v2 w' => ∃ (x2_1 : Int), v2 = .int .i64 x2_1 ∧ Aside0 (r37_near.l0 kq l1 x2_1 a3 l0_0 l0_1 l0_2 l0_3 l0_4 l0_5 = some r) ∧ Aside0 (kq ≤ k) ∧ Aside0 (w'.heap[gb280]? = some (.cells #[(.slice A0_0 l0_0.length c0_0), (.slice A0_1 l0_1.length c0_1), (.slice A0_2 l0_2.length c0_2), (.slice A0_3 l0_3.length c0_3), (.slice A0_4 l0_4.length c0_4), (.slice A0_5 l0_5.length c0_5)] 27 (0, 0))) ∧ Aside0 (Below w.heap.size w w'))
 case atStart => exact ⟨(a2), (by first | rfl | (simp; done) | (simp [*]; done)), H', ⟨Nat.le_refl _⟩, ⟨by (with_reducible repeat (first | refine bkN ?_ _ | refine bkD ?_ | refine bkA ?_ _)); exact BK280.out⟩, ⟨by repeat (first | (with_reducible first | exact HB.out | apply bAl | apply pbN | apply bD1 | refine bSt ?_ GE280.out) | exact HB.out)⟩⟩
 case round =>
  clear H'
  try clear c1
  try clear p2
  obtain ⟨x2_1, rfl, HA, HK1, BK280, HB⟩ := hrel
  cases gk with
  | zero => exact absurd HA.out (by simp [r37_near.l0])
  | succ k1 =>
   have H := HA.out
   clear HA
   simp only [r37_near.l0] at H
   have HC6 := aM H
   clear H
   go_upto_region 1 with (fail)
   go_cut [16] (fun v16 wc => ∃ (kq : Nat) (x16_5 : Bool), v16 = .bool x16_5 ∧ Aside0 (r37_near.j1 kq l1 x2_1 a3 x16_5 l0_0 l0_1 l0_2 l0_3 l0_4 l0_5 = some r) ∧ Aside0 (kq ≤ k1) ∧ Aside0 (wc.heap[gb280]? = some (.cells #[(.slice A0_0 l0_0.length c0_0), (.slice A0_1 l0_1.length c0_1), (.slice A0_2 l0_2.length c0_2), (.slice A0_3 l0_3.length c0_3), (.slice A0_4 l0_4.length c0_4), (.slice A0_5 l0_5.length c0_5)] 27 (0, 0))) ∧ Aside0 (Below w.heap.size w wc))
   case first =>
    have H := HC6.out
    clear HC6
    by_cases c7 : x2_1 ≥ 0
    ·rw [if_pos c7] at H
     have c7b0 : decide (0 ≤ x2_1) = true := dT c7
     clear c7
     (first | rw [c7b0] | (simp only [i64_w, i32_w]; rw [c7b0]) | skip)
     have H' := aM H
     clear H
     go_wp2
     go_meet
     case rel => exact ⟨_, (decide (x2_1 < (l1.length : Int))), (by first | rfl | (simp; done) | (simp [*]; done)), H', ⟨by have := HK1.out; first | omega | exact Nat.le_refl _⟩, ⟨by (with_reducible repeat (first | refine bkN ?_ _ | refine bkD ?_ | refine bkA ?_ _)); exact BK280.out⟩, ⟨by repeat (first | (with_reducible first | exact HB.out | apply bAl | apply pbN | apply bD1 | refine bSt ?_ GE280.out) | exact HB.out)⟩⟩
    ·rw [if_neg c7] at H
     have c7b0 : decide (0 ≤ x2_1) = false := decide_eq_false c7
     clear c7
     (first | rw [c7b0] | (simp only [i64_w, i32_w]; rw [c7b0]) | skip)
     have H' := aM H
     clear H
     go_wp2
     go_meet
     case rel => exact ⟨_, (false), (by first | rfl | (simp; done) | (simp [*]; done)), H', ⟨by have := HK1.out; first | omega | exact Nat.le_refl _⟩, ⟨by (with_reducible repeat (first | refine bkN ?_ _ | refine bkD ?_ | refine bkA ?_ _)); exact BK280.out⟩, ⟨by repeat (first | (with_reducible first | exact HB.out | apply bAl | apply pbN | apply bD1 | refine bSt ?_ GE280.out) | exact HB.out)⟩⟩
   case rest =>
    clear HC6
    try clear c1
    try clear p2
    try clear c6
    try clear c7
    try clear c7b0
    try clear p2
    obtain ⟨kq, x16_5, rfl, HA, HJ5, BK280, HB⟩ := hcut
    cases kq with
    | zero => exact absurd HA.out (by simp [r37_near.j1])
    | succ kj5 =>
     have H := HA.out
     clear HA
     simp only [r37_near.j1] at H
     by_cases c8 : x16_5 = true
     ·subst c8
      have H1 : (if 0 ≤ x2_1 then (if x2_1 < (l1.length : Int) then ((r02_Has.f kj5 l0_5 (rd l1 x2_1)).bind fun t282 => (if t282 = true then (r37_near.l0 kj5 l1 (wrap64 (x2_1 + a3)) a3 l0_0 l0_1 l0_2 l0_3 l0_4 l0_5) else ((r02_Has.f kj5 l0_4 (rd l1 x2_1)).bind fun t284 => (some t284)))) else (none)) else (none)) = some r := by rw [if_pos rfl] at H; exact H
      clear H
      have H := H1
      clear H1
      by_cases c9 : 0 ≤ x2_1
      ·rw [if_pos c9] at H
       have c9b0 : decide (0 ≤ x2_1) = true := dT c9
       clear c9
       by_cases c10 : x2_1 < (l1.length : Int)
       ·rw [if_pos c10] at H
        have c10b0 : decide (x2_1 < (l1.length : Int)) = true := dT c10
        clear c10
        replace H := Option.bind_eq_some_iff.mp H
        obtain ⟨t282, A110, H⟩ := H
        replace H : (if t282 = true then (r37_near.l0 kj5 l1 (wrap64 (x2_1 + a3)) a3 l0_0 l0_1 l0_2 l0_3 l0_4 l0_5) else ((r02_Has.f kj5 l0_4 (rd l1 x2_1)).bind fun t284 => (some t284))) = some r := H
        have A11 := aM A110
        clear A110
        by_cases c12 : t282 = true
        ·subst c12
         have H1 : (r37_near.l0 kj5 l1 (wrap64 (x2_1 + a3)) a3 l0_0 l0_1 l0_2 l0_3 l0_4 l0_5) = some r := by rw [if_pos rfl] at H; exact H
         clear H
         have H := H1
         clear H1
         have H' := aM H
         clear H
         try go_wp2
         have n0_ := aM (bkD BK280.out)
         have n1_ := aM (bD1 HB.out)
         clear BK280
         clear HB
         have BK280 := n0_
         have HB := n1_
         clear n0_ n1_
         have p281 : 0 ≤ (x2_1 : Int) := oD (by first | (with_reducible assumption) | assumption)
         have q281 : x2_1 < (l1.length : Int) := oD (by first | (with_reducible assumption) | assumption)
         obtain ⟨ad281, e281, hx281_0⟩ := Kd.at_int HR1.out x2_1 p281 q281
         have hw281_0 := hx281_0
         cases e281
         replace hx281_0 := (HB.out.cell (World.block_lt_of_cell? w _ hx281_0)).trans hx281_0
         replace p281 := eq_true p281
         replace q281 := eq_true q281
         refine start_ (n := 8) (S := fun w' => w'.cell? ⟨gb280, 0, none⟩ = some (.slice A0_0 l0_0.length c0_0) ∧ w'.cell? ⟨gb280, 1, none⟩ = some (.slice A0_1 l0_1.length c0_1) ∧ w'.cell? ⟨gb280, 2, none⟩ = some (.slice A0_2 l0_2.length c0_2) ∧ w'.cell? ⟨gb280, 3, none⟩ = some (.slice A0_3 l0_3.length c0_3) ∧ w'.cell? ⟨gb280, 4, none⟩ = some (.slice A0_4 l0_4.length c0_4) ∧ w'.cell? ⟨gb280, 5, none⟩ = some (.slice A0_5 l0_5.length c0_5) ∧ w'.cell? (ad281.add (x2_1).toNat) = some (.int .i64 (rd l1 x2_1))) (ds := []) #[false, false, false, false, false, false, false, false] (by kernel_rfl) rfl rfl ⟨(bkC BK280.out 0).trans rfl, (bkC BK280.out 1).trans rfl, (bkC BK280.out 2).trans rfl, (bkC BK280.out 3).trans rfl, (bkC BK280.out 4).trans rfl, (bkC BK280.out 5).trans rfl, ((HB.out.cell (World.block_lt_of_cell? w _ hw281_0)).trans hw281_0)⟩ (fun hHeld => ?_); refine with_tabW r37_near.tab2 r37_near.bits2 (fun HT_ HW_ => ?_)
         generalize wc.drew = w13 at BK280 HB hx281_0 hHeld ⊢
         refine pure_ (i := 0) (N := some 17) (v := ?_) (a' := ?_) #[true, false, false, false, false, false, false, false] rfl rfl (any_of HT_.out (by kernel_rfl)) (fun _ _ _ h => h) (Or.inl ⟨by rfl, ?_⟩) ?_ ?_
         rotate_left
         ·intro w'
          go_simp
          with_reducible rfl
         rotate_left
         ·simp only [Act.put, sI, sZ, sS, i64_w, i32_w]
          rfl
         refine pure_ (i := 2) (N := some 19) (v := ?_) (a' := ?_) #[true, false, true, false, false, false, false, false] rfl rfl (any_of HT_.out (by kernel_rfl)) (fun _ _ _ h => h) (Or.inl ⟨by rfl, ?_⟩) ?_ ?_
         rotate_left
         ·intro w'
          go_simp
          with_reducible rfl
         rotate_left
         ·simp only [Act.put, sI, sZ, sS, i64_w, i32_w]
          rfl
         refine pure_ (i := 3) (N := some 20) (v := ?_) (a' := ?_) #[true, false, true, true, false, false, false, false] rfl rfl (any_of HT_.out (by kernel_rfl)) (fun _ _ _ h => h) (Or.inl ⟨by rfl, ?_⟩) ?_ ?_
         rotate_left
         ·intro w'
          go_simp
          with_reducible rfl
         rotate_left
         ·simp only [Act.put, sI, sZ, sS, i64_w, i32_w]
          rfl
         refine pure_ (i := 4) (N := some 21) (v := ?_) (a' := ?_) #[true, false, true, true, true, false, false, false] rfl rfl (any_of HT_.out (by kernel_rfl)) (fun _ _ _ h => h) (Or.inl ⟨by rfl, ?_⟩) ?_ ?_
         rotate_left
         ·intro w'
          go_simp
          with_reducible rfl
         rotate_left
         ·simp only [Act.put, sI, sZ, sS, i64_w, i32_w]
          rfl
         refine take_ (i := 1) (N := some 18) (v := ?_) (a' := ?_) #[true, true, true, true, true, false, false, false] rfl rfl (take_ofW HT_.out HW_.out (by kernel_rfl)) (fun _ _ _ h => h) (Or.inl ⟨by rfl, ?_⟩) hHeld ?_ ?_
         rotate_left
         ·rintro w' ⟨s0, s1, s2, s3, s4, s5, s6⟩
          go_simp
          with_reducible rfl
         rotate_left
         ·simp only [Act.put, sI, sZ, sS, i64_w, i32_w]
          rfl
         refine take_ (i := 5) (N := some 22) (v := ?_) (a' := ?_) #[true, true, true, true, true, true, false, false] rfl rfl (take_ofW HT_.out HW_.out (by kernel_rfl)) (fun _ _ _ h => h) (Or.inl ⟨by rfl, ?_⟩) hHeld ?_ ?_
         rotate_left
         ·rintro w' ⟨s0, s1, s2, s3, s4, s5, s6⟩
          go_simp
          with_reducible rfl
         rotate_left
         ·simp only [Act.put, sI, sZ, sS, i64_w, i32_w]
          rfl
         refine one_ (i := 6) (N := some 23) #[true, true, true, true, true, true, true, false] rfl rfl (one_of HT_.out (by kernel_rfl)) (by decide) (fun K hK => ?_)
         refine goes_ Try.func29 (by kernel_rfl) rfl #[.agg #[.slice A0_5 l0_5.length c0_5], .int .i64 (rd l1 x2_1)] (by rfl) rfl rfl (by (try simp only [List.map_toArray, List.map_cons, List.map_nil]); first | done | rfl | (simp only [List.length_drop, List.length_take]; rfl)) ?_
         with_reducible refine (r02_Has.calls kj5 _ _ l0_5 (rd l1 x2_1) true _ ?side1 ?side2 A11.out).mono ?_
         (case side1 => repeat (first | exact (Kd.C_below HR0_5.out HB.out) | (with_reducible refine Kd.C_alloc ?_ _) | (with_reducible refine Kd.C_drewN ?_ _) | (with_reducible refine Kd.C_drew ?_)))
         (case side2 => exact HC0_5.out)
         rintro e w14 ⟨rfl, hb⟩
         refine ⟨_, rfl, ?_⟩
         have n0_ := aM (blk_below (g := gb280) (o := .cells #[.slice A0_0 l0_0.length c0_0, .slice A0_1 l0_1.length c0_1, .slice A0_2 l0_2.length c0_2, .slice A0_3 l0_3.length c0_3, .slice A0_4 l0_4.length c0_4, .slice A0_5 l0_5.length c0_5] 27 (0, 0)) (by (with_reducible repeat (first | refine bkN ?_ _ | refine bkD ?_ | refine bkA ?_ _)); exact BK280.out) hb)
         have n1_ := aM (bSp (by repeat (first | (with_reducible first | exact HB.out | apply bAl | apply pbN | apply bD1 | refine bSt ?_ GE280.out) | exact HB.out)) hb)
         clear BK280
         clear HB
         have BK280 := n0_
         have HB := n1_
         clear n0_ n1_
         (try clear hb)
         (try clear hb2)
         (try clear hk)
         (try clear hi)
         refine hK.out _ _ ⟨(bkC BK280.out 0).trans rfl, (bkC BK280.out 1).trans rfl, (bkC BK280.out 2).trans rfl, (bkC BK280.out 3).trans rfl, (bkC BK280.out 4).trans rfl, (bkC BK280.out 5).trans rfl, ((HB.out.cell (World.block_lt_of_cell? w _ hw281_0)).trans hw281_0)⟩ (fun hHeld => ?_)
         clear hK K
         refine norm_ (a' := ?_) ?_ ?_
         rotate_left
         ·show Act.put _ (some 23) _ = _
          simp only [Act.put, sI, sZ, sS, i64_w, i32_w]
          rfl
         refine pure_ (i := 7) (N := some 24) (v := ?_) (a' := ?_) #[true, true, true, true, true, true, true, true] rfl rfl (any_of HT_.out (by kernel_rfl)) (fun _ _ _ h => h) (Or.inl ⟨by rfl, ?_⟩) ?_ ?_
         rotate_left
         ·intro w'
          go_simp
          with_reducible rfl
         rotate_left
         ·simp only [Act.put, sI, sZ, sS, i64_w, i32_w]
          rfl
         refine done_ (done_of HT_.out (by kernel_rfl)) ?_
         try go_wp2
         go_roundg kj5
         case measure => have := HK1.out; have := HJ5.out; omega
         case rel => exact ⟨(wrap64 (x2_1 + a3)), (by first | rfl | (simp; done) | (simp [*]; done)), H', ⟨by have := HK1.out; have := HJ5.out; omega⟩, ⟨by (with_reducible repeat (first | refine bkN ?_ _ | refine bkD ?_ | refine bkA ?_ _)); exact BK280.out⟩, ⟨by repeat (first | (with_reducible first | exact HB.out | apply bAl | apply pbN | apply bD1 | refine bSt ?_ GE280.out) | exact HB.out)⟩⟩
        ·replace c12 := Bool.eq_false_iff.mpr c12
         subst c12
         have H1 : ((r02_Has.f kj5 l0_4 (rd l1 x2_1)).bind fun t284 => (some t284)) = some r := by rw [if_neg (show ¬ (false = true) by decide)] at H; exact H
         clear H
         have H := H1
         clear H1
         replace H := Option.bind_eq_some_iff.mp H
         obtain ⟨t284, A150, H⟩ := H
         replace H : (some t284) = some r := H
         have A15 := aM A150
         clear A150
         obtain rfl := Option.some.inj H
         try go_wp2
         have n0_ := aM (bkD BK280.out)
         have n1_ := aM (bD1 HB.out)
         clear BK280
         clear HB
         have BK280 := n0_
         have HB := n1_
         clear n0_ n1_
         have p281 : 0 ≤ (x2_1 : Int) := oD (by first | (with_reducible assumption) | assumption)
         have q281 : x2_1 < (l1.length : Int) := oD (by first | (with_reducible assumption) | assumption)
         obtain ⟨ad281, e281, hx281_0⟩ := Kd.at_int HR1.out x2_1 p281 q281
         have hw281_0 := hx281_0
         cases e281
         replace hx281_0 := (HB.out.cell (World.block_lt_of_cell? w _ hx281_0)).trans hx281_0
         replace p281 := eq_true p281
         replace q281 := eq_true q281
         refine start_ (n := 8) (S := fun w' => w'.cell? ⟨gb280, 0, none⟩ = some (.slice A0_0 l0_0.length c0_0) ∧ w'.cell? ⟨gb280, 1, none⟩ = some (.slice A0_1 l0_1.length c0_1) ∧ w'.cell? ⟨gb280, 2, none⟩ = some (.slice A0_2 l0_2.length c0_2) ∧ w'.cell? ⟨gb280, 3, none⟩ = some (.slice A0_3 l0_3.length c0_3) ∧ w'.cell? ⟨gb280, 4, none⟩ = some (.slice A0_4 l0_4.length c0_4) ∧ w'.cell? ⟨gb280, 5, none⟩ = some (.slice A0_5 l0_5.length c0_5) ∧ w'.cell? (ad281.add (x2_1).toNat) = some (.int .i64 (rd l1 x2_1))) (ds := []) #[false, false, false, false, false, false, false, false] (by kernel_rfl) rfl rfl ⟨(bkC BK280.out 0).trans rfl, (bkC BK280.out 1).trans rfl, (bkC BK280.out 2).trans rfl, (bkC BK280.out 3).trans rfl, (bkC BK280.out 4).trans rfl, (bkC BK280.out 5).trans rfl, ((HB.out.cell (World.block_lt_of_cell? w _ hw281_0)).trans hw281_0)⟩ (fun hHeld => ?_); refine with_tabW r37_near.tab2 r37_near.bits2 (fun HT_ HW_ => ?_)
         generalize wc.drew = w16 at BK280 HB hx281_0 hHeld ⊢
         refine pure_ (i := 0) (N := some 17) (v := ?_) (a' := ?_) #[true, false, false, false, false, false, false, false] rfl rfl (any_of HT_.out (by kernel_rfl)) (fun _ _ _ h => h) (Or.inl ⟨by rfl, ?_⟩) ?_ ?_
         rotate_left
         ·intro w'
          go_simp
          with_reducible rfl
         rotate_left
         ·simp only [Act.put, sI, sZ, sS, i64_w, i32_w]
          rfl
         refine pure_ (i := 2) (N := some 19) (v := ?_) (a' := ?_) #[true, false, true, false, false, false, false, false] rfl rfl (any_of HT_.out (by kernel_rfl)) (fun _ _ _ h => h) (Or.inl ⟨by rfl, ?_⟩) ?_ ?_
         rotate_left
         ·intro w'
          go_simp
          with_reducible rfl
         rotate_left
         ·simp only [Act.put, sI, sZ, sS, i64_w, i32_w]
          rfl
         refine pure_ (i := 3) (N := some 20) (v := ?_) (a' := ?_) #[true, false, true, true, false, false, false, false] rfl rfl (any_of HT_.out (by kernel_rfl)) (fun _ _ _ h => h) (Or.inl ⟨by rfl, ?_⟩) ?_ ?_
         rotate_left
         ·intro w'
          go_simp
          with_reducible rfl
         rotate_left
         ·simp only [Act.put, sI, sZ, sS, i64_w, i32_w]
          rfl
         refine pure_ (i := 4) (N := some 21) (v := ?_) (a' := ?_) #[true, false, true, true, true, false, false, false] rfl rfl (any_of HT_.out (by kernel_rfl)) (fun _ _ _ h => h) (Or.inl ⟨by rfl, ?_⟩) ?_ ?_
         rotate_left
         ·intro w'
          go_simp
          with_reducible rfl
         rotate_left
         ·simp only [Act.put, sI, sZ, sS, i64_w, i32_w]
          rfl
         refine take_ (i := 1) (N := some 18) (v := ?_) (a' := ?_) #[true, true, true, true, true, false, false, false] rfl rfl (take_ofW HT_.out HW_.out (by kernel_rfl)) (fun _ _ _ h => h) (Or.inl ⟨by rfl, ?_⟩) hHeld ?_ ?_
         rotate_left
         ·rintro w' ⟨s0, s1, s2, s3, s4, s5, s6⟩
          go_simp
          with_reducible rfl
         rotate_left
         ·simp only [Act.put, sI, sZ, sS, i64_w, i32_w]
          rfl
         refine take_ (i := 5) (N := some 22) (v := ?_) (a' := ?_) #[true, true, true, true, true, true, false, false] rfl rfl (take_ofW HT_.out HW_.out (by kernel_rfl)) (fun _ _ _ h => h) (Or.inl ⟨by rfl, ?_⟩) hHeld ?_ ?_
         rotate_left
         ·rintro w' ⟨s0, s1, s2, s3, s4, s5, s6⟩
          go_simp
          with_reducible rfl
         rotate_left
         ·simp only [Act.put, sI, sZ, sS, i64_w, i32_w]
          rfl
         refine one_ (i := 6) (N := some 23) #[true, true, true, true, true, true, true, false] rfl rfl (one_of HT_.out (by kernel_rfl)) (by decide) (fun K hK => ?_)
         refine goes_ Try.func29 (by kernel_rfl) rfl #[.agg #[.slice A0_5 l0_5.length c0_5], .int .i64 (rd l1 x2_1)] (by rfl) rfl rfl (by (try simp only [List.map_toArray, List.map_cons, List.map_nil]); first | done | rfl | (simp only [List.length_drop, List.length_take]; rfl)) ?_
         with_reducible refine (r02_Has.calls kj5 _ _ l0_5 (rd l1 x2_1) false _ ?side1 ?side2 A11.out).mono ?_
         (case side1 => repeat (first | exact (Kd.C_below HR0_5.out HB.out) | (with_reducible refine Kd.C_alloc ?_ _) | (with_reducible refine Kd.C_drewN ?_ _) | (with_reducible refine Kd.C_drew ?_)))
         (case side2 => exact HC0_5.out)
         rintro e w17 ⟨rfl, hb⟩
         refine ⟨_, rfl, ?_⟩
         have n0_ := aM (blk_below (g := gb280) (o := .cells #[.slice A0_0 l0_0.length c0_0, .slice A0_1 l0_1.length c0_1, .slice A0_2 l0_2.length c0_2, .slice A0_3 l0_3.length c0_3, .slice A0_4 l0_4.length c0_4, .slice A0_5 l0_5.length c0_5] 27 (0, 0)) (by (with_reducible repeat (first | refine bkN ?_ _ | refine bkD ?_ | refine bkA ?_ _)); exact BK280.out) hb)
         have n1_ := aM (bSp (by repeat (first | (with_reducible first | exact HB.out | apply bAl | apply pbN | apply bD1 | refine bSt ?_ GE280.out) | exact HB.out)) hb)
         clear BK280
         clear HB
         have BK280 := n0_
         have HB := n1_
         clear n0_ n1_
         (try clear hb)
         (try clear hb2)
         (try clear hk)
         (try clear hi)
         refine hK.out _ _ ⟨(bkC BK280.out 0).trans rfl, (bkC BK280.out 1).trans rfl, (bkC BK280.out 2).trans rfl, (bkC BK280.out 3).trans rfl, (bkC BK280.out 4).trans rfl, (bkC BK280.out 5).trans rfl, ((HB.out.cell (World.block_lt_of_cell? w _ hw281_0)).trans hw281_0)⟩ (fun hHeld => ?_)
         clear hK K
         refine norm_ (a' := ?_) ?_ ?_
         rotate_left
         ·show Act.put _ (some 23) _ = _
          simp only [Act.put, sI, sZ, sS, i64_w, i32_w]
          rfl
         refine pure_ (i := 7) (N := some 24) (v := ?_) (a' := ?_) #[true, true, true, true, true, true, true, true] rfl rfl (any_of HT_.out (by kernel_rfl)) (fun _ _ _ h => h) (Or.inl ⟨by rfl, ?_⟩) ?_ ?_
         rotate_left
         ·intro w'
          go_simp
          with_reducible rfl
         rotate_left
         ·simp only [Act.put, sI, sZ, sS, i64_w, i32_w]
          rfl
         refine done_ (done_of HT_.out (by kernel_rfl)) ?_
         try go_wp2
         have n0_ := aM (bkD BK280.out)
         have n1_ := aM (bD1 HB.out)
         clear BK280
         clear HB
         have BK280 := n0_
         have HB := n1_
         clear n0_ n1_
         have p283 : 0 ≤ (x2_1 : Int) := oD (by first | (with_reducible assumption) | assumption)
         have q283 : x2_1 < (l1.length : Int) := oD (by first | (with_reducible assumption) | assumption)
         obtain ⟨ad283, e283, hx283_0⟩ := Kd.at_int HR1.out x2_1 p283 q283
         have hw283_0 := hx283_0
         obtain rfl : ad281 = ad283 := (by injection e283)
         replace hx283_0 := (HB.out.cell (World.block_lt_of_cell? w _ hx283_0)).trans hx283_0
         replace p283 := eq_true p283
         replace q283 := eq_true q283
         refine start_ (n := 8) (S := fun w' => w'.cell? ⟨gb280, 0, none⟩ = some (.slice A0_0 l0_0.length c0_0) ∧ w'.cell? ⟨gb280, 1, none⟩ = some (.slice A0_1 l0_1.length c0_1) ∧ w'.cell? ⟨gb280, 2, none⟩ = some (.slice A0_2 l0_2.length c0_2) ∧ w'.cell? ⟨gb280, 3, none⟩ = some (.slice A0_3 l0_3.length c0_3) ∧ w'.cell? ⟨gb280, 4, none⟩ = some (.slice A0_4 l0_4.length c0_4) ∧ w'.cell? ⟨gb280, 5, none⟩ = some (.slice A0_5 l0_5.length c0_5) ∧ w'.cell? (ad281.add (x2_1).toNat) = some (.int .i64 (rd l1 x2_1))) (ds := []) #[false, false, false, false, false, false, false, false] (by kernel_rfl) rfl rfl ⟨(bkC BK280.out 0).trans rfl, (bkC BK280.out 1).trans rfl, (bkC BK280.out 2).trans rfl, (bkC BK280.out 3).trans rfl, (bkC BK280.out 4).trans rfl, (bkC BK280.out 5).trans rfl, ((HB.out.cell (World.block_lt_of_cell? w _ hw283_0)).trans hw283_0)⟩ (fun hHeld => ?_); refine with_tabW r37_near.tab3 r37_near.bits3 (fun HT_ HW_ => ?_)
         generalize w17.drew = w18 at BK280 HB hx283_0 hHeld ⊢
         refine pure_ (i := 0) (N := some 25) (v := ?_) (a' := ?_) #[true, false, false, false, false, false, false, false] rfl rfl (any_of HT_.out (by kernel_rfl)) (fun _ _ _ h => h) (Or.inl ⟨by rfl, ?_⟩) ?_ ?_
         rotate_left
         ·intro w'
          go_simp
          with_reducible rfl
         rotate_left
         ·simp only [Act.put, sI, sZ, sS, i64_w, i32_w]
          rfl
         refine pure_ (i := 2) (N := some 27) (v := ?_) (a' := ?_) #[true, false, true, false, false, false, false, false] rfl rfl (any_of HT_.out (by kernel_rfl)) (fun _ _ _ h => h) (Or.inl ⟨by rfl, ?_⟩) ?_ ?_
         rotate_left
         ·intro w'
          go_simp
          with_reducible rfl
         rotate_left
         ·simp only [Act.put, sI, sZ, sS, i64_w, i32_w]
          rfl
         refine pure_ (i := 3) (N := some 28) (v := ?_) (a' := ?_) #[true, false, true, true, false, false, false, false] rfl rfl (any_of HT_.out (by kernel_rfl)) (fun _ _ _ h => h) (Or.inl ⟨by rfl, ?_⟩) ?_ ?_
         rotate_left
         ·intro w'
          go_simp
          with_reducible rfl
         rotate_left
         ·simp only [Act.put, sI, sZ, sS, i64_w, i32_w]
          rfl
         refine pure_ (i := 4) (N := some 29) (v := ?_) (a' := ?_) #[true, false, true, true, true, false, false, false] rfl rfl (any_of HT_.out (by kernel_rfl)) (fun _ _ _ h => h) (Or.inl ⟨by rfl, ?_⟩) ?_ ?_
         rotate_left
         ·intro w'
          go_simp
          with_reducible rfl
         rotate_left
         ·simp only [Act.put, sI, sZ, sS, i64_w, i32_w]
          rfl
         refine take_ (i := 1) (N := some 26) (v := ?_) (a' := ?_) #[true, true, true, true, true, false, false, false] rfl rfl (take_ofW HT_.out HW_.out (by kernel_rfl)) (fun _ _ _ h => h) (Or.inl ⟨by rfl, ?_⟩) hHeld ?_ ?_
         rotate_left
         ·rintro w' ⟨s0, s1, s2, s3, s4, s5, s6⟩
          go_simp
          with_reducible rfl
         rotate_left
         ·simp only [Act.put, sI, sZ, sS, i64_w, i32_w]
          rfl
         refine take_ (i := 5) (N := some 30) (v := ?_) (a' := ?_) #[true, true, true, true, true, true, false, false] rfl rfl (take_ofW HT_.out HW_.out (by kernel_rfl)) (fun _ _ _ h => h) (Or.inl ⟨by rfl, ?_⟩) hHeld ?_ ?_
         rotate_left
         ·rintro w' ⟨s0, s1, s2, s3, s4, s5, s6⟩
          go_simp
          with_reducible rfl
         rotate_left
         ·simp only [Act.put, sI, sZ, sS, i64_w, i32_w]
          rfl
         refine one_ (i := 6) (N := some 31) #[true, true, true, true, true, true, true, false] rfl rfl (one_of HT_.out (by kernel_rfl)) (by decide) (fun K hK => ?_)
         refine goes_ Try.func29 (by kernel_rfl) rfl #[.agg #[.slice A0_4 l0_4.length c0_4], .int .i64 (rd l1 x2_1)] (by rfl) rfl rfl (by (try simp only [List.map_toArray, List.map_cons, List.map_nil]); first | done | rfl | (simp only [List.length_drop, List.length_take]; rfl)) ?_
         with_reducible refine (r02_Has.calls kj5 _ _ l0_4 (rd l1 x2_1) t284 _ ?side1 ?side2 A15.out).mono ?_
         (case side1 => repeat (first | exact (Kd.C_below HR0_4.out HB.out) | (with_reducible refine Kd.C_alloc ?_ _) | (with_reducible refine Kd.C_drewN ?_ _) | (with_reducible refine Kd.C_drew ?_)))
         (case side2 => exact HC0_4.out)
         rintro e w19 ⟨rfl, hb⟩
         refine ⟨_, rfl, ?_⟩
         have n0_ := aM (blk_below (g := gb280) (o := .cells #[.slice A0_0 l0_0.length c0_0, .slice A0_1 l0_1.length c0_1, .slice A0_2 l0_2.length c0_2, .slice A0_3 l0_3.length c0_3, .slice A0_4 l0_4.length c0_4, .slice A0_5 l0_5.length c0_5] 27 (0, 0)) (by (with_reducible repeat (first | refine bkN ?_ _ | refine bkD ?_ | refine bkA ?_ _)); exact BK280.out) hb)
         have n1_ := aM (bSp (by repeat (first | (with_reducible first | exact HB.out | apply bAl | apply pbN | apply bD1 | refine bSt ?_ GE280.out) | exact HB.out)) hb)
         clear BK280
         clear HB
         have BK280 := n0_
         have HB := n1_
         clear n0_ n1_
         (try clear hb)
         (try clear hb2)
         (try clear hk)
         (try clear hi)
         refine hK.out _ _ ⟨(bkC BK280.out 0).trans rfl, (bkC BK280.out 1).trans rfl, (bkC BK280.out 2).trans rfl, (bkC BK280.out 3).trans rfl, (bkC BK280.out 4).trans rfl, (bkC BK280.out 5).trans rfl, ((HB.out.cell (World.block_lt_of_cell? w _ hw283_0)).trans hw283_0)⟩ (fun hHeld => ?_)
         clear hK K
         refine norm_ (a' := ?_) ?_ ?_
         rotate_left
         ·show Act.put _ (some 31) _ = _
          simp only [Act.put, sI, sZ, sS, i64_w, i32_w]
          rfl
         refine pure_ (i := 7) (N := some 8) (v := ?_) (a' := ?_) #[true, true, true, true, true, true, true, true] rfl rfl (any_of HT_.out (by kernel_rfl)) (fun _ _ _ h => h) (Or.inl ⟨by rfl, ?_⟩) ?_ ?_
         rotate_left
         ·intro w'
          go_simp
          with_reducible rfl
         rotate_left
         ·simp only [Act.put, sI, sZ, sS, i64_w, i32_w]
          rfl
         refine done_ (done_of HT_.out (by kernel_rfl)) ?_
         try go_wp2
         go_ret
         exact ⟨by first | rfl | (simp [eN, eS] <;> rfl) | (simp [*, eN, eS] <;> rfl), by repeat (first | (with_reducible first | exact HB.out | apply bAl | apply pbN | apply bD1 | refine bSt ?_ GE280.out) | exact HB.out)⟩
       ·rw [if_neg c10] at H
        exact absurd H (by simp)
      ·rw [if_neg c9] at H
       exact absurd H (by simp)
     ·replace c8 := Bool.eq_false_iff.mpr c8
      subst c8
      have H1 : (some false) = some r := by rw [if_neg (show ¬ (false = true) by decide)] at H; exact H
      clear H
      have H := H1
      clear H1
      obtain rfl := Option.some.inj H
      go_wp2
      go_ret
      exact ⟨by first | rfl | (simp [eN, eS] <;> rfl) | (simp [*, eN, eS] <;> rfl), by repeat (first | (with_reducible first | exact HB.out | apply bAl | apply pbN | apply bD1 | refine bSt ?_ GE280.out) | exact HB.out)⟩
attribute [local go_sem] max2_int min2_int max_two min_two max_three min_three max_four min_four
set_option linter.unusedVariables false
set_option linter.unusedSimpArgs false
def r37_final.f (k : Nat) (l0_0 : List (S43)) (l0_1 : List (S43)) (l0_2 : List (S43)) (l0_3 : List (S43)) (l0_4 : List (S33)) (l0_5 : List (S33)) (l1 : List Int) (a2 : Int) : Option (Bool) := (r37_near.f k l0_0 l0_1 l0_2 l0_3 l0_4 l0_5 l1 (wrap64 (a2 - 1)) (-1)).bind fun t286 => (if t286 = true then ((r37_near.f k l0_0 l0_1 l0_2 l0_3 l0_4 l0_5 l1 (wrap64 (a2 + 1)) 1).bind fun t287 => (some (!t287))) else (some false))
set_option maxHeartbeats 8000000 in
set_option maxRecDepth 100000 in
theorem r37_final.calls (k : Nat) (A0_0 : Option Addr) (c0_0 : Nat) (l0_0 : List (S43)) (A0_1 : Option Addr) (c0_1 : Nat) (l0_1 : List (S43)) (A0_2 : Option Addr) (c0_2 : Nat) (l0_2 : List (S43)) (A0_3 : Option Addr) (c0_3 : Nat) (l0_3 : List (S43)) (A0_4 : Option Addr) (c0_4 : Nat) (l0_4 : List (S33)) (A0_5 : Option Addr) (c0_5 : Nat) (l0_5 : List (S33)) (A1 : Option Addr) (c1 : Nat) (l1 : List Int) (a2 : Int) (r : Bool) (w : World) (hr0_0 : Kd.C k43 w A0_0 l0_0.length l0_0) (hc0_0 : l0_0.length ≤ c0_0) (hr0_1 : Kd.C k43 w A0_1 l0_1.length l0_1) (hc0_1 : l0_1.length ≤ c0_1) (hr0_2 : Kd.C k43 w A0_2 l0_2.length l0_2) (hc0_2 : l0_2.length ≤ c0_2) (hr0_3 : Kd.C k43 w A0_3 l0_3.length l0_3) (hc0_3 : l0_3.length ≤ c0_3) (hr0_4 : Kd.C k33 w A0_4 l0_4.length l0_4) (hc0_4 : l0_4.length ≤ c0_4) (hr0_5 : Kd.C k33 w A0_5 l0_5.length l0_5) (hc0_5 : l0_5.length ≤ c0_5) (hr1 : Kd.C (Kd.int .i64) w A1 l1.length l1) (hc1 : l1.length ≤ c1) (h : r37_final.f k l0_0 l0_1 l0_2 l0_3 l0_4 l0_5 l1 a2 = some r) :
  Calls Try.prog 46 #[.agg #[.slice A0_0 l0_0.length c0_0, .slice A0_1 l0_1.length c0_1, .slice A0_2 l0_2.length c0_2, .slice A0_3 l0_3.length c0_3, .slice A0_4 l0_4.length c0_4, .slice A0_5 l0_5.length c0_5], .slice A1 l1.length c1, .int .i64 a2] w fun e w' => e = .returned (.bool r) ∧ Below w.heap.size w w' := by
 have hu27 := Try.underlying27
 have HR0_0 := aM hr0_0
 have HC0_0 := aM hc0_0
 clear hr0_0 hc0_0
 have HR0_1 := aM hr0_1
 have HC0_1 := aM hc0_1
 clear hr0_1 hc0_1
 have HR0_2 := aM hr0_2
 have HC0_2 := aM hc0_2
 clear hr0_2 hc0_2
 have HR0_3 := aM hr0_3
 have HC0_3 := aM hc0_3
 clear hr0_3 hc0_3
 have HR0_4 := aM hr0_4
 have HC0_4 := aM hc0_4
 clear hr0_4 hc0_4
 have HR0_5 := aM hr0_5
 have HC0_5 := aM hc0_5
 clear hr0_5 hc0_5
 have HR1 := aM hr1
 have HC1 := aM hc1
 clear hr1 hc1
 have HB := aM (Below.refl w.heap.size w)
 have H : ((r37_near.f k l0_0 l0_1 l0_2 l0_3 l0_4 l0_5 l1 (wrap64 (a2 - 1)) (-1)).bind fun t286 => (if t286 = true then ((r37_near.f k l0_0 l0_1 l0_2 l0_3 l0_4 l0_5 l1 (wrap64 (a2 + 1)) 1).bind fun t287 => (some (!t287))) else (some false))) = some r := h
 clear h
 replace H := Option.bind_eq_some_iff.mp H
 obtain ⟨t286, A40, H⟩ := H
 replace H : (if t286 = true then ((r37_near.f k l0_0 l0_1 l0_2 l0_3 l0_4 l0_5 l1 (wrap64 (a2 + 1)) 1).bind fun t287 => (some (!t287))) else (some false)) = some r := H
 have A4 := aM A40
 clear A40
 by_cases c5 : t286 = true
 ·subst c5
  have H1 : ((r37_near.f k l0_0 l0_1 l0_2 l0_3 l0_4 l0_5 l1 (wrap64 (a2 + 1)) 1).bind fun t287 => (some (!t287))) = some r := by rw [if_pos rfl] at H; exact H
  clear H
  have H := H1
  clear H1
  replace H := Option.bind_eq_some_iff.mp H
  obtain ⟨t287, A60, H⟩ := H
  replace H : (some (!t287)) = some r := H
  have A6 := aM A60
  clear A60
  obtain rfl := Option.some.inj H
  go_enter Try.func46, Try.ntmps46
  go_wp2_with (first | ((with_reducible refine gate_dst (N := 3) rfl ?_); refine box_event ?hg (N := 3) ?hd (cs := #[.slice A0_0 l0_0.length c0_0, .slice A0_1 l0_1.length c0_1, .slice A0_2 l0_2.length c0_2, .slice A0_3 l0_3.length c0_3, .slice A0_4 l0_4.length c0_4, .slice A0_5 l0_5.length c0_5]) (t := 27) ?hr ?_; (case hd => rfl); (case hg => rfl); (case hr => first | (go_simp; done) | (go_simp; rfl)); intro gb285 hg w7 hbox hb; have n0_ := aM (bSp (by repeat (first | (with_reducible first | exact HB.out | apply bAl | apply pbN | apply bD1) | exact HB.out)) hb); have n1_ := aM (hbox); have n2_ := aM ((by rw [hg]; exact (bSz (by repeat (first | (with_reducible first | exact HB.out | apply bAl | apply pbN | apply bD1) | exact HB.out))) : w.heap.size ≤ gb285)); have n3_ := aM ((by rw [hg]; exact (bSz (by repeat (first | (with_reducible first | exact HB.out | apply bAl | apply pbN | apply bD1) | exact HB.out))) : w.heap.size ≤ gb285)); clear HB; have HB := n0_; have BK285 := n1_; have GW285 := n2_; have GE285 := n3_; clear n0_ n1_ n2_ n3_; clear hb hbox hg; have hcz8_0 : w7.cell? ⟨gb285, 0, none⟩ = some (.slice A0_0 l0_0.length c0_0) := (bkC BK285.out 0).trans rfl; have hcz8_1 : w7.cell? ⟨gb285, 1, none⟩ = some (.slice A0_1 l0_1.length c0_1) := (bkC BK285.out 1).trans rfl; have hcz8_2 : w7.cell? ⟨gb285, 2, none⟩ = some (.slice A0_2 l0_2.length c0_2) := (bkC BK285.out 2).trans rfl; have hcz8_3 : w7.cell? ⟨gb285, 3, none⟩ = some (.slice A0_3 l0_3.length c0_3) := (bkC BK285.out 3).trans rfl; have hcz8_4 : w7.cell? ⟨gb285, 4, none⟩ = some (.slice A0_4 l0_4.length c0_4) := (bkC BK285.out 4).trans rfl; have hcz8_5 : w7.cell? ⟨gb285, 5, none⟩ = some (.slice A0_5 l0_5.length c0_5) := (bkC BK285.out 5).trans rfl; have hfz8_0 := bkF BK285.out 0; have hfz8_1 := bkF BK285.out 1; have hfz8_2 := bkF BK285.out 2; have hfz8_3 := bkF BK285.out 3; have hfz8_4 := bkF BK285.out 4; have hfz8_5 := bkF BK285.out 5) | ((with_reducible refine gate_callee (f := 66) rfl ?_); refine goesL_ (some 11) rfl rfl Try.func66 (by kernel_rfl) rfl #[.agg #[.slice A0_0 l0_0.length c0_0, .slice A0_1 l0_1.length c0_1, .slice A0_2 l0_2.length c0_2, .slice A0_3 l0_3.length c0_3, .slice A0_4 l0_4.length c0_4, .slice A0_5 l0_5.length c0_5], .slice A1 l1.length c1, .int .i64 (wrap64 (a2 - 1)), .int .i64 (-1)] rfl (by (try simp only [List.map_toArray, List.map_cons, List.map_nil]); first | done | rfl | (simp only [List.length_drop, List.length_take]; rfl)) ?_; (with_reducible refine (r37_near.calls k _ _ l0_0 _ _ l0_1 _ _ l0_2 _ _ l0_3 _ _ l0_4 _ _ l0_5 _ _ l1 (wrap64 (a2 - 1)) (-1) true _ ?side1 ?side2 ?side3 ?side4 ?side5 ?side6 ?side7 ?side8 ?side9 ?side10 ?side11 ?side12 ?side13 ?side14 A4.out).mono ?_); (case side1 => repeat (first | exact (Kd.C_below HR0_0.out HB.out) | (with_reducible refine Kd.C_alloc ?_ _) | (with_reducible refine Kd.C_drewN ?_ _) | (with_reducible refine Kd.C_drew ?_))); (case side2 => exact HC0_0.out); (case side3 => repeat (first | exact (Kd.C_below HR0_1.out HB.out) | (with_reducible refine Kd.C_alloc ?_ _) | (with_reducible refine Kd.C_drewN ?_ _) | (with_reducible refine Kd.C_drew ?_))); (case side4 => exact HC0_1.out); (case side5 => repeat (first | exact (Kd.C_below HR0_2.out HB.out) | (with_reducible refine Kd.C_alloc ?_ _) | (with_reducible refine Kd.C_drewN ?_ _) | (with_reducible refine Kd.C_drew ?_))); (case side6 => exact HC0_2.out); (case side7 => repeat (first | exact (Kd.C_below HR0_3.out HB.out) | (with_reducible refine Kd.C_alloc ?_ _) | (with_reducible refine Kd.C_drewN ?_ _) | (with_reducible refine Kd.C_drew ?_))); (case side8 => exact HC0_3.out); (case side9 => repeat (first | exact (Kd.C_below HR0_4.out HB.out) | (with_reducible refine Kd.C_alloc ?_ _) | (with_reducible refine Kd.C_drewN ?_ _) | (with_reducible refine Kd.C_drew ?_))); (case side10 => exact HC0_4.out); (case side11 => repeat (first | exact (Kd.C_below HR0_5.out HB.out) | (with_reducible refine Kd.C_alloc ?_ _) | (with_reducible refine Kd.C_drewN ?_ _) | (with_reducible refine Kd.C_drew ?_))); (case side12 => exact HC0_5.out); (case side13 => repeat (first | exact (Kd.C_below HR1.out HB.out) | (with_reducible refine Kd.C_alloc ?_ _) | (with_reducible refine Kd.C_drewN ?_ _) | (with_reducible refine Kd.C_drew ?_))); (case side14 => exact HC1.out); rintro e w9 ⟨rfl, hb⟩; refine ⟨_, rfl, ?_⟩; have n0_ := aM (blk_below (g := gb285) (o := .cells #[.slice A0_0 l0_0.length c0_0, .slice A0_1 l0_1.length c0_1, .slice A0_2 l0_2.length c0_2, .slice A0_3 l0_3.length c0_3, .slice A0_4 l0_4.length c0_4, .slice A0_5 l0_5.length c0_5] 27 (0, 0)) (by (with_reducible repeat (first | refine bkN ?_ _ | refine bkD ?_ | refine bkA ?_ _)); exact BK285.out) hb); have n1_ := aM (bSp (by repeat (first | (with_reducible first | exact HB.out | apply bAl | apply pbN | apply bD1 | refine bSt ?_ GE285.out) | exact HB.out)) hb); clear BK285; clear HB; have BK285 := n0_; have HB := n1_; clear n0_ n1_; (try clear hb); (try clear hb2); (try clear hk); (try clear hi); have hcz10_0 : w9.cell? ⟨gb285, 0, none⟩ = some (.slice A0_0 l0_0.length c0_0) := (bkC BK285.out 0).trans rfl; have hcz10_1 : w9.cell? ⟨gb285, 1, none⟩ = some (.slice A0_1 l0_1.length c0_1) := (bkC BK285.out 1).trans rfl; have hcz10_2 : w9.cell? ⟨gb285, 2, none⟩ = some (.slice A0_2 l0_2.length c0_2) := (bkC BK285.out 2).trans rfl; have hcz10_3 : w9.cell? ⟨gb285, 3, none⟩ = some (.slice A0_3 l0_3.length c0_3) := (bkC BK285.out 3).trans rfl; have hcz10_4 : w9.cell? ⟨gb285, 4, none⟩ = some (.slice A0_4 l0_4.length c0_4) := (bkC BK285.out 4).trans rfl; have hcz10_5 : w9.cell? ⟨gb285, 5, none⟩ = some (.slice A0_5 l0_5.length c0_5) := (bkC BK285.out 5).trans rfl; have hfz10_0 := bkF BK285.out 0; have hfz10_1 := bkF BK285.out 1; have hfz10_2 := bkF BK285.out 2; have hfz10_3 := bkF BK285.out 3; have hfz10_4 := bkF BK285.out 4; have hfz10_5 := bkF BK285.out 5) | (go_at_call 66; (with_reducible refine (r37_near.calls k _ _ l0_0 _ _ l0_1 _ _ l0_2 _ _ l0_3 _ _ l0_4 _ _ l0_5 _ _ l1 (wrap64 (a2 + 1)) 1 t287 _ ?side1 ?side2 ?side3 ?side4 ?side5 ?side6 ?side7 ?side8 ?side9 ?side10 ?side11 ?side12 ?side13 ?side14 A6.out).mono ?_); (case side1 => repeat (first | exact (Kd.C_below HR0_0.out HB.out) | (with_reducible refine Kd.C_alloc ?_ _) | (with_reducible refine Kd.C_drewN ?_ _) | (with_reducible refine Kd.C_drew ?_))); (case side2 => exact HC0_0.out); (case side3 => repeat (first | exact (Kd.C_below HR0_1.out HB.out) | (with_reducible refine Kd.C_alloc ?_ _) | (with_reducible refine Kd.C_drewN ?_ _) | (with_reducible refine Kd.C_drew ?_))); (case side4 => exact HC0_1.out); (case side5 => repeat (first | exact (Kd.C_below HR0_2.out HB.out) | (with_reducible refine Kd.C_alloc ?_ _) | (with_reducible refine Kd.C_drewN ?_ _) | (with_reducible refine Kd.C_drew ?_))); (case side6 => exact HC0_2.out); (case side7 => repeat (first | exact (Kd.C_below HR0_3.out HB.out) | (with_reducible refine Kd.C_alloc ?_ _) | (with_reducible refine Kd.C_drewN ?_ _) | (with_reducible refine Kd.C_drew ?_))); (case side8 => exact HC0_3.out); (case side9 => repeat (first | exact (Kd.C_below HR0_4.out HB.out) | (with_reducible refine Kd.C_alloc ?_ _) | (with_reducible refine Kd.C_drewN ?_ _) | (with_reducible refine Kd.C_drew ?_))); (case side10 => exact HC0_4.out); (case side11 => repeat (first | exact (Kd.C_below HR0_5.out HB.out) | (with_reducible refine Kd.C_alloc ?_ _) | (with_reducible refine Kd.C_drewN ?_ _) | (with_reducible refine Kd.C_drew ?_))); (case side12 => exact HC0_5.out); (case side13 => repeat (first | exact (Kd.C_below HR1.out HB.out) | (with_reducible refine Kd.C_alloc ?_ _) | (with_reducible refine Kd.C_drewN ?_ _) | (with_reducible refine Kd.C_drew ?_))); (case side14 => exact HC1.out); rintro e w11 ⟨rfl, hb⟩; have n0_ := aM (blk_below (g := gb285) (o := .cells #[.slice A0_0 l0_0.length c0_0, .slice A0_1 l0_1.length c0_1, .slice A0_2 l0_2.length c0_2, .slice A0_3 l0_3.length c0_3, .slice A0_4 l0_4.length c0_4, .slice A0_5 l0_5.length c0_5] 27 (0, 0)) (by (with_reducible repeat (first | refine bkN ?_ _ | refine bkD ?_ | refine bkA ?_ _)); exact BK285.out) hb); have n1_ := aM (bSp (by repeat (first | (with_reducible first | exact HB.out | apply bAl | apply pbN | apply bD1 | refine bSt ?_ GE285.out) | exact HB.out)) hb); clear BK285; clear HB; have BK285 := n0_; have HB := n1_; clear n0_ n1_; (try clear hb); (try clear hb2); (try clear hk); (try clear hi)))
  go_ret
  exact ⟨by first | rfl | (simp [eN, eS] <;> rfl) | (simp [*, eN, eS] <;> rfl), by repeat (first | (with_reducible first | exact HB.out | apply bAl | apply pbN | apply bD1 | refine bSt ?_ GE285.out) | exact HB.out)⟩
 ·replace c5 := Bool.eq_false_iff.mpr c5
  subst c5
  have H1 : (some false) = some r := by rw [if_neg (show ¬ (false = true) by decide)] at H; exact H
  clear H
  have H := H1
  clear H1
  obtain rfl := Option.some.inj H
  go_enter Try.func46, Try.ntmps46
  go_wp2_with (first | ((with_reducible refine gate_dst (N := 3) rfl ?_); refine box_event ?hg (N := 3) ?hd (cs := #[.slice A0_0 l0_0.length c0_0, .slice A0_1 l0_1.length c0_1, .slice A0_2 l0_2.length c0_2, .slice A0_3 l0_3.length c0_3, .slice A0_4 l0_4.length c0_4, .slice A0_5 l0_5.length c0_5]) (t := 27) ?hr ?_; (case hd => rfl); (case hg => rfl); (case hr => first | (go_simp; done) | (go_simp; rfl)); intro gb285 hg w12 hbox hb; have n0_ := aM (bSp (by repeat (first | (with_reducible first | exact HB.out | apply bAl | apply pbN | apply bD1) | exact HB.out)) hb); have n1_ := aM (hbox); have n2_ := aM ((by rw [hg]; exact (bSz (by repeat (first | (with_reducible first | exact HB.out | apply bAl | apply pbN | apply bD1) | exact HB.out))) : w.heap.size ≤ gb285)); have n3_ := aM ((by rw [hg]; exact (bSz (by repeat (first | (with_reducible first | exact HB.out | apply bAl | apply pbN | apply bD1) | exact HB.out))) : w.heap.size ≤ gb285)); clear HB; have HB := n0_; have BK285 := n1_; have GW285 := n2_; have GE285 := n3_; clear n0_ n1_ n2_ n3_; clear hb hbox hg; have hcz13_0 : w12.cell? ⟨gb285, 0, none⟩ = some (.slice A0_0 l0_0.length c0_0) := (bkC BK285.out 0).trans rfl; have hcz13_1 : w12.cell? ⟨gb285, 1, none⟩ = some (.slice A0_1 l0_1.length c0_1) := (bkC BK285.out 1).trans rfl; have hcz13_2 : w12.cell? ⟨gb285, 2, none⟩ = some (.slice A0_2 l0_2.length c0_2) := (bkC BK285.out 2).trans rfl; have hcz13_3 : w12.cell? ⟨gb285, 3, none⟩ = some (.slice A0_3 l0_3.length c0_3) := (bkC BK285.out 3).trans rfl; have hcz13_4 : w12.cell? ⟨gb285, 4, none⟩ = some (.slice A0_4 l0_4.length c0_4) := (bkC BK285.out 4).trans rfl; have hcz13_5 : w12.cell? ⟨gb285, 5, none⟩ = some (.slice A0_5 l0_5.length c0_5) := (bkC BK285.out 5).trans rfl; have hfz13_0 := bkF BK285.out 0; have hfz13_1 := bkF BK285.out 1; have hfz13_2 := bkF BK285.out 2; have hfz13_3 := bkF BK285.out 3; have hfz13_4 := bkF BK285.out 4; have hfz13_5 := bkF BK285.out 5) | ((with_reducible refine gate_callee (f := 66) rfl ?_); refine goesL_ (some 11) rfl rfl Try.func66 (by kernel_rfl) rfl #[.agg #[.slice A0_0 l0_0.length c0_0, .slice A0_1 l0_1.length c0_1, .slice A0_2 l0_2.length c0_2, .slice A0_3 l0_3.length c0_3, .slice A0_4 l0_4.length c0_4, .slice A0_5 l0_5.length c0_5], .slice A1 l1.length c1, .int .i64 (wrap64 (a2 - 1)), .int .i64 (-1)] rfl (by (try simp only [List.map_toArray, List.map_cons, List.map_nil]); first | done | rfl | (simp only [List.length_drop, List.length_take]; rfl)) ?_; (with_reducible refine (r37_near.calls k _ _ l0_0 _ _ l0_1 _ _ l0_2 _ _ l0_3 _ _ l0_4 _ _ l0_5 _ _ l1 (wrap64 (a2 - 1)) (-1) false _ ?side1 ?side2 ?side3 ?side4 ?side5 ?side6 ?side7 ?side8 ?side9 ?side10 ?side11 ?side12 ?side13 ?side14 A4.out).mono ?_); (case side1 => repeat (first | exact (Kd.C_below HR0_0.out HB.out) | (with_reducible refine Kd.C_alloc ?_ _) | (with_reducible refine Kd.C_drewN ?_ _) | (with_reducible refine Kd.C_drew ?_))); (case side2 => exact HC0_0.out); (case side3 => repeat (first | exact (Kd.C_below HR0_1.out HB.out) | (with_reducible refine Kd.C_alloc ?_ _) | (with_reducible refine Kd.C_drewN ?_ _) | (with_reducible refine Kd.C_drew ?_))); (case side4 => exact HC0_1.out); (case side5 => repeat (first | exact (Kd.C_below HR0_2.out HB.out) | (with_reducible refine Kd.C_alloc ?_ _) | (with_reducible refine Kd.C_drewN ?_ _) | (with_reducible refine Kd.C_drew ?_))); (case side6 => exact HC0_2.out); (case side7 => repeat (first | exact (Kd.C_below HR0_3.out HB.out) | (with_reducible refine Kd.C_alloc ?_ _) | (with_reducible refine Kd.C_drewN ?_ _) | (with_reducible refine Kd.C_drew ?_))); (case side8 => exact HC0_3.out); (case side9 => repeat (first | exact (Kd.C_below HR0_4.out HB.out) | (with_reducible refine Kd.C_alloc ?_ _) | (with_reducible refine Kd.C_drewN ?_ _) | (with_reducible refine Kd.C_drew ?_))); (case side10 => exact HC0_4.out); (case side11 => repeat (first | exact (Kd.C_below HR0_5.out HB.out) | (with_reducible refine Kd.C_alloc ?_ _) | (with_reducible refine Kd.C_drewN ?_ _) | (with_reducible refine Kd.C_drew ?_))); (case side12 => exact HC0_5.out); (case side13 => repeat (first | exact (Kd.C_below HR1.out HB.out) | (with_reducible refine Kd.C_alloc ?_ _) | (with_reducible refine Kd.C_drewN ?_ _) | (with_reducible refine Kd.C_drew ?_))); (case side14 => exact HC1.out); rintro e w14 ⟨rfl, hb⟩; refine ⟨_, rfl, ?_⟩; have n0_ := aM (blk_below (g := gb285) (o := .cells #[.slice A0_0 l0_0.length c0_0, .slice A0_1 l0_1.length c0_1, .slice A0_2 l0_2.length c0_2, .slice A0_3 l0_3.length c0_3, .slice A0_4 l0_4.length c0_4, .slice A0_5 l0_5.length c0_5] 27 (0, 0)) (by (with_reducible repeat (first | refine bkN ?_ _ | refine bkD ?_ | refine bkA ?_ _)); exact BK285.out) hb); have n1_ := aM (bSp (by repeat (first | (with_reducible first | exact HB.out | apply bAl | apply pbN | apply bD1 | refine bSt ?_ GE285.out) | exact HB.out)) hb); clear BK285; clear HB; have BK285 := n0_; have HB := n1_; clear n0_ n1_; (try clear hb); (try clear hb2); (try clear hk); (try clear hi)))
  go_ret
  exact ⟨by first | rfl | (simp [eN, eS] <;> rfl) | (simp [*, eN, eS] <;> rfl), by repeat (first | (with_reducible first | exact HB.out | apply bAl | apply pbN | apply bD1 | refine bSt ?_ GE285.out) | exact HB.out)⟩
def r37_Final.f (k : Nat) (l0_0 : List (S43)) (l0_1 : List (S43)) (l0_2 : List (S43)) (l0_3 : List (S43)) (l0_4 : List (S33)) (l0_5 : List (S33)) (l1 : List Int) (a2 : Int) : Option (Bool) := if a2 ≥ 0 then (if a2 < (l1.length : Int) then ((r37_Data.f k l0_0 l0_1 l0_2 l0_3 l0_4 l0_5).bind fun bt289 => ((r37_final.f k bt289.1 bt289.2.1 bt289.2.2.1 bt289.2.2.2.1 bt289.2.2.2.2.1 bt289.2.2.2.2.2 l1 a2).bind fun t307 => (some t307))) else (some false)) else (some false)
attribute [local go_sem] max2_int min2_int max_two min_two max_three min_three max_four min_four
set_option linter.unusedVariables false
set_option linter.unusedSimpArgs false
def r11_find.l0 : Nat → List (S43) → Int → ByteArray → Int → Option (List Int × Bool)
 | 0, _, _, _, _ => none
 | k + 1, x0, x1, x2, x8 => if x8 < (x0.length : Int) then (if 0 ≤ x8 then (if ((rd_T43 x0 x8).f0) = x1 then (if ((rd_T43 x0 x8).f2).toList = x2.toList then ((some (([] : List Int) : List Int)).bind fun y316 => (if y316.length + ((rd_T43 x0 x8).f1).length < 17592186044416 then (some ((y316 ++ ((rd_T43 x0 x8).f1)), true)) else (none))) else (r11_find.l0 k x0 x1 x2 (wrap64 (x8 + 1)))) else (r11_find.l0 k x0 x1 x2 (wrap64 (x8 + 1)))) else (none)) else (some (([] : List Int), false))
def r11_find.f (k : Nat) (l0 : List (S43)) (a1 : Int) (a2 : ByteArray) : Option (List Int × Bool) := r11_find.l0 k l0 a1 a2 0
set_option maxHeartbeats 8000000 in
set_option maxRecDepth 100000 in
theorem r11_find.calls (k : Nat) (A0 : Option Addr) (c0 : Nat) (l0 : List (S43)) (a1 : Int) (a2 : ByteArray) (r1 : List Int) (r2 : Bool) (w : World) (hr0 : Kd.C k43 w A0 l0.length l0) (hc0 : l0.length ≤ c0) (h : r11_find.f k l0 a1 a2 = some (r1, r2)) :
  Calls Try.prog 85 #[.slice A0 l0.length c0, .int .i64 a1, .string a2] w fun e w' => ∃ v0_ : Value, e = .returned (.tuple #[v0_, .bool r2]) ∧ Kd.R (Kd.int .i64) 3 w' w.heap.size (fun _ => True) v0_ r1 ∧ Below w.heap.size w w' := by
 have HR0 := aM hr0
 have HC0 := aM hc0
 clear hr0 hc0
 have HB := aM (Below.refl w.heap.size w)
 have H : (r11_find.l0 k l0 a1 a2 0) = some (r1, r2) := h
 clear h
 have H' := aM H
 clear H
 go_enter Try.func85, Try.ntmps85
 go_wp2
 go_loopg [8] k (fun kq v8 w' => ∃ (x8_1 : Int), v8 = .int .i64 x8_1 ∧ Aside0 (r11_find.l0 kq l0 a1 a2 x8_1 = some (r1, r2)) ∧ Aside0 (kq ≤ k) ∧ Aside0 (Below w.heap.size w w'))
 case atStart => exact ⟨(0), (by first | rfl | (simp; done) | (simp [*]; done)), H', ⟨Nat.le_refl _⟩, ⟨by repeat (first | (with_reducible first | exact HB.out | apply bAl | apply pbN | apply bD1) | exact HB.out)⟩⟩
 case round =>
  clear H'
  try clear p2
  obtain ⟨x8_1, rfl, HA, HK1, HB⟩ := hrel
  cases gk with
  | zero => exact absurd HA.out (by simp [r11_find.l0])
  | succ k1 =>
   have H := HA.out
   clear HA
   simp only [r11_find.l0] at H
   by_cases c4 : x8_1 < (l0.length : Int)
   ·rw [if_pos c4] at H
    have c4b0 : decide (x8_1 < (l0.length : Int)) = true := dT c4
    clear c4
    by_cases c5 : 0 ≤ x8_1
    ·rw [if_pos c5] at H
     have c5b0 : decide (0 ≤ x8_1) = true := dT c5
     clear c5
     by_cases c6 : ((rd_T43 l0 x8_1).f0) = a1
     ·rw [if_pos c6] at H
      have c6b0 : (((rd_T43 l0 x8_1).f0) == a1) = true := beq_iff_eq.mpr c6
      have c6b1 : (((rd_T43 l0 x8_1).f0) != a1) = false := bne_eq_false_iff_eq.mpr c6
      clear c6
      by_cases c7 : ((rd_T43 l0 x8_1).f2).toList = a2.toList
      ·rw [if_pos c7] at H
       have c7b0 : (((rd_T43 l0 x8_1).f2).toList == a2.toList) = true := beq_iff_eq.mpr c7
       have c7b1 : (((rd_T43 l0 x8_1).f2).toList != a2.toList) = false := bne_eq_false_iff_eq.mpr c7
       clear c7
       obtain ⟨y316, hy316⟩ : ∃ y_ : List Int, y_ = (([] : List Int)) := ⟨_, rfl⟩
       replace H : (if y316.length + ((rd_T43 l0 x8_1).f1).length < 17592186044416 then (some ((y316 ++ ((rd_T43 l0 x8_1).f1)), true)) else (none)) = some (r1, r2) := by first | (rw [hy316]; with_reducible exact H) | (have H2_ := (Option.bind_some _ _).symm.trans H; rw [hy316]; with_reducible exact H2_) | (have H2_ := (Option.bind_some _ _).symm.trans H; with_reducible exact H2_) | with_reducible exact H | (rw [hy316]; exact H) | exact H
       have Ny316 := aM hy316
       clear hy316
       by_cases c8 : y316.length + ((rd_T43 l0 x8_1).f1).length < 17592186044416
       ·rw [if_pos c8] at H
        have LMc8 := aM c8
        clear c8
        obtain ⟨y320, hy320⟩ : ∃ y_ : List Int, y_ = (y316 ++ ((rd_T43 l0 x8_1).f1)) := ⟨_, rfl⟩
        replace H : (some (y320, true)) = some (r1, r2) := by first | (rw [hy320]; with_reducible exact H) | (have H2_ := (Option.bind_some _ _).symm.trans H; rw [hy320]; with_reducible exact H2_) | (have H2_ := (Option.bind_some _ _).symm.trans H; with_reducible exact H2_) | with_reducible exact H | (rw [hy320]; exact H) | exact H
        have Ny320 := aM hy320
        clear hy320
        simp only [Option.some.injEq, Prod.mk.injEq] at H
        obtain ⟨rfl, rfl⟩ := H
        have p314 : 0 ≤ (x8_1 : Int) := oD (by first | (with_reducible assumption) | assumption)
        have q314 : x8_1 < (l0.length : Int) := oD (by first | (with_reducible assumption) | assumption)
        obtain ⟨ad314, A314_1, c314_1, e314, hx314_0, hx314_1, hx314_2, hl314_1, hi314_1⟩ := at_T43 HR0.out x8_1 p314 q314
        cases e314
        replace hx314_0 := (HB.out.cell (World.block_lt_of_cell? w _ hx314_0)).trans hx314_0
        replace hx314_1 := (HB.out.cell (World.block_lt_of_cell? w _ hx314_1)).trans hx314_1
        replace hx314_2 := (HB.out.cell (World.block_lt_of_cell? w _ hx314_2)).trans hx314_2
        have HR314_1 := aM hi314_1
        have HC314_1 := aM hl314_1
        clear hi314_1 hl314_1
        replace p314 := eq_true p314
        replace q314 := eq_true q314
        have p315 : 0 ≤ (x8_1 : Int) := oD (by first | (with_reducible assumption) | assumption)
        have q315 : x8_1 < (l0.length : Int) := oD (by first | (with_reducible assumption) | assumption)
        obtain ⟨ad315, A315_1, c315_1, e315, hx315_0, hx315_1, hx315_2, hl315_1, hi315_1⟩ := at_T43 HR0.out x8_1 p315 q315
        obtain rfl : ad314 = ad315 := (by injection e315)
        replace hx315_0 := (HB.out.cell (World.block_lt_of_cell? w _ hx315_0)).trans hx315_0
        replace hx315_1 := (HB.out.cell (World.block_lt_of_cell? w _ hx315_1)).trans hx315_1
        replace hx315_2 := (HB.out.cell (World.block_lt_of_cell? w _ hx315_2)).trans hx315_2
        have HR315_1 := aM hi315_1
        have HC315_1 := aM hl315_1
        clear hi315_1 hl315_1
        replace p315 := eq_true p315
        replace q315 := eq_true q315
        have ea_ := Option.some.inj (hx314_1.symm.trans hx315_1)
        injection ea_ with ea_ en_ ec_
        subst ea_
        subst ec_
        clear en_
        go_wp2_with (first | ((with_reducible refine gate_dst (N := 31) rfl ?_); refine Kd.R_lit (Kd.int .i64) _ 3 ?hg (N := 31) ?hd (xs := ([] : List Int)) (inner := []) (ok := fun _ => True) (okp := fun _ => True) ?hr ?hp (fun _ hk => hk) trivial (Below.refl _ _) (Nat.le_refl _) (by simp) ?_; (case hd => rfl); (case hg => rfl); (case hr => first | (go_simp; done) | (go_simp; rfl)); (case hp => exact (Reps.none _ _)); intro v317 w9 ho10 hb hg_ hnew_; clear hg_ hnew_; (first | rw [← Ny316.out] at ho10 | (simp only [Int.reduceToNat] at ho10; rw [← Ny316.out] at ho10)); have n0_ := aM (Kd.R_lower ho10 (bSz (by repeat (first | (with_reducible first | exact HB.out | apply bAl | apply pbN | apply bD1) | exact HB.out)))); have n1_ := aM (bSp (by repeat (first | (with_reducible first | exact HB.out | apply bAl | apply pbN | apply bD1) | exact HB.out)) hb); clear HB; have HO318 := n0_; have HB := n1_; clear n0_ n1_; clear hb ho10; have p319 : 0 ≤ (x8_1 : Int) := oD (by first | (with_reducible assumption) | assumption); have q319 : x8_1 < (l0.length : Int) := oD (by first | (with_reducible assumption) | assumption); obtain ⟨ad319, A319_1, c319_1, e319, hx319_0, hx319_1, hx319_2, hl319_1, hi319_1⟩ := at_T43 HR0.out x8_1 p319 q319; obtain rfl : ad314 = ad319 := (by injection e319); replace hx319_0 := (HB.out.cell (World.block_lt_of_cell? w _ hx319_0)).trans hx319_0; replace hx319_1 := (HB.out.cell (World.block_lt_of_cell? w _ hx319_1)).trans hx319_1; replace hx319_2 := (HB.out.cell (World.block_lt_of_cell? w _ hx319_2)).trans hx319_2; have HR319_1 := aM hi319_1; have HC319_1 := aM hl319_1; clear hi319_1 hl319_1; replace p319 := eq_true p319; replace q319 := eq_true q319) | ((with_reducible refine gate_builtin (b := .append) (xs := #[.tmp 31, .tmp 36]) rfl ?_); at_builtin; refine Kd.R_append_rows (Kd.int .i64) (w0 := w) w.heap.size rfl (.tmp 31) (.tmp 36) 28 3 (.int .i64 0) 8 rfl Try.underlying28 info3 rfl (by decide) (by omega) v317 y316 ((rd_T43 l0 x8_1).f1) _ _ _ (fun _ => True) (fun _ => False) rfl rfl ?aO ?aR (fun _ _ h => h) (fun _ h => h.elim) ?aF ?aB ?aS ?aL ?_; (case aR => repeat (first | exact (Kd.C_below HR319_1.out HB.out) | (with_reducible refine Kd.C_alloc ?_ _) | (with_reducible refine Kd.C_drewN ?_ _) | (with_reducible refine Kd.C_drew ?_))); (case aB => exact (by repeat (first | (with_reducible first | exact HB.out | apply bAl | apply pbN | apply bD1) | exact HB.out))); (case aF => exact (fun _ _ => trivial)); (case aO => exact (by (with_reducible repeat (first | apply Kd.R_alloc | apply Kd.R_drewN | apply Kd.R_drew)); exact HO318.out)); (case aS => exact (bSz (by repeat (first | (with_reducible first | exact HB.out | apply bAl | apply pbN | apply bD1) | exact HB.out)))); (case aL => have := LMc8.out; omega); intro v321 w11 ho hb hg hat; rw [← Ny320.out] at ho; have n0_ := aM (hb); have n1_ := aM (ho); clear HB; clear HO318; have HB := n0_; have HO322 := n1_; clear n0_ n1_; clear ho hb hg hat))
        go_ret2
        exact ⟨_, by first | rfl | (simp [eN, eS] <;> rfl) | (simp [*, eN, eS] <;> rfl), by (with_reducible repeat (first | apply Kd.R_alloc | apply Kd.R_drewN | apply Kd.R_drew)); exact HO322.out, by repeat (first | (with_reducible first | exact HB.out | apply bAl | apply pbN | apply bD1) | exact HB.out)⟩
       ·rw [if_neg c8] at H
        exact absurd H (by simp)
      ·rw [if_neg c7] at H
       have c7b0 : (((rd_T43 l0 x8_1).f2).toList == a2.toList) = false := beq_eq_false_iff_ne.mpr c7
       have c7b1 : (((rd_T43 l0 x8_1).f2).toList != a2.toList) = true := bne_iff_ne.mpr c7
       have H' := aM H
       clear H
       have p314 : 0 ≤ (x8_1 : Int) := oD (by first | (with_reducible assumption) | assumption)
       have q314 : x8_1 < (l0.length : Int) := oD (by first | (with_reducible assumption) | assumption)
       obtain ⟨ad314, A314_1, c314_1, e314, hx314_0, hx314_1, hx314_2, hl314_1, hi314_1⟩ := at_T43 HR0.out x8_1 p314 q314
       cases e314
       replace hx314_0 := (HB.out.cell (World.block_lt_of_cell? w _ hx314_0)).trans hx314_0
       replace hx314_1 := (HB.out.cell (World.block_lt_of_cell? w _ hx314_1)).trans hx314_1
       replace hx314_2 := (HB.out.cell (World.block_lt_of_cell? w _ hx314_2)).trans hx314_2
       have HR314_1 := aM hi314_1
       have HC314_1 := aM hl314_1
       clear hi314_1 hl314_1
       replace p314 := eq_true p314
       replace q314 := eq_true q314
       have p315 : 0 ≤ (x8_1 : Int) := oD (by first | (with_reducible assumption) | assumption)
       have q315 : x8_1 < (l0.length : Int) := oD (by first | (with_reducible assumption) | assumption)
       obtain ⟨ad315, A315_1, c315_1, e315, hx315_0, hx315_1, hx315_2, hl315_1, hi315_1⟩ := at_T43 HR0.out x8_1 p315 q315
       obtain rfl : ad314 = ad315 := (by injection e315)
       replace hx315_0 := (HB.out.cell (World.block_lt_of_cell? w _ hx315_0)).trans hx315_0
       replace hx315_1 := (HB.out.cell (World.block_lt_of_cell? w _ hx315_1)).trans hx315_1
       replace hx315_2 := (HB.out.cell (World.block_lt_of_cell? w _ hx315_2)).trans hx315_2
       have HR315_1 := aM hi315_1
       have HC315_1 := aM hl315_1
       clear hi315_1 hl315_1
       replace p315 := eq_true p315
       replace q315 := eq_true q315
       have ea_ := Option.some.inj (hx314_1.symm.trans hx315_1)
       injection ea_ with ea_ en_ ec_
       subst ea_
       subst ec_
       clear en_
       go_wp2
       go_roundg k1
       case measure => have := HK1.out; omega
       case rel => exact ⟨(wrap64 (x8_1 + 1)), (by first | rfl | (simp; done) | (simp [*]; done)), H', ⟨by have := HK1.out; omega⟩, ⟨by repeat (first | (with_reducible first | exact HB.out | apply bAl | apply pbN | apply bD1) | exact HB.out)⟩⟩
     ·rw [if_neg c6] at H
      have c6b0 : (((rd_T43 l0 x8_1).f0) == a1) = false := beq_eq_false_iff_ne.mpr c6
      have c6b1 : (((rd_T43 l0 x8_1).f0) != a1) = true := bne_iff_ne.mpr c6
      have H' := aM H
      clear H
      have p314 : 0 ≤ (x8_1 : Int) := oD (by first | (with_reducible assumption) | assumption)
      have q314 : x8_1 < (l0.length : Int) := oD (by first | (with_reducible assumption) | assumption)
      obtain ⟨ad314, A314_1, c314_1, e314, hx314_0, hx314_1, hx314_2, hl314_1, hi314_1⟩ := at_T43 HR0.out x8_1 p314 q314
      cases e314
      replace hx314_0 := (HB.out.cell (World.block_lt_of_cell? w _ hx314_0)).trans hx314_0
      replace hx314_1 := (HB.out.cell (World.block_lt_of_cell? w _ hx314_1)).trans hx314_1
      replace hx314_2 := (HB.out.cell (World.block_lt_of_cell? w _ hx314_2)).trans hx314_2
      have HR314_1 := aM hi314_1
      have HC314_1 := aM hl314_1
      clear hi314_1 hl314_1
      replace p314 := eq_true p314
      replace q314 := eq_true q314
      go_wp2
      go_roundg k1
      case measure => have := HK1.out; omega
      case rel => exact ⟨(wrap64 (x8_1 + 1)), (by first | rfl | (simp; done) | (simp [*]; done)), H', ⟨by have := HK1.out; omega⟩, ⟨by repeat (first | (with_reducible first | exact HB.out | apply bAl | apply pbN | apply bD1) | exact HB.out)⟩⟩
    ·rw [if_neg c5] at H
     exact absurd H (by simp)
   ·rw [if_neg c4] at H
    have c4b0 : decide (x8_1 < (l0.length : Int)) = false := decide_eq_false c4
    clear c4
    simp only [Option.some.injEq, Prod.mk.injEq] at H
    obtain ⟨rfl, rfl⟩ := H
    go_wp2
    go_ret2
    exact ⟨_, by first | rfl | (simp [eN, eS] <;> rfl) | (simp [*, eN, eS] <;> rfl), by first | exact Kd.R_nil _ _ _ _ _ | exact Kd.N_nil _ _ _ _ _ | exact Kd.V_nil _ _ _ _ _ | exact Kd.Q_nil _ _ _ _ _ | exact Kd.S_nil _ _ _ _ _, by repeat (first | (with_reducible first | exact HB.out | apply bAl | apply pbN | apply bD1) | exact HB.out)⟩
def r11_Get.f (k : Nat) (l0 : List (S43)) (a1 : Int) (a2 : ByteArray) : Option (List Int × Bool) := (r11_valid.f k l0).bind fun t323 => ((r11_find.f k t323 a1 a2).bind fun bt326 => (some (bt326.1, bt326.2)))
set_option maxHeartbeats 8000000 in
set_option maxRecDepth 100000 in
theorem r11_Get.calls (k : Nat) (A0 : Option Addr) (c0 : Nat) (l0 : List (S43)) (a1 : Int) (a2 : ByteArray) (r1 : List Int) (r2 : Bool) (w : World) (hr0 : Kd.C k43 w A0 l0.length l0) (hc0 : l0.length ≤ c0) (h : r11_Get.f k l0 a1 a2 = some (r1, r2)) :
  Calls Try.prog 67 #[.slice A0 l0.length c0, .int .i64 a1, .string a2] w fun e w' => ∃ v0_ : Value, e = .returned (.tuple #[v0_, .bool r2]) ∧ Kd.R (Kd.int .i64) 3 w' w.heap.size (fun _ => True) v0_ r1 ∧ Below w.heap.size w w' := by
 have HR0 := aM hr0
 have HC0 := aM hc0
 clear hr0 hc0
 have HB := aM (Below.refl w.heap.size w)
 have H : ((r11_valid.f k l0).bind fun t323 => ((r11_find.f k t323 a1 a2).bind fun bt326 => (some (bt326.1, bt326.2)))) = some (r1, r2) := h
 clear h
 replace H := Option.bind_eq_some_iff.mp H
 obtain ⟨t323, A40, H⟩ := H
 replace H : ((r11_find.f k t323 a1 a2).bind fun bt326 => (some (bt326.1, bt326.2))) = some (r1, r2) := H
 have A4 := aM A40
 clear A40
 replace H := Option.bind_eq_some_iff.mp H
 obtain ⟨⟨t326, t327⟩, A50, H⟩ := H
 replace H : (some (t326, t327)) = some (r1, r2) := H
 have A5 := aM A50
 clear A50
 simp only [Option.some.injEq, Prod.mk.injEq] at H
 obtain ⟨rfl, rfl⟩ := H
 go_enter Try.func67, Try.ntmps67
 go_wp2_with (first | ((with_reducible refine gate_callee (f := 86) rfl ?_); refine goesL_ (some 9) rfl rfl Try.func86 (by kernel_rfl) rfl #[.slice A0 l0.length c0] rfl (by (try simp only [List.map_toArray, List.map_cons, List.map_nil]); first | done | rfl | (simp only [List.length_drop, List.length_take]; rfl)) ?_; (with_reducible refine (r11_valid.calls k (fun k_ => k_ < w.heap.size) _ _ l0 t323 _ ?side1 A4.out).mono ?_); (case side1 => exact Kd.V_mk HC0.out (Kd.F_below (Kd.C_F k43_heap HR0.out) (by repeat (first | (with_reducible first | exact HB.out | apply bAl | apply pbN | apply bD1) | exact HB.out)))); rintro e w6 ⟨v324, rfl, ho0, hb⟩; refine ⟨_, rfl, ?_⟩; have n0_ := aM (Kd.V_lower (Kd.V_mono (ok' := fun k_ => True) ho0 (fun k_ hk_ => trivial)) (bSz (by repeat (first | (with_reducible first | exact HB.out | apply bAl | apply pbN | apply bD1) | exact HB.out)))); have n1_ := aM (bSp (by repeat (first | (with_reducible first | exact HB.out | apply bAl | apply pbN | apply bD1) | exact HB.out)) hb); clear HB; have HO325 := n0_; have HB := n1_; clear n0_ n1_; (try clear hb); (try clear hb2); (try clear hk); (try clear hi); (try clear ho0); obtain ⟨Ao7, co7, eo7⟩ := Kd.V_slice HO325.out; subst eo7) | ((with_reducible refine gate_callee (f := 85) rfl ?_); refine goesL_ (some 12) rfl rfl Try.func85 (by kernel_rfl) rfl #[.slice Ao7 t323.length co7, .int .i64 a1, .string a2] rfl (by (try simp only [List.map_toArray, List.map_cons, List.map_nil]); first | done | rfl | (simp only [List.length_drop, List.length_take]; rfl)) ?_; (with_reducible refine (r11_find.calls k _ _ t323 a1 a2 t326 t327 _ ?side1 ?side2 A5.out).mono ?_); (case side1 => repeat (first | exact (Kd.V_reads' HO325.out).2.2 | (with_reducible refine Kd.C_alloc ?_ _) | (with_reducible refine Kd.C_drewN ?_ _) | (with_reducible refine Kd.C_drew ?_))); (case side2 => exact (Kd.V_reads' HO325.out).2.1); rintro e w8 ⟨v328, rfl, ho0, hb⟩; refine ⟨_, rfl, ?_⟩; have n0_ := aM (Kd.V_elder' (by (with_reducible repeat (first | apply Kd.V_alloc | apply Kd.V_drewN | apply Kd.V_drew)); exact HO325.out) (Kd.R_base ho0) hb); have n1_ := aM (Kd.R_lower ho0 (bSz (by repeat (first | (with_reducible first | exact HB.out | apply bAl | apply pbN | apply bD1) | exact HB.out)))); have n2_ := aM (bSp (by repeat (first | (with_reducible first | exact HB.out | apply bAl | apply pbN | apply bD1) | exact HB.out)) hb); clear HO325; clear HB; have HO325 := n0_; have HO329 := n1_; have HB := n2_; clear n0_ n1_ n2_; (try clear hb); (try clear hb2); (try clear hk); (try clear hi); (try clear ho0)))
 go_ret2
 exact ⟨_, by first | rfl | (simp [eN, eS] <;> rfl) | (simp [*, eN, eS] <;> rfl), by (with_reducible repeat (first | apply Kd.R_alloc | apply Kd.R_drewN | apply Kd.R_drew)); exact HO329.out, by repeat (first | (with_reducible first | exact HB.out | apply bAl | apply pbN | apply bD1) | exact HB.out)⟩
def r37_mapped.f (k : Nat) (l0 : List (S43)) (a1 : Int) : Option (List Int) := (r11_Get.f k l0 a1 (⟨#[]⟩ : ByteArray)).bind fun bt330 => (if bt330.2 = true then (some bt330.1) else (some (([a1] : List Int))))
set_option maxHeartbeats 8000000 in
set_option maxRecDepth 100000 in
theorem r37_mapped.calls (k : Nat) (A0 : Option Addr) (c0 : Nat) (l0 : List (S43)) (a1 : Int) (r : List Int) (w : World) (hr0 : Kd.C k43 w A0 l0.length l0) (hc0 : l0.length ≤ c0) (h : r37_mapped.f k l0 a1 = some r) :
  Calls Try.prog 49 #[.slice A0 l0.length c0, .int .i64 a1] w fun e w' => ∃ v0_ : Value, e = .returned (v0_) ∧ Kd.R (Kd.int .i64) 3 w' w.heap.size (fun _ => True) v0_ r ∧ Below w.heap.size w w' := by
 have HR0 := aM hr0
 have HC0 := aM hc0
 clear hr0 hc0
 have HB := aM (Below.refl w.heap.size w)
 have H : ((r11_Get.f k l0 a1 (⟨#[]⟩ : ByteArray)).bind fun bt330 => (if bt330.2 = true then (some bt330.1) else (some (([a1] : List Int))))) = some r := h
 clear h
 replace H := Option.bind_eq_some_iff.mp H
 obtain ⟨⟨t330, t331⟩, A30, H⟩ := H
 replace H : (if t331 = true then (some t330) else (some (([a1] : List Int)))) = some r := H
 have A3 := aM A30
 clear A30
 by_cases c4 : t331 = true
 ·subst c4
  have H1 : (some t330) = some r := by rw [if_pos rfl] at H; exact H
  clear H
  have H := H1
  clear H1
  obtain rfl := Option.some.inj H
  go_enter Try.func49, Try.ntmps49
  go_wp2_with (first | ((with_reducible refine gate_callee (f := 67) rfl ?_); refine goesL_ (some 10) rfl rfl Try.func67 (by kernel_rfl) rfl #[.slice A0 l0.length c0, .int .i64 a1, .string (⟨#[]⟩ : ByteArray)] rfl (by (try simp only [List.map_toArray, List.map_cons, List.map_nil]); first | done | rfl | (simp only [List.length_drop, List.length_take]; rfl)) ?_; (with_reducible refine (r11_Get.calls k _ _ l0 a1 (⟨#[]⟩ : ByteArray) t330 true _ ?side1 ?side2 A3.out).mono ?_); (case side1 => repeat (first | exact HR0.out | (with_reducible refine Kd.C_alloc ?_ _) | (with_reducible refine Kd.C_drewN ?_ _) | (with_reducible refine Kd.C_drew ?_))); (case side2 => exact HC0.out); rintro e w5 ⟨v332, rfl, ho0, hb⟩; refine ⟨_, rfl, ?_⟩; have n0_ := aM (Kd.R_lower ho0 (bSz (by repeat (first | (with_reducible first | exact HB.out | apply bAl | apply pbN | apply bD1) | exact HB.out)))); have n1_ := aM (bSp (by repeat (first | (with_reducible first | exact HB.out | apply bAl | apply pbN | apply bD1) | exact HB.out)) hb); clear HB; have HO333 := n0_; have HB := n1_; clear n0_ n1_; (try clear hb); (try clear hb2); (try clear hk); (try clear hi); (try clear ho0)))
  go_ret
  exact ⟨_, by first | rfl | (simp [eN, eS] <;> rfl) | (simp [*, eN, eS] <;> rfl), by (with_reducible repeat (first | apply Kd.R_alloc | apply Kd.R_drewN | apply Kd.R_drew)); exact HO333.out, by repeat (first | (with_reducible first | exact HB.out | apply bAl | apply pbN | apply bD1) | exact HB.out)⟩
 ·replace c4 := Bool.eq_false_iff.mpr c4
  subst c4
  have H1 : (some (([a1] : List Int))) = some r := by rw [if_neg (show ¬ (false = true) by decide)] at H; exact H
  clear H
  have H := H1
  clear H1
  obtain ⟨y334, hy334⟩ : ∃ y_ : List Int, y_ = (([a1] : List Int)) := ⟨_, rfl⟩
  replace H : (some y334) = some r := by first | (rw [hy334]; with_reducible exact H) | (have H2_ := (Option.bind_some _ _).symm.trans H; rw [hy334]; with_reducible exact H2_) | (have H2_ := (Option.bind_some _ _).symm.trans H; with_reducible exact H2_) | with_reducible exact H | (rw [hy334]; exact H) | exact H
  have Ny334 := aM hy334
  clear hy334
  obtain rfl := Option.some.inj H
  go_enter Try.func49, Try.ntmps49
  go_wp2_with (first | ((with_reducible refine gate_callee (f := 67) rfl ?_); refine goesL_ (some 10) rfl rfl Try.func67 (by kernel_rfl) rfl #[.slice A0 l0.length c0, .int .i64 a1, .string (⟨#[]⟩ : ByteArray)] rfl (by (try simp only [List.map_toArray, List.map_cons, List.map_nil]); first | done | rfl | (simp only [List.length_drop, List.length_take]; rfl)) ?_; (with_reducible refine (r11_Get.calls k _ _ l0 a1 (⟨#[]⟩ : ByteArray) t330 false _ ?side1 ?side2 A3.out).mono ?_); (case side1 => repeat (first | exact HR0.out | (with_reducible refine Kd.C_alloc ?_ _) | (with_reducible refine Kd.C_drewN ?_ _) | (with_reducible refine Kd.C_drew ?_))); (case side2 => exact HC0.out); rintro e w6 ⟨v332, rfl, ho0, hb⟩; refine ⟨_, rfl, ?_⟩; have n0_ := aM (Kd.R_lower ho0 (bSz (by repeat (first | (with_reducible first | exact HB.out | apply bAl | apply pbN | apply bD1) | exact HB.out)))); have n1_ := aM (bSp (by repeat (first | (with_reducible first | exact HB.out | apply bAl | apply pbN | apply bD1) | exact HB.out)) hb); clear HB; have HO333 := n0_; have HB := n1_; clear n0_ n1_; (try clear hb); (try clear hb2); (try clear hk); (try clear hi); (try clear ho0)) | ((with_reducible refine gate_dst (N := 16) rfl ?_); refine Kd.R_lit (Kd.int .i64) _ 3 ?hg (N := 16) ?hd (xs := ([a1] : List Int)) (inner := [.int .i64 a1]) (ok := fun _ => True) (okp := fun _ => True) ?hr ?hp (fun _ hk => hk) trivial (Below.refl _ _) (Nat.le_refl _) (by simp) ?_; (case hd => rfl); (case hg => rfl); (case hr => first | (go_simp; done) | (go_simp; rfl)); (case hp => exact (Reps.one (show Kd.M (Kd.int .i64) _ _ _ a1 [.int .i64 a1] from rfl) (Reps.none _ _))); intro v335 w7 ho8 hb hg_ hnew_; clear hg_ hnew_; (first | rw [← Ny334.out] at ho8 | (simp only [Int.reduceToNat] at ho8; rw [← Ny334.out] at ho8)); have n0_ := aM (Kd.R_elder' (by (with_reducible repeat (first | apply Kd.R_alloc | apply Kd.R_drewN | apply Kd.R_drew)); exact HO333.out) (Kd.R_base ho8) hb); have n1_ := aM (Kd.R_lower (Kd.R_new' ho8 (Kd.R_lt (by (with_reducible repeat (first | apply Kd.R_alloc | apply Kd.R_drewN | apply Kd.R_drew)); exact HO333.out))) (bSz (by repeat (first | (with_reducible first | exact HB.out | apply bAl | apply pbN | apply bD1) | exact HB.out)))); have n2_ := aM (bSp (by repeat (first | (with_reducible first | exact HB.out | apply bAl | apply pbN | apply bD1) | exact HB.out)) hb); clear HO333; clear HB; have HO333 := n0_; have HO336 := n1_; have HB := n2_; clear n0_ n1_ n2_; clear hb ho8))
  go_ret
  exact ⟨_, by first | rfl | (simp [eN, eS] <;> rfl) | (simp [*, eN, eS] <;> rfl), by (with_reducible repeat (first | apply Kd.R_alloc | apply Kd.R_drewN | apply Kd.R_drew)); exact Kd.R_mono HO336.out (fun _ hk => trivial), by repeat (first | (with_reducible first | exact HB.out | apply bAl | apply pbN | apply bD1) | exact HB.out)⟩
end Go.Proofs.Ythnkmcfhpjmihaa.Q
end
