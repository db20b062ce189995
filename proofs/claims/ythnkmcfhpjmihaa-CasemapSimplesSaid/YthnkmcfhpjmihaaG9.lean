/- Lemmas, printed and written for this claim: part 9. -/
import Derived.WalkKit
import Derived.WalkSpells
import Derived.IntWalk
import Derived.Test.YthnkmcfhpjmihaaG8
import Derived.Test.YthnkmcfhpjmihaaG2
import Derived.Test.YthnkmcfhpjmihaaG4
import Derived.Test.YthnkmcfhpjmihaaG3
import Derived.Test.YthnkmcfhpjmihaaG6
import Derived.Test.YthnkmcfhpjmihaaG7
section
namespace Go.Proofs.Ythnkmcfhpjmihaa.Q
open Go.RowKit Go.Proofs.YthnkmcfhpjmihaaW.PrintWords Go.Proofs.YthnkmcfhpjmihaaW.PrintLast Go.Proofs.YthnkmcfhpjmihaaW.PrintMore
set_option linter.unusedVariables false
theorem getM_len {l : List Mp} (h : okM l = true) {x : Int} {t : ByteArray} {xs : List Int} (hg : getM l x t = some xs) : xs.length < 100000 := by
 unfold getM at hg
 split at hg
 ·unfold findM at hg
  obtain ⟨y, hy, rfl⟩ := Option.map_eq_some_iff.1 hg
  exact ((okM_spec h).2 y (List.mem_of_find?_eq_some hy)).1
 ·cases hg
theorem mapdS_len {l : List Mp} (h : okM l = true) (x : Int) : (mapdS l x).length < 100000 := by
 unfold mapdS
 cases hg : getM l x tagE with
 | none => show (1 : Nat) < 100000; decide
 | some xs => exact getM_len h hg
theorem lowerS_len {c : CaseS} (h : okM c.lo = true) (text : List Int) (i : Nat) : (lowerS c text i).length < 100000 := by
 unfold lowerS
 split
 ·rename_i xs hg
  split
  ·exact getM_len h hg
  ·exact mapdS_len h _
 ·exact mapdS_len h _
theorem lowerA_len {c : CaseS} (h : okM c.lo = true) (text : List Int) : ∀ n, (lowerA c text n).length ≤ 100000 * n
 | 0 => Nat.le_refl _
 | n + 1 => by
  have h1 := lowerA_len h text n
  have h2 := lowerS_len h text n
  rw [lowerA, List.length_append]; omega
theorem upperA_len {c : CaseS} (h : okM c.up = true) (text : List Int) : ∀ n, (upperA c text n).length ≤ 100000 * n
 | 0 => Nat.le_refl _
 | n + 1 => by
  have h1 := upperA_len h text n
  have h2 := mapdS_len h (text.getD n 0)
  rw [upperA, List.length_append]; omega
theorem caseData_ok {c : CaseS} (h : okC c = true) : okM (caseData c).lo = true ∧ okM (caseData c).up = true ∧ okM (caseData c).ti = true ∧ (caseData c).ca.length < 1000000 ∧ (caseData c).ig.length < 1000000 := by
 obtain ⟨h1, h2, h3, h4, h5, h6⟩ := okC_spec h
 unfold caseData
 split
 ·exact ⟨h1, h2, h3, h5, h6⟩
 ·exact ⟨rfl, rfl, rfl, by decide, by decide⟩
set_option maxHeartbeats 4000000 in
set_option maxRecDepth 100000 in
theorem each_lower (b : Nat) (c : CaseS) (text : List Int) (w : World) (hM : Mpr w b c text) (hok : okM c.lo = true) (ht : text.length < 100000) (hs : c.ca.length < 1000000 ∧ c.ig.length < 1000000) :
  Calls Try.prog 39 #[.pointer (some ⟨b, 0, none⟩), .func (.func 34) #[.pointer (some ⟨b, 0, none⟩)] #[]] w fun e w' => ∃ v, e = .returned v ∧ Kd.R (Kd.int .i64) 3 w' w.heap.size (fun _ => True) v (lowerA c text text.length) ∧ Below w.heap.size w w' := by
 have HMP := aM hM
 have HOK := aM hok
 have HT := aM ht
 have HS := aM hs
 clear hs
 obtain ⟨A0, n0, A1, n1, A2, n2, A3, n3, A4, n4, A5, n5, At, nt, hA⟩ := hM
 have c6 := hA.c6
 clear hA hok ht
 go_enter Try.func39, Try.ntmps39
 go_wp2
 go_loopw [5, 12] (fun lv i wr => ∃ k : Nat, i = .int .i64 k ∧ Aside0 (k ≤ text.length) ∧ Aside0 (Kd.R (Kd.int .i64) 3 wr w.heap.size (fun _ => True) lv (lowerA c text k)) ∧ Aside0 (Below w.heap.size w wr)) (fun _ i _ => text.length - (intOf i).toNat)
 case atStart => exact ⟨0, rfl, ⟨Nat.zero_le _⟩, ⟨Kd.R_nil _ _ _ _ _⟩, ⟨Below.refl _ _⟩⟩
 case round =>
  clear c6
  obtain ⟨k, rfl, HK, HO, HB⟩ := hrel
  by_cases hlt : k < text.length
  ·have HLT := aM hlt
   have hdl : decide ((k : Int) < (text.length : Int)) = true := dT (by omega)
   have hw : wrap64 ((k : Int) + 1) = (k : Int) + 1 := by have := HT.out; unfold wrap64; omega
   have hd2 : decide (k < text.length) = true := dT hlt
   have hd3 : (k < text.length) = True := eq_true hlt
   have hpc := fun W => lower_calls b c text k W
   have HWL := aM (lowerS_len HOK.out text k)
   have hnx : lowerA c text (k + 1) = lowerA c text k ++ lowerS c text k := rfl
   generalize lowerS c text k = wl at *
   have HPC := aM hpc
   have HNX := aM hnx
   clear hlt hpc hnx
   go_wp2_with (first | (go_at_call 34; (with_reducible refine (HPC.out _ (HMP.out.below HB.out) HLT.out HOK.out (by have := HT.out; omega) HS.out).mono ?_); rintro e w1 ⟨v1, rfl, hv, hb⟩; obtain ⟨A1, c1, rfl⟩ := Kd.R_slice hv; have HV := aM hv; have HO1 := aM (Kd.R_below HO.out hb); have HB1 := aM (bSp HB.out hb); clear hv hb) | (at_builtin; refine Kd.R_append_rows (Kd.int .i64) (w0 := w1) w.heap.size rfl (.tmp 15) (.tmp 18) 28 3 (.int .i64 0) 8 rfl Try.underlying28 info3 rfl (by decide) (by omega) u5 (lowerA c text k) wl _ _ _ (fun _ => True) (fun _ => False) rfl rfl ?aO ?aR (fun _ _ h => h) (fun _ h => h.elim) ?aF ?aB ?aS ?aL ?_; (case aR => exact (Kd.R_reads' HV.out).2.2); (case aB => exact Below.refl _ _); (case aF => exact (fun _ _ => trivial)); (case aO => exact HO1.out); (case aS => exact HB1.out.size); (case aL => have h1_ := lowerA_len HOK.out text k; have h2_ := HWL.out; have h3_ := HT.out; have h4_ := HLT.out; omega); intro v4 w4 ho hb hg hat; have HO4 := aM ho; have HB4 := aM (HB1.out.grown hg HB1.out.size (fun k_ hk_ => Kd.R_base HO1.out k_ hk_)); clear ho hb hg hat))
   go_roundw
   case rel => exact ⟨k + 1, by rw [hw]; rfl, HLT, ⟨by rw [HNX.out]; exact HO4.out⟩, HB4⟩
   case measure => rw [hw]; simp only [intOf]; have := HLT.out; omega
  ·obtain rfl : k = text.length := by have := HK.out; omega
   have hdl : decide ((text.length : Int) < (text.length : Int)) = false := decide_eq_false (by omega)
   have hd2 : decide (text.length < text.length) = false := decide_eq_false (by omega)
   have hd3 : (text.length < text.length) = False := eq_false (by omega)
   clear hlt
   go_wp2
   go_ret
   exact ⟨u5, rfl, HO.out, HB.out⟩
set_option maxHeartbeats 4000000 in
set_option maxRecDepth 100000 in
theorem each_upper (b : Nat) (c : CaseS) (text : List Int) (w : World) (hM : Mpr w b c text) (hok : okM c.up = true) (ht : text.length < 100000) :
  Calls Try.prog 39 #[.pointer (some ⟨b, 0, none⟩), .func (.func 40) #[.pointer (some ⟨b, 0, none⟩)] #[]] w fun e w' => ∃ v, e = .returned v ∧ Kd.R (Kd.int .i64) 3 w' w.heap.size (fun _ => True) v (upperA c text text.length) ∧ Below w.heap.size w w' := by
 have HMP := aM hM
 have HOK := aM hok
 have HT := aM ht
 obtain ⟨A0, n0, A1, n1, A2, n2, A3, n3, A4, n4, A5, n5, At, nt, hA⟩ := hM
 have c6 := hA.c6
 clear hA hok ht
 go_enter Try.func39, Try.ntmps39
 go_wp2
 go_loopw [5, 12] (fun lv i wr => ∃ k : Nat, i = .int .i64 k ∧ Aside0 (k ≤ text.length) ∧ Aside0 (Kd.R (Kd.int .i64) 3 wr w.heap.size (fun _ => True) lv (upperA c text k)) ∧ Aside0 (Below w.heap.size w wr)) (fun _ i _ => text.length - (intOf i).toNat)
 case atStart => exact ⟨0, rfl, ⟨Nat.zero_le _⟩, ⟨Kd.R_nil _ _ _ _ _⟩, ⟨Below.refl _ _⟩⟩
 case round =>
  clear c6
  obtain ⟨k, rfl, HK, HO, HB⟩ := hrel
  by_cases hlt : k < text.length
  ·have HLT := aM hlt
   have hdl : decide ((k : Int) < (text.length : Int)) = true := dT (by omega)
   have hw : wrap64 ((k : Int) + 1) = (k : Int) + 1 := by have := HT.out; unfold wrap64; omega
   have hd2 : decide (k < text.length) = true := dT hlt
   have hd3 : (k < text.length) = True := eq_true hlt
   have hpc := fun W => upper_calls b c text k W
   have HWL := aM (mapdS_len HOK.out (text.getD k 0))
   have hnx : upperA c text (k + 1) = upperA c text k ++ mapdS c.up (text.getD k 0) := rfl
   generalize mapdS c.up (text.getD k 0) = wl at *
   have HPC := aM hpc
   have HNX := aM hnx
   clear hlt hpc hnx
   go_wp2_with (first | (go_at_call 40; (with_reducible refine (HPC.out _ (HMP.out.below HB.out) HLT.out HOK.out).mono ?_); rintro e w1 ⟨v1, rfl, hv, hb⟩; obtain ⟨A1, c1, rfl⟩ := Kd.R_slice hv; have HV := aM hv; have HO1 := aM (Kd.R_below HO.out hb); have HB1 := aM (bSp HB.out hb); clear hv hb) | (at_builtin; refine Kd.R_append_rows (Kd.int .i64) (w0 := w1) w.heap.size rfl (.tmp 15) (.tmp 18) 28 3 (.int .i64 0) 8 rfl Try.underlying28 info3 rfl (by decide) (by omega) u5 (upperA c text k) wl _ _ _ (fun _ => True) (fun _ => False) rfl rfl ?aO ?aR (fun _ _ h => h) (fun _ h => h.elim) ?aF ?aB ?aS ?aL ?_; (case aR => exact (Kd.R_reads' HV.out).2.2); (case aB => exact Below.refl _ _); (case aF => exact (fun _ _ => trivial)); (case aO => exact HO1.out); (case aS => exact HB1.out.size); (case aL => have h1_ := upperA_len HOK.out text k; have h2_ := HWL.out; have h3_ := HT.out; have h4_ := HLT.out; omega); intro v4 w4 ho hb hg hat; have HO4 := aM ho; have HB4 := aM (HB1.out.grown hg HB1.out.size (fun k_ hk_ => Kd.R_base HO1.out k_ hk_)); clear ho hb hg hat))
   go_roundw
   case rel => exact ⟨k + 1, by rw [hw]; rfl, HLT, ⟨by rw [HNX.out]; exact HO4.out⟩, HB4⟩
   case measure => rw [hw]; simp only [intOf]; have := HLT.out; omega
  ·obtain rfl : k = text.length := by have := HK.out; omega
   have hdl : decide ((text.length : Int) < (text.length : Int)) = false := decide_eq_false (by omega)
   have hd2 : decide (text.length < text.length) = false := decide_eq_false (by omega)
   have hd3 : (text.length < text.length) = False := eq_false (by omega)
   clear hlt
   go_wp2
   go_ret
   exact ⟨u5, rfl, HO.out, HB.out⟩
set_option maxHeartbeats 4000000 in
set_option maxRecDepth 100000 in
theorem casemap_Lower.calls (A0_0 : Option Addr) (c0_0 : Nat) (l0_0 : List Mp) (A0_1 : Option Addr) (c0_1 : Nat) (l0_1 : List Mp) (A0_2 : Option Addr) (c0_2 : Nat) (l0_2 : List Mp) (A0_3 : Option Addr) (c0_3 : Nat) (l0_3 : List Mp) (A0_4 : Option Addr) (c0_4 : Nat) (l0_4 : List Rg) (A0_5 : Option Addr) (c0_5 : Nat) (l0_5 : List Rg) (A1 : Option Addr) (c1 : Nat) (l1 : List Int) (r : List Int) (w : World) (hr0_0 : Kd.C k43 w A0_0 l0_0.length l0_0) (hc0_0 : l0_0.length ≤ c0_0) (hr0_1 : Kd.C k43 w A0_1 l0_1.length l0_1) (hc0_1 : l0_1.length ≤ c0_1) (hr0_2 : Kd.C k43 w A0_2 l0_2.length l0_2) (hc0_2 : l0_2.length ≤ c0_2) (hr0_3 : Kd.C k43 w A0_3 l0_3.length l0_3) (hc0_3 : l0_3.length ≤ c0_3) (hr0_4 : Kd.C k33 w A0_4 l0_4.length l0_4) (hc0_4 : l0_4.length ≤ c0_4) (hr0_5 : Kd.C k33 w A0_5 l0_5.length l0_5) (hc0_5 : l0_5.length ≤ c0_5) (hr1 : Kd.C (Kd.int .i64) w A1 l1.length l1) (hc1 : l1.length ≤ c1) (h : casemap_Lower.f l0_0 l0_1 l0_2 l0_3 l0_4 l0_5 l1 = some r) :
  Calls Try.prog 18 #[.agg #[.slice A0_0 l0_0.length c0_0, .slice A0_1 l0_1.length c0_1, .slice A0_2 l0_2.length c0_2, .slice A0_3 l0_3.length c0_3, .slice A0_4 l0_4.length c0_4, .slice A0_5 l0_5.length c0_5], .slice A1 l1.length c1] w fun e w' => ∃ v0_ : Value, e = .returned (v0_) ∧ Kd.R (Kd.int .i64) 3 w' w.heap.size (fun _ => True) v0_ r ∧ Below w.heap.size w w' := by
 unfold casemap_Lower.f at h
 by_cases hok : okC ⟨l0_0, l0_1, l0_2, l0_3, l0_4, l0_5⟩ = true ∧ okT l1 = true
 ·rw [if_pos hok] at h
  injection h with h
  subst h
  obtain ⟨hok, hot⟩ := hok
  have hlt : l1.length < 100000 := by unfold okT at hot; exact oD hot
  obtain ⟨d1, d2, d3, d4, d5⟩ := caseData_ok hok
  have HBX := aM (bAl (Below.refl w.heap.size w) (Obj.cells #[Value.slice A0_0 l0_0.length c0_0, Value.slice A0_1 l0_1.length c0_1, Value.slice A0_2 l0_2.length c0_2, Value.slice A0_3 l0_3.length c0_3, Value.slice A0_4 l0_4.length c0_4, Value.slice A0_5 l0_5.length c0_5] 27))
  have HOK := aM hok
  have HRT := aM hr1
  have HCT := aM hc1
  have HLT := aM hlt
  have HD := aM (And.intro d1 (And.intro d2 (And.intro d3 (And.intro d4 d5))))
  have hu := Try.underlying27
  have HR0 := aM hr0_0
  have HC0 := aM hc0_0
  have HR1 := aM hr0_1
  have HC1 := aM hc0_1
  have HR2 := aM hr0_2
  have HC2 := aM hc0_2
  have HR3 := aM hr0_3
  have HC3 := aM hc0_3
  have HR4 := aM hr0_4
  have HC4 := aM hc0_4
  have HR5 := aM hr0_5
  have HC5 := aM hc0_5
  clear hok hot hlt d1 d2 d3 d4 d5 hr1 hc1 hr0_0 hc0_0 hr0_1 hc0_1 hr0_2 hc0_2 hr0_3 hc0_3 hr0_4 hc0_4 hr0_5 hc0_5
  show Calls _ _ _ _ fun e w' => ∃ v0_ : Value, e = .returned (v0_) ∧ Kd.R (Kd.int .i64) 3 w' w.heap.size (fun _ => True) v0_ (lowerA (caseData ⟨l0_0, l0_1, l0_2, l0_3, l0_4, l0_5⟩) l1 l1.length) ∧ Below w.heap.size w w'
  go_enter Try.func18, Try.ntmps18
  go_wp2_with (first | (go_at_call 30; (with_reducible refine (open_calls A0_0 c0_0 l0_0 A0_1 c0_1 l0_1 A0_2 c0_2 l0_2 A0_3 c0_3 l0_3 A0_4 c0_4 l0_4 A0_5 c0_5 l0_5 A1 c1 l1 _ (Kd.C_below HR0.out HBX.out) HC0.out (Kd.C_below HR1.out HBX.out) HC1.out (Kd.C_below HR2.out HBX.out) HC2.out (Kd.C_below HR3.out HBX.out) HC3.out (Kd.C_below HR4.out HBX.out) HC4.out (Kd.C_below HR5.out HBX.out) HC5.out (Kd.C_below HRT.out HBX.out) HCT.out HOK.out).mono ?_); rintro e w2 ⟨b, rfl, hm, hb⟩; have HM := aM hm; have HB2 := aM (bSp HBX.out hb); clear hm hb) | (go_at_call 39; (with_reducible refine (each_lower b (caseData ⟨l0_0, l0_1, l0_2, l0_3, l0_4, l0_5⟩) l1 _ HM.out HD.out.1 HLT.out HD.out.2.2.2).mono ?_); rintro e w3 ⟨v3, rfl, hv, hb⟩; have HV := aM (Kd.R_lower hv HB2.out.size); have HB3 := aM (bSp HB2.out hb); clear hv hb))
  go_ret
  exact ⟨v3, rfl, HV.out, HB3.out⟩
 ·rw [if_neg hok] at h; cases h
set_option maxHeartbeats 4000000 in
set_option maxRecDepth 100000 in
theorem casemap_Upper.calls (A0_0 : Option Addr) (c0_0 : Nat) (l0_0 : List Mp) (A0_1 : Option Addr) (c0_1 : Nat) (l0_1 : List Mp) (A0_2 : Option Addr) (c0_2 : Nat) (l0_2 : List Mp) (A0_3 : Option Addr) (c0_3 : Nat) (l0_3 : List Mp) (A0_4 : Option Addr) (c0_4 : Nat) (l0_4 : List Rg) (A0_5 : Option Addr) (c0_5 : Nat) (l0_5 : List Rg) (A1 : Option Addr) (c1 : Nat) (l1 : List Int) (r : List Int) (w : World) (hr0_0 : Kd.C k43 w A0_0 l0_0.length l0_0) (hc0_0 : l0_0.length ≤ c0_0) (hr0_1 : Kd.C k43 w A0_1 l0_1.length l0_1) (hc0_1 : l0_1.length ≤ c0_1) (hr0_2 : Kd.C k43 w A0_2 l0_2.length l0_2) (hc0_2 : l0_2.length ≤ c0_2) (hr0_3 : Kd.C k43 w A0_3 l0_3.length l0_3) (hc0_3 : l0_3.length ≤ c0_3) (hr0_4 : Kd.C k33 w A0_4 l0_4.length l0_4) (hc0_4 : l0_4.length ≤ c0_4) (hr0_5 : Kd.C k33 w A0_5 l0_5.length l0_5) (hc0_5 : l0_5.length ≤ c0_5) (hr1 : Kd.C (Kd.int .i64) w A1 l1.length l1) (hc1 : l1.length ≤ c1) (h : casemap_Upper.f l0_0 l0_1 l0_2 l0_3 l0_4 l0_5 l1 = some r) :
  Calls Try.prog 19 #[.agg #[.slice A0_0 l0_0.length c0_0, .slice A0_1 l0_1.length c0_1, .slice A0_2 l0_2.length c0_2, .slice A0_3 l0_3.length c0_3, .slice A0_4 l0_4.length c0_4, .slice A0_5 l0_5.length c0_5], .slice A1 l1.length c1] w fun e w' => ∃ v0_ : Value, e = .returned (v0_) ∧ Kd.R (Kd.int .i64) 3 w' w.heap.size (fun _ => True) v0_ r ∧ Below w.heap.size w w' := by
 unfold casemap_Upper.f at h
 by_cases hok : okC ⟨l0_0, l0_1, l0_2, l0_3, l0_4, l0_5⟩ = true ∧ okT l1 = true
 ·rw [if_pos hok] at h
  injection h with h
  subst h
  obtain ⟨hok, hot⟩ := hok
  have hlt : l1.length < 100000 := by unfold okT at hot; exact oD hot
  obtain ⟨d1, d2, d3, d4, d5⟩ := caseData_ok hok
  have HBX := aM (bAl (Below.refl w.heap.size w) (Obj.cells #[Value.slice A0_0 l0_0.length c0_0, Value.slice A0_1 l0_1.length c0_1, Value.slice A0_2 l0_2.length c0_2, Value.slice A0_3 l0_3.length c0_3, Value.slice A0_4 l0_4.length c0_4, Value.slice A0_5 l0_5.length c0_5] 27))
  have HOK := aM hok
  have HRT := aM hr1
  have HCT := aM hc1
  have HLT := aM hlt
  have HD := aM (And.intro d1 (And.intro d2 (And.intro d3 (And.intro d4 d5))))
  have hu := Try.underlying27
  have HR0 := aM hr0_0
  have HC0 := aM hc0_0
  have HR1 := aM hr0_1
  have HC1 := aM hc0_1
  have HR2 := aM hr0_2
  have HC2 := aM hc0_2
  have HR3 := aM hr0_3
  have HC3 := aM hc0_3
  have HR4 := aM hr0_4
  have HC4 := aM hc0_4
  have HR5 := aM hr0_5
  have HC5 := aM hc0_5
  clear hok hot hlt d1 d2 d3 d4 d5 hr1 hc1 hr0_0 hc0_0 hr0_1 hc0_1 hr0_2 hc0_2 hr0_3 hc0_3 hr0_4 hc0_4 hr0_5 hc0_5
  show Calls _ _ _ _ fun e w' => ∃ v0_ : Value, e = .returned (v0_) ∧ Kd.R (Kd.int .i64) 3 w' w.heap.size (fun _ => True) v0_ (upperA (caseData ⟨l0_0, l0_1, l0_2, l0_3, l0_4, l0_5⟩) l1 l1.length) ∧ Below w.heap.size w w'
  go_enter Try.func19, Try.ntmps19
  go_wp2_with (first | (go_at_call 30; (with_reducible refine (open_calls A0_0 c0_0 l0_0 A0_1 c0_1 l0_1 A0_2 c0_2 l0_2 A0_3 c0_3 l0_3 A0_4 c0_4 l0_4 A0_5 c0_5 l0_5 A1 c1 l1 _ (Kd.C_below HR0.out HBX.out) HC0.out (Kd.C_below HR1.out HBX.out) HC1.out (Kd.C_below HR2.out HBX.out) HC2.out (Kd.C_below HR3.out HBX.out) HC3.out (Kd.C_below HR4.out HBX.out) HC4.out (Kd.C_below HR5.out HBX.out) HC5.out (Kd.C_below HRT.out HBX.out) HCT.out HOK.out).mono ?_); rintro e w2 ⟨b, rfl, hm, hb⟩; have HM := aM hm; have HB2 := aM (bSp HBX.out hb); clear hm hb) | (go_at_call 39; (with_reducible refine (each_upper b (caseData ⟨l0_0, l0_1, l0_2, l0_3, l0_4, l0_5⟩) l1 _ HM.out HD.out.2.1 HLT.out).mono ?_); rintro e w3 ⟨v3, rfl, hv, hb⟩; have HV := aM (Kd.R_lower hv HB2.out.size); have HB3 := aM (bSp HB2.out hb); clear hv hb))
  go_ret
  exact ⟨v3, rfl, HV.out, HB3.out⟩
 ·rw [if_neg hok] at h; cases h
set_option maxHeartbeats 4000000 in
set_option maxRecDepth 100000 in
theorem casemap_Final.calls (A0_0 : Option Addr) (c0_0 : Nat) (l0_0 : List Mp) (A0_1 : Option Addr) (c0_1 : Nat) (l0_1 : List Mp) (A0_2 : Option Addr) (c0_2 : Nat) (l0_2 : List Mp) (A0_3 : Option Addr) (c0_3 : Nat) (l0_3 : List Mp) (A0_4 : Option Addr) (c0_4 : Nat) (l0_4 : List Rg) (A0_5 : Option Addr) (c0_5 : Nat) (l0_5 : List Rg) (A1 : Option Addr) (c1 : Nat) (l1 : List Int) (a2 : Int) (r : Bool) (w : World) (hr0_0 : Kd.C k43 w A0_0 l0_0.length l0_0) (hc0_0 : l0_0.length ≤ c0_0) (hr0_1 : Kd.C k43 w A0_1 l0_1.length l0_1) (hc0_1 : l0_1.length ≤ c0_1) (hr0_2 : Kd.C k43 w A0_2 l0_2.length l0_2) (hc0_2 : l0_2.length ≤ c0_2) (hr0_3 : Kd.C k43 w A0_3 l0_3.length l0_3) (hc0_3 : l0_3.length ≤ c0_3) (hr0_4 : Kd.C k33 w A0_4 l0_4.length l0_4) (hc0_4 : l0_4.length ≤ c0_4) (hr0_5 : Kd.C k33 w A0_5 l0_5.length l0_5) (hc0_5 : l0_5.length ≤ c0_5) (hr1 : Kd.C (Kd.int .i64) w A1 l1.length l1) (hc1 : l1.length ≤ c1) (h : casemap_Final.f l0_0 l0_1 l0_2 l0_3 l0_4 l0_5 l1 a2 = some r) :
  Calls Try.prog 22 #[.agg #[.slice A0_0 l0_0.length c0_0, .slice A0_1 l0_1.length c0_1, .slice A0_2 l0_2.length c0_2, .slice A0_3 l0_3.length c0_3, .slice A0_4 l0_4.length c0_4, .slice A0_5 l0_5.length c0_5], .slice A1 l1.length c1, .int .i64 a2] w fun e w' => e = .returned (.bool r) ∧ Below w.heap.size w w' := by
 unfold casemap_Final.f at h
 by_cases hok : okC ⟨l0_0, l0_1, l0_2, l0_3, l0_4, l0_5⟩ = true ∧ okT l1 = true
 ·rw [if_pos hok] at h
  injection h with h
  subst h
  obtain ⟨hok, hot⟩ := hok
  have hlt : l1.length < 100000 := by unfold okT at hot; exact oD hot
  obtain ⟨d1, d2, d3, d4, d5⟩ := caseData_ok hok
  have HBX := aM (bAl (Below.refl w.heap.size w) (Obj.cells #[Value.slice A0_0 l0_0.length c0_0, Value.slice A0_1 l0_1.length c0_1, Value.slice A0_2 l0_2.length c0_2, Value.slice A0_3 l0_3.length c0_3, Value.slice A0_4 l0_4.length c0_4, Value.slice A0_5 l0_5.length c0_5] 27))
  have HOK := aM hok
  have HRT := aM hr1
  have HCT := aM hc1
  have HLT := aM hlt
  have HD := aM (And.intro d1 (And.intro d2 (And.intro d3 (And.intro d4 d5))))
  have hu := Try.underlying27
  have HR0 := aM hr0_0
  have HC0 := aM hc0_0
  have HR1 := aM hr0_1
  have HC1 := aM hc0_1
  have HR2 := aM hr0_2
  have HC2 := aM hc0_2
  have HR3 := aM hr0_3
  have HC3 := aM hc0_3
  have HR4 := aM hr0_4
  have HC4 := aM hc0_4
  have HR5 := aM hr0_5
  have HC5 := aM hc0_5
  clear hok hot hlt d1 d2 d3 d4 d5 hr1 hc1 hr0_0 hc0_0 hr0_1 hc0_1 hr0_2 hc0_2 hr0_3 hc0_3 hr0_4 hc0_4 hr0_5 hc0_5
  go_enter Try.func22, Try.ntmps22
  go_wp2_with (first | (go_at_call 30; (with_reducible refine (open_calls A0_0 c0_0 l0_0 A0_1 c0_1 l0_1 A0_2 c0_2 l0_2 A0_3 c0_3 l0_3 A0_4 c0_4 l0_4 A0_5 c0_5 l0_5 A1 c1 l1 _ (Kd.C_below HR0.out HBX.out) HC0.out (Kd.C_below HR1.out HBX.out) HC1.out (Kd.C_below HR2.out HBX.out) HC2.out (Kd.C_below HR3.out HBX.out) HC3.out (Kd.C_below HR4.out HBX.out) HC4.out (Kd.C_below HR5.out HBX.out) HC5.out (Kd.C_below HRT.out HBX.out) HCT.out HOK.out).mono ?_); rintro e w2 ⟨b, rfl, hm, hb⟩; have HM := aM hm; have HB2 := aM (bSp HBX.out hb); clear hm hb) | (go_at_call 45; (with_reducible refine (final_calls b (caseData ⟨l0_0, l0_1, l0_2, l0_3, l0_4, l0_5⟩) l1 a2 _ HM.out (by have := HLT.out; omega) HD.out.2.2.2).mono ?_); rintro e w3 ⟨rfl, hb⟩; have HB3 := aM (bSp HB2.out hb); clear hb))
  go_ret
  exact ⟨rfl, HB3.out⟩
 ·rw [if_neg hok] at h; cases h
end Go.Proofs.Ythnkmcfhpjmihaa.Q
end
section
namespace Go.Proofs.Ythnkmcfhpjmihaa.Q
open Go.RowKit Go.Proofs.YthnkmcfhpjmihaaW.PrintWords Go.Proofs.YthnkmcfhpjmihaaW.PrintLast Go.Proofs.YthnkmcfhpjmihaaW.PrintMore
attribute [local go_sem] max2_int min2_int max_two min_two max_three min_three max_four min_four
set_option linter.unusedVariables false
set_option linter.unusedSimpArgs false
mutual
def r37_near.l0 : Nat → List Int → Int → Int → List (S43) → List (S43) → List (S43) → List (S43) → List (S33) → List (S33) → Option (Bool)
 | 0, _, _, _, _, _, _, _, _, _ => none
 | k + 1, x1, x2, x3, x281000, x281001, x281002, x281003, x281004, x281005 => if x2 ≥ 0 then (r37_near.j1 k x1 x2 x3 (decide (x2 < (x1.length : Int))) x281000 x281001 x281002 x281003 x281004 x281005) else (r37_near.j1 k x1 x2 x3 false x281000 x281001 x281002 x281003 x281004 x281005)
def r37_near.j1 : Nat → List Int → Int → Int → Bool → List (S43) → List (S43) → List (S43) → List (S43) → List (S33) → List (S33) → Option (Bool)
 | 0, _, _, _, _, _, _, _, _, _, _ => none
 | k + 1, x1, x2, x3, x16, x281000, x281001, x281002, x281003, x281004, x281005 => if x16 = true then (if 0 ≤ x2 then (if x2 < (x1.length : Int) then ((r02_Has.f k x281005 (rd x1 x2)).bind fun t282 => (if t282 = true then (r37_near.l0 k x1 (wrap64 (x2 + x3)) x3 x281000 x281001 x281002 x281003 x281004 x281005) else ((r02_Has.f k x281004 (rd x1 x2)).bind fun t284 => (some t284)))) else (none)) else (none)) else (some false)
end
def r37_near.f (k : Nat) (l0_0 : List (S43)) (l0_1 : List (S43)) (l0_2 : List (S43)) (l0_3 : List (S43)) (l0_4 : List (S33)) (l0_5 : List (S33)) (l1 : List Int) (a2 : Int) (a3 : Int) : Option (Bool) := r37_near.l0 k l1 a2 a3 l0_0 l0_1 l0_2 l0_3 l0_4 l0_5
def r37_near.T2 : Bool × List (List Nat × List Nat) := (true, [([], []), ([0], [0]), ([], []), ([], []), ([2, 3], [2, 3]), ([4], [4]), ([1, 5], [1, 5]), ([6], [6])])
def r37_near.B2 : List Nat := [0, 1, 0, 0, 12, 28, 63, 127]
def r37_near.T3 : Bool × List (List Nat × List Nat) := (true, [([], []), ([0], [0]), ([], []), ([], []), ([2, 3], [2, 3]), ([4], [4]), ([1, 5], [1, 5]), ([6, 6, 0, 1, 2, 3, 4, 5, 6], [6])])
def r37_near.B3 : List Nat := [0, 1, 0, 0, 12, 28, 63, 127]
attribute [local go_sem] max2_int min2_int max_two min_two max_three min_three max_four min_four
set_option linter.unusedVariables false
set_option linter.unusedSimpArgs false
def r37_final.f (k : Nat) (l0_0 : List (S43)) (l0_1 : List (S43)) (l0_2 : List (S43)) (l0_3 : List (S43)) (l0_4 : List (S33)) (l0_5 : List (S33)) (l1 : List Int) (a2 : Int) : Option (Bool) := (r37_near.f k l0_0 l0_1 l0_2 l0_3 l0_4 l0_5 l1 (wrap64 (a2 - 1)) (-1)).bind fun t286 => (if t286 = true then ((r37_near.f k l0_0 l0_1 l0_2 l0_3 l0_4 l0_5 l1 (wrap64 (a2 + 1)) 1).bind fun t287 => (some (!t287))) else (some false))
def r37_Final.f (k : Nat) (l0_0 : List (S43)) (l0_1 : List (S43)) (l0_2 : List (S43)) (l0_3 : List (S43)) (l0_4 : List (S33)) (l0_5 : List (S33)) (l1 : List Int) (a2 : Int) : Option (Bool) := if a2 ≥ 0 then (if a2 < (l1.length : Int) then ((r37_Data.f k l0_0 l0_1 l0_2 l0_3 l0_4 l0_5).bind fun bt289 => ((r37_final.f k bt289.1 bt289.2.1 bt289.2.2.1 bt289.2.2.2.1 bt289.2.2.2.2.1 bt289.2.2.2.2.2 l1 a2).bind fun t307 => (some t307))) else (some false)) else (some false)
attribute [local go_sem] max2_int min2_int max_two min_two max_three min_three max_four min_four
set_option linter.unusedVariables false
set_option linter.unusedSimpArgs false
def r11_find.l0 : Nat → List (S43) → Int → ByteArray → Int → Option (List Int × Bool)
 | 0, _, _, _, _ => none
 | k + 1, x0, x1, x2, x8 => if x8 < (x0.length : Int) then (if 0 ≤ x8 then (if ((rd_T43 x0 x8).f0) = x1 then (if ((rd_T43 x0 x8).f2).toList = x2.toList then ((some (([] : List Int) : List Int)).bind fun y316 => (if y316.length + ((rd_T43 x0 x8).f1).length < 17592186044416 then (some ((y316 ++ ((rd_T43 x0 x8).f1)), true)) else (none))) else (r11_find.l0 k x0 x1 x2 (wrap64 (x8 + 1)))) else (r11_find.l0 k x0 x1 x2 (wrap64 (x8 + 1)))) else (none)) else (some (([] : List Int), false))
def r11_find.f (k : Nat) (l0 : List (S43)) (a1 : Int) (a2 : ByteArray) : Option (List Int × Bool) := r11_find.l0 k l0 a1 a2 0
set_option maxHeartbeats 8000000 in
set_option maxRecDepth 100000 in
theorem r11_find.calls (k : Nat) (A0 : Option Addr) (c0 : Nat) (l0 : List (S43)) (a1 : Int) (a2 : ByteArray) (r1 : List Int) (r2 : Bool) (w : World) (hr0 : Kd.C k43 w A0 l0.length l0) (hc0 : l0.length ≤ c0) (h : r11_find.f k l0 a1 a2 = some (r1, r2)) :
  Calls Try.prog 85 #[.slice A0 l0.length c0, .int .i64 a1, .string a2] w fun e w' => ∃ v0_ : Value, e = .returned (.tuple #[v0_, .bool r2]) ∧ Kd.R (Kd.int .i64) 3 w' w.heap.size (fun _ => True) v0_ r1 ∧ Below w.heap.size w w' := by
 have HR0 := aM hr0
 have HC0 := aM hc0
 clear hr0 hc0
 have HB := aM (Below.refl w.heap.size w)
 have H : (r11_find.l0 k l0 a1 a2 0) = some (r1, r2) := h
 clear h
 have H' := aM H
 clear H
 go_enter Try.func85, Try.ntmps85
 go_wp2
 go_loopg [8] k (fun kq v8 w' => ∃ (x8_1 : Int), v8 = .int .i64 x8_1 ∧ Aside0 (r11_find.l0 kq l0 a1 a2 x8_1 = some (r1, r2)) ∧ Aside0 (kq ≤ k) ∧ Aside0 (Below w.heap.size w w'))
 case atStart => exact ⟨(0), (by first | rfl | (simp; done) | (simp [*]; done)), H', ⟨Nat.le_refl _⟩, ⟨by repeat (first | (with_reducible first | exact HB.out | apply bAl | apply pbN | apply bD1) | exact HB.out)⟩⟩
 case round =>
  clear H'
  try clear p2
  obtain ⟨x8_1, rfl, HA, HK1, HB⟩ := hrel
  cases gk with
  | zero => exact absurd HA.out (by simp [r11_find.l0])
  | succ k1 =>
   have H := HA.out
   clear HA
   simp only [r11_find.l0] at H
   by_cases c4 : x8_1 < (l0.length : Int)
   ·rw [if_pos c4] at H
    have c4b0 : decide (x8_1 < (l0.length : Int)) = true := dT c4
    clear c4
    by_cases c5 : 0 ≤ x8_1
    ·rw [if_pos c5] at H
     have c5b0 : decide (0 ≤ x8_1) = true := dT c5
     clear c5
     by_cases c6 : ((rd_T43 l0 x8_1).f0) = a1
     ·rw [if_pos c6] at H
      have c6b0 : (((rd_T43 l0 x8_1).f0) == a1) = true := beq_iff_eq.mpr c6
      have c6b1 : (((rd_T43 l0 x8_1).f0) != a1) = false := bne_eq_false_iff_eq.mpr c6
      clear c6
      by_cases c7 : ((rd_T43 l0 x8_1).f2).toList = a2.toList
      ·rw [if_pos c7] at H
       have c7b0 : (((rd_T43 l0 x8_1).f2).toList == a2.toList) = true := beq_iff_eq.mpr c7
       have c7b1 : (((rd_T43 l0 x8_1).f2).toList != a2.toList) = false := bne_eq_false_iff_eq.mpr c7
       clear c7
       obtain ⟨y316, hy316⟩ : ∃ y_ : List Int, y_ = (([] : List Int)) := ⟨_, rfl⟩
       replace H : (if y316.length + ((rd_T43 l0 x8_1).f1).length < 17592186044416 then (some ((y316 ++ ((rd_T43 l0 x8_1).f1)), true)) else (none)) = some (r1, r2) := by first | (rw [hy316]; with_reducible exact H) | (have H2_ := (Option.bind_some _ _).symm.trans H; rw [hy316]; with_reducible exact H2_) | (have H2_ := (Option.bind_some _ _).symm.trans H; with_reducible exact H2_) | with_reducible exact H | (rw [hy316]; exact H) | exact H
       have Ny316 := aM hy316
       clear hy316
       by_cases c8 : y316.length + ((rd_T43 l0 x8_1).f1).length < 17592186044416
       ·rw [if_pos c8] at H
        have LMc8 := aM c8
        clear c8
        obtain ⟨y320, hy320⟩ : ∃ y_ : List Int, y_ = (y316 ++ ((rd_T43 l0 x8_1).f1)) := ⟨_, rfl⟩
        replace H : (some (y320, true)) = some (r1, r2) := by first | (rw [hy320]; with_reducible exact H) | (have H2_ := (Option.bind_some _ _).symm.trans H; rw [hy320]; with_reducible exact H2_) | (have H2_ := (Option.bind_some _ _).symm.trans H; with_reducible exact H2_) | with_reducible exact H | (rw [hy320]; exact H) | exact H
        have Ny320 := aM hy320
        clear hy320
        simp only [Option.some.injEq, Prod.mk.injEq] at H
        obtain ⟨rfl, rfl⟩ := H
        have p314 : 0 ≤ (x8_1 : Int) := oD (by first | (with_reducible assumption) | assumption)
        have q314 : x8_1 < (l0.length : Int) := oD (by first | (with_reducible assumption) | assumption)
        obtain ⟨ad314, A314_1, c314_1, e314, hx314_0, hx314_1, hx314_2, hl314_1, hi314_1⟩ := at_T43 HR0.out x8_1 p314 q314
        cases e314
        replace hx314_0 := (HB.out.cell (World.block_lt_of_cell? w _ hx314_0)).trans hx314_0
        replace hx314_1 := (HB.out.cell (World.block_lt_of_cell? w _ hx314_1)).trans hx314_1
        replace hx314_2 := (HB.out.cell (World.block_lt_of_cell? w _ hx314_2)).trans hx314_2
        have HR314_1 := aM hi314_1
        have HC314_1 := aM hl314_1
        clear hi314_1 hl314_1
        replace p314 := eq_true p314
        replace q314 := eq_true q314
        have p315 : 0 ≤ (x8_1 : Int) := oD (by first | (with_reducible assumption) | assumption)
        have q315 : x8_1 < (l0.length : Int) := oD (by first | (with_reducible assumption) | assumption)
        obtain ⟨ad315, A315_1, c315_1, e315, hx315_0, hx315_1, hx315_2, hl315_1, hi315_1⟩ := at_T43 HR0.out x8_1 p315 q315
        obtain rfl : ad314 = ad315 := (by injection e315)
        replace hx315_0 := (HB.out.cell (World.block_lt_of_cell? w _ hx315_0)).trans hx315_0
        replace hx315_1 := (HB.out.cell (World.block_lt_of_cell? w _ hx315_1)).trans hx315_1
        replace hx315_2 := (HB.out.cell (World.block_lt_of_cell? w _ hx315_2)).trans hx315_2
        have HR315_1 := aM hi315_1
        have HC315_1 := aM hl315_1
        clear hi315_1 hl315_1
        replace p315 := eq_true p315
        replace q315 := eq_true q315
        have ea_ := Option.some.inj (hx314_1.symm.trans hx315_1)
        injection ea_ with ea_ en_ ec_
        subst ea_
        subst ec_
        clear en_
        go_wp2_with (first | ((with_reducible refine gate_dst (N := 31) rfl ?_); refine Kd.R_lit (Kd.int .i64) _ 3 ?hg (N := 31) ?hd (xs := ([] : List Int)) (inner := []) (ok := fun _ => True) (okp := fun _ => True) ?hr ?hp (fun _ hk => hk) trivial (Below.refl _ _) (Nat.le_refl _) (by simp) ?_; (case hd => rfl); (case hg => rfl); (case hr => first | (go_simp; done) | (go_simp; rfl)); (case hp => exact (Reps.none _ _)); intro v317 w9 ho10 hb hg_ hnew_; clear hg_ hnew_; (first | rw [← Ny316.out] at ho10 | (simp only [Int.reduceToNat] at ho10; rw [← Ny316.out] at ho10)); have n0_ := aM (Kd.R_lower ho10 (bSz (by repeat (first | (with_reducible first | exact HB.out | apply bAl | apply pbN | apply bD1) | exact HB.out)))); have n1_ := aM (bSp (by repeat (first | (with_reducible first | exact HB.out | apply bAl | apply pbN | apply bD1) | exact HB.out)) hb); clear HB; have HO318 := n0_; have HB := n1_; clear n0_ n1_; clear hb ho10; have p319 : 0 ≤ (x8_1 : Int) := oD (by first | (with_reducible assumption) | assumption); have q319 : x8_1 < (l0.length : Int) := oD (by first | (with_reducible assumption) | assumption); obtain ⟨ad319, A319_1, c319_1, e319, hx319_0, hx319_1, hx319_2, hl319_1, hi319_1⟩ := at_T43 HR0.out x8_1 p319 q319; obtain rfl : ad314 = ad319 := (by injection e319); replace hx319_0 := (HB.out.cell (World.block_lt_of_cell? w _ hx319_0)).trans hx319_0; replace hx319_1 := (HB.out.cell (World.block_lt_of_cell? w _ hx319_1)).trans hx319_1; replace hx319_2 := (HB.out.cell (World.block_lt_of_cell? w _ hx319_2)).trans hx319_2; have HR319_1 := aM hi319_1; have HC319_1 := aM hl319_1; clear hi319_1 hl319_1; replace p319 := eq_true p319; replace q319 := eq_true q319) | ((with_reducible refine gate_builtin (b := .append) (xs := #[.tmp 31, .tmp 36]) rfl ?_); at_builtin; refine Kd.R_append_rows (Kd.int .i64) (w0 := w) w.heap.size rfl (.tmp 31) (.tmp 36) 28 3 (.int .i64 0) 8 rfl Try.underlying28 info3 rfl (by decide) (by omega) v317 y316 ((rd_T43 l0 x8_1).f1) _ _ _ (fun _ => True) (fun _ => False) rfl rfl ?aO ?aR (fun _ _ h => h) (fun _ h => h.elim) ?aF ?aB ?aS ?aL ?_; (case aR => repeat (first | exact (Kd.C_below HR319_1.out HB.out) | (with_reducible refine Kd.C_alloc ?_ _) | (with_reducible refine Kd.C_drewN ?_ _) | (with_reducible refine Kd.C_drew ?_))); (case aB => exact (by repeat (first | (with_reducible first | exact HB.out | apply bAl | apply pbN | apply bD1) | exact HB.out))); (case aF => exact (fun _ _ => trivial)); (case aO => exact (by (with_reducible repeat (first | apply Kd.R_alloc | apply Kd.R_drewN | apply Kd.R_drew)); exact HO318.out)); (case aS => exact (bSz (by repeat (first | (with_reducible first | exact HB.out | apply bAl | apply pbN | apply bD1) | exact HB.out)))); (case aL => have := LMc8.out; omega); intro v321 w11 ho hb hg hat; rw [← Ny320.out] at ho; have n0_ := aM (hb); have n1_ := aM (ho); clear HB; clear HO318; have HB := n0_; have HO322 := n1_; clear n0_ n1_; clear ho hb hg hat))
        go_ret2
        exact ⟨_, by first | rfl | (simp [eN, eS] <;> rfl) | (simp [*, eN, eS] <;> rfl), by (with_reducible repeat (first | apply Kd.R_alloc | apply Kd.R_drewN | apply Kd.R_drew)); exact HO322.out, by repeat (first | (with_reducible first | exact HB.out | apply bAl | apply pbN | apply bD1) | exact HB.out)⟩
       ·rw [if_neg c8] at H
        exact absurd H (by simp)
      ·rw [if_neg c7] at H
       have c7b0 : (((rd_T43 l0 x8_1).f2).toList == a2.toList) = false := beq_eq_false_iff_ne.mpr c7
       have c7b1 : (((rd_T43 l0 x8_1).f2).toList != a2.toList) = true := bne_iff_ne.mpr c7
       have H' := aM H
       clear H
       have p314 : 0 ≤ (x8_1 : Int) := oD (by first | (with_reducible assumption) | assumption)
       have q314 : x8_1 < (l0.length : Int) := oD (by first | (with_reducible assumption) | assumption)
       obtain ⟨ad314, A314_1, c314_1, e314, hx314_0, hx314_1, hx314_2, hl314_1, hi314_1⟩ := at_T43 HR0.out x8_1 p314 q314
       cases e314
       replace hx314_0 := (HB.out.cell (World.block_lt_of_cell? w _ hx314_0)).trans hx314_0
       replace hx314_1 := (HB.out.cell (World.block_lt_of_cell? w _ hx314_1)).trans hx314_1
       replace hx314_2 := (HB.out.cell (World.block_lt_of_cell? w _ hx314_2)).trans hx314_2
       have HR314_1 := aM hi314_1
       have HC314_1 := aM hl314_1
       clear hi314_1 hl314_1
       replace p314 := eq_true p314
       replace q314 := eq_true q314
       have p315 : 0 ≤ (x8_1 : Int) := oD (by first | (with_reducible assumption) | assumption)
       have q315 : x8_1 < (l0.length : Int) := oD (by first | (with_reducible assumption) | assumption)
       obtain ⟨ad315, A315_1, c315_1, e315, hx315_0, hx315_1, hx315_2, hl315_1, hi315_1⟩ := at_T43 HR0.out x8_1 p315 q315
       obtain rfl : ad314 = ad315 := (by injection e315)
       replace hx315_0 := (HB.out.cell (World.block_lt_of_cell? w _ hx315_0)).trans hx315_0
       replace hx315_1 := (HB.out.cell (World.block_lt_of_cell? w _ hx315_1)).trans hx315_1
       replace hx315_2 := (HB.out.cell (World.block_lt_of_cell? w _ hx315_2)).trans hx315_2
       have HR315_1 := aM hi315_1
       have HC315_1 := aM hl315_1
       clear hi315_1 hl315_1
       replace p315 := eq_true p315
       replace q315 := eq_true q315
       have ea_ := Option.some.inj (hx314_1.symm.trans hx315_1)
       injection ea_ with ea_ en_ ec_
       subst ea_
       subst ec_
       clear en_
       go_wp2
       go_roundg k1
       case measure => have := HK1.out; omega
       case rel => exact ⟨(wrap64 (x8_1 + 1)), (by first | rfl | (simp; done) | (simp [*]; done)), H', ⟨by have := HK1.out; omega⟩, ⟨by repeat (first | (with_reducible first | exact HB.out | apply bAl | apply pbN | apply bD1) | exact HB.out)⟩⟩
     ·rw [if_neg c6] at H
      have c6b0 : (((rd_T43 l0 x8_1).f0) == a1) = false := beq_eq_false_iff_ne.mpr c6
      have c6b1 : (((rd_T43 l0 x8_1).f0) != a1) = true := bne_iff_ne.mpr c6
      have H' := aM H
      clear H
      have p314 : 0 ≤ (x8_1 : Int) := oD (by first | (with_reducible assumption) | assumption)
      have q314 : x8_1 < (l0.length : Int) := oD (by first | (with_reducible assumption) | assumption)
      obtain ⟨ad314, A314_1, c314_1, e314, hx314_0, hx314_1, hx314_2, hl314_1, hi314_1⟩ := at_T43 HR0.out x8_1 p314 q314
      cases e314
      replace hx314_0 := (HB.out.cell (World.block_lt_of_cell? w _ hx314_0)).trans hx314_0
      replace hx314_1 := (HB.out.cell (World.block_lt_of_cell? w _ hx314_1)).trans hx314_1
      replace hx314_2 := (HB.out.cell (World.block_lt_of_cell? w _ hx314_2)).trans hx314_2
      have HR314_1 := aM hi314_1
      have HC314_1 := aM hl314_1
      clear hi314_1 hl314_1
      replace p314 := eq_true p314
      replace q314 := eq_true q314
      go_wp2
      go_roundg k1
      case measure => have := HK1.out; omega
      case rel => exact ⟨(wrap64 (x8_1 + 1)), (by first | rfl | (simp; done) | (simp [*]; done)), H', ⟨by have := HK1.out; omega⟩, ⟨by repeat (first | (with_reducible first | exact HB.out | apply bAl | apply pbN | apply bD1) | exact HB.out)⟩⟩
    ·rw [if_neg c5] at H
     exact absurd H (by simp)
   ·rw [if_neg c4] at H
    have c4b0 : decide (x8_1 < (l0.length : Int)) = false := decide_eq_false c4
    clear c4
    simp only [Option.some.injEq, Prod.mk.injEq] at H
    obtain ⟨rfl, rfl⟩ := H
    go_wp2
    go_ret2
    exact ⟨_, by first | rfl | (simp [eN, eS] <;> rfl) | (simp [*, eN, eS] <;> rfl), by first | exact Kd.R_nil _ _ _ _ _ | exact Kd.N_nil _ _ _ _ _ | exact Kd.V_nil _ _ _ _ _ | exact Kd.Q_nil _ _ _ _ _ | exact Kd.S_nil _ _ _ _ _, by repeat (first | (with_reducible first | exact HB.out | apply bAl | apply pbN | apply bD1) | exact HB.out)⟩
def r11_Get.f (k : Nat) (l0 : List (S43)) (a1 : Int) (a2 : ByteArray) : Option (List Int × Bool) := (r11_valid.f k l0).bind fun t323 => ((r11_find.f k t323 a1 a2).bind fun bt326 => (some (bt326.1, bt326.2)))
set_option maxHeartbeats 8000000 in
set_option maxRecDepth 100000 in
theorem r11_Get.calls (k : Nat) (A0 : Option Addr) (c0 : Nat) (l0 : List (S43)) (a1 : Int) (a2 : ByteArray) (r1 : List Int) (r2 : Bool) (w : World) (hr0 : Kd.C k43 w A0 l0.length l0) (hc0 : l0.length ≤ c0) (h : r11_Get.f k l0 a1 a2 = some (r1, r2)) :
  Calls Try.prog 67 #[.slice A0 l0.length c0, .int .i64 a1, .string a2] w fun e w' => ∃ v0_ : Value, e = .returned (.tuple #[v0_, .bool r2]) ∧ Kd.R (Kd.int .i64) 3 w' w.heap.size (fun _ => True) v0_ r1 ∧ Below w.heap.size w w' := by
 have HR0 := aM hr0
 have HC0 := aM hc0
 clear hr0 hc0
 have HB := aM (Below.refl w.heap.size w)
 have H : ((r11_valid.f k l0).bind fun t323 => ((r11_find.f k t323 a1 a2).bind fun bt326 => (some (bt326.1, bt326.2)))) = some (r1, r2) := h
 clear h
 replace H := Option.bind_eq_some_iff.mp H
 obtain ⟨t323, A40, H⟩ := H
 replace H : ((r11_find.f k t323 a1 a2).bind fun bt326 => (some (bt326.1, bt326.2))) = some (r1, r2) := H
 have A4 := aM A40
 clear A40
 replace H := Option.bind_eq_some_iff.mp H
 obtain ⟨⟨t326, t327⟩, A50, H⟩ := H
 replace H : (some (t326, t327)) = some (r1, r2) := H
 have A5 := aM A50
 clear A50
 simp only [Option.some.injEq, Prod.mk.injEq] at H
 obtain ⟨rfl, rfl⟩ := H
 go_enter Try.func67, Try.ntmps67
 go_wp2_with (first | ((with_reducible refine gate_callee (f := 86) rfl ?_); refine goesL_ (some 9) rfl rfl Try.func86 (by kernel_rfl) rfl #[.slice A0 l0.length c0] rfl (by (try simp only [List.map_toArray, List.map_cons, List.map_nil]); first | done | rfl | (simp only [List.length_drop, List.length_take]; rfl)) ?_; (with_reducible refine (r11_valid.calls k (fun k_ => k_ < w.heap.size) _ _ l0 t323 _ ?side1 A4.out).mono ?_); (case side1 => exact Kd.V_mk HC0.out (Kd.F_below (Kd.C_F k43_heap HR0.out) (by repeat (first | (with_reducible first | exact HB.out | apply bAl | apply pbN | apply bD1) | exact HB.out)))); rintro e w6 ⟨v324, rfl, ho0, hb⟩; refine ⟨_, rfl, ?_⟩; have n0_ := aM (Kd.V_lower (Kd.V_mono (ok' := fun k_ => True) ho0 (fun k_ hk_ => trivial)) (bSz (by repeat (first | (with_reducible first | exact HB.out | apply bAl | apply pbN | apply bD1) | exact HB.out)))); have n1_ := aM (bSp (by repeat (first | (with_reducible first | exact HB.out | apply bAl | apply pbN | apply bD1) | exact HB.out)) hb); clear HB; have HO325 := n0_; have HB := n1_; clear n0_ n1_; (try clear hb); (try clear hb2); (try clear hk); (try clear hi); (try clear ho0); obtain ⟨Ao7, co7, eo7⟩ := Kd.V_slice HO325.out; subst eo7) | ((with_reducible refine gate_callee (f := 85) rfl ?_); refine goesL_ (some 12) rfl rfl Try.func85 (by kernel_rfl) rfl #[.slice Ao7 t323.length co7, .int .i64 a1, .string a2] rfl (by (try simp only [List.map_toArray, List.map_cons, List.map_nil]); first | done | rfl | (simp only [List.length_drop, List.length_take]; rfl)) ?_; (with_reducible refine (r11_find.calls k _ _ t323 a1 a2 t326 t327 _ ?side1 ?side2 A5.out).mono ?_); (case side1 => repeat (first | exact (Kd.V_reads' HO325.out).2.2 | (with_reducible refine Kd.C_alloc ?_ _) | (with_reducible refine Kd.C_drewN ?_ _) | (with_reducible refine Kd.C_drew ?_))); (case side2 => exact (Kd.V_reads' HO325.out).2.1); rintro e w8 ⟨v328, rfl, ho0, hb⟩; refine ⟨_, rfl, ?_⟩; have n0_ := aM (Kd.V_elder' (by (with_reducible repeat (first | apply Kd.V_alloc | apply Kd.V_drewN | apply Kd.V_drew)); exact HO325.out) (Kd.R_base ho0) hb); have n1_ := aM (Kd.R_lower ho0 (bSz (by repeat (first | (with_reducible first | exact HB.out | apply bAl | apply pbN | apply bD1) | exact HB.out)))); have n2_ := aM (bSp (by repeat (first | (with_reducible first | exact HB.out | apply bAl | apply pbN | apply bD1) | exact HB.out)) hb); clear HO325; clear HB; have HO325 := n0_; have HO329 := n1_; have HB := n2_; clear n0_ n1_ n2_; (try clear hb); (try clear hb2); (try clear hk); (try clear hi); (try clear ho0)))
 go_ret2
 exact ⟨_, by first | rfl | (simp [eN, eS] <;> rfl) | (simp [*, eN, eS] <;> rfl), by (with_reducible repeat (first | apply Kd.R_alloc | apply Kd.R_drewN | apply Kd.R_drew)); exact HO329.out, by repeat (first | (with_reducible first | exact HB.out | apply bAl | apply pbN | apply bD1) | exact HB.out)⟩
def r37_mapped.f (k : Nat) (l0 : List (S43)) (a1 : Int) : Option (List Int) := (r11_Get.f k l0 a1 (⟨#[]⟩ : ByteArray)).bind fun bt330 => (if bt330.2 = true then (some bt330.1) else (some (([a1] : List Int))))
set_option maxHeartbeats 8000000 in
set_option maxRecDepth 100000 in
theorem r37_mapped.calls (k : Nat) (A0 : Option Addr) (c0 : Nat) (l0 : List (S43)) (a1 : Int) (r : List Int) (w : World) (hr0 : Kd.C k43 w A0 l0.length l0) (hc0 : l0.length ≤ c0) (h : r37_mapped.f k l0 a1 = some r) :
  Calls Try.prog 49 #[.slice A0 l0.length c0, .int .i64 a1] w fun e w' => ∃ v0_ : Value, e = .returned (v0_) ∧ Kd.R (Kd.int .i64) 3 w' w.heap.size (fun _ => True) v0_ r ∧ Below w.heap.size w w' := by
 have HR0 := aM hr0
 have HC0 := aM hc0
 clear hr0 hc0
 have HB := aM (Below.refl w.heap.size w)
 have H : ((r11_Get.f k l0 a1 (⟨#[]⟩ : ByteArray)).bind fun bt330 => (if bt330.2 = true then (some bt330.1) else (some (([a1] : List Int))))) = some r := h
 clear h
 replace H := Option.bind_eq_some_iff.mp H
 obtain ⟨⟨t330, t331⟩, A30, H⟩ := H
 replace H : (if t331 = true then (some t330) else (some (([a1] : List Int)))) = some r := H
 have A3 := aM A30
 clear A30
 by_cases c4 : t331 = true
 ·subst c4
  have H1 : (some t330) = some r := by rw [if_pos rfl] at H; exact H
  clear H
  have H := H1
  clear H1
  obtain rfl := Option.some.inj H
  go_enter Try.func49, Try.ntmps49
  go_wp2_with (first | ((with_reducible refine gate_callee (f := 67) rfl ?_); refine goesL_ (some 10) rfl rfl Try.func67 (by kernel_rfl) rfl #[.slice A0 l0.length c0, .int .i64 a1, .string (⟨#[]⟩ : ByteArray)] rfl (by (try simp only [List.map_toArray, List.map_cons, List.map_nil]); first | done | rfl | (simp only [List.length_drop, List.length_take]; rfl)) ?_; (with_reducible refine (r11_Get.calls k _ _ l0 a1 (⟨#[]⟩ : ByteArray) t330 true _ ?side1 ?side2 A3.out).mono ?_); (case side1 => repeat (first | exact HR0.out | (with_reducible refine Kd.C_alloc ?_ _) | (with_reducible refine Kd.C_drewN ?_ _) | (with_reducible refine Kd.C_drew ?_))); (case side2 => exact HC0.out); rintro e w5 ⟨v332, rfl, ho0, hb⟩; refine ⟨_, rfl, ?_⟩; have n0_ := aM (Kd.R_lower ho0 (bSz (by repeat (first | (with_reducible first | exact HB.out | apply bAl | apply pbN | apply bD1) | exact HB.out)))); have n1_ := aM (bSp (by repeat (first | (with_reducible first | exact HB.out | apply bAl | apply pbN | apply bD1) | exact HB.out)) hb); clear HB; have HO333 := n0_; have HB := n1_; clear n0_ n1_; (try clear hb); (try clear hb2); (try clear hk); (try clear hi); (try clear ho0)))
  go_ret
  exact ⟨_, by first | rfl | (simp [eN, eS] <;> rfl) | (simp [*, eN, eS] <;> rfl), by (with_reducible repeat (first | apply Kd.R_alloc | apply Kd.R_drewN | apply Kd.R_drew)); exact HO333.out, by repeat (first | (with_reducible first | exact HB.out | apply bAl | apply pbN | apply bD1) | exact HB.out)⟩
 ·replace c4 := Bool.eq_false_iff.mpr c4
  subst c4
  have H1 : (some (([a1] : List Int))) = some r := by rw [if_neg (show ¬ (false = true) by decide)] at H; exact H
  clear H
  have H := H1
  clear H1
  obtain ⟨y334, hy334⟩ : ∃ y_ : List Int, y_ = (([a1] : List Int)) := ⟨_, rfl⟩
  replace H : (some y334) = some r := by first | (rw [hy334]; with_reducible exact H) | (have H2_ := (Option.bind_some _ _).symm.trans H; rw [hy334]; with_reducible exact H2_) | (have H2_ := (Option.bind_some _ _).symm.trans H; with_reducible exact H2_) | with_reducible exact H | (rw [hy334]; exact H) | exact H
  have Ny334 := aM hy334
  clear hy334
  obtain rfl := Option.some.inj H
  go_enter Try.func49, Try.ntmps49
  go_wp2_with (first | ((with_reducible refine gate_callee (f := 67) rfl ?_); refine goesL_ (some 10) rfl rfl Try.func67 (by kernel_rfl) rfl #[.slice A0 l0.length c0, .int .i64 a1, .string (⟨#[]⟩ : ByteArray)] rfl (by (try simp only [List.map_toArray, List.map_cons, List.map_nil]); first | done | rfl | (simp only [List.length_drop, List.length_take]; rfl)) ?_; (with_reducible refine (r11_Get.calls k _ _ l0 a1 (⟨#[]⟩ : ByteArray) t330 false _ ?side1 ?side2 A3.out).mono ?_); (case side1 => repeat (first | exact HR0.out | (with_reducible refine Kd.C_alloc ?_ _) | (with_reducible refine Kd.C_drewN ?_ _) | (with_reducible refine Kd.C_drew ?_))); (case side2 => exact HC0.out); rintro e w6 ⟨v332, rfl, ho0, hb⟩; refine ⟨_, rfl, ?_⟩; have n0_ := aM (Kd.R_lower ho0 (bSz (by repeat (first | (with_reducible first | exact HB.out | apply bAl | apply pbN | apply bD1) | exact HB.out)))); have n1_ := aM (bSp (by repeat (first | (with_reducible first | exact HB.out | apply bAl | apply pbN | apply bD1) | exact HB.out)) hb); clear HB; have HO333 := n0_; have HB := n1_; clear n0_ n1_; (try clear hb); (try clear hb2); (try clear hk); (try clear hi); (try clear ho0)) | ((with_reducible refine gate_dst (N := 16) rfl ?_); refine Kd.R_lit (Kd.int .i64) _ 3 ?hg (N := 16) ?hd (xs := ([a1] : List Int)) (inner := [.int .i64 a1]) (ok := fun _ => True) (okp := fun _ => True) ?hr ?hp (fun _ hk => hk) trivial (Below.refl _ _) (Nat.le_refl _) (by simp) ?_; (case hd => rfl); (case hg => rfl); (case hr => first | (go_simp; done) | (go_simp; rfl)); (case hp => exact (Reps.one (show Kd.M (Kd.int .i64) _ _ _ a1 [.int .i64 a1] from rfl) (Reps.none _ _))); intro v335 w7 ho8 hb hg_ hnew_; clear hg_ hnew_; (first | rw [← Ny334.out] at ho8 | (simp only [Int.reduceToNat] at ho8; rw [← Ny334.out] at ho8)); have n0_ := aM (Kd.R_elder' (by (with_reducible repeat (first | apply Kd.R_alloc | apply Kd.R_drewN | apply Kd.R_drew)); exact HO333.out) (Kd.R_base ho8) hb); have n1_ := aM (Kd.R_lower (Kd.R_new' ho8 (Kd.R_lt (by (with_reducible repeat (first | apply Kd.R_alloc | apply Kd.R_drewN | apply Kd.R_drew)); exact HO333.out))) (bSz (by repeat (first | (with_reducible first | exact HB.out | apply bAl | apply pbN | apply bD1) | exact HB.out)))); have n2_ := aM (bSp (by repeat (first | (with_reducible first | exact HB.out | apply bAl | apply pbN | apply bD1) | exact HB.out)) hb); clear HO333; clear HB; have HO333 := n0_; have HO336 := n1_; have HB := n2_; clear n0_ n1_ n2_; clear hb ho8))
  go_ret
  exact ⟨_, by first | rfl | (simp [eN, eS] <;> rfl) | (simp [*, eN, eS] <;> rfl), by (with_reducible repeat (first | apply Kd.R_alloc | apply Kd.R_drewN | apply Kd.R_drew)); exact Kd.R_mono HO336.out (fun _ hk => trivial), by repeat (first | (with_reducible first | exact HB.out | apply bAl | apply pbN | apply bD1) | exact HB.out)⟩
attribute [local go_sem] max2_int min2_int max_two min_two max_three min_three max_four min_four
set_option linter.unusedVariables false
set_option linter.unusedSimpArgs false
def r37_lower.f (k : Nat) (l0_0 : List (S43)) (l0_1 : List (S43)) (l0_2 : List (S43)) (l0_3 : List (S43)) (l0_4 : List (S33)) (l0_5 : List (S33)) (l1 : List Int) (a2 : Int) : Option (List Int) := if 0 ≤ a2 then (if a2 < (l1.length : Int) then ((r11_Get.f k l0_0 (rd l1 a2) (⟨#[102, 105, 110, 97, 108]⟩ : ByteArray)).bind fun bt339 => (if bt339.2 = true then ((r37_final.f k l0_0 l0_1 l0_2 l0_3 l0_4 l0_5 l1 a2).bind fun t343 => (if t343 = true then (some bt339.1) else ((r37_mapped.f k l0_0 (rd l1 a2)).bind fun t345 => (some t345)))) else ((r37_mapped.f k l0_0 (rd l1 a2)).bind fun t349 => (some t349)))) else (none)) else (none)
def r37_lower.T1 : Bool × List (List Nat × List Nat) := (true, [([], []), ([0], [0]), ([], []), ([], []), ([2, 3], [2, 3]), ([4], [4]), ([1, 5], [1, 5]), ([6], [6]), ([7], [7]), ([7], [7]), ([8, 6, 0, 1, 2, 3, 4, 5, 6, 7, 8], [8]), ([9, 10, 0, 1, 2, 3, 4, 5, 6, 7, 8, 9, 10], [9])])
def r37_lower.B1 : List Nat := [0, 1, 0, 0, 12, 28, 63, 127, 255, 255, 511, 2047]
def r37_lower.T4 : Bool × List (List Nat × List Nat) := (true, [([], []), ([0], [0]), ([], []), ([], []), ([2, 3], [2, 3]), ([4], [4]), ([1, 5], [1, 5]), ([6, 6, 0, 1, 2, 3, 4, 5, 6], [6])])
def r37_lower.B4 : List Nat := [0, 1, 0, 0, 12, 28, 63, 127]
attribute [local go_sem] max2_int min2_int max_two min_two max_three min_three max_four min_four
set_option linter.unusedVariables false
set_option linter.unusedSimpArgs false
def r37_Lower.l0 : Nat → List Int → List Int → Int → List (S43) → List (S43) → List (S43) → List (S43) → List (S33) → List (S33) → Option (List Int)
 | 0, _, _, _, _, _, _, _, _, _ => none
 | k + 1, x1, x6, x7, x372000, x372001, x372002, x372003, x372004, x372005 => if x7 < (x1.length : Int) then ((r37_lower.f k x372000 x372001 x372002 x372003 x372004 x372005 x1 x7).bind fun t372 => (if x6.length + t372.length < 17592186044416 then (r37_Lower.l0 k x1 (x6 ++ t372) (wrap64 (x7 + 1)) x372000 x372001 x372002 x372003 x372004 x372005) else (none))) else (some x6)
def r37_Lower.f (k : Nat) (l0_0 : List (S43)) (l0_1 : List (S43)) (l0_2 : List (S43)) (l0_3 : List (S43)) (l0_4 : List (S33)) (l0_5 : List (S33)) (l1 : List Int) : Option (List Int) := (r37_Data.f k l0_0 l0_1 l0_2 l0_3 l0_4 l0_5).bind fun bt353 => (r37_Lower.l0 k l1 ([] : List Int) 0 bt353.1 bt353.2.1 bt353.2.2.1 bt353.2.2.2.1 bt353.2.2.2.2.1 bt353.2.2.2.2.2)
attribute [local go_sem] max2_int min2_int max_two min_two max_three min_three max_four min_four
set_option linter.unusedVariables false
set_option linter.unusedSimpArgs false
def r37_Upper.l0 : Nat → List Int → List Int → Int → List (S43) → List (S43) → List (S43) → List (S43) → List (S33) → List (S33) → Option (List Int)
 | 0, _, _, _, _, _, _, _, _, _ => none
 | k + 1, x1, x6, x7, x398000, x398001, x398002, x398003, x398004, x398005 => if x7 < (x1.length : Int) then (if 0 ≤ x7 then ((r37_mapped.f k x398001 (rd x1 x7)).bind fun t399 => (if x6.length + t399.length < 17592186044416 then (r37_Upper.l0 k x1 (x6 ++ t399) (wrap64 (x7 + 1)) x398000 x398001 x398002 x398003 x398004 x398005) else (none))) else (none)) else (some x6)
def r37_Upper.f (k : Nat) (l0_0 : List (S43)) (l0_1 : List (S43)) (l0_2 : List (S43)) (l0_3 : List (S43)) (l0_4 : List (S33)) (l0_5 : List (S33)) (l1 : List Int) : Option (List Int) := (r37_Data.f k l0_0 l0_1 l0_2 l0_3 l0_4 l0_5).bind fun bt379 => (r37_Upper.l0 k l1 ([] : List Int) 0 bt379.1 bt379.2.1 bt379.2.2.1 bt379.2.2.2.1 bt379.2.2.2.2.1 bt379.2.2.2.2.2)
def r37_Upper.T6 : Bool × List (List Nat × List Nat) := (true, [([], []), ([], []), ([1], [1]), ([], []), ([], []), ([3, 4], [3, 4]), ([5], [5]), ([2, 6], [2, 6]), ([0, 7, 7], [0, 7]), ([8, 8, 0, 1, 2, 3, 4, 5, 6, 7, 8], [0, 8])])
def r37_Upper.B6 : List Nat := [0, 0, 2, 0, 0, 24, 56, 126, 255, 511]
attribute [local go_sem] max2_int min2_int max_two min_two max_three min_three max_four min_four
set_option linter.unusedVariables false
set_option linter.unusedSimpArgs false
def r37_only.f (l0 : List Int) (a1 : Int) : Option (Int) := if (l0.length : Int) = 1 then (if 0 < (l0.length : Int) then (some (rd l0 0)) else (none)) else (some a1)
set_option maxHeartbeats 8000000 in
set_option maxRecDepth 100000 in
theorem r37_only.calls (A0 : Option Addr) (c0 : Nat) (l0 : List Int) (a1 : Int) (r : Int) (w : World) (hr0 : Kd.C (Kd.int .i64) w A0 l0.length l0) (hc0 : l0.length ≤ c0) (h : r37_only.f l0 a1 = some r) :
  Calls Try.prog 52 #[.slice A0 l0.length c0, .int .i64 a1] w fun e w' => e = .returned (.int .i64 r) ∧ Drawn0 w w' := by
 have HR0 := aM hr0
 have HC0 := aM hc0
 clear hr0 hc0
 have H : (if (l0.length : Int) = 1 then (if 0 < (l0.length : Int) then (some (rd l0 0)) else (none)) else (some a1)) = some r := h
 clear h
 by_cases c3 : (l0.length : Int) = 1
 ·rw [if_pos c3] at H
  have c3b0 : ((l0.length : Int) == 1) = true := beq_iff_eq.mpr c3
  have c3b1 : ((l0.length : Int) != 1) = false := bne_eq_false_iff_eq.mpr c3
  clear c3
  by_cases c4 : 0 < (l0.length : Int)
  ·rw [if_pos c4] at H
   have c4b0 : decide (0 < (l0.length : Int)) = true := dT c4
   have c4b1 : decide (0 < l0.length) = true := dT (by omega)
   clear c4
   obtain rfl := Option.some.inj H
   have p478 : 0 ≤ (0 : Int) := (by omega)
   have q478 : 0 < (l0.length : Int) := oD (by first | (with_reducible assumption) | assumption)
   obtain ⟨ad478, e478, hx478_0⟩ := Kd.at_int HR0.out 0 p478 q478
   cases e478
   have qi478 : (0 < l0.length) = True := eq_true (by omega)
   (try rw [show ((0 : Int)).toNat = 0 from rfl] at hx478_0)
   (try rw [Addr.add_zero'] at hx478_0)
   replace p478 := eq_true p478
   replace q478 := eq_true q478
   go_enter Try.func52, Try.ntmps52
   go_wp2
   go_ret
   exact ⟨by first | rfl | (simp; done) | (simp [*]; done), by repeat (first | exact Drawn0.refl _ | apply Drawn0.step)⟩
  ·rw [if_neg c4] at H
   exact absurd H (by simp)
 ·rw [if_neg c3] at H
  have c3b0 : ((l0.length : Int) == 1) = false := beq_eq_false_iff_ne.mpr c3
  have c3b1 : ((l0.length : Int) != 1) = true := bne_iff_ne.mpr c3
  obtain rfl := Option.some.inj H
  go_enter Try.func52, Try.ntmps52
  go_wp2
  go_ret
  exact ⟨by first | rfl | (simp; done) | (simp [*]; done), by repeat (first | exact Drawn0.refl _ | apply Drawn0.step)⟩
attribute [local go_sem] max2_int min2_int max_two min_two max_three min_three max_four min_four
set_option linter.unusedVariables false
set_option linter.unusedSimpArgs false
def r37_Simple.f (k : Nat) (l0_0 : List (S43)) (l0_1 : List (S43)) (l0_2 : List (S43)) (l0_3 : List (S43)) (l0_4 : List (S33)) (l0_5 : List (S33)) (a1 : Int) : Option (Int × Int × Int) := (r37_Data.f k l0_0 l0_1 l0_2 l0_3 l0_4 l0_5).bind fun bt480 => ((r37_mapped.f k bt480.1 a1).bind fun t499 => ((r37_only.f t499 a1).bind fun t502 => ((r37_mapped.f k bt480.2.1 a1).bind fun t503 => ((r37_only.f t503 a1).bind fun t506 => ((r37_mapped.f k bt480.2.2.1 a1).bind fun t507 => ((r37_only.f t507 a1).bind fun t510 => (some (t502, t506, t510))))))))
def r37_Simple.T2 : Bool × List (List Nat × List Nat) := (true, [([], []), ([0], [0]), ([], []), ([1, 2], [1, 2]), ([], []), ([3, 4, 3], [3, 4]), ([], []), ([6], [6]), ([], []), ([7, 8, 5], [7, 8]), ([], []), ([9, 10, 9], [9, 10]), ([], []), ([12], [12]), ([], []), ([13, 14, 11], [13, 14]), ([], []), ([15, 16, 15], [15, 16]), ([5, 17, 0, 1, 2, 3, 4, 5], [5]), ([11, 18, 0, 1, 2, 3, 4, 5, 6, 7, 8, 9, 10, 11, 18], [11]), ([17, 19, 0, 1, 2, 3, 4, 5, 6, 7, 8, 9, 10, 11, 12, 13, 14, 15, 16, 17, 18, 19], [17])])
def r37_Simple.B2 : List Nat := [0, 1, 0, 7, 0, 31, 0, 64, 0, 511, 0, 2047, 0, 4096, 0, 32767, 0, 131071, 262143, 524287, 1048575]
theorem r37_Simple.tab2 : rtab .any (opsOf Try.f27 2) = r37_Simple.T2 := by kernel_rfl
theorem r37_Simple.bits2 : waitsOk r37_Simple.T2.2 r37_Simple.B2 = true := by kernel_rfl
set_option maxHeartbeats 8000000 in
set_option maxRecDepth 100000 in
theorem r37_Simple.calls (k : Nat) (A0_0 : Option Addr) (c0_0 : Nat) (l0_0 : List (S43)) (A0_1 : Option Addr) (c0_1 : Nat) (l0_1 : List (S43)) (A0_2 : Option Addr) (c0_2 : Nat) (l0_2 : List (S43)) (A0_3 : Option Addr) (c0_3 : Nat) (l0_3 : List (S43)) (A0_4 : Option Addr) (c0_4 : Nat) (l0_4 : List (S33)) (A0_5 : Option Addr) (c0_5 : Nat) (l0_5 : List (S33)) (a1 : Int) (r1 : Int) (r2 : Int) (r3 : Int) (w : World) (hr0_0 : Kd.C k43 w A0_0 l0_0.length l0_0) (hc0_0 : l0_0.length ≤ c0_0) (hr0_1 : Kd.C k43 w A0_1 l0_1.length l0_1) (hc0_1 : l0_1.length ≤ c0_1) (hr0_2 : Kd.C k43 w A0_2 l0_2.length l0_2) (hc0_2 : l0_2.length ≤ c0_2) (hr0_3 : Kd.C k43 w A0_3 l0_3.length l0_3) (hc0_3 : l0_3.length ≤ c0_3) (hr0_4 : Kd.C k33 w A0_4 l0_4.length l0_4) (hc0_4 : l0_4.length ≤ c0_4) (hr0_5 : Kd.C k33 w A0_5 l0_5.length l0_5) (hc0_5 : l0_5.length ≤ c0_5) (h : r37_Simple.f k l0_0 l0_1 l0_2 l0_3 l0_4 l0_5 a1 = some (r1, r2, r3)) :
  Calls Try.prog 27 #[.agg #[.slice A0_0 l0_0.length c0_0, .slice A0_1 l0_1.length c0_1, .slice A0_2 l0_2.length c0_2, .slice A0_3 l0_3.length c0_3, .slice A0_4 l0_4.length c0_4, .slice A0_5 l0_5.length c0_5], .int .i64 a1] w fun e w' => e = .returned (.tuple #[.int .i64 r1, .int .i64 r2, .int .i64 r3]) ∧ Below w.heap.size w w' := by
 have hu27 := Try.underlying27
 have HR0_0 := aM hr0_0
 have HC0_0 := aM hc0_0
 clear hr0_0 hc0_0
 have HR0_1 := aM hr0_1
 have HC0_1 := aM hc0_1
 clear hr0_1 hc0_1
 have HR0_2 := aM hr0_2
 have HC0_2 := aM hc0_2
 clear hr0_2 hc0_2
 have HR0_3 := aM hr0_3
 have HC0_3 := aM hc0_3
 clear hr0_3 hc0_3
 have HR0_4 := aM hr0_4
 have HC0_4 := aM hc0_4
 clear hr0_4 hc0_4
 have HR0_5 := aM hr0_5
 have HC0_5 := aM hc0_5
 clear hr0_5 hc0_5
 have HB := aM (Below.refl w.heap.size w)
 have H : ((r37_Data.f k l0_0 l0_1 l0_2 l0_3 l0_4 l0_5).bind fun bt480 => ((r37_mapped.f k bt480.1 a1).bind fun t499 => ((r37_only.f t499 a1).bind fun t502 => ((r37_mapped.f k bt480.2.1 a1).bind fun t503 => ((r37_only.f t503 a1).bind fun t506 => ((r37_mapped.f k bt480.2.2.1 a1).bind fun t507 => ((r37_only.f t507 a1).bind fun t510 => (some (t502, t506, t510))))))))) = some (r1, r2, r3) := h
 clear h
 replace H := Option.bind_eq_some_iff.mp H
 obtain ⟨⟨t480, t483, t486, t489, t492, t495⟩, A30, H⟩ := H
 replace H : ((r37_mapped.f k t480 a1).bind fun t499 => ((r37_only.f t499 a1).bind fun t502 => ((r37_mapped.f k t483 a1).bind fun t503 => ((r37_only.f t503 a1).bind fun t506 => ((r37_mapped.f k t486 a1).bind fun t507 => ((r37_only.f t507 a1).bind fun t510 => (some (t502, t506, t510)))))))) = some (r1, r2, r3) := H
 have A3 := aM A30
 clear A30
 replace H := Option.bind_eq_some_iff.mp H
 obtain ⟨t499, A40, H⟩ := H
 replace H : ((r37_only.f t499 a1).bind fun t502 => ((r37_mapped.f k t483 a1).bind fun t503 => ((r37_only.f t503 a1).bind fun t506 => ((r37_mapped.f k t486 a1).bind fun t507 => ((r37_only.f t507 a1).bind fun t510 => (some (t502, t506, t510))))))) = some (r1, r2, r3) := H
 have A4 := aM A40
 clear A40
 replace H := Option.bind_eq_some_iff.mp H
 obtain ⟨t502, A50, H⟩ := H
 replace H : ((r37_mapped.f k t483 a1).bind fun t503 => ((r37_only.f t503 a1).bind fun t506 => ((r37_mapped.f k t486 a1).bind fun t507 => ((r37_only.f t507 a1).bind fun t510 => (some (t502, t506, t510)))))) = some (r1, r2, r3) := H
 have A5 := aM A50
 clear A50
 replace H := Option.bind_eq_some_iff.mp H
 obtain ⟨t503, A60, H⟩ := H
 replace H : ((r37_only.f t503 a1).bind fun t506 => ((r37_mapped.f k t486 a1).bind fun t507 => ((r37_only.f t507 a1).bind fun t510 => (some (t502, t506, t510))))) = some (r1, r2, r3) := H
 have A6 := aM A60
 clear A60
 replace H := Option.bind_eq_some_iff.mp H
 obtain ⟨t506, A70, H⟩ := H
 replace H : ((r37_mapped.f k t486 a1).bind fun t507 => ((r37_only.f t507 a1).bind fun t510 => (some (t502, t506, t510)))) = some (r1, r2, r3) := H
 have A7 := aM A70
 clear A70
 replace H := Option.bind_eq_some_iff.mp H
 obtain ⟨t507, A80, H⟩ := H
 replace H : ((r37_only.f t507 a1).bind fun t510 => (some (t502, t506, t510))) = some (r1, r2, r3) := H
 have A8 := aM A80
 clear A80
 replace H := Option.bind_eq_some_iff.mp H
 obtain ⟨t510, A90, H⟩ := H
 replace H : (some (t502, t506, t510)) = some (r1, r2, r3) := H
 have A9 := aM A90
 clear A90
 simp only [Option.some.injEq, Prod.mk.injEq] at H
 obtain ⟨rfl, rfl, rfl⟩ := H
 go_enter Try.func27, Try.ntmps27
 try go_wp2_with (first | ((with_reducible refine gate_dst (N := 2) rfl ?_); refine box_event ?hg (N := 2) ?hd (cs := #[.slice A0_0 l0_0.length c0_0, .slice A0_1 l0_1.length c0_1, .slice A0_2 l0_2.length c0_2, .slice A0_3 l0_3.length c0_3, .slice A0_4 l0_4.length c0_4, .slice A0_5 l0_5.length c0_5]) (t := 27) ?hr ?_; (case hd => rfl); (case hg => rfl); (case hr => first | (go_simp; done) | (go_simp; rfl)); intro gb479 hg w10 hbox hb; have n0_ := aM (bSp (by repeat (first | (with_reducible first | exact HB.out | apply bAl | apply pbN | apply bD1) | exact HB.out)) hb); have n1_ := aM (hbox); have n2_ := aM ((by rw [hg]; exact (bSz (by repeat (first | (with_reducible first | exact HB.out | apply bAl | apply pbN | apply bD1) | exact HB.out))) : w.heap.size ≤ gb479)); have n3_ := aM ((by rw [hg]; exact (bSz (by repeat (first | (with_reducible first | exact HB.out | apply bAl | apply pbN | apply bD1) | exact HB.out))) : w.heap.size ≤ gb479)); clear HB; have HB := n0_; have BK479 := n1_; have GW479 := n2_; have GE479 := n3_; clear n0_ n1_ n2_ n3_; clear hb hbox hg; have hcz11_0 : w10.cell? ⟨gb479, 0, none⟩ = some (.slice A0_0 l0_0.length c0_0) := (bkC BK479.out 0).trans rfl; have hcz11_1 : w10.cell? ⟨gb479, 1, none⟩ = some (.slice A0_1 l0_1.length c0_1) := (bkC BK479.out 1).trans rfl; have hcz11_2 : w10.cell? ⟨gb479, 2, none⟩ = some (.slice A0_2 l0_2.length c0_2) := (bkC BK479.out 2).trans rfl; have hcz11_3 : w10.cell? ⟨gb479, 3, none⟩ = some (.slice A0_3 l0_3.length c0_3) := (bkC BK479.out 3).trans rfl; have hcz11_4 : w10.cell? ⟨gb479, 4, none⟩ = some (.slice A0_4 l0_4.length c0_4) := (bkC BK479.out 4).trans rfl; have hcz11_5 : w10.cell? ⟨gb479, 5, none⟩ = some (.slice A0_5 l0_5.length c0_5) := (bkC BK479.out 5).trans rfl; have hfz11_0 := bkF BK479.out 0; have hfz11_1 := bkF BK479.out 1; have hfz11_2 := bkF BK479.out 2; have hfz11_3 := bkF BK479.out 3; have hfz11_4 := bkF BK479.out 4; have hfz11_5 := bkF BK479.out 5) | ((with_reducible refine gate_callee (f := 47) rfl ?_); refine goesL_ (some 9) rfl rfl Try.func47 (by kernel_rfl) rfl #[.agg #[.slice A0_0 l0_0.length c0_0, .slice A0_1 l0_1.length c0_1, .slice A0_2 l0_2.length c0_2, .slice A0_3 l0_3.length c0_3, .slice A0_4 l0_4.length c0_4, .slice A0_5 l0_5.length c0_5]] rfl (by (try simp only [List.map_toArray, List.map_cons, List.map_nil]); first | done | rfl | (simp only [List.length_drop, List.length_take]; rfl)) ?_; (with_reducible refine (r37_Data.calls k (fun k_ => k_ < w.heap.size) _ _ l0_0 (fun k_ => k_ < w.heap.size) _ _ l0_1 (fun k_ => k_ < w.heap.size) _ _ l0_2 (fun k_ => k_ < w.heap.size) _ _ l0_3 (fun k_ => k_ < w.heap.size) _ _ l0_4 (fun k_ => k_ < w.heap.size) _ _ l0_5 t480 t483 t486 t489 t492 t495 _ ?side1 ?side2 ?side3 ?side4 ?side5 ?side6 A3.out).mono ?_); (case side1 => exact Kd.V_mk HC0_0.out (Kd.F_below (Kd.C_F k43_heap HR0_0.out) (by repeat (first | (with_reducible first | exact HB.out | apply bAl | apply pbN | apply bD1 | refine bSt ?_ GE479.out) | exact HB.out)))); (case side2 => exact Kd.V_mk HC0_1.out (Kd.F_below (Kd.C_F k43_heap HR0_1.out) (by repeat (first | (with_reducible first | exact HB.out | apply bAl | apply pbN | apply bD1 | refine bSt ?_ GE479.out) | exact HB.out)))); (case side3 => exact Kd.V_mk HC0_2.out (Kd.F_below (Kd.C_F k43_heap HR0_2.out) (by repeat (first | (with_reducible first | exact HB.out | apply bAl | apply pbN | apply bD1 | refine bSt ?_ GE479.out) | exact HB.out)))); (case side4 => exact Kd.V_mk HC0_3.out (Kd.F_below (Kd.C_F k43_heap HR0_3.out) (by repeat (first | (with_reducible first | exact HB.out | apply bAl | apply pbN | apply bD1 | refine bSt ?_ GE479.out) | exact HB.out)))); (case side5 => exact Kd.V_mk HC0_4.out (Kd.F_below (Kd.C_F k33_heap HR0_4.out) (by repeat (first | (with_reducible first | exact HB.out | apply bAl | apply pbN | apply bD1 | refine bSt ?_ GE479.out) | exact HB.out)))); (case side6 => exact Kd.V_mk HC0_5.out (Kd.F_below (Kd.C_F k33_heap HR0_5.out) (by repeat (first | (with_reducible first | exact HB.out | apply bAl | apply pbN | apply bD1 | refine bSt ?_ GE479.out) | exact HB.out)))); rintro e w12 ⟨v481, v484, v487, v490, v493, v496, rfl, ho0, ho1, ho2, ho3, ho4, ho5, hb⟩; refine ⟨_, rfl, ?_⟩; have n0_ := aM (Kd.V_lower (Kd.V_mono (ok' := fun k_ => k_ ≠ gb479) ho0 (fun k_ hk_ => Or.elim hk_ (fun hs_ => Or.elim hs_ (fun hs_ => fun e_ => Nat.not_le.2 hs_ (by rw [e_]; exact GW479.out)) (fun hs_ => Or.elim hs_ (fun hs_ => fun e_ => Nat.not_le.2 hs_ (by rw [e_]; exact GW479.out)) (fun hs_ => Or.elim hs_ (fun hs_ => fun e_ => Nat.not_le.2 hs_ (by rw [e_]; exact GW479.out)) (fun hs_ => Or.elim hs_ (fun hs_ => fun e_ => Nat.not_le.2 hs_ (by rw [e_]; exact GW479.out)) (fun hs_ => Or.elim hs_ (fun hs_ => fun e_ => Nat.not_le.2 hs_ (by rw [e_]; exact GW479.out)) (fun hs_ => fun e_ => Nat.not_le.2 hs_ (by rw [e_]; exact GW479.out))))))) (fun hn_ => (Kd.freshB (g := gb479) (o := .cells #[.slice A0_0 l0_0.length c0_0, .slice A0_1 l0_1.length c0_1, .slice A0_2 l0_2.length c0_2, .slice A0_3 l0_3.length c0_3, .slice A0_4 l0_4.length c0_4, .slice A0_5 l0_5.length c0_5] 27 (0, 0)) (by (with_reducible repeat (first | refine bkN ?_ _ | refine bkD ?_ | refine bkA ?_ _)); exact BK479.out) k_ hn_)))) (bSz (by repeat (first | (with_reducible first | exact HB.out | apply bAl | apply pbN | apply bD1 | refine bSt ?_ GE479.out) | exact HB.out)))); have n1_ := aM (Kd.V_lower (Kd.V_mono (ok' := fun k_ => k_ ≠ gb479) ho1 (fun k_ hk_ => Or.elim hk_ (fun hs_ => Or.elim hs_ (fun hs_ => fun e_ => Nat.not_le.2 hs_ (by rw [e_]; exact GW479.out)) (fun hs_ => Or.elim hs_ (fun hs_ => fun e_ => Nat.not_le.2 hs_ (by rw [e_]; exact GW479.out)) (fun hs_ => Or.elim hs_ (fun hs_ => fun e_ => Nat.not_le.2 hs_ (by rw [e_]; exact GW479.out)) (fun hs_ => Or.elim hs_ (fun hs_ => fun e_ => Nat.not_le.2 hs_ (by rw [e_]; exact GW479.out)) (fun hs_ => Or.elim hs_ (fun hs_ => fun e_ => Nat.not_le.2 hs_ (by rw [e_]; exact GW479.out)) (fun hs_ => fun e_ => Nat.not_le.2 hs_ (by rw [e_]; exact GW479.out))))))) (fun hn_ => (Kd.freshB (g := gb479) (o := .cells #[.slice A0_0 l0_0.length c0_0, .slice A0_1 l0_1.length c0_1, .slice A0_2 l0_2.length c0_2, .slice A0_3 l0_3.length c0_3, .slice A0_4 l0_4.length c0_4, .slice A0_5 l0_5.length c0_5] 27 (0, 0)) (by (with_reducible repeat (first | refine bkN ?_ _ | refine bkD ?_ | refine bkA ?_ _)); exact BK479.out) k_ hn_)))) (bSz (by repeat (first | (with_reducible first | exact HB.out | apply bAl | apply pbN | apply bD1 | refine bSt ?_ GE479.out) | exact HB.out)))); have n2_ := aM (Kd.V_lower (Kd.V_mono (ok' := fun k_ => k_ ≠ gb479) ho2 (fun k_ hk_ => Or.elim hk_ (fun hs_ => Or.elim hs_ (fun hs_ => fun e_ => Nat.not_le.2 hs_ (by rw [e_]; exact GW479.out)) (fun hs_ => Or.elim hs_ (fun hs_ => fun e_ => Nat.not_le.2 hs_ (by rw [e_]; exact GW479.out)) (fun hs_ => Or.elim hs_ (fun hs_ => fun e_ => Nat.not_le.2 hs_ (by rw [e_]; exact GW479.out)) (fun hs_ => Or.elim hs_ (fun hs_ => fun e_ => Nat.not_le.2 hs_ (by rw [e_]; exact GW479.out)) (fun hs_ => Or.elim hs_ (fun hs_ => fun e_ => Nat.not_le.2 hs_ (by rw [e_]; exact GW479.out)) (fun hs_ => fun e_ => Nat.not_le.2 hs_ (by rw [e_]; exact GW479.out))))))) (fun hn_ => (Kd.freshB (g := gb479) (o := .cells #[.slice A0_0 l0_0.length c0_0, .slice A0_1 l0_1.length c0_1, .slice A0_2 l0_2.length c0_2, .slice A0_3 l0_3.length c0_3, .slice A0_4 l0_4.length c0_4, .slice A0_5 l0_5.length c0_5] 27 (0, 0)) (by (with_reducible repeat (first | refine bkN ?_ _ | refine bkD ?_ | refine bkA ?_ _)); exact BK479.out) k_ hn_)))) (bSz (by repeat (first | (with_reducible first | exact HB.out | apply bAl | apply pbN | apply bD1 | refine bSt ?_ GE479.out) | exact HB.out)))); have n3_ := aM (Kd.V_lower (Kd.V_mono (ok' := fun k_ => k_ ≠ gb479) ho3 (fun k_ hk_ => Or.elim hk_ (fun hs_ => Or.elim hs_ (fun hs_ => fun e_ => Nat.not_le.2 hs_ (by rw [e_]; exact GW479.out)) (fun hs_ => Or.elim hs_ (fun hs_ => fun e_ => Nat.not_le.2 hs_ (by rw [e_]; exact GW479.out)) (fun hs_ => Or.elim hs_ (fun hs_ => fun e_ => Nat.not_le.2 hs_ (by rw [e_]; exact GW479.out)) (fun hs_ => Or.elim hs_ (fun hs_ => fun e_ => Nat.not_le.2 hs_ (by rw [e_]; exact GW479.out)) (fun hs_ => Or.elim hs_ (fun hs_ => fun e_ => Nat.not_le.2 hs_ (by rw [e_]; exact GW479.out)) (fun hs_ => fun e_ => Nat.not_le.2 hs_ (by rw [e_]; exact GW479.out))))))) (fun hn_ => (Kd.freshB (g := gb479) (o := .cells #[.slice A0_0 l0_0.length c0_0, .slice A0_1 l0_1.length c0_1, .slice A0_2 l0_2.length c0_2, .slice A0_3 l0_3.length c0_3, .slice A0_4 l0_4.length c0_4, .slice A0_5 l0_5.length c0_5] 27 (0, 0)) (by (with_reducible repeat (first | refine bkN ?_ _ | refine bkD ?_ | refine bkA ?_ _)); exact BK479.out) k_ hn_)))) (bSz (by repeat (first | (with_reducible first | exact HB.out | apply bAl | apply pbN | apply bD1 | refine bSt ?_ GE479.out) | exact HB.out)))); have n4_ := aM (Kd.V_lower (Kd.V_mono (ok' := fun k_ => k_ ≠ gb479) ho4 (fun k_ hk_ => Or.elim hk_ (fun hs_ => Or.elim hs_ (fun hs_ => fun e_ => Nat.not_le.2 hs_ (by rw [e_]; exact GW479.out)) (fun hs_ => Or.elim hs_ (fun hs_ => fun e_ => Nat.not_le.2 hs_ (by rw [e_]; exact GW479.out)) (fun hs_ => Or.elim hs_ (fun hs_ => fun e_ => Nat.not_le.2 hs_ (by rw [e_]; exact GW479.out)) (fun hs_ => Or.elim hs_ (fun hs_ => fun e_ => Nat.not_le.2 hs_ (by rw [e_]; exact GW479.out)) (fun hs_ => Or.elim hs_ (fun hs_ => fun e_ => Nat.not_le.2 hs_ (by rw [e_]; exact GW479.out)) (fun hs_ => fun e_ => Nat.not_le.2 hs_ (by rw [e_]; exact GW479.out))))))) (fun hn_ => (Kd.freshB (g := gb479) (o := .cells #[.slice A0_0 l0_0.length c0_0, .slice A0_1 l0_1.length c0_1, .slice A0_2 l0_2.length c0_2, .slice A0_3 l0_3.length c0_3, .slice A0_4 l0_4.length c0_4, .slice A0_5 l0_5.length c0_5] 27 (0, 0)) (by (with_reducible repeat (first | refine bkN ?_ _ | refine bkD ?_ | refine bkA ?_ _)); exact BK479.out) k_ hn_)))) (bSz (by repeat (first | (with_reducible first | exact HB.out | apply bAl | apply pbN | apply bD1 | refine bSt ?_ GE479.out) | exact HB.out)))); have n5_ := aM (Kd.V_lower (Kd.V_mono (ok' := fun k_ => k_ ≠ gb479) ho5 (fun k_ hk_ => Or.elim hk_ (fun hs_ => Or.elim hs_ (fun hs_ => fun e_ => Nat.not_le.2 hs_ (by rw [e_]; exact GW479.out)) (fun hs_ => Or.elim hs_ (fun hs_ => fun e_ => Nat.not_le.2 hs_ (by rw [e_]; exact GW479.out)) (fun hs_ => Or.elim hs_ (fun hs_ => fun e_ => Nat.not_le.2 hs_ (by rw [e_]; exact GW479.out)) (fun hs_ => Or.elim hs_ (fun hs_ => fun e_ => Nat.not_le.2 hs_ (by rw [e_]; exact GW479.out)) (fun hs_ => Or.elim hs_ (fun hs_ => fun e_ => Nat.not_le.2 hs_ (by rw [e_]; exact GW479.out)) (fun hs_ => fun e_ => Nat.not_le.2 hs_ (by rw [e_]; exact GW479.out))))))) (fun hn_ => (Kd.freshB (g := gb479) (o := .cells #[.slice A0_0 l0_0.length c0_0, .slice A0_1 l0_1.length c0_1, .slice A0_2 l0_2.length c0_2, .slice A0_3 l0_3.length c0_3, .slice A0_4 l0_4.length c0_4, .slice A0_5 l0_5.length c0_5] 27 (0, 0)) (by (with_reducible repeat (first | refine bkN ?_ _ | refine bkD ?_ | refine bkA ?_ _)); exact BK479.out) k_ hn_)))) (bSz (by repeat (first | (with_reducible first | exact HB.out | apply bAl | apply pbN | apply bD1 | refine bSt ?_ GE479.out) | exact HB.out)))); have n6_ := aM (blk_below (g := gb479) (o := .cells #[.slice A0_0 l0_0.length c0_0, .slice A0_1 l0_1.length c0_1, .slice A0_2 l0_2.length c0_2, .slice A0_3 l0_3.length c0_3, .slice A0_4 l0_4.length c0_4, .slice A0_5 l0_5.length c0_5] 27 (0, 0)) (by (with_reducible repeat (first | refine bkN ?_ _ | refine bkD ?_ | refine bkA ?_ _)); exact BK479.out) hb); have n7_ := aM (bSp (by repeat (first | (with_reducible first | exact HB.out | apply bAl | apply pbN | apply bD1 | refine bSt ?_ GE479.out) | exact HB.out)) hb); clear BK479; clear HB; have HO482 := n0_; have HO485 := n1_; have HO488 := n2_; have HO491 := n3_; have HO494 := n4_; have HO497 := n5_; have BK479 := n6_; have HB := n7_; clear n0_ n1_ n2_ n3_ n4_ n5_ n6_ n7_; (try clear hb); (try clear hb2); (try clear hk); (try clear hi); (try clear ho0); (try clear ho1); (try clear ho2); (try clear ho3); (try clear ho4); (try clear ho5)) | ((with_reducible refine gate_dst (N := 7) rfl ?_); refine box_event ?hg (N := 7) ?hd (cs := #[.slice none 0 0, .slice none 0 0, .slice none 0 0, .slice none 0 0, .slice none 0 0, .slice none 0 0]) (t := 27) ?hr ?_; (case hd => rfl); (case hg => rfl); (case hr => first | (go_simp; done) | (go_simp; rfl)); intro gb498 hg w13 hbox hb; have n0_ := aM (Kd.V_below (Kd.V_elderB (by (with_reducible repeat (first | apply Kd.V_alloc | apply Kd.V_drewN | apply Kd.V_drew)); exact HO482.out) gb498 (Nat.le_of_eq hg.symm)) hb); have n1_ := aM (Kd.V_below (Kd.V_elderB (by (with_reducible repeat (first | apply Kd.V_alloc | apply Kd.V_drewN | apply Kd.V_drew)); exact HO485.out) gb498 (Nat.le_of_eq hg.symm)) hb); have n2_ := aM (Kd.V_below (Kd.V_elderB (by (with_reducible repeat (first | apply Kd.V_alloc | apply Kd.V_drewN | apply Kd.V_drew)); exact HO488.out) gb498 (Nat.le_of_eq hg.symm)) hb); have n3_ := aM (Kd.V_below (Kd.V_elderB (by (with_reducible repeat (first | apply Kd.V_alloc | apply Kd.V_drewN | apply Kd.V_drew)); exact HO491.out) gb498 (Nat.le_of_eq hg.symm)) hb); have n4_ := aM (Kd.V_below (Kd.V_elderB (by (with_reducible repeat (first | apply Kd.V_alloc | apply Kd.V_drewN | apply Kd.V_drew)); exact HO494.out) gb498 (Nat.le_of_eq hg.symm)) hb); have n5_ := aM (Kd.V_below (Kd.V_elderB (by (with_reducible repeat (first | apply Kd.V_alloc | apply Kd.V_drewN | apply Kd.V_drew)); exact HO497.out) gb498 (Nat.le_of_eq hg.symm)) hb); have n6_ := aM (blk_below (g := gb479) (o := .cells #[.slice A0_0 l0_0.length c0_0, .slice A0_1 l0_1.length c0_1, .slice A0_2 l0_2.length c0_2, .slice A0_3 l0_3.length c0_3, .slice A0_4 l0_4.length c0_4, .slice A0_5 l0_5.length c0_5] 27 (0, 0)) (by (with_reducible repeat (first | refine bkN ?_ _ | refine bkD ?_ | refine bkA ?_ _)); exact BK479.out) hb); have n7_ := aM (bSp (by repeat (first | (with_reducible first | exact HB.out | apply bAl | apply pbN | apply bD1 | refine bSt ?_ GE479.out) | exact HB.out)) hb); have n8_ := aM (hbox); have n9_ := aM ((by rw [hg]; exact (bSz (by repeat (first | (with_reducible first | exact HB.out | apply bAl | apply pbN | apply bD1 | refine bSt ?_ GE479.out) | exact HB.out))) : w.heap.size ≤ gb498)); have n10_ := aM ((by rw [hg]; exact (bSz (by repeat (first | (with_reducible first | exact HB.out | apply bAl | apply pbN | apply bD1 | refine bSt ?_ GE479.out) | exact HB.out))) : w.heap.size ≤ gb498)); have n11_ := aM ((by rw [hg]; exact Nat.ne_of_lt (blk_lt (g := gb479) (o := .cells #[.slice A0_0 l0_0.length c0_0, .slice A0_1 l0_1.length c0_1, .slice A0_2 l0_2.length c0_2, .slice A0_3 l0_3.length c0_3, .slice A0_4 l0_4.length c0_4, .slice A0_5 l0_5.length c0_5] 27 (0, 0)) (by (with_reducible repeat (first | refine bkN ?_ _ | refine bkD ?_ | refine bkA ?_ _)); exact BK479.out)) : gb479 ≠ gb498)); have n12_ := aM ((by rw [hg]; exact Nat.ne_of_gt (blk_lt (g := gb479) (o := .cells #[.slice A0_0 l0_0.length c0_0, .slice A0_1 l0_1.length c0_1, .slice A0_2 l0_2.length c0_2, .slice A0_3 l0_3.length c0_3, .slice A0_4 l0_4.length c0_4, .slice A0_5 l0_5.length c0_5] 27 (0, 0)) (by (with_reducible repeat (first | refine bkN ?_ _ | refine bkD ?_ | refine bkA ?_ _)); exact BK479.out)) : gb498 ≠ gb479)); clear HO482; clear HO485; clear HO488; clear HO491; clear HO494; clear HO497; clear BK479; clear HB; have HO482 := n0_; have HO485 := n1_; have HO488 := n2_; have HO491 := n3_; have HO494 := n4_; have HO497 := n5_; have BK479 := n6_; have HB := n7_; have BK498 := n8_; have GW498 := n9_; have GE498 := n10_; have NB479_498 := n11_; have NB498_479 := n12_; clear n0_ n1_ n2_ n3_ n4_ n5_ n6_ n7_ n8_ n9_ n10_ n11_ n12_; clear hb hbox hg; obtain ⟨Ao14, co14, eo14⟩ := Kd.V_slice HO482.out; subst eo14; have hnb15 := NB498_479.out; have hnc15 := NB479_498.out; have hcz16_0 : w13.cell? ⟨gb498, 0, none⟩ = some (.slice none 0 0) := (bkC BK498.out 0).trans rfl; have hcz16_1 : w13.cell? ⟨gb498, 1, none⟩ = some (.slice none 0 0) := (bkC BK498.out 1).trans rfl; have hcz16_2 : w13.cell? ⟨gb498, 2, none⟩ = some (.slice none 0 0) := (bkC BK498.out 2).trans rfl; have hcz16_3 : w13.cell? ⟨gb498, 3, none⟩ = some (.slice none 0 0) := (bkC BK498.out 3).trans rfl; have hcz16_4 : w13.cell? ⟨gb498, 4, none⟩ = some (.slice none 0 0) := (bkC BK498.out 4).trans rfl; have hcz16_5 : w13.cell? ⟨gb498, 5, none⟩ = some (.slice none 0 0) := (bkC BK498.out 5).trans rfl; have hfz16_0 := bkF BK498.out 0; have hfz16_1 := bkF BK498.out 1; have hfz16_2 := bkF BK498.out 2; have hfz16_3 := bkF BK498.out 3; have hfz16_4 := bkF BK498.out 4; have hfz16_5 := bkF BK498.out 5; obtain ⟨Ao17, co17, eo17⟩ := Kd.V_slice HO485.out; subst eo17; obtain ⟨Ao18, co18, eo18⟩ := Kd.V_slice HO488.out; subst eo18; obtain ⟨Ao19, co19, eo19⟩ := Kd.V_slice HO491.out; subst eo19; obtain ⟨Ao20, co20, eo20⟩ := Kd.V_slice HO494.out; subst eo20; obtain ⟨Ao21, co21, eo21⟩ := Kd.V_slice HO497.out; subst eo21))
 have n0_ : Aside0 (Kd.V k43 43 ((((((w13.setCell ⟨gb498, 0, none⟩ (.slice Ao14 t480.length co14)).setCell ⟨gb498, 1, none⟩ (.slice Ao17 t483.length co17)).setCell ⟨gb498, 2, none⟩ (.slice Ao18 t486.length co18)).setCell ⟨gb498, 3, none⟩ (.slice Ao19 t489.length co19)).setCell ⟨gb498, 4, none⟩ (.slice Ao20 t492.length co20)).setCell ⟨gb498, 5, none⟩ (.slice Ao21 t495.length co21)) w.heap.size (fun k_ => k_ ≠ gb479 ∧ k_ ≠ gb498) (.slice Ao14 t480.length co14) t480) := ⟨by (with_reducible repeat (first | apply Kd.V_alloc | apply Kd.V_drewN | apply Kd.V_drew)); exact Kd.V_mono (Kd.V_far (p := ⟨gb498, 5, none⟩) (Kd.V_far (p := ⟨gb498, 4, none⟩) (Kd.V_far (p := ⟨gb498, 3, none⟩) (Kd.V_far (p := ⟨gb498, 2, none⟩) (Kd.V_far (p := ⟨gb498, 1, none⟩) (Kd.V_far (p := ⟨gb498, 0, none⟩) (Kd.V_mono HO482.out (fun k_ hk => (⟨hk, hk.2⟩ : _ ∧ k_ ≠ gb498))) (fun _ hk => hk.2) (.slice Ao14 t480.length co14)) (fun _ hk => hk.2) (.slice Ao17 t483.length co17)) (fun _ hk => hk.2) (.slice Ao18 t486.length co18)) (fun _ hk => hk.2) (.slice Ao19 t489.length co19)) (fun _ hk => hk.2) (.slice Ao20 t492.length co20)) (fun _ hk => hk.2) (.slice Ao21 t495.length co21)) (fun _ hk => ⟨hk.1.1, hk.1.2⟩)⟩
 have n1_ : Aside0 (Kd.V k43 43 ((((((w13.setCell ⟨gb498, 0, none⟩ (.slice Ao14 t480.length co14)).setCell ⟨gb498, 1, none⟩ (.slice Ao17 t483.length co17)).setCell ⟨gb498, 2, none⟩ (.slice Ao18 t486.length co18)).setCell ⟨gb498, 3, none⟩ (.slice Ao19 t489.length co19)).setCell ⟨gb498, 4, none⟩ (.slice Ao20 t492.length co20)).setCell ⟨gb498, 5, none⟩ (.slice Ao21 t495.length co21)) w.heap.size (fun k_ => k_ ≠ gb479 ∧ k_ ≠ gb498) (.slice Ao17 t483.length co17) t483) := ⟨by (with_reducible repeat (first | apply Kd.V_alloc | apply Kd.V_drewN | apply Kd.V_drew)); exact Kd.V_mono (Kd.V_far (p := ⟨gb498, 5, none⟩) (Kd.V_far (p := ⟨gb498, 4, none⟩) (Kd.V_far (p := ⟨gb498, 3, none⟩) (Kd.V_far (p := ⟨gb498, 2, none⟩) (Kd.V_far (p := ⟨gb498, 1, none⟩) (Kd.V_far (p := ⟨gb498, 0, none⟩) (Kd.V_mono HO485.out (fun k_ hk => (⟨hk, hk.2⟩ : _ ∧ k_ ≠ gb498))) (fun _ hk => hk.2) (.slice Ao14 t480.length co14)) (fun _ hk => hk.2) (.slice Ao17 t483.length co17)) (fun _ hk => hk.2) (.slice Ao18 t486.length co18)) (fun _ hk => hk.2) (.slice Ao19 t489.length co19)) (fun _ hk => hk.2) (.slice Ao20 t492.length co20)) (fun _ hk => hk.2) (.slice Ao21 t495.length co21)) (fun _ hk => ⟨hk.1.1, hk.1.2⟩)⟩
 have n2_ : Aside0 (Kd.V k43 43 ((((((w13.setCell ⟨gb498, 0, none⟩ (.slice Ao14 t480.length co14)).setCell ⟨gb498, 1, none⟩ (.slice Ao17 t483.length co17)).setCell ⟨gb498, 2, none⟩ (.slice Ao18 t486.length co18)).setCell ⟨gb498, 3, none⟩ (.slice Ao19 t489.length co19)).setCell ⟨gb498, 4, none⟩ (.slice Ao20 t492.length co20)).setCell ⟨gb498, 5, none⟩ (.slice Ao21 t495.length co21)) w.heap.size (fun k_ => k_ ≠ gb479 ∧ k_ ≠ gb498) (.slice Ao18 t486.length co18) t486) := ⟨by (with_reducible repeat (first | apply Kd.V_alloc | apply Kd.V_drewN | apply Kd.V_drew)); exact Kd.V_mono (Kd.V_far (p := ⟨gb498, 5, none⟩) (Kd.V_far (p := ⟨gb498, 4, none⟩) (Kd.V_far (p := ⟨gb498, 3, none⟩) (Kd.V_far (p := ⟨gb498, 2, none⟩) (Kd.V_far (p := ⟨gb498, 1, none⟩) (Kd.V_far (p := ⟨gb498, 0, none⟩) (Kd.V_mono HO488.out (fun k_ hk => (⟨hk, hk.2⟩ : _ ∧ k_ ≠ gb498))) (fun _ hk => hk.2) (.slice Ao14 t480.length co14)) (fun _ hk => hk.2) (.slice Ao17 t483.length co17)) (fun _ hk => hk.2) (.slice Ao18 t486.length co18)) (fun _ hk => hk.2) (.slice Ao19 t489.length co19)) (fun _ hk => hk.2) (.slice Ao20 t492.length co20)) (fun _ hk => hk.2) (.slice Ao21 t495.length co21)) (fun _ hk => ⟨hk.1.1, hk.1.2⟩)⟩
 have n3_ : Aside0 (Kd.V k43 43 ((((((w13.setCell ⟨gb498, 0, none⟩ (.slice Ao14 t480.length co14)).setCell ⟨gb498, 1, none⟩ (.slice Ao17 t483.length co17)).setCell ⟨gb498, 2, none⟩ (.slice Ao18 t486.length co18)).setCell ⟨gb498, 3, none⟩ (.slice Ao19 t489.length co19)).setCell ⟨gb498, 4, none⟩ (.slice Ao20 t492.length co20)).setCell ⟨gb498, 5, none⟩ (.slice Ao21 t495.length co21)) w.heap.size (fun k_ => k_ ≠ gb479 ∧ k_ ≠ gb498) (.slice Ao19 t489.length co19) t489) := ⟨by (with_reducible repeat (first | apply Kd.V_alloc | apply Kd.V_drewN | apply Kd.V_drew)); exact Kd.V_mono (Kd.V_far (p := ⟨gb498, 5, none⟩) (Kd.V_far (p := ⟨gb498, 4, none⟩) (Kd.V_far (p := ⟨gb498, 3, none⟩) (Kd.V_far (p := ⟨gb498, 2, none⟩) (Kd.V_far (p := ⟨gb498, 1, none⟩) (Kd.V_far (p := ⟨gb498, 0, none⟩) (Kd.V_mono HO491.out (fun k_ hk => (⟨hk, hk.2⟩ : _ ∧ k_ ≠ gb498))) (fun _ hk => hk.2) (.slice Ao14 t480.length co14)) (fun _ hk => hk.2) (.slice Ao17 t483.length co17)) (fun _ hk => hk.2) (.slice Ao18 t486.length co18)) (fun _ hk => hk.2) (.slice Ao19 t489.length co19)) (fun _ hk => hk.2) (.slice Ao20 t492.length co20)) (fun _ hk => hk.2) (.slice Ao21 t495.length co21)) (fun _ hk => ⟨hk.1.1, hk.1.2⟩)⟩
 have n4_ : Aside0 (Kd.V k33 33 ((((((w13.setCell ⟨gb498, 0, none⟩ (.slice Ao14 t480.length co14)).setCell ⟨gb498, 1, none⟩ (.slice Ao17 t483.length co17)).setCell ⟨gb498, 2, none⟩ (.slice Ao18 t486.length co18)).setCell ⟨gb498, 3, none⟩ (.slice Ao19 t489.length co19)).setCell ⟨gb498, 4, none⟩ (.slice Ao20 t492.length co20)).setCell ⟨gb498, 5, none⟩ (.slice Ao21 t495.length co21)) w.heap.size (fun k_ => k_ ≠ gb479 ∧ k_ ≠ gb498) (.slice Ao20 t492.length co20) t492) := ⟨by (with_reducible repeat (first | apply Kd.V_alloc | apply Kd.V_drewN | apply Kd.V_drew)); exact Kd.V_mono (Kd.V_far (p := ⟨gb498, 5, none⟩) (Kd.V_far (p := ⟨gb498, 4, none⟩) (Kd.V_far (p := ⟨gb498, 3, none⟩) (Kd.V_far (p := ⟨gb498, 2, none⟩) (Kd.V_far (p := ⟨gb498, 1, none⟩) (Kd.V_far (p := ⟨gb498, 0, none⟩) (Kd.V_mono HO494.out (fun k_ hk => (⟨hk, hk.2⟩ : _ ∧ k_ ≠ gb498))) (fun _ hk => hk.2) (.slice Ao14 t480.length co14)) (fun _ hk => hk.2) (.slice Ao17 t483.length co17)) (fun _ hk => hk.2) (.slice Ao18 t486.length co18)) (fun _ hk => hk.2) (.slice Ao19 t489.length co19)) (fun _ hk => hk.2) (.slice Ao20 t492.length co20)) (fun _ hk => hk.2) (.slice Ao21 t495.length co21)) (fun _ hk => ⟨hk.1.1, hk.1.2⟩)⟩
 have n5_ : Aside0 (Kd.V k33 33 ((((((w13.setCell ⟨gb498, 0, none⟩ (.slice Ao14 t480.length co14)).setCell ⟨gb498, 1, none⟩ (.slice Ao17 t483.length co17)).setCell ⟨gb498, 2, none⟩ (.slice Ao18 t486.length co18)).setCell ⟨gb498, 3, none⟩ (.slice Ao19 t489.length co19)).setCell ⟨gb498, 4, none⟩ (.slice Ao20 t492.length co20)).setCell ⟨gb498, 5, none⟩ (.slice Ao21 t495.length co21)) w.heap.size (fun k_ => k_ ≠ gb479 ∧ k_ ≠ gb498) (.slice Ao21 t495.length co21) t495) := ⟨by (with_reducible repeat (first | apply Kd.V_alloc | apply Kd.V_drewN | apply Kd.V_drew)); exact Kd.V_mono (Kd.V_far (p := ⟨gb498, 5, none⟩) (Kd.V_far (p := ⟨gb498, 4, none⟩) (Kd.V_far (p := ⟨gb498, 3, none⟩) (Kd.V_far (p := ⟨gb498, 2, none⟩) (Kd.V_far (p := ⟨gb498, 1, none⟩) (Kd.V_far (p := ⟨gb498, 0, none⟩) (Kd.V_mono HO497.out (fun k_ hk => (⟨hk, hk.2⟩ : _ ∧ k_ ≠ gb498))) (fun _ hk => hk.2) (.slice Ao14 t480.length co14)) (fun _ hk => hk.2) (.slice Ao17 t483.length co17)) (fun _ hk => hk.2) (.slice Ao18 t486.length co18)) (fun _ hk => hk.2) (.slice Ao19 t489.length co19)) (fun _ hk => hk.2) (.slice Ao20 t492.length co20)) (fun _ hk => hk.2) (.slice Ao21 t495.length co21)) (fun _ hk => ⟨hk.1.1, hk.1.2⟩)⟩
 have n6_ : Aside0 (((((((w13.setCell ⟨gb498, 0, none⟩ (.slice Ao14 t480.length co14)).setCell ⟨gb498, 1, none⟩ (.slice Ao17 t483.length co17)).setCell ⟨gb498, 2, none⟩ (.slice Ao18 t486.length co18)).setCell ⟨gb498, 3, none⟩ (.slice Ao19 t489.length co19)).setCell ⟨gb498, 4, none⟩ (.slice Ao20 t492.length co20)).setCell ⟨gb498, 5, none⟩ (.slice Ao21 t495.length co21)).heap[gb479]? = some (.cells #[.slice A0_0 l0_0.length c0_0, .slice A0_1 l0_1.length c0_1, .slice A0_2 l0_2.length c0_2, .slice A0_3 l0_3.length c0_3, .slice A0_4 l0_4.length c0_4, .slice A0_5 l0_5.length c0_5] 27 (0, 0))) := ⟨by (with_reducible repeat (first | refine bkN ?_ _ | refine bkD ?_ | refine bkA ?_ _)); refine blk_far ?_ NB479_498.out _; (with_reducible repeat (first | refine bkN ?_ _ | refine bkD ?_ | refine bkA ?_ _)); refine blk_far ?_ NB479_498.out _; (with_reducible repeat (first | refine bkN ?_ _ | refine bkD ?_ | refine bkA ?_ _)); refine blk_far ?_ NB479_498.out _; (with_reducible repeat (first | refine bkN ?_ _ | refine bkD ?_ | refine bkA ?_ _)); refine blk_far ?_ NB479_498.out _; (with_reducible repeat (first | refine bkN ?_ _ | refine bkD ?_ | refine bkA ?_ _)); refine blk_far ?_ NB479_498.out _; (with_reducible repeat (first | refine bkN ?_ _ | refine bkD ?_ | refine bkA ?_ _)); refine blk_far ?_ NB479_498.out _; (with_reducible repeat (first | refine bkN ?_ _ | refine bkD ?_ | refine bkA ?_ _)); exact BK479.out⟩
 have n7_ : Aside0 (((((((w13.setCell ⟨gb498, 0, none⟩ (.slice Ao14 t480.length co14)).setCell ⟨gb498, 1, none⟩ (.slice Ao17 t483.length co17)).setCell ⟨gb498, 2, none⟩ (.slice Ao18 t486.length co18)).setCell ⟨gb498, 3, none⟩ (.slice Ao19 t489.length co19)).setCell ⟨gb498, 4, none⟩ (.slice Ao20 t492.length co20)).setCell ⟨gb498, 5, none⟩ (.slice Ao21 t495.length co21)).heap[gb498]? = some (.cells #[.slice Ao14 t480.length co14, .slice Ao17 t483.length co17, .slice Ao18 t486.length co18, .slice Ao19 t489.length co19, .slice Ao20 t492.length co20, .slice Ao21 t495.length co21] 27 (0, 0))) := ⟨by (with_reducible repeat (first | refine bkN ?_ _ | refine bkD ?_ | refine bkA ?_ _)); refine blk_put (cs := #[.slice Ao14 t480.length co14, .slice Ao17 t483.length co17, .slice Ao18 t486.length co18, .slice Ao19 t489.length co19, .slice Ao20 t492.length co20, .slice none 0 0]) ?_ 5 _ rfl; (with_reducible repeat (first | refine bkN ?_ _ | refine bkD ?_ | refine bkA ?_ _)); refine blk_put (cs := #[.slice Ao14 t480.length co14, .slice Ao17 t483.length co17, .slice Ao18 t486.length co18, .slice Ao19 t489.length co19, .slice none 0 0, .slice none 0 0]) ?_ 4 _ rfl; (with_reducible repeat (first | refine bkN ?_ _ | refine bkD ?_ | refine bkA ?_ _)); refine blk_put (cs := #[.slice Ao14 t480.length co14, .slice Ao17 t483.length co17, .slice Ao18 t486.length co18, .slice none 0 0, .slice none 0 0, .slice none 0 0]) ?_ 3 _ rfl; (with_reducible repeat (first | refine bkN ?_ _ | refine bkD ?_ | refine bkA ?_ _)); refine blk_put (cs := #[.slice Ao14 t480.length co14, .slice Ao17 t483.length co17, .slice none 0 0, .slice none 0 0, .slice none 0 0, .slice none 0 0]) ?_ 2 _ rfl; (with_reducible repeat (first | refine bkN ?_ _ | refine bkD ?_ | refine bkA ?_ _)); refine blk_put (cs := #[.slice Ao14 t480.length co14, .slice none 0 0, .slice none 0 0, .slice none 0 0, .slice none 0 0, .slice none 0 0]) ?_ 1 _ rfl; (with_reducible repeat (first | refine bkN ?_ _ | refine bkD ?_ | refine bkA ?_ _)); refine blk_put (cs := #[.slice none 0 0, .slice none 0 0, .slice none 0 0, .slice none 0 0, .slice none 0 0, .slice none 0 0]) ?_ 0 _ rfl; (with_reducible repeat (first | refine bkN ?_ _ | refine bkD ?_ | refine bkA ?_ _)); exact BK498.out⟩
 have n8_ : Aside0 (Below w.heap.size w ((((((w13.setCell ⟨gb498, 0, none⟩ (.slice Ao14 t480.length co14)).setCell ⟨gb498, 1, none⟩ (.slice Ao17 t483.length co17)).setCell ⟨gb498, 2, none⟩ (.slice Ao18 t486.length co18)).setCell ⟨gb498, 3, none⟩ (.slice Ao19 t489.length co19)).setCell ⟨gb498, 4, none⟩ (.slice Ao20 t492.length co20)).setCell ⟨gb498, 5, none⟩ (.slice Ao21 t495.length co21))) := ⟨by repeat (first | (with_reducible first | exact HB.out | apply bAl | apply pbN | apply bD1 | refine bSt ?_ GE479.out | refine bSt ?_ GE498.out) | exact HB.out)⟩
 (try clear HO482)
 (try clear HO485)
 (try clear HO488)
 (try clear HO491)
 (try clear HO494)
 (try clear HO497)
 (try clear BK479)
 (try clear BK498)
 (try clear HB)
 generalize ((((((w13.setCell ⟨gb498, 0, none⟩ (.slice Ao14 t480.length co14)).setCell ⟨gb498, 1, none⟩ (.slice Ao17 t483.length co17)).setCell ⟨gb498, 2, none⟩ (.slice Ao18 t486.length co18)).setCell ⟨gb498, 3, none⟩ (.slice Ao19 t489.length co19)).setCell ⟨gb498, 4, none⟩ (.slice Ao20 t492.length co20)).setCell ⟨gb498, 5, none⟩ (.slice Ao21 t495.length co21)) = w22 at n0_ n1_ n2_ n3_ n4_ n5_ n6_ n7_ n8_ ⊢
 have HO482 := n0_
 have HO485 := n1_
 have HO488 := n2_
 have HO491 := n3_
 have HO494 := n4_
 have HO497 := n5_
 have BK479 := n6_
 have BK498 := n7_
 have HB := n8_
 clear n0_ n1_ n2_ n3_ n4_ n5_ n6_ n7_ n8_
 have n0_ := aM (Kd.V_drew HO482.out)
 have n1_ := aM (Kd.V_drew HO485.out)
 have n2_ := aM (Kd.V_drew HO488.out)
 have n3_ := aM (Kd.V_drew HO491.out)
 have n4_ := aM (Kd.V_drew HO494.out)
 have n5_ := aM (Kd.V_drew HO497.out)
 have n6_ := aM (bkD BK479.out)
 have n7_ := aM (bkD BK498.out)
 have n8_ := aM (bD1 HB.out)
 clear HO482
 clear HO485
 clear HO488
 clear HO491
 clear HO494
 clear HO497
 clear BK479
 clear BK498
 clear HB
 have HO482 := n0_
 have HO485 := n1_
 have HO488 := n2_
 have HO491 := n3_
 have HO494 := n4_
 have HO497 := n5_
 have BK479 := n6_
 have BK498 := n7_
 have HB := n8_
 clear n0_ n1_ n2_ n3_ n4_ n5_ n6_ n7_ n8_
 refine start_ (n := 21) (S := fun w' => w'.cell? ⟨gb498, 0, none⟩ = some (.slice Ao14 t480.length co14) ∧ w'.cell? ⟨gb498, 1, none⟩ = some (.slice Ao17 t483.length co17) ∧ w'.cell? ⟨gb498, 2, none⟩ = some (.slice Ao18 t486.length co18) ∧ w'.cell? ⟨gb498, 3, none⟩ = some (.slice Ao19 t489.length co19) ∧ w'.cell? ⟨gb498, 4, none⟩ = some (.slice Ao20 t492.length co20) ∧ w'.cell? ⟨gb498, 5, none⟩ = some (.slice Ao21 t495.length co21)) (ds := []) #[false, false, false, false, false, false, false, false, false, false, false, false, false, false, false, false, false, false, false, false, false] (by kernel_rfl) rfl rfl ⟨(bkC BK498.out 0).trans rfl, (bkC BK498.out 1).trans rfl, (bkC BK498.out 2).trans rfl, (bkC BK498.out 3).trans rfl, (bkC BK498.out 4).trans rfl, (bkC BK498.out 5).trans rfl⟩ (fun hHeld => ?_); refine with_tabW r37_Simple.tab2 r37_Simple.bits2 (fun HT_ HW_ => ?_)
 generalize w22.drew = w23 at HO482 HO485 HO488 HO491 HO494 HO497 BK479 BK498 HB hHeld ⊢
 refine pure_ (i := 0) (N := some 10) (v := ?_) (a' := ?_) #[true, false, false, false, false, false, false, false, false, false, false, false, false, false, false, false, false, false, false, false, false] rfl rfl (any_of HT_.out (by kernel_rfl)) (fun _ _ _ h => h) (Or.inl ⟨by rfl, ?_⟩) ?_ ?_
 rotate_left
 ·intro w'
  go_simp
  with_reducible rfl
 rotate_left
 ·simp only [Act.put, sI, sZ, sS, i64_w, i32_w]
  rfl
 refine pure_ (i := 2) (N := some 12) (v := ?_) (a' := ?_) #[true, false, true, false, false, false, false, false, false, false, false, false, false, false, false, false, false, false, false, false, false] rfl rfl (any_of HT_.out (by kernel_rfl)) (fun _ _ _ h => h) (Or.inl ⟨by rfl, ?_⟩) ?_ ?_
 rotate_left
 ·intro w'
  go_simp
  with_reducible rfl
 rotate_left
 ·simp only [Act.put, sI, sZ, sS, i64_w, i32_w]
  rfl
 refine pure_ (i := 4) (N := some 14) (v := ?_) (a' := ?_) #[true, false, true, false, true, false, false, false, false, false, false, false, false, false, false, false, false, false, false, false, false] rfl rfl (any_of HT_.out (by kernel_rfl)) (fun _ _ _ h => h) (Or.inl ⟨by rfl, ?_⟩) ?_ ?_
 rotate_left
 ·intro w'
  go_simp
  with_reducible rfl
 rotate_left
 ·simp only [Act.put, sI, sZ, sS, i64_w, i32_w]
  rfl
 refine pure_ (i := 6) (N := some 16) (v := ?_) (a' := ?_) #[true, false, true, false, true, false, true, false, false, false, false, false, false, false, false, false, false, false, false, false, false] rfl rfl (any_of HT_.out (by kernel_rfl)) (fun _ _ _ h => h) (Or.inl ⟨by rfl, ?_⟩) ?_ ?_
 rotate_left
 ·intro w'
  go_simp
  with_reducible rfl
 rotate_left
 ·simp only [Act.put, sI, sZ, sS, i64_w, i32_w]
  rfl
 refine pure_ (i := 8) (N := some 18) (v := ?_) (a' := ?_) #[true, false, true, false, true, false, true, false, true, false, false, false, false, false, false, false, false, false, false, false, false] rfl rfl (any_of HT_.out (by kernel_rfl)) (fun _ _ _ h => h) (Or.inl ⟨by rfl, ?_⟩) ?_ ?_
 rotate_left
 ·intro w'
  go_simp
  with_reducible rfl
 rotate_left
 ·simp only [Act.put, sI, sZ, sS, i64_w, i32_w]
  rfl
 refine pure_ (i := 10) (N := some 20) (v := ?_) (a' := ?_) #[true, false, true, false, true, false, true, false, true, false, true, false, false, false, false, false, false, false, false, false, false] rfl rfl (any_of HT_.out (by kernel_rfl)) (fun _ _ _ h => h) (Or.inl ⟨by rfl, ?_⟩) ?_ ?_
 rotate_left
 ·intro w'
  go_simp
  with_reducible rfl
 rotate_left
 ·simp only [Act.put, sI, sZ, sS, i64_w, i32_w]
  rfl
 refine pure_ (i := 12) (N := some 22) (v := ?_) (a' := ?_) #[true, false, true, false, true, false, true, false, true, false, true, false, true, false, false, false, false, false, false, false, false] rfl rfl (any_of HT_.out (by kernel_rfl)) (fun _ _ _ h => h) (Or.inl ⟨by rfl, ?_⟩) ?_ ?_
 rotate_left
 ·intro w'
  go_simp
  with_reducible rfl
 rotate_left
 ·simp only [Act.put, sI, sZ, sS, i64_w, i32_w]
  rfl
 refine pure_ (i := 14) (N := some 24) (v := ?_) (a' := ?_) #[true, false, true, false, true, false, true, false, true, false, true, false, true, false, true, false, false, false, false, false, false] rfl rfl (any_of HT_.out (by kernel_rfl)) (fun _ _ _ h => h) (Or.inl ⟨by rfl, ?_⟩) ?_ ?_
 rotate_left
 ·intro w'
  go_simp
  with_reducible rfl
 rotate_left
 ·simp only [Act.put, sI, sZ, sS, i64_w, i32_w]
  rfl
 refine pure_ (i := 16) (N := some 26) (v := ?_) (a' := ?_) #[true, false, true, false, true, false, true, false, true, false, true, false, true, false, true, false, true, false, false, false, false] rfl rfl (any_of HT_.out (by kernel_rfl)) (fun _ _ _ h => h) (Or.inl ⟨by rfl, ?_⟩) ?_ ?_
 rotate_left
 ·intro w'
  go_simp
  with_reducible rfl
 rotate_left
 ·simp only [Act.put, sI, sZ, sS, i64_w, i32_w]
  rfl
 refine take_ (i := 1) (N := some 11) (v := ?_) (a' := ?_) #[true, true, true, false, true, false, true, false, true, false, true, false, true, false, true, false, true, false, false, false, false] rfl rfl (take_ofW HT_.out HW_.out (by kernel_rfl)) (fun _ _ _ h => h) (Or.inl ⟨by rfl, ?_⟩) hHeld ?_ ?_
 rotate_left
 ·rintro w' ⟨s0, s1, s2, s3, s4, s5⟩
  go_simp
  with_reducible rfl
 rotate_left
 ·simp only [Act.put, sI, sZ, sS, i64_w, i32_w]
  rfl
 refine take_ (i := 7) (N := some 17) (v := ?_) (a' := ?_) #[true, true, true, false, true, false, true, true, true, false, true, false, true, false, true, false, true, false, false, false, false] rfl rfl (take_ofW HT_.out HW_.out (by kernel_rfl)) (fun _ _ _ h => h) (Or.inl ⟨by rfl, ?_⟩) hHeld ?_ ?_
 rotate_left
 ·rintro w' ⟨s0, s1, s2, s3, s4, s5⟩
  go_simp
  with_reducible rfl
 rotate_left
 ·simp only [Act.put, sI, sZ, sS, i64_w, i32_w]
  rfl
 refine take_ (i := 13) (N := some 23) (v := ?_) (a' := ?_) #[true, true, true, false, true, false, true, true, true, false, true, false, true, true, true, false, true, false, false, false, false] rfl rfl (take_ofW HT_.out HW_.out (by kernel_rfl)) (fun _ _ _ h => h) (Or.inl ⟨by rfl, ?_⟩) hHeld ?_ ?_
 rotate_left
 ·rintro w' ⟨s0, s1, s2, s3, s4, s5⟩
  go_simp
  with_reducible rfl
 rotate_left
 ·simp only [Act.put, sI, sZ, sS, i64_w, i32_w]
  rfl
 refine one_ (i := 3) (N := some 13) #[true, true, true, true, true, false, true, true, true, false, true, false, true, true, true, false, true, false, false, false, false] rfl rfl (one_of HT_.out (by kernel_rfl)) (by decide) (fun K hK => ?_)
 refine goes_ Try.func49 (by kernel_rfl) rfl #[.slice Ao14 t480.length co14, .int .i64 a1] (by rfl) rfl rfl (by (try simp only [List.map_toArray, List.map_cons, List.map_nil]); first | done | rfl | (simp only [List.length_drop, List.length_take]; rfl)) ?_
 with_reducible refine (r37_mapped.calls k _ _ t480 a1 t499 _ ?side1 ?side2 A4.out).mono ?_
 (case side1 => repeat (first | exact (Kd.V_reads' HO482.out).2.2 | (with_reducible refine Kd.C_alloc ?_ _) | (with_reducible refine Kd.C_drewN ?_ _) | (with_reducible refine Kd.C_drew ?_)))
 (case side2 => exact (Kd.V_reads' HO482.out).2.1)
 rintro e w24 ⟨v500, rfl, ho0, hb⟩
 refine ⟨_, rfl, ?_⟩
 have n0_ := aM (Kd.V_elder' (by (with_reducible repeat (first | apply Kd.V_alloc | apply Kd.V_drewN | apply Kd.V_drew)); exact HO482.out) (Kd.R_base ho0) hb)
 have n1_ := aM (Kd.V_elder' (by (with_reducible repeat (first | apply Kd.V_alloc | apply Kd.V_drewN | apply Kd.V_drew)); exact HO485.out) (Kd.R_base ho0) hb)
 have n2_ := aM (Kd.V_elder' (by (with_reducible repeat (first | apply Kd.V_alloc | apply Kd.V_drewN | apply Kd.V_drew)); exact HO488.out) (Kd.R_base ho0) hb)
 have n3_ := aM (Kd.V_elder' (by (with_reducible repeat (first | apply Kd.V_alloc | apply Kd.V_drewN | apply Kd.V_drew)); exact HO491.out) (Kd.R_base ho0) hb)
 have n4_ := aM (Kd.V_elder' (by (with_reducible repeat (first | apply Kd.V_alloc | apply Kd.V_drewN | apply Kd.V_drew)); exact HO494.out) (Kd.R_base ho0) hb)
 have n5_ := aM (Kd.V_elder' (by (with_reducible repeat (first | apply Kd.V_alloc | apply Kd.V_drewN | apply Kd.V_drew)); exact HO497.out) (Kd.R_base ho0) hb)
 have n6_ := aM (Kd.R_lower ho0 (bSz (by repeat (first | (with_reducible first | exact HB.out | apply bAl | apply pbN | apply bD1 | refine bSt ?_ GE479.out | refine bSt ?_ GE498.out) | exact HB.out))))
 have n7_ := aM (blk_below (g := gb479) (o := .cells #[.slice A0_0 l0_0.length c0_0, .slice A0_1 l0_1.length c0_1, .slice A0_2 l0_2.length c0_2, .slice A0_3 l0_3.length c0_3, .slice A0_4 l0_4.length c0_4, .slice A0_5 l0_5.length c0_5] 27 (0, 0)) (by (with_reducible repeat (first | refine bkN ?_ _ | refine bkD ?_ | refine bkA ?_ _)); exact BK479.out) hb)
 have n8_ := aM (blk_below (g := gb498) (o := .cells #[.slice Ao14 t480.length co14, .slice Ao17 t483.length co17, .slice Ao18 t486.length co18, .slice Ao19 t489.length co19, .slice Ao20 t492.length co20, .slice Ao21 t495.length co21] 27 (0, 0)) (by (with_reducible repeat (first | refine bkN ?_ _ | refine bkD ?_ | refine bkA ?_ _)); exact BK498.out) hb)
 have n9_ := aM (bSp (by repeat (first | (with_reducible first | exact HB.out | apply bAl | apply pbN | apply bD1 | refine bSt ?_ GE479.out | refine bSt ?_ GE498.out) | exact HB.out)) hb)
 clear HO482
 clear HO485
 clear HO488
 clear HO491
 clear HO494
 clear HO497
 clear BK479
 clear BK498
 clear HB
 have HO482 := n0_
 have HO485 := n1_
 have HO488 := n2_
 have HO491 := n3_
 have HO494 := n4_
 have HO497 := n5_
 have HO501 := n6_
 have BK479 := n7_
 have BK498 := n8_
 have HB := n9_
 clear n0_ n1_ n2_ n3_ n4_ n5_ n6_ n7_ n8_ n9_
 (try clear hb)
 (try clear hb2)
 (try clear hk)
 (try clear hi)
 (try clear ho0)
 obtain ⟨Ao25, co25, eo25⟩ := Kd.R_slice HO501.out
 (first | subst eo25 | (injection eo25 with f1_ f2_ f3_; have f4_ := f1_.symm; have f5_ := f3_.symm; clear f1_ f2_ f3_; subst f4_; subst f5_))
 refine hK.out _ _ ⟨(bkC BK498.out 0).trans rfl, (bkC BK498.out 1).trans rfl, (bkC BK498.out 2).trans rfl, (bkC BK498.out 3).trans rfl, (bkC BK498.out 4).trans rfl, (bkC BK498.out 5).trans rfl⟩ (fun hHeld => ?_)
 clear hK K
 refine norm_ (a' := ?_) ?_ ?_
 rotate_left
 ·show Act.put _ (some 13) _ = _
  simp only [Act.put, sI, sZ, sS, i64_w, i32_w]
  rfl
 refine one_ (i := 5) (N := some 15) #[true, true, true, true, true, true, true, true, true, false, true, false, true, true, true, false, true, false, false, false, false] rfl rfl (one_of HT_.out (by kernel_rfl)) (by decide) (fun K hK => ?_)
 refine goes_ Try.func52 (by kernel_rfl) rfl #[.slice Ao25 t499.length co25, .int .i64 a1] (by rfl) rfl rfl (by (try simp only [List.map_toArray, List.map_cons, List.map_nil]); first | done | rfl | (simp only [List.length_drop, List.length_take]; rfl)) ?_
 with_reducible refine (r37_only.calls _ _ t499 a1 t502 _ ?side1 ?side2 A5.out).mono ?_
 (case side1 => repeat (first | exact (Kd.R_reads' HO501.out).2.2 | (with_reducible refine Kd.C_alloc ?_ _) | (with_reducible refine Kd.C_drewN ?_ _) | (with_reducible refine Kd.C_drew ?_)))
 (case side2 => exact (Kd.R_reads' HO501.out).2.1)
 rintro e w' ⟨rfl, ⟨nd, rfl⟩⟩
 refine ⟨_, rfl, ?_⟩
 refine hK.out _ _ ⟨(bkC BK498.out 0).trans rfl, (bkC BK498.out 1).trans rfl, (bkC BK498.out 2).trans rfl, (bkC BK498.out 3).trans rfl, (bkC BK498.out 4).trans rfl, (bkC BK498.out 5).trans rfl⟩ (fun hHeld => ?_)
 clear hK K
 refine norm_ (a' := ?_) ?_ ?_
 rotate_left
 ·show Act.put _ (some 15) _ = _
  simp only [Act.put, sI, sZ, sS, i64_w, i32_w]
  rfl
 refine one_ (i := 9) (N := some 19) #[true, true, true, true, true, true, true, true, true, true, true, false, true, true, true, false, true, false, false, false, false] rfl rfl (one_of HT_.out (by kernel_rfl)) (by decide) (fun K hK => ?_)
 refine goes_ Try.func49 (by kernel_rfl) rfl #[.slice Ao17 t483.length co17, .int .i64 a1] (by rfl) rfl rfl (by (try simp only [List.map_toArray, List.map_cons, List.map_nil]); first | done | rfl | (simp only [List.length_drop, List.length_take]; rfl)) ?_
 with_reducible refine (r37_mapped.calls k _ _ t483 a1 t503 _ ?side1 ?side2 A6.out).mono ?_
 (case side1 => repeat (first | exact (Kd.V_reads' HO485.out).2.2 | (with_reducible refine Kd.C_alloc ?_ _) | (with_reducible refine Kd.C_drewN ?_ _) | (with_reducible refine Kd.C_drew ?_)))
 (case side2 => exact (Kd.V_reads' HO485.out).2.1)
 rintro e w26 ⟨v504, rfl, ho0, hb⟩
 refine ⟨_, rfl, ?_⟩
 have n0_ := aM (Kd.V_elder' (by (with_reducible repeat (first | apply Kd.V_alloc | apply Kd.V_drewN | apply Kd.V_drew)); exact HO482.out) (Kd.R_base ho0) hb)
 have n1_ := aM (Kd.V_elder' (by (with_reducible repeat (first | apply Kd.V_alloc | apply Kd.V_drewN | apply Kd.V_drew)); exact HO485.out) (Kd.R_base ho0) hb)
 have n2_ := aM (Kd.V_elder' (by (with_reducible repeat (first | apply Kd.V_alloc | apply Kd.V_drewN | apply Kd.V_drew)); exact HO488.out) (Kd.R_base ho0) hb)
 have n3_ := aM (Kd.V_elder' (by (with_reducible repeat (first | apply Kd.V_alloc | apply Kd.V_drewN | apply Kd.V_drew)); exact HO491.out) (Kd.R_base ho0) hb)
 have n4_ := aM (Kd.V_elder' (by (with_reducible repeat (first | apply Kd.V_alloc | apply Kd.V_drewN | apply Kd.V_drew)); exact HO494.out) (Kd.R_base ho0) hb)
 have n5_ := aM (Kd.V_elder' (by (with_reducible repeat (first | apply Kd.V_alloc | apply Kd.V_drewN | apply Kd.V_drew)); exact HO497.out) (Kd.R_base ho0) hb)
 have n6_ := aM (Kd.R_elder' (by (with_reducible repeat (first | apply Kd.R_alloc | apply Kd.R_drewN | apply Kd.R_drew)); exact HO501.out) (Kd.R_base ho0) hb)
 have n7_ := aM (Kd.R_lower (Kd.R_new' ho0 (Kd.R_lt (by (with_reducible repeat (first | apply Kd.R_alloc | apply Kd.R_drewN | apply Kd.R_drew)); exact HO501.out))) (bSz (by repeat (first | (with_reducible first | exact HB.out | apply bAl | apply pbN | apply bD1 | refine bSt ?_ GE479.out | refine bSt ?_ GE498.out) | exact HB.out))))
 have n8_ := aM (blk_below (g := gb479) (o := .cells #[.slice A0_0 l0_0.length c0_0, .slice A0_1 l0_1.length c0_1, .slice A0_2 l0_2.length c0_2, .slice A0_3 l0_3.length c0_3, .slice A0_4 l0_4.length c0_4, .slice A0_5 l0_5.length c0_5] 27 (0, 0)) (by (with_reducible repeat (first | refine bkN ?_ _ | refine bkD ?_ | refine bkA ?_ _)); exact BK479.out) hb)
 have n9_ := aM (blk_below (g := gb498) (o := .cells #[.slice Ao14 t480.length co14, .slice Ao17 t483.length co17, .slice Ao18 t486.length co18, .slice Ao19 t489.length co19, .slice Ao20 t492.length co20, .slice Ao21 t495.length co21] 27 (0, 0)) (by (with_reducible repeat (first | refine bkN ?_ _ | refine bkD ?_ | refine bkA ?_ _)); exact BK498.out) hb)
 have n10_ := aM (bSp (by repeat (first | (with_reducible first | exact HB.out | apply bAl | apply pbN | apply bD1 | refine bSt ?_ GE479.out | refine bSt ?_ GE498.out) | exact HB.out)) hb)
 clear HO482
 clear HO485
 clear HO488
 clear HO491
 clear HO494
 clear HO497
 clear HO501
 clear BK479
 clear BK498
 clear HB
 have HO482 := n0_
 have HO485 := n1_
 have HO488 := n2_
 have HO491 := n3_
 have HO494 := n4_
 have HO497 := n5_
 have HO501 := n6_
 have HO505 := n7_
 have BK479 := n8_
 have BK498 := n9_
 have HB := n10_
 clear n0_ n1_ n2_ n3_ n4_ n5_ n6_ n7_ n8_ n9_ n10_
 (try clear hb)
 (try clear hb2)
 (try clear hk)
 (try clear hi)
 (try clear ho0)
 obtain ⟨Ao27, co27, eo27⟩ := Kd.R_slice HO505.out
 (first | subst eo27 | (injection eo27 with f1_ f2_ f3_; have f4_ := f1_.symm; have f5_ := f3_.symm; clear f1_ f2_ f3_; subst f4_; subst f5_))
 refine hK.out _ _ ⟨(bkC BK498.out 0).trans rfl, (bkC BK498.out 1).trans rfl, (bkC BK498.out 2).trans rfl, (bkC BK498.out 3).trans rfl, (bkC BK498.out 4).trans rfl, (bkC BK498.out 5).trans rfl⟩ (fun hHeld => ?_)
 clear hK K
 refine norm_ (a' := ?_) ?_ ?_
 rotate_left
 ·show Act.put _ (some 19) _ = _
  simp only [Act.put, sI, sZ, sS, i64_w, i32_w]
  rfl
 refine one_ (i := 11) (N := some 21) #[true, true, true, true, true, true, true, true, true, true, true, true, true, true, true, false, true, false, false, false, false] rfl rfl (one_of HT_.out (by kernel_rfl)) (by decide) (fun K hK => ?_)
 refine goes_ Try.func52 (by kernel_rfl) rfl #[.slice Ao27 t503.length co27, .int .i64 a1] (by rfl) rfl rfl (by (try simp only [List.map_toArray, List.map_cons, List.map_nil]); first | done | rfl | (simp only [List.length_drop, List.length_take]; rfl)) ?_
 with_reducible refine (r37_only.calls _ _ t503 a1 t506 _ ?side1 ?side2 A7.out).mono ?_
 (case side1 => repeat (first | exact (Kd.R_reads' HO505.out).2.2 | (with_reducible refine Kd.C_alloc ?_ _) | (with_reducible refine Kd.C_drewN ?_ _) | (with_reducible refine Kd.C_drew ?_)))
 (case side2 => exact (Kd.R_reads' HO505.out).2.1)
 rintro e w' ⟨rfl, ⟨nd, rfl⟩⟩
 refine ⟨_, rfl, ?_⟩
 refine hK.out _ _ ⟨(bkC BK498.out 0).trans rfl, (bkC BK498.out 1).trans rfl, (bkC BK498.out 2).trans rfl, (bkC BK498.out 3).trans rfl, (bkC BK498.out 4).trans rfl, (bkC BK498.out 5).trans rfl⟩ (fun hHeld => ?_)
 clear hK K
 refine norm_ (a' := ?_) ?_ ?_
 rotate_left
 ·show Act.put _ (some 21) _ = _
  simp only [Act.put, sI, sZ, sS, i64_w, i32_w]
  rfl
 refine one_ (i := 15) (N := some 25) #[true, true, true, true, true, true, true, true, true, true, true, true, true, true, true, true, true, false, false, false, false] rfl rfl (one_of HT_.out (by kernel_rfl)) (by decide) (fun K hK => ?_)
 refine goes_ Try.func49 (by kernel_rfl) rfl #[.slice Ao18 t486.length co18, .int .i64 a1] (by rfl) rfl rfl (by (try simp only [List.map_toArray, List.map_cons, List.map_nil]); first | done | rfl | (simp only [List.length_drop, List.length_take]; rfl)) ?_
 with_reducible refine (r37_mapped.calls k _ _ t486 a1 t507 _ ?side1 ?side2 A8.out).mono ?_
 (case side1 => repeat (first | exact (Kd.V_reads' HO488.out).2.2 | (with_reducible refine Kd.C_alloc ?_ _) | (with_reducible refine Kd.C_drewN ?_ _) | (with_reducible refine Kd.C_drew ?_)))
 (case side2 => exact (Kd.V_reads' HO488.out).2.1)
 rintro e w28 ⟨v508, rfl, ho0, hb⟩
 refine ⟨_, rfl, ?_⟩
 have n0_ := aM (Kd.V_elder' (by (with_reducible repeat (first | apply Kd.V_alloc | apply Kd.V_drewN | apply Kd.V_drew)); exact HO482.out) (Kd.R_base ho0) hb)
 have n1_ := aM (Kd.V_elder' (by (with_reducible repeat (first | apply Kd.V_alloc | apply Kd.V_drewN | apply Kd.V_drew)); exact HO485.out) (Kd.R_base ho0) hb)
 have n2_ := aM (Kd.V_elder' (by (with_reducible repeat (first | apply Kd.V_alloc | apply Kd.V_drewN | apply Kd.V_drew)); exact HO488.out) (Kd.R_base ho0) hb)
 have n3_ := aM (Kd.V_elder' (by (with_reducible repeat (first | apply Kd.V_alloc | apply Kd.V_drewN | apply Kd.V_drew)); exact HO491.out) (Kd.R_base ho0) hb)
 have n4_ := aM (Kd.V_elder' (by (with_reducible repeat (first | apply Kd.V_alloc | apply Kd.V_drewN | apply Kd.V_drew)); exact HO494.out) (Kd.R_base ho0) hb)
 have n5_ := aM (Kd.V_elder' (by (with_reducible repeat (first | apply Kd.V_alloc | apply Kd.V_drewN | apply Kd.V_drew)); exact HO497.out) (Kd.R_base ho0) hb)
 have n6_ := aM (Kd.R_elder' (by (with_reducible repeat (first | apply Kd.R_alloc | apply Kd.R_drewN | apply Kd.R_drew)); exact HO501.out) (Kd.R_base ho0) hb)
 have n7_ := aM (Kd.R_elder' (by (with_reducible repeat (first | apply Kd.R_alloc | apply Kd.R_drewN | apply Kd.R_drew)); exact HO505.out) (Kd.R_base ho0) hb)
 have n8_ := aM (Kd.R_lower (Kd.R_new' (Kd.R_new' ho0 (Kd.R_lt (by (with_reducible repeat (first | apply Kd.R_alloc | apply Kd.R_drewN | apply Kd.R_drew)); exact HO501.out))) (Kd.R_lt (by (with_reducible repeat (first | apply Kd.R_alloc | apply Kd.R_drewN | apply Kd.R_drew)); exact HO505.out))) (bSz (by repeat (first | (with_reducible first | exact HB.out | apply bAl | apply pbN | apply bD1 | refine bSt ?_ GE479.out | refine bSt ?_ GE498.out) | exact HB.out))))
 have n9_ := aM (blk_below (g := gb479) (o := .cells #[.slice A0_0 l0_0.length c0_0, .slice A0_1 l0_1.length c0_1, .slice A0_2 l0_2.length c0_2, .slice A0_3 l0_3.length c0_3, .slice A0_4 l0_4.length c0_4, .slice A0_5 l0_5.length c0_5] 27 (0, 0)) (by (with_reducible repeat (first | refine bkN ?_ _ | refine bkD ?_ | refine bkA ?_ _)); exact BK479.out) hb)
 have n10_ := aM (blk_below (g := gb498) (o := .cells #[.slice Ao14 t480.length co14, .slice Ao17 t483.length co17, .slice Ao18 t486.length co18, .slice Ao19 t489.length co19, .slice Ao20 t492.length co20, .slice Ao21 t495.length co21] 27 (0, 0)) (by (with_reducible repeat (first | refine bkN ?_ _ | refine bkD ?_ | refine bkA ?_ _)); exact BK498.out) hb)
 have n11_ := aM (bSp (by repeat (first | (with_reducible first | exact HB.out | apply bAl | apply pbN | apply bD1 | refine bSt ?_ GE479.out | refine bSt ?_ GE498.out) | exact HB.out)) hb)
 clear HO482
 clear HO485
 clear HO488
 clear HO491
 clear HO494
 clear HO497
 clear HO501
 clear HO505
 clear BK479
 clear BK498
 clear HB
 have HO482 := n0_
 have HO485 := n1_
 have HO488 := n2_
 have HO491 := n3_
 have HO494 := n4_
 have HO497 := n5_
 have HO501 := n6_
 have HO505 := n7_
 have HO509 := n8_
 have BK479 := n9_
 have BK498 := n10_
 have HB := n11_
 clear n0_ n1_ n2_ n3_ n4_ n5_ n6_ n7_ n8_ n9_ n10_ n11_
 (try clear hb)
 (try clear hb2)
 (try clear hk)
 (try clear hi)
 (try clear ho0)
 obtain ⟨Ao29, co29, eo29⟩ := Kd.R_slice HO509.out
 (first | subst eo29 | (injection eo29 with f1_ f2_ f3_; have f4_ := f1_.symm; have f5_ := f3_.symm; clear f1_ f2_ f3_; subst f4_; subst f5_))
 refine hK.out _ _ ⟨(bkC BK498.out 0).trans rfl, (bkC BK498.out 1).trans rfl, (bkC BK498.out 2).trans rfl, (bkC BK498.out 3).trans rfl, (bkC BK498.out 4).trans rfl, (bkC BK498.out 5).trans rfl⟩ (fun hHeld => ?_)
 clear hK K
 refine norm_ (a' := ?_) ?_ ?_
 rotate_left
 ·show Act.put _ (some 25) _ = _
  simp only [Act.put, sI, sZ, sS, i64_w, i32_w]
  rfl
 refine one_ (i := 17) (N := some 27) #[true, true, true, true, true, true, true, true, true, true, true, true, true, true, true, true, true, true, false, false, false] rfl rfl (one_of HT_.out (by kernel_rfl)) (by decide) (fun K hK => ?_)
 refine goes_ Try.func52 (by kernel_rfl) rfl #[.slice Ao29 t507.length co29, .int .i64 a1] (by rfl) rfl rfl (by (try simp only [List.map_toArray, List.map_cons, List.map_nil]); first | done | rfl | (simp only [List.length_drop, List.length_take]; rfl)) ?_
 with_reducible refine (r37_only.calls _ _ t507 a1 t510 _ ?side1 ?side2 A9.out).mono ?_
 (case side1 => repeat (first | exact (Kd.R_reads' HO509.out).2.2 | (with_reducible refine Kd.C_alloc ?_ _) | (with_reducible refine Kd.C_drewN ?_ _) | (with_reducible refine Kd.C_drew ?_)))
 (case side2 => exact (Kd.R_reads' HO509.out).2.1)
 rintro e w' ⟨rfl, ⟨nd, rfl⟩⟩
 refine ⟨_, rfl, ?_⟩
 refine hK.out _ _ ⟨(bkC BK498.out 0).trans rfl, (bkC BK498.out 1).trans rfl, (bkC BK498.out 2).trans rfl, (bkC BK498.out 3).trans rfl, (bkC BK498.out 4).trans rfl, (bkC BK498.out 5).trans rfl⟩ (fun hHeld => ?_)
 clear hK K
 refine norm_ (a' := ?_) ?_ ?_
 rotate_left
 ·show Act.put _ (some 27) _ = _
  simp only [Act.put, sI, sZ, sS, i64_w, i32_w]
  rfl
 refine pure_ (i := 18) (N := some 4) (v := ?_) (a' := ?_) #[true, true, true, true, true, true, true, true, true, true, true, true, true, true, true, true, true, true, true, false, false] rfl rfl (any_of HT_.out (by kernel_rfl)) (fun _ _ _ h => h) (Or.inl ⟨by rfl, ?_⟩) ?_ ?_
 rotate_left
 ·intro w'
  go_simp
  with_reducible rfl
 rotate_left
 ·simp only [Act.put, sI, sZ, sS, i64_w, i32_w]
  rfl
 refine pure_ (i := 19) (N := some 5) (v := ?_) (a' := ?_) #[true, true, true, true, true, true, true, true, true, true, true, true, true, true, true, true, true, true, true, true, false] rfl rfl (any_of HT_.out (by kernel_rfl)) (fun _ _ _ h => h) (Or.inl ⟨by rfl, ?_⟩) ?_ ?_
 rotate_left
 ·intro w'
  go_simp
  with_reducible rfl
 rotate_left
 ·simp only [Act.put, sI, sZ, sS, i64_w, i32_w]
  rfl
 refine pure_ (i := 20) (N := some 6) (v := ?_) (a' := ?_) #[true, true, true, true, true, true, true, true, true, true, true, true, true, true, true, true, true, true, true, true, true] rfl rfl (any_of HT_.out (by kernel_rfl)) (fun _ _ _ h => h) (Or.inl ⟨by rfl, ?_⟩) ?_ ?_
 rotate_left
 ·intro w'
  go_simp
  with_reducible rfl
 rotate_left
 ·simp only [Act.put, sI, sZ, sS, i64_w, i32_w]
  rfl
 refine done_ (done_of HT_.out (by kernel_rfl)) ?_
 try go_wp2
 go_ret3
 exact ⟨by first | rfl | (simp [eN, eS] <;> rfl) | (simp [*, eN, eS] <;> rfl), by repeat (first | (with_reducible first | exact HB.out | apply bAl | apply pbN | apply bD1 | refine bSt ?_ GE479.out | refine bSt ?_ GE498.out) | exact HB.out)⟩
attribute [local go_sem] max2_int min2_int max_two min_two max_three min_three max_four min_four
set_option linter.unusedVariables false
set_option linter.unusedSimpArgs false
def r37_titled.l0 : Nat → List Int → List Int → Bool → Int → List (S43) → List (S43) → List (S43) → List (S43) → List (S33) → List (S33) → Int → Int → Option (List Int)
 | 0, _, _, _, _, _, _, _, _, _, _, _, _ => none
 | k + 1, x1, x7, x8, x9, x540000, x540001, x540002, x540003, x540004, x540005, x541000, x541001 => if x9 < x541001 then (if x8 = true then ((r37_lower.f k x540000 x540001 x540002 x540003 x540004 x540005 x1 x9).bind fun t541 => (if x7.length + t541.length < 17592186044416 then (r37_titled.l0 k x1 (x7 ++ t541) x8 (wrap64 (x9 + 1)) x540000 x540001 x540002 x540003 x540004 x540005 x541000 x541001) else (none))) else (if 0 ≤ x9 then (if x9 < (x1.length : Int) then ((r02_Has.f k x540004 (rd x1 x9)).bind fun t548 => (if t548 = true then ((r37_mapped.f k x540002 (rd x1 x9)).bind fun t550 => (if x7.length + t550.length < 17592186044416 then (r37_titled.l0 k x1 (x7 ++ t550) true (wrap64 (x9 + 1)) x540000 x540001 x540002 x540003 x540004 x540005 x541000 x541001) else (none))) else (if x7.length < 17592186044416 then (r37_titled.l0 k x1 (x7 ++ [rd x1 x9]) x8 (wrap64 (x9 + 1)) x540000 x540001 x540002 x540003 x540004 x540005 x541000 x541001) else (none)))) else (none)) else (none))) else (some x7)
def r37_titled.f (k : Nat) (l0_0 : List (S43)) (l0_1 : List (S43)) (l0_2 : List (S43)) (l0_3 : List (S43)) (l0_4 : List (S33)) (l0_5 : List (S33)) (l1 : List Int) (a2_0 : Int) (a2_1 : Int) : Option (List Int) := r37_titled.l0 k l1 ([] : List Int) false a2_0 l0_0 l0_1 l0_2 l0_3 l0_4 l0_5 a2_0 a2_1
def r37_titled.T9 : Bool × List (List Nat × List Nat) := (true, [([], []), ([0], [0]), ([], []), ([], []), ([2, 3], [2, 3]), ([4], [4]), ([1, 5], [1, 5]), ([6, 6], [6])])
def r37_titled.B9 : List Nat := [0, 1, 0, 0, 12, 28, 63, 127]
def r37_titled.T10 : Bool × List (List Nat × List Nat) := (true, [([], []), ([], []), ([1], [1]), ([], []), ([], []), ([3, 4], [3, 4]), ([5], [5]), ([2, 6], [2, 6]), ([0, 7, 7], [0, 7]), ([8, 8, 0, 1, 2, 3, 4, 5, 6, 7, 8], [0, 8])])
def r37_titled.B10 : List Nat := [0, 0, 2, 0, 0, 24, 56, 126, 255, 511]
attribute [local go_sem] max2_int min2_int max_two min_two max_three min_three max_four min_four
set_option linter.unusedVariables false
set_option linter.unusedSimpArgs false
def r37_Title.l0 : Nat → List Int → List (S33) → List Int → Int → Int → List (S43) → List (S43) → List (S43) → List (S43) → List (S33) → List (S33) → Option (List Int)
 | 0, _, _, _, _, _, _, _, _, _, _, _ => none
 | k + 1, x1, x2, x8, x9, x10, x580000, x580001, x580002, x580003, x580004, x580005 => if x10 < (x2.length : Int) then (if 0 ≤ x10 then (if 0 ≤ x9 then (if x9 ≤ ((rd_T33 x2 x10).f0) then (if ((rd_T33 x2 x10).f0) ≤ (x1.length : Int) then (if x8.length + ((x1.take (((rd_T33 x2 x10).f0) : Int).toNat).drop (x9 : Int).toNat).length < 17592186044416 then ((some (x8 ++ ((x1.take (((rd_T33 x2 x10).f0) : Int).toNat).drop (x9 : Int).toNat) : List Int)).bind fun y589 => ((r37_titled.f k x580000 x580001 x580002 x580003 x580004 x580005 x1 ((rd_T33 x2 x10).f0) ((rd_T33 x2 x10).f1)).bind fun t593 => (if y589.length + t593.length < 17592186044416 then (r37_Title.l0 k x1 x2 (y589 ++ t593) ((rd_T33 x2 x10).f1) (wrap64 (x10 + 1)) x580000 x580001 x580002 x580003 x580004 x580005) else (none)))) else (none)) else (none)) else (none)) else (none)) else (none)) else (if 0 ≤ x9 then (if x9 ≤ (x1.length : Int) then (if x8.length + (x1.drop (x9 : Int).toNat).length < 17592186044416 then (some (x8 ++ (x1.drop (x9 : Int).toNat))) else (none)) else (none)) else (none))
def r37_Title.f (k : Nat) (l0_0 : List (S43)) (l0_1 : List (S43)) (l0_2 : List (S43)) (l0_3 : List (S43)) (l0_4 : List (S33)) (l0_5 : List (S33)) (l1 : List Int) (l2 : List (S33)) : Option (List Int) := (r37_Data.f k l0_0 l0_1 l0_2 l0_3 l0_4 l0_5).bind fun bt561 => ((r37_Within.f k l2 (l1.length : Int)).bind fun t580 => (if t580 = true then (r37_Title.l0 k l1 l2 ([] : List Int) 0 0 bt561.1 bt561.2.1 bt561.2.2.1 bt561.2.2.2.1 bt561.2.2.2.2.1 bt561.2.2.2.2.2) else ((some (([] : List Int) : List Int)).bind fun y581 => (if y581.length + l1.length < 17592186044416 then (some (y581 ++ l1)) else (none)))))
def r37_Title.T10 : Bool × List (List Nat × List Nat) := (true, [([], []), ([], []), ([], []), ([], []), ([], []), ([3, 4], [3, 4]), ([5], [5]), ([1, 2, 6], [1, 2, 6]), ([0, 7, 7], [0, 7]), ([8, 8, 0, 1, 2, 3, 4, 5, 6, 7, 8], [0, 8])])
def r37_Title.B10 : List Nat := [0, 0, 0, 0, 0, 24, 56, 126, 255, 511]
end Go.Proofs.Ythnkmcfhpjmihaa.Q
end
