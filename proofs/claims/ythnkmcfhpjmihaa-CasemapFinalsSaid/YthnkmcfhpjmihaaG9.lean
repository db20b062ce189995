/- Lemmas, printed and written for this claim: part 9. -/
import Derived.WalkKit
import Derived.WalkSpells
import Derived.IntWalk
import Derived.Test.YthnkmcfhpjmihaaG8
import Derived.Test.YthnkmcfhpjmihaaG2
import Derived.Test.YthnkmcfhpjmihaaG4
import Derived.Test.YthnkmcfhpjmihaaG3
import Derived.Test.YthnkmcfhpjmihaaG6
import Derived.Test.YthnkmcfhpjmihaaG7
import Derived.Test.YthnkmcfhpjmihaaG5
section
namespace Go.Proofs.Ythnkmcfhpjmihaa.Q
open Go.RowKit Go.Proofs.YthnkmcfhpjmihaaW.PrintWords Go.Proofs.YthnkmcfhpjmihaaW.PrintLast Go.Proofs.YthnkmcfhpjmihaaW.PrintMore
set_option linter.unusedVariables false
theorem getM_len {l : List Mp} (h : okM l = true) {x : Int} {t : ByteArray} {xs : List Int} (hg : getM l x t = some xs) : xs.length < 100000 := by
 unfold getM at hg
 split at hg
 ·unfold findM at hg
  obtain ⟨y, hy, rfl⟩ := Option.map_eq_some_iff.1 hg
  exact ((okM_spec h).2 y (List.mem_of_find?_eq_some hy)).1
 ·cases hg
theorem mapdS_len {l : List Mp} (h : okM l = true) (x : Int) : (mapdS l x).length < 100000 := by
 unfold mapdS
 cases hg : getM l x tagE with
 | none => show (1 : Nat) < 100000; decide
 | some xs => exact getM_len h hg
theorem lowerS_len {c : CaseS} (h : okM c.lo = true) (text : List Int) (i : Nat) : (lowerS c text i).length < 100000 := by
 unfold lowerS
 split
 ·rename_i xs hg
  split
  ·exact getM_len h hg
  ·exact mapdS_len h _
 ·exact mapdS_len h _
theorem lowerA_len {c : CaseS} (h : okM c.lo = true) (text : List Int) : ∀ n, (lowerA c text n).length ≤ 100000 * n
 | 0 => Nat.le_refl _
 | n + 1 => by
  have h1 := lowerA_len h text n
  have h2 := lowerS_len h text n
  rw [lowerA, List.length_append]; omega
theorem caseData_ok {c : CaseS} (h : okC c = true) : okM (caseData c).lo = true ∧ okM (caseData c).up = true ∧ okM (caseData c).ti = true ∧ (caseData c).ca.length < 1000000 ∧ (caseData c).ig.length < 1000000 := by
 obtain ⟨h1, h2, h3, h4, h5, h6⟩ := okC_spec h
 unfold caseData
 split
 ·exact ⟨h1, h2, h3, h5, h6⟩
 ·exact ⟨rfl, rfl, rfl, by decide, by decide⟩
set_option maxHeartbeats 4000000 in
set_option maxRecDepth 100000 in
theorem each_lower (b : Nat) (c : CaseS) (text : List Int) (w : World) (hM : Mpr w b c text) (hok : okM c.lo = true) (ht : text.length < 100000) (hs : c.ca.length < 1000000 ∧ c.ig.length < 1000000) :
  Calls Try.prog 39 #[.pointer (some ⟨b, 0, none⟩), .func (.func 34) #[.pointer (some ⟨b, 0, none⟩)] #[]] w fun e w' => ∃ v, e = .returned v ∧ Kd.R (Kd.int .i64) 3 w' w.heap.size (fun _ => True) v (lowerA c text text.length) ∧ Below w.heap.size w w' := by
 have HMP := aM hM
 have HOK := aM hok
 have HT := aM ht
 have HS := aM hs
 clear hs
 obtain ⟨A0, n0, A1, n1, A2, n2, A3, n3, A4, n4, A5, n5, At, nt, hA⟩ := hM
 have c6 := hA.c6
 clear hA hok ht
 go_enter Try.func39, Try.ntmps39
 go_wp2
 go_loopw [5, 12] (fun lv i wr => ∃ k : Nat, i = .int .i64 k ∧ Aside0 (k ≤ text.length) ∧ Aside0 (Kd.R (Kd.int .i64) 3 wr w.heap.size (fun _ => True) lv (lowerA c text k)) ∧ Aside0 (Below w.heap.size w wr)) (fun _ i _ => text.length - (intOf i).toNat)
 case atStart => exact ⟨0, rfl, ⟨Nat.zero_le _⟩, ⟨Kd.R_nil _ _ _ _ _⟩, ⟨Below.refl _ _⟩⟩
 case round =>
  clear c6
  obtain ⟨k, rfl, HK, HO, HB⟩ := hrel
  by_cases hlt : k < text.length
  ·have HLT := aM hlt
   have hdl : decide ((k : Int) < (text.length : Int)) = true := dT (by omega)
   have hw : wrap64 ((k : Int) + 1) = (k : Int) + 1 := by have := HT.out; unfold wrap64; omega
   have hd2 : decide (k < text.length) = true := dT hlt
   have hd3 : (k < text.length) = True := eq_true hlt
   have hpc := fun W => lower_calls b c text k W
   have HWL := aM (lowerS_len HOK.out text k)
   have hnx : lowerA c text (k + 1) = lowerA c text k ++ lowerS c text k := rfl
   generalize lowerS c text k = wl at *
   have HPC := aM hpc
   have HNX := aM hnx
   clear hlt hpc hnx
   go_wp2_with (first | (go_at_call 34; (with_reducible refine (HPC.out _ (HMP.out.below HB.out) HLT.out HOK.out (by have := HT.out; omega) HS.out).mono ?_); rintro e w1 ⟨v1, rfl, hv, hb⟩; obtain ⟨A1, c1, rfl⟩ := Kd.R_slice hv; have HV := aM hv; have HO1 := aM (Kd.R_below HO.out hb); have HB1 := aM (bSp HB.out hb); clear hv hb) | (at_builtin; refine Kd.R_append_rows (Kd.int .i64) (w0 := w1) w.heap.size rfl (.tmp 15) (.tmp 18) 28 3 (.int .i64 0) 8 rfl Try.underlying28 info3 rfl (by decide) (by omega) u5 (lowerA c text k) wl _ _ _ (fun _ => True) (fun _ => False) rfl rfl ?aO ?aR (fun _ _ h => h) (fun _ h => h.elim) ?aF ?aB ?aS ?aL ?_; (case aR => exact (Kd.R_reads' HV.out).2.2); (case aB => exact Below.refl _ _); (case aF => exact (fun _ _ => trivial)); (case aO => exact HO1.out); (case aS => exact HB1.out.size); (case aL => have h1_ := lowerA_len HOK.out text k; have h2_ := HWL.out; have h3_ := HT.out; have h4_ := HLT.out; omega); intro v4 w4 ho hb hg hat; have HO4 := aM ho; have HB4 := aM (HB1.out.grown hg HB1.out.size (fun k_ hk_ => Kd.R_base HO1.out k_ hk_)); clear ho hb hg hat))
   go_roundw
   case rel => exact ⟨k + 1, by rw [hw]; rfl, HLT, ⟨by rw [HNX.out]; exact HO4.out⟩, HB4⟩
   case measure => rw [hw]; simp only [intOf]; have := HLT.out; omega
  ·obtain rfl : k = text.length := by have := HK.out; omega
   have hdl : decide ((text.length : Int) < (text.length : Int)) = false := decide_eq_false (by omega)
   have hd2 : decide (text.length < text.length) = false := decide_eq_false (by omega)
   have hd3 : (text.length < text.length) = False := eq_false (by omega)
   clear hlt
   go_wp2
   go_ret
   exact ⟨u5, rfl, HO.out, HB.out⟩
set_option maxHeartbeats 4000000 in
set_option maxRecDepth 100000 in
theorem casemap_Lower.calls (A0_0 : Option Addr) (c0_0 : Nat) (l0_0 : List Mp) (A0_1 : Option Addr) (c0_1 : Nat) (l0_1 : List Mp) (A0_2 : Option Addr) (c0_2 : Nat) (l0_2 : List Mp) (A0_3 : Option Addr) (c0_3 : Nat) (l0_3 : List Mp) (A0_4 : Option Addr) (c0_4 : Nat) (l0_4 : List Rg) (A0_5 : Option Addr) (c0_5 : Nat) (l0_5 : List Rg) (A1 : Option Addr) (c1 : Nat) (l1 : List Int) (r : List Int) (w : World) (hr0_0 : Kd.C k43 w A0_0 l0_0.length l0_0) (hc0_0 : l0_0.length ≤ c0_0) (hr0_1 : Kd.C k43 w A0_1 l0_1.length l0_1) (hc0_1 : l0_1.length ≤ c0_1) (hr0_2 : Kd.C k43 w A0_2 l0_2.length l0_2) (hc0_2 : l0_2.length ≤ c0_2) (hr0_3 : Kd.C k43 w A0_3 l0_3.length l0_3) (hc0_3 : l0_3.length ≤ c0_3) (hr0_4 : Kd.C k33 w A0_4 l0_4.length l0_4) (hc0_4 : l0_4.length ≤ c0_4) (hr0_5 : Kd.C k33 w A0_5 l0_5.length l0_5) (hc0_5 : l0_5.length ≤ c0_5) (hr1 : Kd.C (Kd.int .i64) w A1 l1.length l1) (hc1 : l1.length ≤ c1) (h : casemap_Lower.f l0_0 l0_1 l0_2 l0_3 l0_4 l0_5 l1 = some r) :
  Calls Try.prog 18 #[.agg #[.slice A0_0 l0_0.length c0_0, .slice A0_1 l0_1.length c0_1, .slice A0_2 l0_2.length c0_2, .slice A0_3 l0_3.length c0_3, .slice A0_4 l0_4.length c0_4, .slice A0_5 l0_5.length c0_5], .slice A1 l1.length c1] w fun e w' => ∃ v0_ : Value, e = .returned (v0_) ∧ Kd.R (Kd.int .i64) 3 w' w.heap.size (fun _ => True) v0_ r ∧ Below w.heap.size w w' := by
 unfold casemap_Lower.f at h
 by_cases hok : okC ⟨l0_0, l0_1, l0_2, l0_3, l0_4, l0_5⟩ = true ∧ okT l1 = true
 ·rw [if_pos hok] at h
  injection h with h
  subst h
  obtain ⟨hok, hot⟩ := hok
  have hlt : l1.length < 100000 := by unfold okT at hot; exact oD hot
  obtain ⟨d1, d2, d3, d4, d5⟩ := caseData_ok hok
  have HBX := aM (bAl (Below.refl w.heap.size w) (Obj.cells #[Value.slice A0_0 l0_0.length c0_0, Value.slice A0_1 l0_1.length c0_1, Value.slice A0_2 l0_2.length c0_2, Value.slice A0_3 l0_3.length c0_3, Value.slice A0_4 l0_4.length c0_4, Value.slice A0_5 l0_5.length c0_5] 27))
  have HOK := aM hok
  have HRT := aM hr1
  have HCT := aM hc1
  have HLT := aM hlt
  have HD := aM (And.intro d1 (And.intro d2 (And.intro d3 (And.intro d4 d5))))
  have hu := Try.underlying27
  have HR0 := aM hr0_0
  have HC0 := aM hc0_0
  have HR1 := aM hr0_1
  have HC1 := aM hc0_1
  have HR2 := aM hr0_2
  have HC2 := aM hc0_2
  have HR3 := aM hr0_3
  have HC3 := aM hc0_3
  have HR4 := aM hr0_4
  have HC4 := aM hc0_4
  have HR5 := aM hr0_5
  have HC5 := aM hc0_5
  clear hok hot hlt d1 d2 d3 d4 d5 hr1 hc1 hr0_0 hc0_0 hr0_1 hc0_1 hr0_2 hc0_2 hr0_3 hc0_3 hr0_4 hc0_4 hr0_5 hc0_5
  show Calls _ _ _ _ fun e w' => ∃ v0_ : Value, e = .returned (v0_) ∧ Kd.R (Kd.int .i64) 3 w' w.heap.size (fun _ => True) v0_ (lowerA (caseData ⟨l0_0, l0_1, l0_2, l0_3, l0_4, l0_5⟩) l1 l1.length) ∧ Below w.heap.size w w'
  go_enter Try.func18, Try.ntmps18
  go_wp2_with (first | (go_at_call 30; (with_reducible refine (open_calls A0_0 c0_0 l0_0 A0_1 c0_1 l0_1 A0_2 c0_2 l0_2 A0_3 c0_3 l0_3 A0_4 c0_4 l0_4 A0_5 c0_5 l0_5 A1 c1 l1 _ (Kd.C_below HR0.out HBX.out) HC0.out (Kd.C_below HR1.out HBX.out) HC1.out (Kd.C_below HR2.out HBX.out) HC2.out (Kd.C_below HR3.out HBX.out) HC3.out (Kd.C_below HR4.out HBX.out) HC4.out (Kd.C_below HR5.out HBX.out) HC5.out (Kd.C_below HRT.out HBX.out) HCT.out HOK.out).mono ?_); rintro e w2 ⟨b, rfl, hm, hb⟩; have HM := aM hm; have HB2 := aM (bSp HBX.out hb); clear hm hb) | (go_at_call 39; (with_reducible refine (each_lower b (caseData ⟨l0_0, l0_1, l0_2, l0_3, l0_4, l0_5⟩) l1 _ HM.out HD.out.1 HLT.out HD.out.2.2.2).mono ?_); rintro e w3 ⟨v3, rfl, hv, hb⟩; have HV := aM (Kd.R_lower hv HB2.out.size); have HB3 := aM (bSp HB2.out hb); clear hv hb))
  go_ret
  exact ⟨v3, rfl, HV.out, HB3.out⟩
 ·rw [if_neg hok] at h; cases h
set_option maxHeartbeats 4000000 in
set_option maxRecDepth 100000 in
theorem casemap_Final.calls (A0_0 : Option Addr) (c0_0 : Nat) (l0_0 : List Mp) (A0_1 : Option Addr) (c0_1 : Nat) (l0_1 : List Mp) (A0_2 : Option Addr) (c0_2 : Nat) (l0_2 : List Mp) (A0_3 : Option Addr) (c0_3 : Nat) (l0_3 : List Mp) (A0_4 : Option Addr) (c0_4 : Nat) (l0_4 : List Rg) (A0_5 : Option Addr) (c0_5 : Nat) (l0_5 : List Rg) (A1 : Option Addr) (c1 : Nat) (l1 : List Int) (a2 : Int) (r : Bool) (w : World) (hr0_0 : Kd.C k43 w A0_0 l0_0.length l0_0) (hc0_0 : l0_0.length ≤ c0_0) (hr0_1 : Kd.C k43 w A0_1 l0_1.length l0_1) (hc0_1 : l0_1.length ≤ c0_1) (hr0_2 : Kd.C k43 w A0_2 l0_2.length l0_2) (hc0_2 : l0_2.length ≤ c0_2) (hr0_3 : Kd.C k43 w A0_3 l0_3.length l0_3) (hc0_3 : l0_3.length ≤ c0_3) (hr0_4 : Kd.C k33 w A0_4 l0_4.length l0_4) (hc0_4 : l0_4.length ≤ c0_4) (hr0_5 : Kd.C k33 w A0_5 l0_5.length l0_5) (hc0_5 : l0_5.length ≤ c0_5) (hr1 : Kd.C (Kd.int .i64) w A1 l1.length l1) (hc1 : l1.length ≤ c1) (h : casemap_Final.f l0_0 l0_1 l0_2 l0_3 l0_4 l0_5 l1 a2 = some r) :
  Calls Try.prog 22 #[.agg #[.slice A0_0 l0_0.length c0_0, .slice A0_1 l0_1.length c0_1, .slice A0_2 l0_2.length c0_2, .slice A0_3 l0_3.length c0_3, .slice A0_4 l0_4.length c0_4, .slice A0_5 l0_5.length c0_5], .slice A1 l1.length c1, .int .i64 a2] w fun e w' => e = .returned (.bool r) ∧ Below w.heap.size w w' := by
 unfold casemap_Final.f at h
 by_cases hok : okC ⟨l0_0, l0_1, l0_2, l0_3, l0_4, l0_5⟩ = true ∧ okT l1 = true
 ·rw [if_pos hok] at h
  injection h with h
  subst h
  obtain ⟨hok, hot⟩ := hok
  have hlt : l1.length < 100000 := by unfold okT at hot; exact oD hot
  obtain ⟨d1, d2, d3, d4, d5⟩ := caseData_ok hok
  have HBX := aM (bAl (Below.refl w.heap.size w) (Obj.cells #[Value.slice A0_0 l0_0.length c0_0, Value.slice A0_1 l0_1.length c0_1, Value.slice A0_2 l0_2.length c0_2, Value.slice A0_3 l0_3.length c0_3, Value.slice A0_4 l0_4.length c0_4, Value.slice A0_5 l0_5.length c0_5] 27))
  have HOK := aM hok
  have HRT := aM hr1
  have HCT := aM hc1
  have HLT := aM hlt
  have HD := aM (And.intro d1 (And.intro d2 (And.intro d3 (And.intro d4 d5))))
  have hu := Try.underlying27
  have HR0 := aM hr0_0
  have HC0 := aM hc0_0
  have HR1 := aM hr0_1
  have HC1 := aM hc0_1
  have HR2 := aM hr0_2
  have HC2 := aM hc0_2
  have HR3 := aM hr0_3
  have HC3 := aM hc0_3
  have HR4 := aM hr0_4
  have HC4 := aM hc0_4
  have HR5 := aM hr0_5
  have HC5 := aM hc0_5
  clear hok hot hlt d1 d2 d3 d4 d5 hr1 hc1 hr0_0 hc0_0 hr0_1 hc0_1 hr0_2 hc0_2 hr0_3 hc0_3 hr0_4 hc0_4 hr0_5 hc0_5
  go_enter Try.func22, Try.ntmps22
  go_wp2_with (first | (go_at_call 30; (with_reducible refine (open_calls A0_0 c0_0 l0_0 A0_1 c0_1 l0_1 A0_2 c0_2 l0_2 A0_3 c0_3 l0_3 A0_4 c0_4 l0_4 A0_5 c0_5 l0_5 A1 c1 l1 _ (Kd.C_below HR0.out HBX.out) HC0.out (Kd.C_below HR1.out HBX.out) HC1.out (Kd.C_below HR2.out HBX.out) HC2.out (Kd.C_below HR3.out HBX.out) HC3.out (Kd.C_below HR4.out HBX.out) HC4.out (Kd.C_below HR5.out HBX.out) HC5.out (Kd.C_below HRT.out HBX.out) HCT.out HOK.out).mono ?_); rintro e w2 ⟨b, rfl, hm, hb⟩; have HM := aM hm; have HB2 := aM (bSp HBX.out hb); clear hm hb) | (go_at_call 45; (with_reducible refine (final_calls b (caseData ⟨l0_0, l0_1, l0_2, l0_3, l0_4, l0_5⟩) l1 a2 _ HM.out (by have := HLT.out; omega) HD.out.2.2.2).mono ?_); rintro e w3 ⟨rfl, hb⟩; have HB3 := aM (bSp HB2.out hb); clear hb))
  go_ret
  exact ⟨rfl, HB3.out⟩
 ·rw [if_neg hok] at h; cases h
end Go.Proofs.Ythnkmcfhpjmihaa.Q
end
section
namespace Go.Proofs.Ythnkmcfhpjmihaa.Q
open Go.RowKit Go.Proofs.YthnkmcfhpjmihaaW.PrintWords Go.Proofs.YthnkmcfhpjmihaaW.PrintLast Go.Proofs.YthnkmcfhpjmihaaW.PrintMore
attribute [local go_sem] max2_int min2_int max_two min_two max_three min_three max_four min_four
set_option linter.unusedVariables false
set_option linter.unusedSimpArgs false
mutual
def r37_near.l0 : Nat → List Int → Int → Int → List (S43) → List (S43) → List (S43) → List (S43) → List (S33) → List (S33) → Option (Bool)
 | 0, _, _, _, _, _, _, _, _, _ => none
 | k + 1, x1, x2, x3, x281000, x281001, x281002, x281003, x281004, x281005 => if x2 ≥ 0 then (r37_near.j1 k x1 x2 x3 (decide (x2 < (x1.length : Int))) x281000 x281001 x281002 x281003 x281004 x281005) else (r37_near.j1 k x1 x2 x3 false x281000 x281001 x281002 x281003 x281004 x281005)
def r37_near.j1 : Nat → List Int → Int → Int → Bool → List (S43) → List (S43) → List (S43) → List (S43) → List (S33) → List (S33) → Option (Bool)
 | 0, _, _, _, _, _, _, _, _, _, _ => none
 | k + 1, x1, x2, x3, x16, x281000, x281001, x281002, x281003, x281004, x281005 => if x16 = true then (if 0 ≤ x2 then (if x2 < (x1.length : Int) then ((r02_Has.f k x281005 (rd x1 x2)).bind fun t282 => (if t282 = true then (r37_near.l0 k x1 (wrap64 (x2 + x3)) x3 x281000 x281001 x281002 x281003 x281004 x281005) else ((r02_Has.f k x281004 (rd x1 x2)).bind fun t284 => (some t284)))) else (none)) else (none)) else (some false)
end
def r37_near.f (k : Nat) (l0_0 : List (S43)) (l0_1 : List (S43)) (l0_2 : List (S43)) (l0_3 : List (S43)) (l0_4 : List (S33)) (l0_5 : List (S33)) (l1 : List Int) (a2 : Int) (a3 : Int) : Option (Bool) := r37_near.l0 k l1 a2 a3 l0_0 l0_1 l0_2 l0_3 l0_4 l0_5
def r37_near.T2 : Bool × List (List Nat × List Nat) := (true, [([], []), ([0], [0]), ([], []), ([], []), ([2, 3], [2, 3]), ([4], [4]), ([1, 5], [1, 5]), ([6], [6])])
def r37_near.B2 : List Nat := [0, 1, 0, 0, 12, 28, 63, 127]
theorem r37_near.tab2 : rtab .any (opsOf Try.f66 2) = r37_near.T2 := by kernel_rfl
theorem r37_near.bits2 : waitsOk r37_near.T2.2 r37_near.B2 = true := by kernel_rfl
def r37_near.T3 : Bool × List (List Nat × List Nat) := (true, [([], []), ([0], [0]), ([], []), ([], []), ([2, 3], [2, 3]), ([4], [4]), ([1, 5], [1, 5]), ([6, 6, 0, 1, 2, 3, 4, 5, 6], [6])])
def r37_near.B3 : List Nat := [0, 1, 0, 0, 12, 28, 63, 127]
theorem r37_near.tab3 : rtab .any (opsOf Try.f66 3) = r37_near.T3 := by kernel_rfl
theorem r37_near.bits3 : waitsOk r37_near.T3.2 r37_near.B3 = true := by kernel_rfl
set_option maxHeartbeats 8000000 in
set_option maxRecDepth 100000 in
theorem r37_near.calls (k : Nat) (A0_0 : Option Addr) (c0_0 : Nat) (l0_0 : List (S43)) (A0_1 : Option Addr) (c0_1 : Nat) (l0_1 : List (S43)) (A0_2 : Option Addr) (c0_2 : Nat) (l0_2 : List (S43)) (A0_3 : Option Addr) (c0_3 : Nat) (l0_3 : List (S43)) (A0_4 : Option Addr) (c0_4 : Nat) (l0_4 : List (S33)) (A0_5 : Option Addr) (c0_5 : Nat) (l0_5 : List (S33)) (A1 : Option Addr) (c1 : Nat) (l1 : List Int) (a2 : Int) (a3 : Int) (r : Bool) (w : World) (hr0_0 : Kd.C k43 w A0_0 l0_0.length l0_0) (hc0_0 : l0_0.length ≤ c0_0) (hr0_1 : Kd.C k43 w A0_1 l0_1.length l0_1) (hc0_1 : l0_1.length ≤ c0_1) (hr0_2 : Kd.C k43 w A0_2 l0_2.length l0_2) (hc0_2 : l0_2.length ≤ c0_2) (hr0_3 : Kd.C k43 w A0_3 l0_3.length l0_3) (hc0_3 : l0_3.length ≤ c0_3) (hr0_4 : Kd.C k33 w A0_4 l0_4.length l0_4) (hc0_4 : l0_4.length ≤ c0_4) (hr0_5 : Kd.C k33 w A0_5 l0_5.length l0_5) (hc0_5 : l0_5.length ≤ c0_5) (hr1 : Kd.C (Kd.int .i64) w A1 l1.length l1) (hc1 : l1.length ≤ c1) (h : r37_near.f k l0_0 l0_1 l0_2 l0_3 l0_4 l0_5 l1 a2 a3 = some r) :
  Calls Try.prog 66 #[.agg #[.slice A0_0 l0_0.length c0_0, .slice A0_1 l0_1.length c0_1, .slice A0_2 l0_2.length c0_2, .slice A0_3 l0_3.length c0_3, .slice A0_4 l0_4.length c0_4, .slice A0_5 l0_5.length c0_5], .slice A1 l1.length c1, .int .i64 a2, .int .i64 a3] w fun e w' => e = .returned (.bool r) ∧ Below w.heap.size w w' := by
 have hu27 := Try.underlying27
 have hu25 := Try.underlying25
 have HR0_0 := aM hr0_0
 have HC0_0 := aM hc0_0
 clear hr0_0 hc0_0
 have HR0_1 := aM hr0_1
 have HC0_1 := aM hc0_1
 clear hr0_1 hc0_1
 have HR0_2 := aM hr0_2
 have HC0_2 := aM hc0_2
 clear hr0_2 hc0_2
 have HR0_3 := aM hr0_3
 have HC0_3 := aM hc0_3
 clear hr0_3 hc0_3
 have HR0_4 := aM hr0_4
 have HC0_4 := aM hc0_4
 clear hr0_4 hc0_4
 have HR0_5 := aM hr0_5
 have HC0_5 := aM hc0_5
 clear hr0_5 hc0_5
 have HR1 := aM hr1
 have HC1 := aM hc1
 clear hr1 hc1
 have HB := aM (Below.refl w.heap.size w)
 have H : (r37_near.l0 k l1 a2 a3 l0_0 l0_1 l0_2 l0_3 l0_4 l0_5) = some r := h
 clear h
 have H' := aM H
 clear H
 go_enter Try.func66, Try.ntmps66
 go_wp2_with (first | ((with_reducible refine gate_dst (N := 4) rfl ?_); (try (refine gate_guard (by rfl) ?_; dsimp only)); refine box_event ?hg (N := 4) ?hd (cs := #[.slice A0_0 l0_0.length c0_0, .slice A0_1 l0_1.length c0_1, .slice A0_2 l0_2.length c0_2, .slice A0_3 l0_3.length c0_3, .slice A0_4 l0_4.length c0_4, .slice A0_5 l0_5.length c0_5]) (t := 27) ?hr ?_; (case hd => rfl); (case hg => rfl); (case hr => first | (go_simp; done) | (go_simp; rfl)); intro gb280 hg w5 hbox hb; have n0_ := aM (bSp (by repeat (first | (with_reducible first | exact HB.out | apply bAl | apply pbN | apply bD1) | exact HB.out)) hb); have n1_ := aM (hbox); have n2_ := aM ((by rw [hg]; exact (bSz (by repeat (first | (with_reducible first | exact HB.out | apply bAl | apply pbN | apply bD1) | exact HB.out))) : w.heap.size ≤ gb280)); have n3_ := aM ((by rw [hg]; exact (bSz (by repeat (first | (with_reducible first | exact HB.out | apply bAl | apply pbN | apply bD1) | exact HB.out))) : w.heap.size ≤ gb280)); clear HB; have HB := n0_; have BK280 := n1_; have GW280 := n2_; have GE280 := n3_; clear n0_ n1_ n2_ n3_; clear hb hbox hg))
 go_loopg [2] k (fun kq v2 w' => ∃ (x2_1 : Int), v2 = .int .i64 x2_1 ∧ Aside0 (r37_near.l0 kq l1 x2_1 a3 l0_0 l0_1 l0_2 l0_3 l0_4 l0_5 = some r) ∧ Aside0 (kq ≤ k) ∧ Aside0 (w'.heap[gb280]? = some (.cells #[(.slice A0_0 l0_0.length c0_0), (.slice A0_1 l0_1.length c0_1), (.slice A0_2 l0_2.length c0_2), (.slice A0_3 l0_3.length c0_3), (.slice A0_4 l0_4.length c0_4), (.slice A0_5 l0_5.length c0_5)] 27 (0, 0))) ∧ Aside0 (Below w.heap.size w w'))
 case atStart => exact ⟨(a2), (by first | rfl | (simp; done) | (simp [*]; done)), H', ⟨Nat.le_refl _⟩, ⟨by (with_reducible repeat (first | refine bkN ?_ _ | refine bkD ?_ | refine bkA ?_ _)); exact BK280.out⟩, ⟨by repeat (first | (with_reducible first | exact HB.out | apply bAl | apply pbN | apply bD1 | refine bSt ?_ GE280.out) | exact HB.out)⟩⟩
 case round =>
  clear H'
  try clear c1
  try clear p2
  obtain ⟨x2_1, rfl, HA, HK1, BK280, HB⟩ := hrel
  cases gk with
  | zero => exact absurd HA.out (by simp [r37_near.l0])
  | succ k1 =>
   have H := HA.out
   clear HA
   simp only [r37_near.l0] at H
   have HC6 := aM H
   clear H
   go_upto_region 1 with (fail)
   go_cut [16] (fun v16 wc => ∃ (kq : Nat) (x16_5 : Bool), v16 = .bool x16_5 ∧ Aside0 (r37_near.j1 kq l1 x2_1 a3 x16_5 l0_0 l0_1 l0_2 l0_3 l0_4 l0_5 = some r) ∧ Aside0 (kq ≤ k1) ∧ Aside0 (wc.heap[gb280]? = some (.cells #[(.slice A0_0 l0_0.length c0_0), (.slice A0_1 l0_1.length c0_1), (.slice A0_2 l0_2.length c0_2), (.slice A0_3 l0_3.length c0_3), (.slice A0_4 l0_4.length c0_4), (.slice A0_5 l0_5.length c0_5)] 27 (0, 0))) ∧ Aside0 (Below w.heap.size w wc))
   case first =>
    have H := HC6.out
    clear HC6
    by_cases c7 : x2_1 ≥ 0
    ·rw [if_pos c7] at H
     have c7b0 : decide (0 ≤ x2_1) = true := dT c7
     clear c7
     (first | rw [c7b0] | (simp only [i64_w, i32_w]; rw [c7b0]) | skip)
     have H' := aM H
     clear H
     go_wp2
     go_meet
     case rel => exact ⟨_, (decide (x2_1 < (l1.length : Int))), (by first | rfl | (simp; done) | (simp [*]; done)), H', ⟨by have := HK1.out; first | omega | exact Nat.le_refl _⟩, ⟨by (with_reducible repeat (first | refine bkN ?_ _ | refine bkD ?_ | refine bkA ?_ _)); exact BK280.out⟩, ⟨by repeat (first | (with_reducible first | exact HB.out | apply bAl | apply pbN | apply bD1 | refine bSt ?_ GE280.out) | exact HB.out)⟩⟩
    ·rw [if_neg c7] at H
     have c7b0 : decide (0 ≤ x2_1) = false := decide_eq_false c7
     clear c7
     (first | rw [c7b0] | (simp only [i64_w, i32_w]; rw [c7b0]) | skip)
     have H' := aM H
     clear H
     go_wp2
     go_meet
     case rel => exact ⟨_, (false), (by first | rfl | (simp; done) | (simp [*]; done)), H', ⟨by have := HK1.out; first | omega | exact Nat.le_refl _⟩, ⟨by (with_reducible repeat (first | refine bkN ?_ _ | refine bkD ?_ | refine bkA ?_ _)); exact BK280.out⟩, ⟨by repeat (first | (with_reducible first | exact HB.out | apply bAl | apply pbN | apply bD1 | refine bSt ?_ GE280.out) | exact HB.out)⟩⟩
   case rest =>
    clear HC6
    try clear c1
    try clear p2
    try clear c6
    try clear c7
    try clear c7b0
    try clear p2
    obtain ⟨kq, x16_5, rfl, HA, HJ5, BK280, HB⟩ := hcut
    cases kq with
    | zero => exact absurd HA.out (by simp [r37_near.j1])
    | succ kj5 =>
     have H := HA.out
     clear HA
     simp only [r37_near.j1] at H
     by_cases c8 : x16_5 = true
     ·subst c8
      have H1 : (if 0 ≤ x2_1 then (if x2_1 < (l1.length : Int) then ((r02_Has.f kj5 l0_5 (rd l1 x2_1)).bind fun t282 => (if t282 = true then (r37_near.l0 kj5 l1 (wrap64 (x2_1 + a3)) a3 l0_0 l0_1 l0_2 l0_3 l0_4 l0_5) else ((r02_Has.f kj5 l0_4 (rd l1 x2_1)).bind fun t284 => (some t284)))) else (none)) else (none)) = some r := by rw [if_pos rfl] at H; exact H
      clear H
      have H := H1
      clear H1
      by_cases c9 : 0 ≤ x2_1
      ·rw [if_pos c9] at H
       have c9b0 : decide (0 ≤ x2_1) = true := dT c9
       clear c9
       by_cases c10 : x2_1 < (l1.length : Int)
       ·rw [if_pos c10] at H
        have c10b0 : decide (x2_1 < (l1.length : Int)) = true := dT c10
        clear c10
        replace H := Option.bind_eq_some_iff.mp H
        obtain ⟨t282, A110, H⟩ := H
        replace H : (if t282 = true then (r37_near.l0 kj5 l1 (wrap64 (x2_1 + a3)) a3 l0_0 l0_1 l0_2 l0_3 l0_4 l0_5) else ((r02_Has.f kj5 l0_4 (rd l1 x2_1)).bind fun t284 => (some t284))) = some r := H
        have A11 := aM A110
        clear A110
        by_cases c12 : t282 = true
        ·subst c12
         have H1 : (r37_near.l0 kj5 l1 (wrap64 (x2_1 + a3)) a3 l0_0 l0_1 l0_2 l0_3 l0_4 l0_5) = some r := by rw [if_pos rfl] at H; exact H
         clear H
         have H := H1
         clear H1
         have H' := aM H
         clear H
         try go_wp2
         have n0_ := aM (bkD BK280.out)
         have n1_ := aM (bD1 HB.out)
         clear BK280
         clear HB
         have BK280 := n0_
         have HB := n1_
         clear n0_ n1_
         have p281 : 0 ≤ (x2_1 : Int) := oD (by first | (with_reducible assumption) | assumption)
         have q281 : x2_1 < (l1.length : Int) := oD (by first | (with_reducible assumption) | assumption)
         obtain ⟨ad281, e281, hx281_0⟩ := Kd.at_int HR1.out x2_1 p281 q281
         have hw281_0 := hx281_0
         cases e281
         replace hx281_0 := (HB.out.cell (World.block_lt_of_cell? w _ hx281_0)).trans hx281_0
         replace p281 := eq_true p281
         replace q281 := eq_true q281
         refine start_ (n := 8) (S := fun w' => w'.cell? ⟨gb280, 0, none⟩ = some (.slice A0_0 l0_0.length c0_0) ∧ w'.cell? ⟨gb280, 1, none⟩ = some (.slice A0_1 l0_1.length c0_1) ∧ w'.cell? ⟨gb280, 2, none⟩ = some (.slice A0_2 l0_2.length c0_2) ∧ w'.cell? ⟨gb280, 3, none⟩ = some (.slice A0_3 l0_3.length c0_3) ∧ w'.cell? ⟨gb280, 4, none⟩ = some (.slice A0_4 l0_4.length c0_4) ∧ w'.cell? ⟨gb280, 5, none⟩ = some (.slice A0_5 l0_5.length c0_5) ∧ w'.cell? (ad281.add (x2_1).toNat) = some (.int .i64 (rd l1 x2_1))) (ds := []) #[false, false, false, false, false, false, false, false] (by kernel_rfl) rfl rfl ⟨(bkC BK280.out 0).trans rfl, (bkC BK280.out 1).trans rfl, (bkC BK280.out 2).trans rfl, (bkC BK280.out 3).trans rfl, (bkC BK280.out 4).trans rfl, (bkC BK280.out 5).trans rfl, ((HB.out.cell (World.block_lt_of_cell? w _ hw281_0)).trans hw281_0)⟩ (fun hHeld => ?_); refine with_tabW r37_near.tab2 r37_near.bits2 (fun HT_ HW_ => ?_)
         generalize wc.drew = w13 at BK280 HB hx281_0 hHeld ⊢
         refine pure_ (i := 0) (N := some 17) (v := ?_) (a' := ?_) #[true, false, false, false, false, false, false, false] rfl rfl (any_of HT_.out (by kernel_rfl)) (fun _ _ _ h => h) (Or.inl ⟨by rfl, ?_⟩) ?_ ?_
         rotate_left
         ·intro w'
          go_simp
          with_reducible rfl
         rotate_left
         ·simp only [Act.put, sI, sZ, sS, i64_w, i32_w]
          rfl
         refine pure_ (i := 2) (N := some 19) (v := ?_) (a' := ?_) #[true, false, true, false, false, false, false, false] rfl rfl (any_of HT_.out (by kernel_rfl)) (fun _ _ _ h => h) (Or.inl ⟨by rfl, ?_⟩) ?_ ?_
         rotate_left
         ·intro w'
          go_simp
          with_reducible rfl
         rotate_left
         ·simp only [Act.put, sI, sZ, sS, i64_w, i32_w]
          rfl
         refine pure_ (i := 3) (N := some 20) (v := ?_) (a' := ?_) #[true, false, true, true, false, false, false, false] rfl rfl (any_of HT_.out (by kernel_rfl)) (fun _ _ _ h => h) (Or.inl ⟨by rfl, ?_⟩) ?_ ?_
         rotate_left
         ·intro w'
          go_simp
          with_reducible rfl
         rotate_left
         ·simp only [Act.put, sI, sZ, sS, i64_w, i32_w]
          rfl
         refine pure_ (i := 4) (N := some 21) (v := ?_) (a' := ?_) #[true, false, true, true, true, false, false, false] rfl rfl (any_of HT_.out (by kernel_rfl)) (fun _ _ _ h => h) (Or.inl ⟨by rfl, ?_⟩) ?_ ?_
         rotate_left
         ·intro w'
          go_simp
          with_reducible rfl
         rotate_left
         ·simp only [Act.put, sI, sZ, sS, i64_w, i32_w]
          rfl
         refine take_ (i := 1) (N := some 18) (v := ?_) (a' := ?_) #[true, true, true, true, true, false, false, false] rfl rfl (take_ofW HT_.out HW_.out (by kernel_rfl)) (fun _ _ _ h => h) (Or.inl ⟨by rfl, ?_⟩) hHeld ?_ ?_
         rotate_left
         ·rintro w' ⟨s0, s1, s2, s3, s4, s5, s6⟩
          go_simp
          with_reducible rfl
         rotate_left
         ·simp only [Act.put, sI, sZ, sS, i64_w, i32_w]
          rfl
         refine take_ (i := 5) (N := some 22) (v := ?_) (a' := ?_) #[true, true, true, true, true, true, false, false] rfl rfl (take_ofW HT_.out HW_.out (by kernel_rfl)) (fun _ _ _ h => h) (Or.inl ⟨by rfl, ?_⟩) hHeld ?_ ?_
         rotate_left
         ·rintro w' ⟨s0, s1, s2, s3, s4, s5, s6⟩
          go_simp
          with_reducible rfl
         rotate_left
         ·simp only [Act.put, sI, sZ, sS, i64_w, i32_w]
          rfl
         refine one_ (i := 6) (N := some 23) #[true, true, true, true, true, true, true, false] rfl rfl (one_of HT_.out (by kernel_rfl)) (by decide) (fun K hK => ?_)
         refine goes_ Try.func29 (by kernel_rfl) rfl #[.agg #[.slice A0_5 l0_5.length c0_5], .int .i64 (rd l1 x2_1)] (by rfl) rfl rfl (by (try simp only [List.map_toArray, List.map_cons, List.map_nil]); first | done | rfl | (simp only [List.length_drop, List.length_take]; rfl)) ?_
         with_reducible refine (r02_Has.calls kj5 _ _ l0_5 (rd l1 x2_1) true _ ?side1 ?side2 A11.out).mono ?_
         (case side1 => repeat (first | exact (Kd.C_below HR0_5.out HB.out) | (with_reducible refine Kd.C_alloc ?_ _) | (with_reducible refine Kd.C_drewN ?_ _) | (with_reducible refine Kd.C_drew ?_)))
         (case side2 => exact HC0_5.out)
         rintro e w14 ⟨rfl, hb⟩
         refine ⟨_, rfl, ?_⟩
         have n0_ := aM (blk_below (g := gb280) (o := .cells #[.slice A0_0 l0_0.length c0_0, .slice A0_1 l0_1.length c0_1, .slice A0_2 l0_2.length c0_2, .slice A0_3 l0_3.length c0_3, .slice A0_4 l0_4.length c0_4, .slice A0_5 l0_5.length c0_5] 27 (0, 0)) (by (with_reducible repeat (first | refine bkN ?_ _ | refine bkD ?_ | refine bkA ?_ _)); exact BK280.out) hb)
         have n1_ := aM (bSp (by repeat (first | (with_reducible first | exact HB.out | apply bAl | apply pbN | apply bD1 | refine bSt ?_ GE280.out) | exact HB.out)) hb)
         clear BK280
         clear HB
         have BK280 := n0_
         have HB := n1_
         clear n0_ n1_
         (try clear hb)
         (try clear hb2)
         (try clear hk)
         (try clear hi)
         refine hK.out _ _ ⟨(bkC BK280.out 0).trans rfl, (bkC BK280.out 1).trans rfl, (bkC BK280.out 2).trans rfl, (bkC BK280.out 3).trans rfl, (bkC BK280.out 4).trans rfl, (bkC BK280.out 5).trans rfl, ((HB.out.cell (World.block_lt_of_cell? w _ hw281_0)).trans hw281_0)⟩ (fun hHeld => ?_)
         clear hK K
         refine norm_ (a' := ?_) ?_ ?_
         rotate_left
         ·show Act.put _ (some 23) _ = _
          simp only [Act.put, sI, sZ, sS, i64_w, i32_w]
          rfl
         refine pure_ (i := 7) (N := some 24) (v := ?_) (a' := ?_) #[true, true, true, true, true, true, true, true] rfl rfl (any_of HT_.out (by kernel_rfl)) (fun _ _ _ h => h) (Or.inl ⟨by rfl, ?_⟩) ?_ ?_
         rotate_left
         ·intro w'
          go_simp
          with_reducible rfl
         rotate_left
         ·simp only [Act.put, sI, sZ, sS, i64_w, i32_w]
          rfl
         refine done_ (done_of HT_.out (by kernel_rfl)) ?_
         try go_wp2
         go_roundg kj5
         case measure => have := HK1.out; have := HJ5.out; omega
         case rel => exact ⟨(wrap64 (x2_1 + a3)), (by first | rfl | (simp; done) | (simp [*]; done)), H', ⟨by have := HK1.out; have := HJ5.out; omega⟩, ⟨by (with_reducible repeat (first | refine bkN ?_ _ | refine bkD ?_ | refine bkA ?_ _)); exact BK280.out⟩, ⟨by repeat (first | (with_reducible first | exact HB.out | apply bAl | apply pbN | apply bD1 | refine bSt ?_ GE280.out) | exact HB.out)⟩⟩
        ·replace c12 := Bool.eq_false_iff.mpr c12
         subst c12
         have H1 : ((r02_Has.f kj5 l0_4 (rd l1 x2_1)).bind fun t284 => (some t284)) = some r := by rw [if_neg (show ¬ (false = true) by decide)] at H; exact H
         clear H
         have H := H1
         clear H1
         replace H := Option.bind_eq_some_iff.mp H
         obtain ⟨t284, A150, H⟩ := H
         replace H : (some t284) = some r := H
         have A15 := aM A150
         clear A150
         obtain rfl := Option.some.inj H
         try go_wp2
         have n0_ := aM (bkD BK280.out)
         have n1_ := aM (bD1 HB.out)
         clear BK280
         clear HB
         have BK280 := n0_
         have HB := n1_
         clear n0_ n1_
         have p281 : 0 ≤ (x2_1 : Int) := oD (by first | (with_reducible assumption) | assumption)
         have q281 : x2_1 < (l1.length : Int) := oD (by first | (with_reducible assumption) | assumption)
         obtain ⟨ad281, e281, hx281_0⟩ := Kd.at_int HR1.out x2_1 p281 q281
         have hw281_0 := hx281_0
         cases e281
         replace hx281_0 := (HB.out.cell (World.block_lt_of_cell? w _ hx281_0)).trans hx281_0
         replace p281 := eq_true p281
         replace q281 := eq_true q281
         refine start_ (n := 8) (S := fun w' => w'.cell? ⟨gb280, 0, none⟩ = some (.slice A0_0 l0_0.length c0_0) ∧ w'.cell? ⟨gb280, 1, none⟩ = some (.slice A0_1 l0_1.length c0_1) ∧ w'.cell? ⟨gb280, 2, none⟩ = some (.slice A0_2 l0_2.length c0_2) ∧ w'.cell? ⟨gb280, 3, none⟩ = some (.slice A0_3 l0_3.length c0_3) ∧ w'.cell? ⟨gb280, 4, none⟩ = some (.slice A0_4 l0_4.length c0_4) ∧ w'.cell? ⟨gb280, 5, none⟩ = some (.slice A0_5 l0_5.length c0_5) ∧ w'.cell? (ad281.add (x2_1).toNat) = some (.int .i64 (rd l1 x2_1))) (ds := []) #[false, false, false, false, false, false, false, false] (by kernel_rfl) rfl rfl ⟨(bkC BK280.out 0).trans rfl, (bkC BK280.out 1).trans rfl, (bkC BK280.out 2).trans rfl, (bkC BK280.out 3).trans rfl, (bkC BK280.out 4).trans rfl, (bkC BK280.out 5).trans rfl, ((HB.out.cell (World.block_lt_of_cell? w _ hw281_0)).trans hw281_0)⟩ (fun hHeld => ?_); refine with_tabW r37_near.tab2 r37_near.bits2 (fun HT_ HW_ => ?_)
         generalize wc.drew = w16 at BK280 HB hx281_0 hHeld ⊢
         refine pure_ (i := 0) (N := some 17) (v := ?_) (a' := ?_) #[true, false, false, false, false, false, false, false] rfl rfl (any_of HT_.out (by kernel_rfl)) (fun _ _ _ h => h) (Or.inl ⟨by rfl, ?_⟩) ?_ ?_
         rotate_left
         ·intro w'
          go_simp
          with_reducible rfl
         rotate_left
         ·simp only [Act.put, sI, sZ, sS, i64_w, i32_w]
          rfl
         refine pure_ (i := 2) (N := some 19) (v := ?_) (a' := ?_) #[true, false, true, false, false, false, false, false] rfl rfl (any_of HT_.out (by kernel_rfl)) (fun _ _ _ h => h) (Or.inl ⟨by rfl, ?_⟩) ?_ ?_
         rotate_left
         ·intro w'
          go_simp
          with_reducible rfl
         rotate_left
         ·simp only [Act.put, sI, sZ, sS, i64_w, i32_w]
          rfl
         refine pure_ (i := 3) (N := some 20) (v := ?_) (a' := ?_) #[true, false, true, true, false, false, false, false] rfl rfl (any_of HT_.out (by kernel_rfl)) (fun _ _ _ h => h) (Or.inl ⟨by rfl, ?_⟩) ?_ ?_
         rotate_left
         ·intro w'
          go_simp
          with_reducible rfl
         rotate_left
         ·simp only [Act.put, sI, sZ, sS, i64_w, i32_w]
          rfl
         refine pure_ (i := 4) (N := some 21) (v := ?_) (a' := ?_) #[true, false, true, true, true, false, false, false] rfl rfl (any_of HT_.out (by kernel_rfl)) (fun _ _ _ h => h) (Or.inl ⟨by rfl, ?_⟩) ?_ ?_
         rotate_left
         ·intro w'
          go_simp
          with_reducible rfl
         rotate_left
         ·simp only [Act.put, sI, sZ, sS, i64_w, i32_w]
          rfl
         refine take_ (i := 1) (N := some 18) (v := ?_) (a' := ?_) #[true, true, true, true, true, false, false, false] rfl rfl (take_ofW HT_.out HW_.out (by kernel_rfl)) (fun _ _ _ h => h) (Or.inl ⟨by rfl, ?_⟩) hHeld ?_ ?_
         rotate_left
         ·rintro w' ⟨s0, s1, s2, s3, s4, s5, s6⟩
          go_simp
          with_reducible rfl
         rotate_left
         ·simp only [Act.put, sI, sZ, sS, i64_w, i32_w]
          rfl
         refine take_ (i := 5) (N := some 22) (v := ?_) (a' := ?_) #[true, true, true, true, true, true, false, false] rfl rfl (take_ofW HT_.out HW_.out (by kernel_rfl)) (fun _ _ _ h => h) (Or.inl ⟨by rfl, ?_⟩) hHeld ?_ ?_
         rotate_left
         ·rintro w' ⟨s0, s1, s2, s3, s4, s5, s6⟩
          go_simp
          with_reducible rfl
         rotate_left
         ·simp only [Act.put, sI, sZ, sS, i64_w, i32_w]
          rfl
         refine one_ (i := 6) (N := some 23) #[true, true, true, true, true, true, true, false] rfl rfl (one_of HT_.out (by kernel_rfl)) (by decide) (fun K hK => ?_)
         refine goes_ Try.func29 (by kernel_rfl) rfl #[.agg #[.slice A0_5 l0_5.length c0_5], .int .i64 (rd l1 x2_1)] (by rfl) rfl rfl (by (try simp only [List.map_toArray, List.map_cons, List.map_nil]); first | done | rfl | (simp only [List.length_drop, List.length_take]; rfl)) ?_
         with_reducible refine (r02_Has.calls kj5 _ _ l0_5 (rd l1 x2_1) false _ ?side1 ?side2 A11.out).mono ?_
         (case side1 => repeat (first | exact (Kd.C_below HR0_5.out HB.out) | (with_reducible refine Kd.C_alloc ?_ _) | (with_reducible refine Kd.C_drewN ?_ _) | (with_reducible refine Kd.C_drew ?_)))
         (case side2 => exact HC0_5.out)
         rintro e w17 ⟨rfl, hb⟩
         refine ⟨_, rfl, ?_⟩
         have n0_ := aM (blk_below (g := gb280) (o := .cells #[.slice A0_0 l0_0.length c0_0, .slice A0_1 l0_1.length c0_1, .slice A0_2 l0_2.length c0_2, .slice A0_3 l0_3.length c0_3, .slice A0_4 l0_4.length c0_4, .slice A0_5 l0_5.length c0_5] 27 (0, 0)) (by (with_reducible repeat (first | refine bkN ?_ _ | refine bkD ?_ | refine bkA ?_ _)); exact BK280.out) hb)
         have n1_ := aM (bSp (by repeat (first | (with_reducible first | exact HB.out | apply bAl | apply pbN | apply bD1 | refine bSt ?_ GE280.out) | exact HB.out)) hb)
         clear BK280
         clear HB
         have BK280 := n0_
         have HB := n1_
         clear n0_ n1_
         (try clear hb)
         (try clear hb2)
         (try clear hk)
         (try clear hi)
         refine hK.out _ _ ⟨(bkC BK280.out 0).trans rfl, (bkC BK280.out 1).trans rfl, (bkC BK280.out 2).trans rfl, (bkC BK280.out 3).trans rfl, (bkC BK280.out 4).trans rfl, (bkC BK280.out 5).trans rfl, ((HB.out.cell (World.block_lt_of_cell? w _ hw281_0)).trans hw281_0)⟩ (fun hHeld => ?_)
         clear hK K
         refine norm_ (a' := ?_) ?_ ?_
         rotate_left
         ·show Act.put _ (some 23) _ = _
          simp only [Act.put, sI, sZ, sS, i64_w, i32_w]
          rfl
         refine pure_ (i := 7) (N := some 24) (v := ?_) (a' := ?_) #[true, true, true, true, true, true, true, true] rfl rfl (any_of HT_.out (by kernel_rfl)) (fun _ _ _ h => h) (Or.inl ⟨by rfl, ?_⟩) ?_ ?_
         rotate_left
         ·intro w'
          go_simp
          with_reducible rfl
         rotate_left
         ·simp only [Act.put, sI, sZ, sS, i64_w, i32_w]
          rfl
         refine done_ (done_of HT_.out (by kernel_rfl)) ?_
         try go_wp2
         have n0_ := aM (bkD BK280.out)
         have n1_ := aM (bD1 HB.out)
         clear BK280
         clear HB
         have BK280 := n0_
         have HB := n1_
         clear n0_ n1_
         have p283 : 0 ≤ (x2_1 : Int) := oD (by first | (with_reducible assumption) | assumption)
         have q283 : x2_1 < (l1.length : Int) := oD (by first | (with_reducible assumption) | assumption)
         obtain ⟨ad283, e283, hx283_0⟩ := Kd.at_int HR1.out x2_1 p283 q283
         have hw283_0 := hx283_0
         obtain rfl : ad281 = ad283 := (by injection e283)
         replace hx283_0 := (HB.out.cell (World.block_lt_of_cell? w _ hx283_0)).trans hx283_0
         replace p283 := eq_true p283
         replace q283 := eq_true q283
         refine start_ (n := 8) (S := fun w' => w'.cell? ⟨gb280, 0, none⟩ = some (.slice A0_0 l0_0.length c0_0) ∧ w'.cell? ⟨gb280, 1, none⟩ = some (.slice A0_1 l0_1.length c0_1) ∧ w'.cell? ⟨gb280, 2, none⟩ = some (.slice A0_2 l0_2.length c0_2) ∧ w'.cell? ⟨gb280, 3, none⟩ = some (.slice A0_3 l0_3.length c0_3) ∧ w'.cell? ⟨gb280, 4, none⟩ = some (.slice A0_4 l0_4.length c0_4) ∧ w'.cell? ⟨gb280, 5, none⟩ = some (.slice A0_5 l0_5.length c0_5) ∧ w'.cell? (ad281.add (x2_1).toNat) = some (.int .i64 (rd l1 x2_1))) (ds := []) #[false, false, false, false, false, false, false, false] (by kernel_rfl) rfl rfl ⟨(bkC BK280.out 0).trans rfl, (bkC BK280.out 1).trans rfl, (bkC BK280.out 2).trans rfl, (bkC BK280.out 3).trans rfl, (bkC BK280.out 4).trans rfl, (bkC BK280.out 5).trans rfl, ((HB.out.cell (World.block_lt_of_cell? w _ hw283_0)).trans hw283_0)⟩ (fun hHeld => ?_); refine with_tabW r37_near.tab3 r37_near.bits3 (fun HT_ HW_ => ?_)
         generalize w17.drew = w18 at BK280 HB hx283_0 hHeld ⊢
         refine pure_ (i := 0) (N := some 25) (v := ?_) (a' := ?_) #[true, false, false, false, false, false, false, false] rfl rfl (any_of HT_.out (by kernel_rfl)) (fun _ _ _ h => h) (Or.inl ⟨by rfl, ?_⟩) ?_ ?_
         rotate_left
         ·intro w'
          go_simp
          with_reducible rfl
         rotate_left
         ·simp only [Act.put, sI, sZ, sS, i64_w, i32_w]
          rfl
         refine pure_ (i := 2) (N := some 27) (v := ?_) (a' := ?_) #[true, false, true, false, false, false, false, false] rfl rfl (any_of HT_.out (by kernel_rfl)) (fun _ _ _ h => h) (Or.inl ⟨by rfl, ?_⟩) ?_ ?_
         rotate_left
         ·intro w'
          go_simp
          with_reducible rfl
         rotate_left
         ·simp only [Act.put, sI, sZ, sS, i64_w, i32_w]
          rfl
         refine pure_ (i := 3) (N := some 28) (v := ?_) (a' := ?_) #[true, false, true, true, false, false, false, false] rfl rfl (any_of HT_.out (by kernel_rfl)) (fun _ _ _ h => h) (Or.inl ⟨by rfl, ?_⟩) ?_ ?_
         rotate_left
         ·intro w'
          go_simp
          with_reducible rfl
         rotate_left
         ·simp only [Act.put, sI, sZ, sS, i64_w, i32_w]
          rfl
         refine pure_ (i := 4) (N := some 29) (v := ?_) (a' := ?_) #[true, false, true, true, true, false, false, false] rfl rfl (any_of HT_.out (by kernel_rfl)) (fun _ _ _ h => h) (Or.inl ⟨by rfl, ?_⟩) ?_ ?_
         rotate_left
         ·intro w'
          go_simp
          with_reducible rfl
         rotate_left
         ·simp only [Act.put, sI, sZ, sS, i64_w, i32_w]
          rfl
         refine take_ (i := 1) (N := some 26) (v := ?_) (a' := ?_) #[true, true, true, true, true, false, false, false] rfl rfl (take_ofW HT_.out HW_.out (by kernel_rfl)) (fun _ _ _ h => h) (Or.inl ⟨by rfl, ?_⟩) hHeld ?_ ?_
         rotate_left
         ·rintro w' ⟨s0, s1, s2, s3, s4, s5, s6⟩
          go_simp
          with_reducible rfl
         rotate_left
         ·simp only [Act.put, sI, sZ, sS, i64_w, i32_w]
          rfl
         refine take_ (i := 5) (N := some 30) (v := ?_) (a' := ?_) #[true, true, true, true, true, true, false, false] rfl rfl (take_ofW HT_.out HW_.out (by kernel_rfl)) (fun _ _ _ h => h) (Or.inl ⟨by rfl, ?_⟩) hHeld ?_ ?_
         rotate_left
         ·rintro w' ⟨s0, s1, s2, s3, s4, s5, s6⟩
          go_simp
          with_reducible rfl
         rotate_left
         ·simp only [Act.put, sI, sZ, sS, i64_w, i32_w]
          rfl
         refine one_ (i := 6) (N := some 31) #[true, true, true, true, true, true, true, false] rfl rfl (one_of HT_.out (by kernel_rfl)) (by decide) (fun K hK => ?_)
         refine goes_ Try.func29 (by kernel_rfl) rfl #[.agg #[.slice A0_4 l0_4.length c0_4], .int .i64 (rd l1 x2_1)] (by rfl) rfl rfl (by (try simp only [List.map_toArray, List.map_cons, List.map_nil]); first | done | rfl | (simp only [List.length_drop, List.length_take]; rfl)) ?_
         with_reducible refine (r02_Has.calls kj5 _ _ l0_4 (rd l1 x2_1) t284 _ ?side1 ?side2 A15.out).mono ?_
         (case side1 => repeat (first | exact (Kd.C_below HR0_4.out HB.out) | (with_reducible refine Kd.C_alloc ?_ _) | (with_reducible refine Kd.C_drewN ?_ _) | (with_reducible refine Kd.C_drew ?_)))
         (case side2 => exact HC0_4.out)
         rintro e w19 ⟨rfl, hb⟩
         refine ⟨_, rfl, ?_⟩
         have n0_ := aM (blk_below (g := gb280) (o := .cells #[.slice A0_0 l0_0.length c0_0, .slice A0_1 l0_1.length c0_1, .slice A0_2 l0_2.length c0_2, .slice A0_3 l0_3.length c0_3, .slice A0_4 l0_4.length c0_4, .slice A0_5 l0_5.length c0_5] 27 (0, 0)) (by (with_reducible repeat (first | refine bkN ?_ _ | refine bkD ?_ | refine bkA ?_ _)); exact BK280.out) hb)
         have n1_ := aM (bSp (by repeat (first | (with_reducible first | exact HB.out | apply bAl | apply pbN | apply bD1 | refine bSt ?_ GE280.out) | exact HB.out)) hb)
         clear BK280
         clear HB
         have BK280 := n0_
         have HB := n1_
         clear n0_ n1_
         (try clear hb)
         (try clear hb2)
         (try clear hk)
         (try clear hi)
         refine hK.out _ _ ⟨(bkC BK280.out 0).trans rfl, (bkC BK280.out 1).trans rfl, (bkC BK280.out 2).trans rfl, (bkC BK280.out 3).trans rfl, (bkC BK280.out 4).trans rfl, (bkC BK280.out 5).trans rfl, ((HB.out.cell (World.block_lt_of_cell? w _ hw283_0)).trans hw283_0)⟩ (fun hHeld => ?_)
         clear hK K
         refine norm_ (a' := ?_) ?_ ?_
         rotate_left
         ·show Act.put _ (some 31) _ = _
          simp only [Act.put, sI, sZ, sS, i64_w, i32_w]
          rfl
         refine pure_ (i := 7) (N := some 8) (v := ?_) (a' := ?_) #[true, true, true, true, true, true, true, true] rfl rfl (any_of HT_.out (by kernel_rfl)) (fun _ _ _ h => h) (Or.inl ⟨by rfl, ?_⟩) ?_ ?_
         rotate_left
         ·intro w'
          go_simp
          with_reducible rfl
         rotate_left
         ·simp only [Act.put, sI, sZ, sS, i64_w, i32_w]
          rfl
         refine done_ (done_of HT_.out (by kernel_rfl)) ?_
         try go_wp2
         go_ret
         exact ⟨by first | rfl | (simp [eN, eS] <;> rfl) | (simp [*, eN, eS] <;> rfl), by repeat (first | (with_reducible first | exact HB.out | apply bAl | apply pbN | apply bD1 | refine bSt ?_ GE280.out) | exact HB.out)⟩
       ·rw [if_neg c10] at H
        exact absurd H (by simp)
      ·rw [if_neg c9] at H
       exact absurd H (by simp)
     ·replace c8 := Bool.eq_false_iff.mpr c8
      subst c8
      have H1 : (some false) = some r := by rw [if_neg (show ¬ (false = true) by decide)] at H; exact H
      clear H
      have H := H1
      clear H1
      obtain rfl := Option.some.inj H
      go_wp2
      go_ret
      exact ⟨by first | rfl | (simp [eN, eS] <;> rfl) | (simp [*, eN, eS] <;> rfl), by repeat (first | (with_reducible first | exact HB.out | apply bAl | apply pbN | apply bD1 | refine bSt ?_ GE280.out) | exact HB.out)⟩
attribute [local go_sem] max2_int min2_int max_two min_two max_three min_three max_four min_four
set_option linter.unusedVariables false
set_option linter.unusedSimpArgs false
def r37_final.f (k : Nat) (l0_0 : List (S43)) (l0_1 : List (S43)) (l0_2 : List (S43)) (l0_3 : List (S43)) (l0_4 : List (S33)) (l0_5 : List (S33)) (l1 : List Int) (a2 : Int) : Option (Bool) := (r37_near.f k l0_0 l0_1 l0_2 l0_3 l0_4 l0_5 l1 (wrap64 (a2 - 1)) (-1)).bind fun t286 => (if t286 = true then ((r37_near.f k l0_0 l0_1 l0_2 l0_3 l0_4 l0_5 l1 (wrap64 (a2 + 1)) 1).bind fun t287 => (some (!t287))) else (some false))
set_option maxHeartbeats 8000000 in
set_option maxRecDepth 100000 in
theorem r37_final.calls (k : Nat) (A0_0 : Option Addr) (c0_0 : Nat) (l0_0 : List (S43)) (A0_1 : Option Addr) (c0_1 : Nat) (l0_1 : List (S43)) (A0_2 : Option Addr) (c0_2 : Nat) (l0_2 : List (S43)) (A0_3 : Option Addr) (c0_3 : Nat) (l0_3 : List (S43)) (A0_4 : Option Addr) (c0_4 : Nat) (l0_4 : List (S33)) (A0_5 : Option Addr) (c0_5 : Nat) (l0_5 : List (S33)) (A1 : Option Addr) (c1 : Nat) (l1 : List Int) (a2 : Int) (r : Bool) (w : World) (hr0_0 : Kd.C k43 w A0_0 l0_0.length l0_0) (hc0_0 : l0_0.length ≤ c0_0) (hr0_1 : Kd.C k43 w A0_1 l0_1.length l0_1) (hc0_1 : l0_1.length ≤ c0_1) (hr0_2 : Kd.C k43 w A0_2 l0_2.length l0_2) (hc0_2 : l0_2.length ≤ c0_2) (hr0_3 : Kd.C k43 w A0_3 l0_3.length l0_3) (hc0_3 : l0_3.length ≤ c0_3) (hr0_4 : Kd.C k33 w A0_4 l0_4.length l0_4) (hc0_4 : l0_4.length ≤ c0_4) (hr0_5 : Kd.C k33 w A0_5 l0_5.length l0_5) (hc0_5 : l0_5.length ≤ c0_5) (hr1 : Kd.C (Kd.int .i64) w A1 l1.length l1) (hc1 : l1.length ≤ c1) (h : r37_final.f k l0_0 l0_1 l0_2 l0_3 l0_4 l0_5 l1 a2 = some r) :
  Calls Try.prog 46 #[.agg #[.slice A0_0 l0_0.length c0_0, .slice A0_1 l0_1.length c0_1, .slice A0_2 l0_2.length c0_2, .slice A0_3 l0_3.length c0_3, .slice A0_4 l0_4.length c0_4, .slice A0_5 l0_5.length c0_5], .slice A1 l1.length c1, .int .i64 a2] w fun e w' => e = .returned (.bool r) ∧ Below w.heap.size w w' := by
 have hu27 := Try.underlying27
 have HR0_0 := aM hr0_0
 have HC0_0 := aM hc0_0
 clear hr0_0 hc0_0
 have HR0_1 := aM hr0_1
 have HC0_1 := aM hc0_1
 clear hr0_1 hc0_1
 have HR0_2 := aM hr0_2
 have HC0_2 := aM hc0_2
 clear hr0_2 hc0_2
 have HR0_3 := aM hr0_3
 have HC0_3 := aM hc0_3
 clear hr0_3 hc0_3
 have HR0_4 := aM hr0_4
 have HC0_4 := aM hc0_4
 clear hr0_4 hc0_4
 have HR0_5 := aM hr0_5
 have HC0_5 := aM hc0_5
 clear hr0_5 hc0_5
 have HR1 := aM hr1
 have HC1 := aM hc1
 clear hr1 hc1
 have HB := aM (Below.refl w.heap.size w)
 have H : ((r37_near.f k l0_0 l0_1 l0_2 l0_3 l0_4 l0_5 l1 (wrap64 (a2 - 1)) (-1)).bind fun t286 => (if t286 = true then ((r37_near.f k l0_0 l0_1 l0_2 l0_3 l0_4 l0_5 l1 (wrap64 (a2 + 1)) 1).bind fun t287 => (some (!t287))) else (some false))) = some r := h
 clear h
 replace H := Option.bind_eq_some_iff.mp H
 obtain ⟨t286, A40, H⟩ := H
 replace H : (if t286 = true then ((r37_near.f k l0_0 l0_1 l0_2 l0_3 l0_4 l0_5 l1 (wrap64 (a2 + 1)) 1).bind fun t287 => (some (!t287))) else (some false)) = some r := H
 have A4 := aM A40
 clear A40
 by_cases c5 : t286 = true
 ·subst c5
  have H1 : ((r37_near.f k l0_0 l0_1 l0_2 l0_3 l0_4 l0_5 l1 (wrap64 (a2 + 1)) 1).bind fun t287 => (some (!t287))) = some r := by rw [if_pos rfl] at H; exact H
  clear H
  have H := H1
  clear H1
  replace H := Option.bind_eq_some_iff.mp H
  obtain ⟨t287, A60, H⟩ := H
  replace H : (some (!t287)) = some r := H
  have A6 := aM A60
  clear A60
  obtain rfl := Option.some.inj H
  go_enter Try.func46, Try.ntmps46
  go_wp2_with (first | ((with_reducible refine gate_dst (N := 3) rfl ?_); refine box_event ?hg (N := 3) ?hd (cs := #[.slice A0_0 l0_0.length c0_0, .slice A0_1 l0_1.length c0_1, .slice A0_2 l0_2.length c0_2, .slice A0_3 l0_3.length c0_3, .slice A0_4 l0_4.length c0_4, .slice A0_5 l0_5.length c0_5]) (t := 27) ?hr ?_; (case hd => rfl); (case hg => rfl); (case hr => first | (go_simp; done) | (go_simp; rfl)); intro gb285 hg w7 hbox hb; have n0_ := aM (bSp (by repeat (first | (with_reducible first | exact HB.out | apply bAl | apply pbN | apply bD1) | exact HB.out)) hb); have n1_ := aM (hbox); have n2_ := aM ((by rw [hg]; exact (bSz (by repeat (first | (with_reducible first | exact HB.out | apply bAl | apply pbN | apply bD1) | exact HB.out))) : w.heap.size ≤ gb285)); have n3_ := aM ((by rw [hg]; exact (bSz (by repeat (first | (with_reducible first | exact HB.out | apply bAl | apply pbN | apply bD1) | exact HB.out))) : w.heap.size ≤ gb285)); clear HB; have HB := n0_; have BK285 := n1_; have GW285 := n2_; have GE285 := n3_; clear n0_ n1_ n2_ n3_; clear hb hbox hg; have hcz8_0 : w7.cell? ⟨gb285, 0, none⟩ = some (.slice A0_0 l0_0.length c0_0) := (bkC BK285.out 0).trans rfl; have hcz8_1 : w7.cell? ⟨gb285, 1, none⟩ = some (.slice A0_1 l0_1.length c0_1) := (bkC BK285.out 1).trans rfl; have hcz8_2 : w7.cell? ⟨gb285, 2, none⟩ = some (.slice A0_2 l0_2.length c0_2) := (bkC BK285.out 2).trans rfl; have hcz8_3 : w7.cell? ⟨gb285, 3, none⟩ = some (.slice A0_3 l0_3.length c0_3) := (bkC BK285.out 3).trans rfl; have hcz8_4 : w7.cell? ⟨gb285, 4, none⟩ = some (.slice A0_4 l0_4.length c0_4) := (bkC BK285.out 4).trans rfl; have hcz8_5 : w7.cell? ⟨gb285, 5, none⟩ = some (.slice A0_5 l0_5.length c0_5) := (bkC BK285.out 5).trans rfl; have hfz8_0 := bkF BK285.out 0; have hfz8_1 := bkF BK285.out 1; have hfz8_2 := bkF BK285.out 2; have hfz8_3 := bkF BK285.out 3; have hfz8_4 := bkF BK285.out 4; have hfz8_5 := bkF BK285.out 5) | ((with_reducible refine gate_callee (f := 66) rfl ?_); refine goesL_ (some 11) rfl rfl Try.func66 (by kernel_rfl) rfl #[.agg #[.slice A0_0 l0_0.length c0_0, .slice A0_1 l0_1.length c0_1, .slice A0_2 l0_2.length c0_2, .slice A0_3 l0_3.length c0_3, .slice A0_4 l0_4.length c0_4, .slice A0_5 l0_5.length c0_5], .slice A1 l1.length c1, .int .i64 (wrap64 (a2 - 1)), .int .i64 (-1)] rfl (by (try simp only [List.map_toArray, List.map_cons, List.map_nil]); first | done | rfl | (simp only [List.length_drop, List.length_take]; rfl)) ?_; (with_reducible refine (r37_near.calls k _ _ l0_0 _ _ l0_1 _ _ l0_2 _ _ l0_3 _ _ l0_4 _ _ l0_5 _ _ l1 (wrap64 (a2 - 1)) (-1) true _ ?side1 ?side2 ?side3 ?side4 ?side5 ?side6 ?side7 ?side8 ?side9 ?side10 ?side11 ?side12 ?side13 ?side14 A4.out).mono ?_); (case side1 => repeat (first | exact (Kd.C_below HR0_0.out HB.out) | (with_reducible refine Kd.C_alloc ?_ _) | (with_reducible refine Kd.C_drewN ?_ _) | (with_reducible refine Kd.C_drew ?_))); (case side2 => exact HC0_0.out); (case side3 => repeat (first | exact (Kd.C_below HR0_1.out HB.out) | (with_reducible refine Kd.C_alloc ?_ _) | (with_reducible refine Kd.C_drewN ?_ _) | (with_reducible refine Kd.C_drew ?_))); (case side4 => exact HC0_1.out); (case side5 => repeat (first | exact (Kd.C_below HR0_2.out HB.out) | (with_reducible refine Kd.C_alloc ?_ _) | (with_reducible refine Kd.C_drewN ?_ _) | (with_reducible refine Kd.C_drew ?_))); (case side6 => exact HC0_2.out); (case side7 => repeat (first | exact (Kd.C_below HR0_3.out HB.out) | (with_reducible refine Kd.C_alloc ?_ _) | (with_reducible refine Kd.C_drewN ?_ _) | (with_reducible refine Kd.C_drew ?_))); (case side8 => exact HC0_3.out); (case side9 => repeat (first | exact (Kd.C_below HR0_4.out HB.out) | (with_reducible refine Kd.C_alloc ?_ _) | (with_reducible refine Kd.C_drewN ?_ _) | (with_reducible refine Kd.C_drew ?_))); (case side10 => exact HC0_4.out); (case side11 => repeat (first | exact (Kd.C_below HR0_5.out HB.out) | (with_reducible refine Kd.C_alloc ?_ _) | (with_reducible refine Kd.C_drewN ?_ _) | (with_reducible refine Kd.C_drew ?_))); (case side12 => exact HC0_5.out); (case side13 => repeat (first | exact (Kd.C_below HR1.out HB.out) | (with_reducible refine Kd.C_alloc ?_ _) | (with_reducible refine Kd.C_drewN ?_ _) | (with_reducible refine Kd.C_drew ?_))); (case side14 => exact HC1.out); rintro e w9 ⟨rfl, hb⟩; refine ⟨_, rfl, ?_⟩; have n0_ := aM (blk_below (g := gb285) (o := .cells #[.slice A0_0 l0_0.length c0_0, .slice A0_1 l0_1.length c0_1, .slice A0_2 l0_2.length c0_2, .slice A0_3 l0_3.length c0_3, .slice A0_4 l0_4.length c0_4, .slice A0_5 l0_5.length c0_5] 27 (0, 0)) (by (with_reducible repeat (first | refine bkN ?_ _ | refine bkD ?_ | refine bkA ?_ _)); exact BK285.out) hb); have n1_ := aM (bSp (by repeat (first | (with_reducible first | exact HB.out | apply bAl | apply pbN | apply bD1 | refine bSt ?_ GE285.out) | exact HB.out)) hb); clear BK285; clear HB; have BK285 := n0_; have HB := n1_; clear n0_ n1_; (try clear hb); (try clear hb2); (try clear hk); (try clear hi); have hcz10_0 : w9.cell? ⟨gb285, 0, none⟩ = some (.slice A0_0 l0_0.length c0_0) := (bkC BK285.out 0).trans rfl; have hcz10_1 : w9.cell? ⟨gb285, 1, none⟩ = some (.slice A0_1 l0_1.length c0_1) := (bkC BK285.out 1).trans rfl; have hcz10_2 : w9.cell? ⟨gb285, 2, none⟩ = some (.slice A0_2 l0_2.length c0_2) := (bkC BK285.out 2).trans rfl; have hcz10_3 : w9.cell? ⟨gb285, 3, none⟩ = some (.slice A0_3 l0_3.length c0_3) := (bkC BK285.out 3).trans rfl; have hcz10_4 : w9.cell? ⟨gb285, 4, none⟩ = some (.slice A0_4 l0_4.length c0_4) := (bkC BK285.out 4).trans rfl; have hcz10_5 : w9.cell? ⟨gb285, 5, none⟩ = some (.slice A0_5 l0_5.length c0_5) := (bkC BK285.out 5).trans rfl; have hfz10_0 := bkF BK285.out 0; have hfz10_1 := bkF BK285.out 1; have hfz10_2 := bkF BK285.out 2; have hfz10_3 := bkF BK285.out 3; have hfz10_4 := bkF BK285.out 4; have hfz10_5 := bkF BK285.out 5) | (go_at_call 66; (with_reducible refine (r37_near.calls k _ _ l0_0 _ _ l0_1 _ _ l0_2 _ _ l0_3 _ _ l0_4 _ _ l0_5 _ _ l1 (wrap64 (a2 + 1)) 1 t287 _ ?side1 ?side2 ?side3 ?side4 ?side5 ?side6 ?side7 ?side8 ?side9 ?side10 ?side11 ?side12 ?side13 ?side14 A6.out).mono ?_); (case side1 => repeat (first | exact (Kd.C_below HR0_0.out HB.out) | (with_reducible refine Kd.C_alloc ?_ _) | (with_reducible refine Kd.C_drewN ?_ _) | (with_reducible refine Kd.C_drew ?_))); (case side2 => exact HC0_0.out); (case side3 => repeat (first | exact (Kd.C_below HR0_1.out HB.out) | (with_reducible refine Kd.C_alloc ?_ _) | (with_reducible refine Kd.C_drewN ?_ _) | (with_reducible refine Kd.C_drew ?_))); (case side4 => exact HC0_1.out); (case side5 => repeat (first | exact (Kd.C_below HR0_2.out HB.out) | (with_reducible refine Kd.C_alloc ?_ _) | (with_reducible refine Kd.C_drewN ?_ _) | (with_reducible refine Kd.C_drew ?_))); (case side6 => exact HC0_2.out); (case side7 => repeat (first | exact (Kd.C_below HR0_3.out HB.out) | (with_reducible refine Kd.C_alloc ?_ _) | (with_reducible refine Kd.C_drewN ?_ _) | (with_reducible refine Kd.C_drew ?_))); (case side8 => exact HC0_3.out); (case side9 => repeat (first | exact (Kd.C_below HR0_4.out HB.out) | (with_reducible refine Kd.C_alloc ?_ _) | (with_reducible refine Kd.C_drewN ?_ _) | (with_reducible refine Kd.C_drew ?_))); (case side10 => exact HC0_4.out); (case side11 => repeat (first | exact (Kd.C_below HR0_5.out HB.out) | (with_reducible refine Kd.C_alloc ?_ _) | (with_reducible refine Kd.C_drewN ?_ _) | (with_reducible refine Kd.C_drew ?_))); (case side12 => exact HC0_5.out); (case side13 => repeat (first | exact (Kd.C_below HR1.out HB.out) | (with_reducible refine Kd.C_alloc ?_ _) | (with_reducible refine Kd.C_drewN ?_ _) | (with_reducible refine Kd.C_drew ?_))); (case side14 => exact HC1.out); rintro e w11 ⟨rfl, hb⟩; have n0_ := aM (blk_below (g := gb285) (o := .cells #[.slice A0_0 l0_0.length c0_0, .slice A0_1 l0_1.length c0_1, .slice A0_2 l0_2.length c0_2, .slice A0_3 l0_3.length c0_3, .slice A0_4 l0_4.length c0_4, .slice A0_5 l0_5.length c0_5] 27 (0, 0)) (by (with_reducible repeat (first | refine bkN ?_ _ | refine bkD ?_ | refine bkA ?_ _)); exact BK285.out) hb); have n1_ := aM (bSp (by repeat (first | (with_reducible first | exact HB.out | apply bAl | apply pbN | apply bD1 | refine bSt ?_ GE285.out) | exact HB.out)) hb); clear BK285; clear HB; have BK285 := n0_; have HB := n1_; clear n0_ n1_; (try clear hb); (try clear hb2); (try clear hk); (try clear hi)))
  go_ret
  exact ⟨by first | rfl | (simp [eN, eS] <;> rfl) | (simp [*, eN, eS] <;> rfl), by repeat (first | (with_reducible first | exact HB.out | apply bAl | apply pbN | apply bD1 | refine bSt ?_ GE285.out) | exact HB.out)⟩
 ·replace c5 := Bool.eq_false_iff.mpr c5
  subst c5
  have H1 : (some false) = some r := by rw [if_neg (show ¬ (false = true) by decide)] at H; exact H
  clear H
  have H := H1
  clear H1
  obtain rfl := Option.some.inj H
  go_enter Try.func46, Try.ntmps46
  go_wp2_with (first | ((with_reducible refine gate_dst (N := 3) rfl ?_); refine box_event ?hg (N := 3) ?hd (cs := #[.slice A0_0 l0_0.length c0_0, .slice A0_1 l0_1.length c0_1, .slice A0_2 l0_2.length c0_2, .slice A0_3 l0_3.length c0_3, .slice A0_4 l0_4.length c0_4, .slice A0_5 l0_5.length c0_5]) (t := 27) ?hr ?_; (case hd => rfl); (case hg => rfl); (case hr => first | (go_simp; done) | (go_simp; rfl)); intro gb285 hg w12 hbox hb; have n0_ := aM (bSp (by repeat (first | (with_reducible first | exact HB.out | apply bAl | apply pbN | apply bD1) | exact HB.out)) hb); have n1_ := aM (hbox); have n2_ := aM ((by rw [hg]; exact (bSz (by repeat (first | (with_reducible first | exact HB.out | apply bAl | apply pbN | apply bD1) | exact HB.out))) : w.heap.size ≤ gb285)); have n3_ := aM ((by rw [hg]; exact (bSz (by repeat (first | (with_reducible first | exact HB.out | apply bAl | apply pbN | apply bD1) | exact HB.out))) : w.heap.size ≤ gb285)); clear HB; have HB := n0_; have BK285 := n1_; have GW285 := n2_; have GE285 := n3_; clear n0_ n1_ n2_ n3_; clear hb hbox hg; have hcz13_0 : w12.cell? ⟨gb285, 0, none⟩ = some (.slice A0_0 l0_0.length c0_0) := (bkC BK285.out 0).trans rfl; have hcz13_1 : w12.cell? ⟨gb285, 1, none⟩ = some (.slice A0_1 l0_1.length c0_1) := (bkC BK285.out 1).trans rfl; have hcz13_2 : w12.cell? ⟨gb285, 2, none⟩ = some (.slice A0_2 l0_2.length c0_2) := (bkC BK285.out 2).trans rfl; have hcz13_3 : w12.cell? ⟨gb285, 3, none⟩ = some (.slice A0_3 l0_3.length c0_3) := (bkC BK285.out 3).trans rfl; have hcz13_4 : w12.cell? ⟨gb285, 4, none⟩ = some (.slice A0_4 l0_4.length c0_4) := (bkC BK285.out 4).trans rfl; have hcz13_5 : w12.cell? ⟨gb285, 5, none⟩ = some (.slice A0_5 l0_5.length c0_5) := (bkC BK285.out 5).trans rfl; have hfz13_0 := bkF BK285.out 0; have hfz13_1 := bkF BK285.out 1; have hfz13_2 := bkF BK285.out 2; have hfz13_3 := bkF BK285.out 3; have hfz13_4 := bkF BK285.out 4; have hfz13_5 := bkF BK285.out 5) | ((with_reducible refine gate_callee (f := 66) rfl ?_); refine goesL_ (some 11) rfl rfl Try.func66 (by kernel_rfl) rfl #[.agg #[.slice A0_0 l0_0.length c0_0, .slice A0_1 l0_1.length c0_1, .slice A0_2 l0_2.length c0_2, .slice A0_3 l0_3.length c0_3, .slice A0_4 l0_4.length c0_4, .slice A0_5 l0_5.length c0_5], .slice A1 l1.length c1, .int .i64 (wrap64 (a2 - 1)), .int .i64 (-1)] rfl (by (try simp only [List.map_toArray, List.map_cons, List.map_nil]); first | done | rfl | (simp only [List.length_drop, List.length_take]; rfl)) ?_; (with_reducible refine (r37_near.calls k _ _ l0_0 _ _ l0_1 _ _ l0_2 _ _ l0_3 _ _ l0_4 _ _ l0_5 _ _ l1 (wrap64 (a2 - 1)) (-1) false _ ?side1 ?side2 ?side3 ?side4 ?side5 ?side6 ?side7 ?side8 ?side9 ?side10 ?side11 ?side12 ?side13 ?side14 A4.out).mono ?_); (case side1 => repeat (first | exact (Kd.C_below HR0_0.out HB.out) | (with_reducible refine Kd.C_alloc ?_ _) | (with_reducible refine Kd.C_drewN ?_ _) | (with_reducible refine Kd.C_drew ?_))); (case side2 => exact HC0_0.out); (case side3 => repeat (first | exact (Kd.C_below HR0_1.out HB.out) | (with_reducible refine Kd.C_alloc ?_ _) | (with_reducible refine Kd.C_drewN ?_ _) | (with_reducible refine Kd.C_drew ?_))); (case side4 => exact HC0_1.out); (case side5 => repeat (first | exact (Kd.C_below HR0_2.out HB.out) | (with_reducible refine Kd.C_alloc ?_ _) | (with_reducible refine Kd.C_drewN ?_ _) | (with_reducible refine Kd.C_drew ?_))); (case side6 => exact HC0_2.out); (case side7 => repeat (first | exact (Kd.C_below HR0_3.out HB.out) | (with_reducible refine Kd.C_alloc ?_ _) | (with_reducible refine Kd.C_drewN ?_ _) | (with_reducible refine Kd.C_drew ?_))); (case side8 => exact HC0_3.out); (case side9 => repeat (first | exact (Kd.C_below HR0_4.out HB.out) | (with_reducible refine Kd.C_alloc ?_ _) | (with_reducible refine Kd.C_drewN ?_ _) | (with_reducible refine Kd.C_drew ?_))); (case side10 => exact HC0_4.out); (case side11 => repeat (first | exact (Kd.C_below HR0_5.out HB.out) | (with_reducible refine Kd.C_alloc ?_ _) | (with_reducible refine Kd.C_drewN ?_ _) | (with_reducible refine Kd.C_drew ?_))); (case side12 => exact HC0_5.out); (case side13 => repeat (first | exact (Kd.C_below HR1.out HB.out) | (with_reducible refine Kd.C_alloc ?_ _) | (with_reducible refine Kd.C_drewN ?_ _) | (with_reducible refine Kd.C_drew ?_))); (case side14 => exact HC1.out); rintro e w14 ⟨rfl, hb⟩; refine ⟨_, rfl, ?_⟩; have n0_ := aM (blk_below (g := gb285) (o := .cells #[.slice A0_0 l0_0.length c0_0, .slice A0_1 l0_1.length c0_1, .slice A0_2 l0_2.length c0_2, .slice A0_3 l0_3.length c0_3, .slice A0_4 l0_4.length c0_4, .slice A0_5 l0_5.length c0_5] 27 (0, 0)) (by (with_reducible repeat (first | refine bkN ?_ _ | refine bkD ?_ | refine bkA ?_ _)); exact BK285.out) hb); have n1_ := aM (bSp (by repeat (first | (with_reducible first | exact HB.out | apply bAl | apply pbN | apply bD1 | refine bSt ?_ GE285.out) | exact HB.out)) hb); clear BK285; clear HB; have BK285 := n0_; have HB := n1_; clear n0_ n1_; (try clear hb); (try clear hb2); (try clear hk); (try clear hi)))
  go_ret
  exact ⟨by first | rfl | (simp [eN, eS] <;> rfl) | (simp [*, eN, eS] <;> rfl), by repeat (first | (with_reducible first | exact HB.out | apply bAl | apply pbN | apply bD1 | refine bSt ?_ GE285.out) | exact HB.out)⟩
def r37_Final.f (k : Nat) (l0_0 : List (S43)) (l0_1 : List (S43)) (l0_2 : List (S43)) (l0_3 : List (S43)) (l0_4 : List (S33)) (l0_5 : List (S33)) (l1 : List Int) (a2 : Int) : Option (Bool) := if a2 ≥ 0 then (if a2 < (l1.length : Int) then ((r37_Data.f k l0_0 l0_1 l0_2 l0_3 l0_4 l0_5).bind fun bt289 => ((r37_final.f k bt289.1 bt289.2.1 bt289.2.2.1 bt289.2.2.2.1 bt289.2.2.2.2.1 bt289.2.2.2.2.2 l1 a2).bind fun t307 => (some t307))) else (some false)) else (some false)
set_option maxHeartbeats 8000000 in
set_option maxRecDepth 100000 in
theorem r37_Final.calls (k : Nat) (A0_0 : Option Addr) (c0_0 : Nat) (l0_0 : List (S43)) (A0_1 : Option Addr) (c0_1 : Nat) (l0_1 : List (S43)) (A0_2 : Option Addr) (c0_2 : Nat) (l0_2 : List (S43)) (A0_3 : Option Addr) (c0_3 : Nat) (l0_3 : List (S43)) (A0_4 : Option Addr) (c0_4 : Nat) (l0_4 : List (S33)) (A0_5 : Option Addr) (c0_5 : Nat) (l0_5 : List (S33)) (A1 : Option Addr) (c1 : Nat) (l1 : List Int) (a2 : Int) (r : Bool) (w : World) (hr0_0 : Kd.C k43 w A0_0 l0_0.length l0_0) (hc0_0 : l0_0.length ≤ c0_0) (hr0_1 : Kd.C k43 w A0_1 l0_1.length l0_1) (hc0_1 : l0_1.length ≤ c0_1) (hr0_2 : Kd.C k43 w A0_2 l0_2.length l0_2) (hc0_2 : l0_2.length ≤ c0_2) (hr0_3 : Kd.C k43 w A0_3 l0_3.length l0_3) (hc0_3 : l0_3.length ≤ c0_3) (hr0_4 : Kd.C k33 w A0_4 l0_4.length l0_4) (hc0_4 : l0_4.length ≤ c0_4) (hr0_5 : Kd.C k33 w A0_5 l0_5.length l0_5) (hc0_5 : l0_5.length ≤ c0_5) (hr1 : Kd.C (Kd.int .i64) w A1 l1.length l1) (hc1 : l1.length ≤ c1) (h : r37_Final.f k l0_0 l0_1 l0_2 l0_3 l0_4 l0_5 l1 a2 = some r) :
  Calls Try.prog 23 #[.agg #[.slice A0_0 l0_0.length c0_0, .slice A0_1 l0_1.length c0_1, .slice A0_2 l0_2.length c0_2, .slice A0_3 l0_3.length c0_3, .slice A0_4 l0_4.length c0_4, .slice A0_5 l0_5.length c0_5], .slice A1 l1.length c1, .int .i64 a2] w fun e w' => e = .returned (.bool r) ∧ Below w.heap.size w w' := by
 have hu27 := Try.underlying27
 have HR0_0 := aM hr0_0
 have HC0_0 := aM hc0_0
 clear hr0_0 hc0_0
 have HR0_1 := aM hr0_1
 have HC0_1 := aM hc0_1
 clear hr0_1 hc0_1
 have HR0_2 := aM hr0_2
 have HC0_2 := aM hc0_2
 clear hr0_2 hc0_2
 have HR0_3 := aM hr0_3
 have HC0_3 := aM hc0_3
 clear hr0_3 hc0_3
 have HR0_4 := aM hr0_4
 have HC0_4 := aM hc0_4
 clear hr0_4 hc0_4
 have HR0_5 := aM hr0_5
 have HC0_5 := aM hc0_5
 clear hr0_5 hc0_5
 have HR1 := aM hr1
 have HC1 := aM hc1
 clear hr1 hc1
 have HB := aM (Below.refl w.heap.size w)
 have H : (if a2 ≥ 0 then (if a2 < (l1.length : Int) then ((r37_Data.f k l0_0 l0_1 l0_2 l0_3 l0_4 l0_5).bind fun bt289 => ((r37_final.f k bt289.1 bt289.2.1 bt289.2.2.1 bt289.2.2.2.1 bt289.2.2.2.2.1 bt289.2.2.2.2.2 l1 a2).bind fun t307 => (some t307))) else (some false)) else (some false)) = some r := h
 clear h
 by_cases c4 : a2 ≥ 0
 ·rw [if_pos c4] at H
  have c4b0 : decide (0 ≤ a2) = true := dT c4
  clear c4
  by_cases c5 : a2 < (l1.length : Int)
  ·rw [if_pos c5] at H
   have c5b0 : decide (a2 < (l1.length : Int)) = true := dT c5
   clear c5
   replace H := Option.bind_eq_some_iff.mp H
   obtain ⟨⟨t289, t292, t295, t298, t301, t304⟩, A60, H⟩ := H
   replace H : ((r37_final.f k t289 t292 t295 t298 t301 t304 l1 a2).bind fun t307 => (some t307)) = some r := H
   have A6 := aM A60
   clear A60
   replace H := Option.bind_eq_some_iff.mp H
   obtain ⟨t307, A70, H⟩ := H
   replace H : (some t307) = some r := H
   have A7 := aM A70
   clear A70
   obtain rfl := Option.some.inj H
   go_enter Try.func23, Try.ntmps23
   go_wp2_with (first | ((with_reducible refine gate_dst (N := 3) rfl ?_); (try (refine gate_guard (by rfl) ?_; dsimp only)); refine box_event ?hg (N := 3) ?hd (cs := #[.slice A0_0 l0_0.length c0_0, .slice A0_1 l0_1.length c0_1, .slice A0_2 l0_2.length c0_2, .slice A0_3 l0_3.length c0_3, .slice A0_4 l0_4.length c0_4, .slice A0_5 l0_5.length c0_5]) (t := 27) ?hr ?_; (case hd => rfl); (case hg => rfl); (case hr => first | (go_simp; done) | (go_simp; rfl)); intro gb288 hg w8 hbox hb; have n0_ := aM (bSp (by repeat (first | (with_reducible first | exact HB.out | apply bAl | apply pbN | apply bD1) | exact HB.out)) hb); have n1_ := aM (hbox); have n2_ := aM ((by rw [hg]; exact (bSz (by repeat (first | (with_reducible first | exact HB.out | apply bAl | apply pbN | apply bD1) | exact HB.out))) : w.heap.size ≤ gb288)); have n3_ := aM ((by rw [hg]; exact (bSz (by repeat (first | (with_reducible first | exact HB.out | apply bAl | apply pbN | apply bD1) | exact HB.out))) : w.heap.size ≤ gb288)); clear HB; have HB := n0_; have BK288 := n1_; have GW288 := n2_; have GE288 := n3_; clear n0_ n1_ n2_ n3_; clear hb hbox hg; have hcz9_0 : w8.cell? ⟨gb288, 0, none⟩ = some (.slice A0_0 l0_0.length c0_0) := (bkC BK288.out 0).trans rfl; have hcz9_1 : w8.cell? ⟨gb288, 1, none⟩ = some (.slice A0_1 l0_1.length c0_1) := (bkC BK288.out 1).trans rfl; have hcz9_2 : w8.cell? ⟨gb288, 2, none⟩ = some (.slice A0_2 l0_2.length c0_2) := (bkC BK288.out 2).trans rfl; have hcz9_3 : w8.cell? ⟨gb288, 3, none⟩ = some (.slice A0_3 l0_3.length c0_3) := (bkC BK288.out 3).trans rfl; have hcz9_4 : w8.cell? ⟨gb288, 4, none⟩ = some (.slice A0_4 l0_4.length c0_4) := (bkC BK288.out 4).trans rfl; have hcz9_5 : w8.cell? ⟨gb288, 5, none⟩ = some (.slice A0_5 l0_5.length c0_5) := (bkC BK288.out 5).trans rfl; have hfz9_0 := bkF BK288.out 0; have hfz9_1 := bkF BK288.out 1; have hfz9_2 := bkF BK288.out 2; have hfz9_3 := bkF BK288.out 3; have hfz9_4 := bkF BK288.out 4; have hfz9_5 := bkF BK288.out 5) | (go_at_call 47; (with_reducible refine (r37_Data.calls k (fun k_ => k_ < w.heap.size) _ _ l0_0 (fun k_ => k_ < w.heap.size) _ _ l0_1 (fun k_ => k_ < w.heap.size) _ _ l0_2 (fun k_ => k_ < w.heap.size) _ _ l0_3 (fun k_ => k_ < w.heap.size) _ _ l0_4 (fun k_ => k_ < w.heap.size) _ _ l0_5 t289 t292 t295 t298 t301 t304 _ ?side1 ?side2 ?side3 ?side4 ?side5 ?side6 A6.out).mono ?_); (case side1 => exact Kd.V_mk HC0_0.out (Kd.F_below (Kd.C_F k43_heap HR0_0.out) (by repeat (first | (with_reducible first | exact HB.out | apply bAl | apply pbN | apply bD1 | refine bSt ?_ GE288.out) | exact HB.out)))); (case side2 => exact Kd.V_mk HC0_1.out (Kd.F_below (Kd.C_F k43_heap HR0_1.out) (by repeat (first | (with_reducible first | exact HB.out | apply bAl | apply pbN | apply bD1 | refine bSt ?_ GE288.out) | exact HB.out)))); (case side3 => exact Kd.V_mk HC0_2.out (Kd.F_below (Kd.C_F k43_heap HR0_2.out) (by repeat (first | (with_reducible first | exact HB.out | apply bAl | apply pbN | apply bD1 | refine bSt ?_ GE288.out) | exact HB.out)))); (case side4 => exact Kd.V_mk HC0_3.out (Kd.F_below (Kd.C_F k43_heap HR0_3.out) (by repeat (first | (with_reducible first | exact HB.out | apply bAl | apply pbN | apply bD1 | refine bSt ?_ GE288.out) | exact HB.out)))); (case side5 => exact Kd.V_mk HC0_4.out (Kd.F_below (Kd.C_F k33_heap HR0_4.out) (by repeat (first | (with_reducible first | exact HB.out | apply bAl | apply pbN | apply bD1 | refine bSt ?_ GE288.out) | exact HB.out)))); (case side6 => exact Kd.V_mk HC0_5.out (Kd.F_below (Kd.C_F k33_heap HR0_5.out) (by repeat (first | (with_reducible first | exact HB.out | apply bAl | apply pbN | apply bD1 | refine bSt ?_ GE288.out) | exact HB.out)))); rintro e w10 ⟨v290, v293, v296, v299, v302, v305, rfl, ho0, ho1, ho2, ho3, ho4, ho5, hb⟩; have n0_ := aM (Kd.V_lower (Kd.V_mono (ok' := fun k_ => k_ ≠ gb288) ho0 (fun k_ hk_ => Or.elim hk_ (fun hs_ => Or.elim hs_ (fun hs_ => fun e_ => Nat.not_le.2 hs_ (by rw [e_]; exact GW288.out)) (fun hs_ => Or.elim hs_ (fun hs_ => fun e_ => Nat.not_le.2 hs_ (by rw [e_]; exact GW288.out)) (fun hs_ => Or.elim hs_ (fun hs_ => fun e_ => Nat.not_le.2 hs_ (by rw [e_]; exact GW288.out)) (fun hs_ => Or.elim hs_ (fun hs_ => fun e_ => Nat.not_le.2 hs_ (by rw [e_]; exact GW288.out)) (fun hs_ => Or.elim hs_ (fun hs_ => fun e_ => Nat.not_le.2 hs_ (by rw [e_]; exact GW288.out)) (fun hs_ => fun e_ => Nat.not_le.2 hs_ (by rw [e_]; exact GW288.out))))))) (fun hn_ => (Kd.freshB (g := gb288) (o := .cells #[.slice A0_0 l0_0.length c0_0, .slice A0_1 l0_1.length c0_1, .slice A0_2 l0_2.length c0_2, .slice A0_3 l0_3.length c0_3, .slice A0_4 l0_4.length c0_4, .slice A0_5 l0_5.length c0_5] 27 (0, 0)) (by (with_reducible repeat (first | refine bkN ?_ _ | refine bkD ?_ | refine bkA ?_ _)); exact BK288.out) k_ hn_)))) (bSz (by repeat (first | (with_reducible first | exact HB.out | apply bAl | apply pbN | apply bD1 | refine bSt ?_ GE288.out) | exact HB.out)))); have n1_ := aM (Kd.V_lower (Kd.V_mono (ok' := fun k_ => k_ ≠ gb288) ho1 (fun k_ hk_ => Or.elim hk_ (fun hs_ => Or.elim hs_ (fun hs_ => fun e_ => Nat.not_le.2 hs_ (by rw [e_]; exact GW288.out)) (fun hs_ => Or.elim hs_ (fun hs_ => fun e_ => Nat.not_le.2 hs_ (by rw [e_]; exact GW288.out)) (fun hs_ => Or.elim hs_ (fun hs_ => fun e_ => Nat.not_le.2 hs_ (by rw [e_]; exact GW288.out)) (fun hs_ => Or.elim hs_ (fun hs_ => fun e_ => Nat.not_le.2 hs_ (by rw [e_]; exact GW288.out)) (fun hs_ => Or.elim hs_ (fun hs_ => fun e_ => Nat.not_le.2 hs_ (by rw [e_]; exact GW288.out)) (fun hs_ => fun e_ => Nat.not_le.2 hs_ (by rw [e_]; exact GW288.out))))))) (fun hn_ => (Kd.freshB (g := gb288) (o := .cells #[.slice A0_0 l0_0.length c0_0, .slice A0_1 l0_1.length c0_1, .slice A0_2 l0_2.length c0_2, .slice A0_3 l0_3.length c0_3, .slice A0_4 l0_4.length c0_4, .slice A0_5 l0_5.length c0_5] 27 (0, 0)) (by (with_reducible repeat (first | refine bkN ?_ _ | refine bkD ?_ | refine bkA ?_ _)); exact BK288.out) k_ hn_)))) (bSz (by repeat (first | (with_reducible first | exact HB.out | apply bAl | apply pbN | apply bD1 | refine bSt ?_ GE288.out) | exact HB.out)))); have n2_ := aM (Kd.V_lower (Kd.V_mono (ok' := fun k_ => k_ ≠ gb288) ho2 (fun k_ hk_ => Or.elim hk_ (fun hs_ => Or.elim hs_ (fun hs_ => fun e_ => Nat.not_le.2 hs_ (by rw [e_]; exact GW288.out)) (fun hs_ => Or.elim hs_ (fun hs_ => fun e_ => Nat.not_le.2 hs_ (by rw [e_]; exact GW288.out)) (fun hs_ => Or.elim hs_ (fun hs_ => fun e_ => Nat.not_le.2 hs_ (by rw [e_]; exact GW288.out)) (fun hs_ => Or.elim hs_ (fun hs_ => fun e_ => Nat.not_le.2 hs_ (by rw [e_]; exact GW288.out)) (fun hs_ => Or.elim hs_ (fun hs_ => fun e_ => Nat.not_le.2 hs_ (by rw [e_]; exact GW288.out)) (fun hs_ => fun e_ => Nat.not_le.2 hs_ (by rw [e_]; exact GW288.out))))))) (fun hn_ => (Kd.freshB (g := gb288) (o := .cells #[.slice A0_0 l0_0.length c0_0, .slice A0_1 l0_1.length c0_1, .slice A0_2 l0_2.length c0_2, .slice A0_3 l0_3.length c0_3, .slice A0_4 l0_4.length c0_4, .slice A0_5 l0_5.length c0_5] 27 (0, 0)) (by (with_reducible repeat (first | refine bkN ?_ _ | refine bkD ?_ | refine bkA ?_ _)); exact BK288.out) k_ hn_)))) (bSz (by repeat (first | (with_reducible first | exact HB.out | apply bAl | apply pbN | apply bD1 | refine bSt ?_ GE288.out) | exact HB.out)))); have n3_ := aM (Kd.V_lower (Kd.V_mono (ok' := fun k_ => k_ ≠ gb288) ho3 (fun k_ hk_ => Or.elim hk_ (fun hs_ => Or.elim hs_ (fun hs_ => fun e_ => Nat.not_le.2 hs_ (by rw [e_]; exact GW288.out)) (fun hs_ => Or.elim hs_ (fun hs_ => fun e_ => Nat.not_le.2 hs_ (by rw [e_]; exact GW288.out)) (fun hs_ => Or.elim hs_ (fun hs_ => fun e_ => Nat.not_le.2 hs_ (by rw [e_]; exact GW288.out)) (fun hs_ => Or.elim hs_ (fun hs_ => fun e_ => Nat.not_le.2 hs_ (by rw [e_]; exact GW288.out)) (fun hs_ => Or.elim hs_ (fun hs_ => fun e_ => Nat.not_le.2 hs_ (by rw [e_]; exact GW288.out)) (fun hs_ => fun e_ => Nat.not_le.2 hs_ (by rw [e_]; exact GW288.out))))))) (fun hn_ => (Kd.freshB (g := gb288) (o := .cells #[.slice A0_0 l0_0.length c0_0, .slice A0_1 l0_1.length c0_1, .slice A0_2 l0_2.length c0_2, .slice A0_3 l0_3.length c0_3, .slice A0_4 l0_4.length c0_4, .slice A0_5 l0_5.length c0_5] 27 (0, 0)) (by (with_reducible repeat (first | refine bkN ?_ _ | refine bkD ?_ | refine bkA ?_ _)); exact BK288.out) k_ hn_)))) (bSz (by repeat (first | (with_reducible first | exact HB.out | apply bAl | apply pbN | apply bD1 | refine bSt ?_ GE288.out) | exact HB.out)))); have n4_ := aM (Kd.V_lower (Kd.V_mono (ok' := fun k_ => k_ ≠ gb288) ho4 (fun k_ hk_ => Or.elim hk_ (fun hs_ => Or.elim hs_ (fun hs_ => fun e_ => Nat.not_le.2 hs_ (by rw [e_]; exact GW288.out)) (fun hs_ => Or.elim hs_ (fun hs_ => fun e_ => Nat.not_le.2 hs_ (by rw [e_]; exact GW288.out)) (fun hs_ => Or.elim hs_ (fun hs_ => fun e_ => Nat.not_le.2 hs_ (by rw [e_]; exact GW288.out)) (fun hs_ => Or.elim hs_ (fun hs_ => fun e_ => Nat.not_le.2 hs_ (by rw [e_]; exact GW288.out)) (fun hs_ => Or.elim hs_ (fun hs_ => fun e_ => Nat.not_le.2 hs_ (by rw [e_]; exact GW288.out)) (fun hs_ => fun e_ => Nat.not_le.2 hs_ (by rw [e_]; exact GW288.out))))))) (fun hn_ => (Kd.freshB (g := gb288) (o := .cells #[.slice A0_0 l0_0.length c0_0, .slice A0_1 l0_1.length c0_1, .slice A0_2 l0_2.length c0_2, .slice A0_3 l0_3.length c0_3, .slice A0_4 l0_4.length c0_4, .slice A0_5 l0_5.length c0_5] 27 (0, 0)) (by (with_reducible repeat (first | refine bkN ?_ _ | refine bkD ?_ | refine bkA ?_ _)); exact BK288.out) k_ hn_)))) (bSz (by repeat (first | (with_reducible first | exact HB.out | apply bAl | apply pbN | apply bD1 | refine bSt ?_ GE288.out) | exact HB.out)))); have n5_ := aM (Kd.V_lower (Kd.V_mono (ok' := fun k_ => k_ ≠ gb288) ho5 (fun k_ hk_ => Or.elim hk_ (fun hs_ => Or.elim hs_ (fun hs_ => fun e_ => Nat.not_le.2 hs_ (by rw [e_]; exact GW288.out)) (fun hs_ => Or.elim hs_ (fun hs_ => fun e_ => Nat.not_le.2 hs_ (by rw [e_]; exact GW288.out)) (fun hs_ => Or.elim hs_ (fun hs_ => fun e_ => Nat.not_le.2 hs_ (by rw [e_]; exact GW288.out)) (fun hs_ => Or.elim hs_ (fun hs_ => fun e_ => Nat.not_le.2 hs_ (by rw [e_]; exact GW288.out)) (fun hs_ => Or.elim hs_ (fun hs_ => fun e_ => Nat.not_le.2 hs_ (by rw [e_]; exact GW288.out)) (fun hs_ => fun e_ => Nat.not_le.2 hs_ (by rw [e_]; exact GW288.out))))))) (fun hn_ => (Kd.freshB (g := gb288) (o := .cells #[.slice A0_0 l0_0.length c0_0, .slice A0_1 l0_1.length c0_1, .slice A0_2 l0_2.length c0_2, .slice A0_3 l0_3.length c0_3, .slice A0_4 l0_4.length c0_4, .slice A0_5 l0_5.length c0_5] 27 (0, 0)) (by (with_reducible repeat (first | refine bkN ?_ _ | refine bkD ?_ | refine bkA ?_ _)); exact BK288.out) k_ hn_)))) (bSz (by repeat (first | (with_reducible first | exact HB.out | apply bAl | apply pbN | apply bD1 | refine bSt ?_ GE288.out) | exact HB.out)))); have n6_ := aM (blk_below (g := gb288) (o := .cells #[.slice A0_0 l0_0.length c0_0, .slice A0_1 l0_1.length c0_1, .slice A0_2 l0_2.length c0_2, .slice A0_3 l0_3.length c0_3, .slice A0_4 l0_4.length c0_4, .slice A0_5 l0_5.length c0_5] 27 (0, 0)) (by (with_reducible repeat (first | refine bkN ?_ _ | refine bkD ?_ | refine bkA ?_ _)); exact BK288.out) hb); have n7_ := aM (bSp (by repeat (first | (with_reducible first | exact HB.out | apply bAl | apply pbN | apply bD1 | refine bSt ?_ GE288.out) | exact HB.out)) hb); clear BK288; clear HB; have HO291 := n0_; have HO294 := n1_; have HO297 := n2_; have HO300 := n3_; have HO303 := n4_; have HO306 := n5_; have BK288 := n6_; have HB := n7_; clear n0_ n1_ n2_ n3_ n4_ n5_ n6_ n7_; (try clear hb); (try clear hb2); (try clear hk); (try clear hi); (try clear ho0); (try clear ho1); (try clear ho2); (try clear ho3); (try clear ho4); (try clear ho5); obtain ⟨Ao11, co11, eo11⟩ := Kd.V_slice HO291.out; subst eo11; obtain ⟨Ao12, co12, eo12⟩ := Kd.V_slice HO294.out; subst eo12; obtain ⟨Ao13, co13, eo13⟩ := Kd.V_slice HO297.out; subst eo13; obtain ⟨Ao14, co14, eo14⟩ := Kd.V_slice HO300.out; subst eo14; obtain ⟨Ao15, co15, eo15⟩ := Kd.V_slice HO303.out; subst eo15; obtain ⟨Ao16, co16, eo16⟩ := Kd.V_slice HO306.out; subst eo16) | (go_at_call 46; (with_reducible refine (r37_final.calls k _ _ t289 _ _ t292 _ _ t295 _ _ t298 _ _ t301 _ _ t304 _ _ l1 a2 t307 _ ?side1 ?side2 ?side3 ?side4 ?side5 ?side6 ?side7 ?side8 ?side9 ?side10 ?side11 ?side12 ?side13 ?side14 A7.out).mono ?_); (case side1 => repeat (first | exact (Kd.V_reads' HO291.out).2.2 | (with_reducible refine Kd.C_alloc ?_ _) | (with_reducible refine Kd.C_drewN ?_ _) | (with_reducible refine Kd.C_drew ?_))); (case side2 => exact (Kd.V_reads' HO291.out).2.1); (case side3 => repeat (first | exact (Kd.V_reads' HO294.out).2.2 | (with_reducible refine Kd.C_alloc ?_ _) | (with_reducible refine Kd.C_drewN ?_ _) | (with_reducible refine Kd.C_drew ?_))); (case side4 => exact (Kd.V_reads' HO294.out).2.1); (case side5 => repeat (first | exact (Kd.V_reads' HO297.out).2.2 | (with_reducible refine Kd.C_alloc ?_ _) | (with_reducible refine Kd.C_drewN ?_ _) | (with_reducible refine Kd.C_drew ?_))); (case side6 => exact (Kd.V_reads' HO297.out).2.1); (case side7 => repeat (first | exact (Kd.V_reads' HO300.out).2.2 | (with_reducible refine Kd.C_alloc ?_ _) | (with_reducible refine Kd.C_drewN ?_ _) | (with_reducible refine Kd.C_drew ?_))); (case side8 => exact (Kd.V_reads' HO300.out).2.1); (case side9 => repeat (first | exact (Kd.V_reads' HO303.out).2.2 | (with_reducible refine Kd.C_alloc ?_ _) | (with_reducible refine Kd.C_drewN ?_ _) | (with_reducible refine Kd.C_drew ?_))); (case side10 => exact (Kd.V_reads' HO303.out).2.1); (case side11 => repeat (first | exact (Kd.V_reads' HO306.out).2.2 | (with_reducible refine Kd.C_alloc ?_ _) | (with_reducible refine Kd.C_drewN ?_ _) | (with_reducible refine Kd.C_drew ?_))); (case side12 => exact (Kd.V_reads' HO306.out).2.1); (case side13 => repeat (first | exact (Kd.C_below HR1.out HB.out) | (with_reducible refine Kd.C_alloc ?_ _) | (with_reducible refine Kd.C_drewN ?_ _) | (with_reducible refine Kd.C_drew ?_))); (case side14 => exact HC1.out); rintro e w17 ⟨rfl, hb⟩; have n0_ := aM (Kd.V_below (by (with_reducible repeat (first | apply Kd.V_alloc | apply Kd.V_drewN | apply Kd.V_drew)); exact HO291.out) hb); have n1_ := aM (Kd.V_below (by (with_reducible repeat (first | apply Kd.V_alloc | apply Kd.V_drewN | apply Kd.V_drew)); exact HO294.out) hb); have n2_ := aM (Kd.V_below (by (with_reducible repeat (first | apply Kd.V_alloc | apply Kd.V_drewN | apply Kd.V_drew)); exact HO297.out) hb); have n3_ := aM (Kd.V_below (by (with_reducible repeat (first | apply Kd.V_alloc | apply Kd.V_drewN | apply Kd.V_drew)); exact HO300.out) hb); have n4_ := aM (Kd.V_below (by (with_reducible repeat (first | apply Kd.V_alloc | apply Kd.V_drewN | apply Kd.V_drew)); exact HO303.out) hb); have n5_ := aM (Kd.V_below (by (with_reducible repeat (first | apply Kd.V_alloc | apply Kd.V_drewN | apply Kd.V_drew)); exact HO306.out) hb); have n6_ := aM (blk_below (g := gb288) (o := .cells #[.slice A0_0 l0_0.length c0_0, .slice A0_1 l0_1.length c0_1, .slice A0_2 l0_2.length c0_2, .slice A0_3 l0_3.length c0_3, .slice A0_4 l0_4.length c0_4, .slice A0_5 l0_5.length c0_5] 27 (0, 0)) (by (with_reducible repeat (first | refine bkN ?_ _ | refine bkD ?_ | refine bkA ?_ _)); exact BK288.out) hb); have n7_ := aM (bSp (by repeat (first | (with_reducible first | exact HB.out | apply bAl | apply pbN | apply bD1 | refine bSt ?_ GE288.out) | exact HB.out)) hb); clear HO291; clear HO294; clear HO297; clear HO300; clear HO303; clear HO306; clear BK288; clear HB; have HO291 := n0_; have HO294 := n1_; have HO297 := n2_; have HO300 := n3_; have HO303 := n4_; have HO306 := n5_; have BK288 := n6_; have HB := n7_; clear n0_ n1_ n2_ n3_ n4_ n5_ n6_ n7_; (try clear hb); (try clear hb2); (try clear hk); (try clear hi)))
   go_ret
   exact ⟨by first | rfl | (simp [eN, eS] <;> rfl) | (simp [*, eN, eS] <;> rfl), by repeat (first | (with_reducible first | exact HB.out | apply bAl | apply pbN | apply bD1 | refine bSt ?_ GE288.out) | exact HB.out)⟩
  ·rw [if_neg c5] at H
   have c5b0 : decide (a2 < (l1.length : Int)) = false := decide_eq_false c5
   clear c5
   obtain rfl := Option.some.inj H
   go_enter Try.func23, Try.ntmps23
   go_wp2_with (first | ((with_reducible refine gate_dst (N := 3) rfl ?_); (try (refine gate_guard (by rfl) ?_; dsimp only)); refine box_event ?hg (N := 3) ?hd (cs := #[.slice A0_0 l0_0.length c0_0, .slice A0_1 l0_1.length c0_1, .slice A0_2 l0_2.length c0_2, .slice A0_3 l0_3.length c0_3, .slice A0_4 l0_4.length c0_4, .slice A0_5 l0_5.length c0_5]) (t := 27) ?hr ?_; (case hd => rfl); (case hg => rfl); (case hr => first | (go_simp; done) | (go_simp; rfl)); intro gb288 hg w18 hbox hb; have n0_ := aM (bSp (by repeat (first | (with_reducible first | exact HB.out | apply bAl | apply pbN | apply bD1) | exact HB.out)) hb); have n1_ := aM (hbox); have n2_ := aM ((by rw [hg]; exact (bSz (by repeat (first | (with_reducible first | exact HB.out | apply bAl | apply pbN | apply bD1) | exact HB.out))) : w.heap.size ≤ gb288)); have n3_ := aM ((by rw [hg]; exact (bSz (by repeat (first | (with_reducible first | exact HB.out | apply bAl | apply pbN | apply bD1) | exact HB.out))) : w.heap.size ≤ gb288)); clear HB; have HB := n0_; have BK288 := n1_; have GW288 := n2_; have GE288 := n3_; clear n0_ n1_ n2_ n3_; clear hb hbox hg))
   go_ret
   exact ⟨by first | rfl | (simp [eN, eS] <;> rfl) | (simp [*, eN, eS] <;> rfl), by repeat (first | (with_reducible first | exact HB.out | apply bAl | apply pbN | apply bD1 | refine bSt ?_ GE288.out) | exact HB.out)⟩
 ·rw [if_neg c4] at H
  have c4b0 : decide (0 ≤ a2) = false := decide_eq_false c4
  clear c4
  obtain rfl := Option.some.inj H
  go_enter Try.func23, Try.ntmps23
  go_wp2_with (first | ((with_reducible refine gate_dst (N := 3) rfl ?_); (try (refine gate_guard (by rfl) ?_; dsimp only)); refine box_event ?hg (N := 3) ?hd (cs := #[.slice A0_0 l0_0.length c0_0, .slice A0_1 l0_1.length c0_1, .slice A0_2 l0_2.length c0_2, .slice A0_3 l0_3.length c0_3, .slice A0_4 l0_4.length c0_4, .slice A0_5 l0_5.length c0_5]) (t := 27) ?hr ?_; (case hd => rfl); (case hg => rfl); (case hr => first | (go_simp; done) | (go_simp; rfl)); intro gb288 hg w19 hbox hb; have n0_ := aM (bSp (by repeat (first | (with_reducible first | exact HB.out | apply bAl | apply pbN | apply bD1) | exact HB.out)) hb); have n1_ := aM (hbox); have n2_ := aM ((by rw [hg]; exact (bSz (by repeat (first | (with_reducible first | exact HB.out | apply bAl | apply pbN | apply bD1) | exact HB.out))) : w.heap.size ≤ gb288)); have n3_ := aM ((by rw [hg]; exact (bSz (by repeat (first | (with_reducible first | exact HB.out | apply bAl | apply pbN | apply bD1) | exact HB.out))) : w.heap.size ≤ gb288)); clear HB; have HB := n0_; have BK288 := n1_; have GW288 := n2_; have GE288 := n3_; clear n0_ n1_ n2_ n3_; clear hb hbox hg))
  go_ret
  exact ⟨by first | rfl | (simp [eN, eS] <;> rfl) | (simp [*, eN, eS] <;> rfl), by repeat (first | (with_reducible first | exact HB.out | apply bAl | apply pbN | apply bD1 | refine bSt ?_ GE288.out) | exact HB.out)⟩
attribute [local go_sem] max2_int min2_int max_two min_two max_three min_three max_four min_four
set_option linter.unusedVariables false
set_option linter.unusedSimpArgs false
def r11_find.l0 : Nat → List (S43) → Int → ByteArray → Int → Option (List Int × Bool)
 | 0, _, _, _, _ => none
 | k + 1, x0, x1, x2, x8 => if x8 < (x0.length : Int) then (if 0 ≤ x8 then (if ((rd_T43 x0 x8).f0) = x1 then (if ((rd_T43 x0 x8).f2).toList = x2.toList then ((some (([] : List Int) : List Int)).bind fun y316 => (if y316.length + ((rd_T43 x0 x8).f1).length < 17592186044416 then (some ((y316 ++ ((rd_T43 x0 x8).f1)), true)) else (none))) else (r11_find.l0 k x0 x1 x2 (wrap64 (x8 + 1)))) else (r11_find.l0 k x0 x1 x2 (wrap64 (x8 + 1)))) else (none)) else (some (([] : List Int), false))
def r11_find.f (k : Nat) (l0 : List (S43)) (a1 : Int) (a2 : ByteArray) : Option (List Int × Bool) := r11_find.l0 k l0 a1 a2 0
def r11_Get.f (k : Nat) (l0 : List (S43)) (a1 : Int) (a2 : ByteArray) : Option (List Int × Bool) := (r11_valid.f k l0).bind fun t323 => ((r11_find.f k t323 a1 a2).bind fun bt326 => (some (bt326.1, bt326.2)))
def r37_mapped.f (k : Nat) (l0 : List (S43)) (a1 : Int) : Option (List Int) := (r11_Get.f k l0 a1 (⟨#[]⟩ : ByteArray)).bind fun bt330 => (if bt330.2 = true then (some bt330.1) else (some (([a1] : List Int))))
attribute [local go_sem] max2_int min2_int max_two min_two max_three min_three max_four min_four
set_option linter.unusedVariables false
set_option linter.unusedSimpArgs false
def r37_lower.f (k : Nat) (l0_0 : List (S43)) (l0_1 : List (S43)) (l0_2 : List (S43)) (l0_3 : List (S43)) (l0_4 : List (S33)) (l0_5 : List (S33)) (l1 : List Int) (a2 : Int) : Option (List Int) := if 0 ≤ a2 then (if a2 < (l1.length : Int) then ((r11_Get.f k l0_0 (rd l1 a2) (⟨#[102, 105, 110, 97, 108]⟩ : ByteArray)).bind fun bt339 => (if bt339.2 = true then ((r37_final.f k l0_0 l0_1 l0_2 l0_3 l0_4 l0_5 l1 a2).bind fun t343 => (if t343 = true then (some bt339.1) else ((r37_mapped.f k l0_0 (rd l1 a2)).bind fun t345 => (some t345)))) else ((r37_mapped.f k l0_0 (rd l1 a2)).bind fun t349 => (some t349)))) else (none)) else (none)
def r37_lower.T1 : Bool × List (List Nat × List Nat) := (true, [([], []), ([0], [0]), ([], []), ([], []), ([2, 3], [2, 3]), ([4], [4]), ([1, 5], [1, 5]), ([6], [6]), ([7], [7]), ([7], [7]), ([8, 6, 0, 1, 2, 3, 4, 5, 6, 7, 8], [8]), ([9, 10, 0, 1, 2, 3, 4, 5, 6, 7, 8, 9, 10], [9])])
def r37_lower.B1 : List Nat := [0, 1, 0, 0, 12, 28, 63, 127, 255, 255, 511, 2047]
def r37_lower.T4 : Bool × List (List Nat × List Nat) := (true, [([], []), ([0], [0]), ([], []), ([], []), ([2, 3], [2, 3]), ([4], [4]), ([1, 5], [1, 5]), ([6, 6, 0, 1, 2, 3, 4, 5, 6], [6])])
def r37_lower.B4 : List Nat := [0, 1, 0, 0, 12, 28, 63, 127]
attribute [local go_sem] max2_int min2_int max_two min_two max_three min_three max_four min_four
set_option linter.unusedVariables false
set_option linter.unusedSimpArgs false
def r37_Lower.l0 : Nat → List Int → List Int → Int → List (S43) → List (S43) → List (S43) → List (S43) → List (S33) → List (S33) → Option (List Int)
 | 0, _, _, _, _, _, _, _, _, _ => none
 | k + 1, x1, x6, x7, x372000, x372001, x372002, x372003, x372004, x372005 => if x7 < (x1.length : Int) then ((r37_lower.f k x372000 x372001 x372002 x372003 x372004 x372005 x1 x7).bind fun t372 => (if x6.length + t372.length < 17592186044416 then (r37_Lower.l0 k x1 (x6 ++ t372) (wrap64 (x7 + 1)) x372000 x372001 x372002 x372003 x372004 x372005) else (none))) else (some x6)
def r37_Lower.f (k : Nat) (l0_0 : List (S43)) (l0_1 : List (S43)) (l0_2 : List (S43)) (l0_3 : List (S43)) (l0_4 : List (S33)) (l0_5 : List (S33)) (l1 : List Int) : Option (List Int) := (r37_Data.f k l0_0 l0_1 l0_2 l0_3 l0_4 l0_5).bind fun bt353 => (r37_Lower.l0 k l1 ([] : List Int) 0 bt353.1 bt353.2.1 bt353.2.2.1 bt353.2.2.2.1 bt353.2.2.2.2.1 bt353.2.2.2.2.2)
attribute [local go_sem] max2_int min2_int max_two min_two max_three min_three max_four min_four
set_option linter.unusedVariables false
set_option linter.unusedSimpArgs false
def r37_Upper.l0 : Nat → List Int → List Int → Int → List (S43) → List (S43) → List (S43) → List (S43) → List (S33) → List (S33) → Option (List Int)
 | 0, _, _, _, _, _, _, _, _, _ => none
 | k + 1, x1, x6, x7, x398000, x398001, x398002, x398003, x398004, x398005 => if x7 < (x1.length : Int) then (if 0 ≤ x7 then ((r37_mapped.f k x398001 (rd x1 x7)).bind fun t399 => (if x6.length + t399.length < 17592186044416 then (r37_Upper.l0 k x1 (x6 ++ t399) (wrap64 (x7 + 1)) x398000 x398001 x398002 x398003 x398004 x398005) else (none))) else (none)) else (some x6)
def r37_Upper.f (k : Nat) (l0_0 : List (S43)) (l0_1 : List (S43)) (l0_2 : List (S43)) (l0_3 : List (S43)) (l0_4 : List (S33)) (l0_5 : List (S33)) (l1 : List Int) : Option (List Int) := (r37_Data.f k l0_0 l0_1 l0_2 l0_3 l0_4 l0_5).bind fun bt379 => (r37_Upper.l0 k l1 ([] : List Int) 0 bt379.1 bt379.2.1 bt379.2.2.1 bt379.2.2.2.1 bt379.2.2.2.2.1 bt379.2.2.2.2.2)
def r37_Upper.T6 : Bool × List (List Nat × List Nat) := (true, [([], []), ([], []), ([1], [1]), ([], []), ([], []), ([3, 4], [3, 4]), ([5], [5]), ([2, 6], [2, 6]), ([0, 7, 7], [0, 7]), ([8, 8, 0, 1, 2, 3, 4, 5, 6, 7, 8], [0, 8])])
def r37_Upper.B6 : List Nat := [0, 0, 2, 0, 0, 24, 56, 126, 255, 511]
attribute [local go_sem] max2_int min2_int max_two min_two max_three min_three max_four min_four
set_option linter.unusedVariables false
set_option linter.unusedSimpArgs false
def r37_only.f (l0 : List Int) (a1 : Int) : Option (Int) := if (l0.length : Int) = 1 then (if 0 < (l0.length : Int) then (some (rd l0 0)) else (none)) else (some a1)
attribute [local go_sem] max2_int min2_int max_two min_two max_three min_three max_four min_four
set_option linter.unusedVariables false
set_option linter.unusedSimpArgs false
def r37_Simple.f (k : Nat) (l0_0 : List (S43)) (l0_1 : List (S43)) (l0_2 : List (S43)) (l0_3 : List (S43)) (l0_4 : List (S33)) (l0_5 : List (S33)) (a1 : Int) : Option (Int × Int × Int) := (r37_Data.f k l0_0 l0_1 l0_2 l0_3 l0_4 l0_5).bind fun bt480 => ((r37_mapped.f k bt480.1 a1).bind fun t499 => ((r37_only.f t499 a1).bind fun t502 => ((r37_mapped.f k bt480.2.1 a1).bind fun t503 => ((r37_only.f t503 a1).bind fun t506 => ((r37_mapped.f k bt480.2.2.1 a1).bind fun t507 => ((r37_only.f t507 a1).bind fun t510 => (some (t502, t506, t510))))))))
def r37_Simple.T2 : Bool × List (List Nat × List Nat) := (true, [([], []), ([0], [0]), ([], []), ([1, 2], [1, 2]), ([], []), ([3, 4, 3], [3, 4]), ([], []), ([6], [6]), ([], []), ([7, 8, 5], [7, 8]), ([], []), ([9, 10, 9], [9, 10]), ([], []), ([12], [12]), ([], []), ([13, 14, 11], [13, 14]), ([], []), ([15, 16, 15], [15, 16]), ([5, 17, 0, 1, 2, 3, 4, 5], [5]), ([11, 18, 0, 1, 2, 3, 4, 5, 6, 7, 8, 9, 10, 11, 18], [11]), ([17, 19, 0, 1, 2, 3, 4, 5, 6, 7, 8, 9, 10, 11, 12, 13, 14, 15, 16, 17, 18, 19], [17])])
def r37_Simple.B2 : List Nat := [0, 1, 0, 7, 0, 31, 0, 64, 0, 511, 0, 2047, 0, 4096, 0, 32767, 0, 131071, 262143, 524287, 1048575]
attribute [local go_sem] max2_int min2_int max_two min_two max_three min_three max_four min_four
set_option linter.unusedVariables false
set_option linter.unusedSimpArgs false
def r37_titled.l0 : Nat → List Int → List Int → Bool → Int → List (S43) → List (S43) → List (S43) → List (S43) → List (S33) → List (S33) → Int → Int → Option (List Int)
 | 0, _, _, _, _, _, _, _, _, _, _, _, _ => none
 | k + 1, x1, x7, x8, x9, x540000, x540001, x540002, x540003, x540004, x540005, x541000, x541001 => if x9 < x541001 then (if x8 = true then ((r37_lower.f k x540000 x540001 x540002 x540003 x540004 x540005 x1 x9).bind fun t541 => (if x7.length + t541.length < 17592186044416 then (r37_titled.l0 k x1 (x7 ++ t541) x8 (wrap64 (x9 + 1)) x540000 x540001 x540002 x540003 x540004 x540005 x541000 x541001) else (none))) else (if 0 ≤ x9 then (if x9 < (x1.length : Int) then ((r02_Has.f k x540004 (rd x1 x9)).bind fun t548 => (if t548 = true then ((r37_mapped.f k x540002 (rd x1 x9)).bind fun t550 => (if x7.length + t550.length < 17592186044416 then (r37_titled.l0 k x1 (x7 ++ t550) true (wrap64 (x9 + 1)) x540000 x540001 x540002 x540003 x540004 x540005 x541000 x541001) else (none))) else (if x7.length < 17592186044416 then (r37_titled.l0 k x1 (x7 ++ [rd x1 x9]) x8 (wrap64 (x9 + 1)) x540000 x540001 x540002 x540003 x540004 x540005 x541000 x541001) else (none)))) else (none)) else (none))) else (some x7)
def r37_titled.f (k : Nat) (l0_0 : List (S43)) (l0_1 : List (S43)) (l0_2 : List (S43)) (l0_3 : List (S43)) (l0_4 : List (S33)) (l0_5 : List (S33)) (l1 : List Int) (a2_0 : Int) (a2_1 : Int) : Option (List Int) := r37_titled.l0 k l1 ([] : List Int) false a2_0 l0_0 l0_1 l0_2 l0_3 l0_4 l0_5 a2_0 a2_1
def r37_titled.T9 : Bool × List (List Nat × List Nat) := (true, [([], []), ([0], [0]), ([], []), ([], []), ([2, 3], [2, 3]), ([4], [4]), ([1, 5], [1, 5]), ([6, 6], [6])])
def r37_titled.B9 : List Nat := [0, 1, 0, 0, 12, 28, 63, 127]
def r37_titled.T10 : Bool × List (List Nat × List Nat) := (true, [([], []), ([], []), ([1], [1]), ([], []), ([], []), ([3, 4], [3, 4]), ([5], [5]), ([2, 6], [2, 6]), ([0, 7, 7], [0, 7]), ([8, 8, 0, 1, 2, 3, 4, 5, 6, 7, 8], [0, 8])])
def r37_titled.B10 : List Nat := [0, 0, 2, 0, 0, 24, 56, 126, 255, 511]
attribute [local go_sem] max2_int min2_int max_two min_two max_three min_three max_four min_four
set_option linter.unusedVariables false
set_option linter.unusedSimpArgs false
def r37_Title.l0 : Nat → List Int → List (S33) → List Int → Int → Int → List (S43) → List (S43) → List (S43) → List (S43) → List (S33) → List (S33) → Option (List Int)
 | 0, _, _, _, _, _, _, _, _, _, _, _ => none
 | k + 1, x1, x2, x8, x9, x10, x580000, x580001, x580002, x580003, x580004, x580005 => if x10 < (x2.length : Int) then (if 0 ≤ x10 then (if 0 ≤ x9 then (if x9 ≤ ((rd_T33 x2 x10).f0) then (if ((rd_T33 x2 x10).f0) ≤ (x1.length : Int) then (if x8.length + ((x1.take (((rd_T33 x2 x10).f0) : Int).toNat).drop (x9 : Int).toNat).length < 17592186044416 then ((some (x8 ++ ((x1.take (((rd_T33 x2 x10).f0) : Int).toNat).drop (x9 : Int).toNat) : List Int)).bind fun y589 => ((r37_titled.f k x580000 x580001 x580002 x580003 x580004 x580005 x1 ((rd_T33 x2 x10).f0) ((rd_T33 x2 x10).f1)).bind fun t593 => (if y589.length + t593.length < 17592186044416 then (r37_Title.l0 k x1 x2 (y589 ++ t593) ((rd_T33 x2 x10).f1) (wrap64 (x10 + 1)) x580000 x580001 x580002 x580003 x580004 x580005) else (none)))) else (none)) else (none)) else (none)) else (none)) else (none)) else (if 0 ≤ x9 then (if x9 ≤ (x1.length : Int) then (if x8.length + (x1.drop (x9 : Int).toNat).length < 17592186044416 then (some (x8 ++ (x1.drop (x9 : Int).toNat))) else (none)) else (none)) else (none))
def r37_Title.f (k : Nat) (l0_0 : List (S43)) (l0_1 : List (S43)) (l0_2 : List (S43)) (l0_3 : List (S43)) (l0_4 : List (S33)) (l0_5 : List (S33)) (l1 : List Int) (l2 : List (S33)) : Option (List Int) := (r37_Data.f k l0_0 l0_1 l0_2 l0_3 l0_4 l0_5).bind fun bt561 => ((r37_Within.f k l2 (l1.length : Int)).bind fun t580 => (if t580 = true then (r37_Title.l0 k l1 l2 ([] : List Int) 0 0 bt561.1 bt561.2.1 bt561.2.2.1 bt561.2.2.2.1 bt561.2.2.2.2.1 bt561.2.2.2.2.2) else ((some (([] : List Int) : List Int)).bind fun y581 => (if y581.length + l1.length < 17592186044416 then (some (y581 ++ l1)) else (none)))))
def r37_Title.T10 : Bool × List (List Nat × List Nat) := (true, [([], []), ([], []), ([], []), ([], []), ([], []), ([3, 4], [3, 4]), ([5], [5]), ([1, 2, 6], [1, 2, 6]), ([0, 7, 7], [0, 7]), ([8, 8, 0, 1, 2, 3, 4, 5, 6, 7, 8], [0, 8])])
def r37_Title.B10 : List Nat := [0, 0, 0, 0, 0, 24, 56, 126, 255, 511]
end Go.Proofs.Ythnkmcfhpjmihaa.Q
end
section
namespace Go.Proofs.Ythnkmcfhpjmihaa.Q
open Go.RowKit Go.Proofs.YthnkmcfhpjmihaaW.PrintWords Go.Proofs.YthnkmcfhpjmihaaW.PrintLast Go.Proofs.YthnkmcfhpjmihaaW.PrintMore
set_option linter.unusedVariables false
theorem plTag_go (i0 : Bool) (tg : ByteArray) (ht : tg = if i0 then tagF else tagE) : ∀ (rest pre : List Mp) (k : Nat), (pre ++ rest).length < 1000000 → rest.length + 1 ≤ k →
  r37_tagged.l0 k (pre ++ rest) tg (pre.length : Int) = some (rest.any (badTag i0))
 | [], pre, k, h1, h2 => by
  obtain ⟨k, rfl⟩ : ∃ j, k = j + 1 := ⟨k - 1, by omega⟩
  rw [r37_tagged.l0, if_neg (by simp)]
  rfl
 | x :: rest, pre, k, h1, h2 => by
  obtain ⟨k, rfl⟩ : ∃ j, k = j + 1 := ⟨k - 1, by omega⟩
  have hp : pre.length < 1000000000 := by simp at h1; omega
  have ih := plTag_go i0 tg ht rest (pre ++ [x]) k (by simpa using h1) (by simp at h2; omega)
  have ex : (pre ++ [x]) ++ rest = pre ++ x :: rest := by simp
  have el : ((pre ++ [x]).length : Int) = ((pre.length + 1 : Nat) : Int) := by simp
  rw [ex, el] at ih
  rw [r37_tagged.l0, if_pos (by simp; omega), if_pos (by omega), rdM_mid, wrap_suc hp, ih, List.any_cons]
  unfold badTag
  by_cases hz : x.f2.size = 0
  ·rw [if_pos ((bytesEq_nil _).2 hz), decide_eq_false (by simpa using hz)]
   rfl
  ·rw [if_neg (fun hh => hz ((bytesEq_nil _).1 hh)), dT hz]
   subst ht
   cases i0 with
   | true =>
    show (if x.f2.toList = tagF.toList then _ else _) = _
    by_cases hf : x.f2 = tagF
    ·rw [if_pos (by rw [hf]), decide_eq_false (by simpa using hf)]
     rfl
    ·rw [if_neg (fun hh => hf ((bytesEq_iff _ _).1 hh)), dT hf]
     rfl
   | false =>
    show (if x.f2.toList = tagE.toList then _ else _) = _
    rw [if_neg (fun hh => hz (by rw [(bytesEq_iff _ _).1 hh]; rfl))]
    rfl
theorem plTag_ok (i0 : Bool) (l : List Mp) (k : Nat) (h : plFewM l) (hk : 50 ≤ k) : r37_tagged.f k l (if i0 then tagF else tagE) = some (l.any (badTag i0)) :=
 plTag_go i0 _ rfl l [] k (by have := h.1; simp; omega) (by have := h.1; omega)
theorem plSame_go : ∀ (xs ys px py : List Rg) (k : Nat), px.length = py.length → xs.length = ys.length → (px ++ xs).length < 1000000000 → xs.length + 1 ≤ k →
  r02_Same.l0 k (px.length : Int) (px ++ xs) (py ++ ys) = some (decide (xs.map toP = ys.map toP))
 | [], [], px, py, k, h1, h2, h3, h4 => by
  obtain ⟨k, rfl⟩ : ∃ j, k = j + 1 := ⟨k - 1, by omega⟩
  rw [r02_Same.l0, if_neg (by simp)]
  rfl
 | x :: xs, y :: ys, px, py, k, h1, h2, h3, h4 => by
  obtain ⟨k, rfl⟩ : ∃ j, k = j + 1 := ⟨k - 1, by omega⟩
  have hp : px.length < 1000000000 := by simp at h3; omega
  have ih := plSame_go xs ys (px ++ [x]) (py ++ [y]) k (by simp [h1]) (by simpa using h2) (by simpa using h3) (by simp at h4; omega)
  have ex : (px ++ [x]) ++ xs = px ++ x :: xs := by simp
  have ey : (py ++ [y]) ++ ys = py ++ y :: ys := by simp
  have el : ((px ++ [x]).length : Int) = ((px.length + 1 : Nat) : Int) := by simp
  rw [ex, ey, el] at ih
  have e1 : rd_T33 (py ++ y :: ys) (px.length : Int) = y := by rw [h1]; exact rdG_mid _ _ _
  rw [r02_Same.l0, if_pos (by simp; omega), if_pos (by omega), if_pos (by simp at h2 ⊢; omega), rdG_mid, e1, wrap_suc hp]
  rw [ih]
  by_cases ha : x.f0 = y.f0
  ·by_cases hb : x.f1 = y.f1
   ·rw [if_neg (by simp [ha, hb])]
    simp [toP, ha, hb]
   ·rw [if_pos (by simp [hb])]
    simp [toP, hb]
  ·rw [if_pos (by simp [ha])]
   simp [toP, ha]
 | [], _ :: _, _, _, _, _, h2, _, _ => by simp at h2
 | _ :: _, [], _, _, _, _, h2, _, _ => by simp at h2
theorem plComb_make (l : List Rg) : combS l [] 1 = CpM.make (l.map toP) := by
 rw [← CpM.rmake_eq]
 unfold combS CpM.rmake cutsAB
 congr 1
 funext c
 unfold keepAB keepsB CpM.hasB
 simp
theorem plValid_ok (s : List Rg) (k : Nat) (h : s.length ≤ 1000) (hk : s.length + 1 ≤ k) : r02_Valid.f k s = some (validL s) := by
 have hm : r02_Make.f s = some (mkRS s) := by
  unfold r02_Make.f r02_combine.f
  rw [if_pos (by simp; omega), plComb_make]
  rfl
 unfold r02_Valid.f
 rw [hm]
 show (r02_Same.f k s (mkRS s)).bind _ = _
 unfold r02_Same.f validL
 have e : (mkRS s).map toP = CpM.make (s.map toP) := toP_ofP _
 by_cases hl : s.length = (mkRS s).length
 ·rw [if_pos (by omega)]
  have := plSame_go s (mkRS s) [] [] k rfl hl (by simp; omega) hk
  rw [List.nil_append, List.nil_append, e] at this
  rw [show ((0 : Int)) = (([] : List Rg).length : Int) from rfl, this]
  rfl
 ·rw [if_neg (by omega), decide_eq_false]
  ·rfl
  ·intro hh
   rw [← e] at hh
   exact hl (by simpa using congrArg List.length hh)
theorem plCheckJ (c : CaseS) (b : Bool) (k : Nat) (h : plFewC c) (hk : 50 ≤ k) : r37_Check.j1 (k + 1) b c.lo c.up c.ti c.fo c.ca c.ig = some (if b then 6 else if validL c.ca && validL c.ig then 0 else 11) := by
 obtain ⟨h0, h1, h2, h3, h4, h5⟩ := h
 rw [r37_Check.j1]
 cases b with
 | true => rfl
 | false =>
  rw [if_neg (by decide), plValid_ok c.ca k (by omega) (by omega), plValid_ok c.ig k (by omega) (by omega)]
  simp only [Option.bind_some]
  cases validL c.ca <;> cases validL c.ig <;> rfl
theorem plCheckE (c : CaseS) (L : List (List Mp)) (hL : L.length = 4) (k : Nat) (h : plFewC c) (hk : 60 ≤ k) : r37_Check.l0 (k + 2) L 4 c.lo c.up c.ti c.fo c.ca c.ig = some (if badsS c then 6 else if validL c.ca && validL c.ig then 0 else 11) := by
 have e0 := plTag_ok true c.lo (k + 1) h.1 (by omega)
 have e1 := plTag_ok false c.up (k + 1) h.2.1 (by omega)
 have e2 := plTag_ok false c.ti (k + 1) h.2.2.1 (by omega)
 have e3 := plTag_ok false c.fo (k + 1) h.2.2.2.1 (by omega)
 have hj := fun b => plCheckJ c b k h (by omega)
 rw [r37_Check.l0, if_neg (by omega)]
 show (r37_tagged.f (k + 1) c.lo (if true = true then tagF else tagE)).bind (fun t285 => if t285 = true then _ else (r37_tagged.f (k + 1) c.up (if false = true then tagF else tagE)).bind fun t286 => if t286 = true then _ else (r37_tagged.f (k + 1) c.ti (if false = true then tagF else tagE)).bind fun t287 => if t287 = true then _ else (r37_tagged.f (k + 1) c.fo (if false = true then tagF else tagE)).bind _) = _
 rw [e0, e1, e2, e3]
 simp only [Option.bind_some, hj]
 unfold badsS
 cases c.lo.any (badTag true) <;> cases c.up.any (badTag false) <;> cases c.ti.any (badTag false) <;> cases c.fo.any (badTag false) <;> rfl
theorem plCheckS (c : CaseS) (L : List (List Mp)) (x : List Mp) (i : Nat) (hx : rd_L5 L (i : Int) = x) (hL : L.length = 4) (hi : i < 4) (k : Nat) (h : plFewM x) (hk : 900 ≤ k) :
  r37_Check.l0 (k + 1) L (i : Int) c.lo c.up c.ti c.fo c.ca c.ig = if checkM x = 0 then r37_Check.l0 k L ((i + 1 : Nat) : Int) c.lo c.up c.ti c.fo c.ca c.ig else some (checkM x) := by
 rw [r37_Check.l0, if_pos (by omega), if_pos (by omega), hx, plCheckM_ok x k h hk, wrap_suc (by omega : i < 1000000000)]
 rfl
theorem plCheck_ok (c : CaseS) (k : Nat) (h : plFewC c) (hk : 1000 ≤ k) : r37_Check.f k c.lo c.up c.ti c.fo c.ca c.ig = some (caseChk c) := by
 obtain ⟨k, rfl⟩ : ∃ j, k = j + 6 := ⟨k - 6, by omega⟩
 unfold r37_Check.f caseChk
 have s0 := plCheckS c [c.lo, c.up, c.ti, c.fo] c.lo 0 rfl rfl (by omega) (k + 5) h.1 (by omega)
 have s1 := plCheckS c [c.lo, c.up, c.ti, c.fo] c.up 1 rfl rfl (by omega) (k + 4) h.2.1 (by omega)
 have s2 := plCheckS c [c.lo, c.up, c.ti, c.fo] c.ti 2 rfl rfl (by omega) (k + 3) h.2.2.1 (by omega)
 have s3 := plCheckS c [c.lo, c.up, c.ti, c.fo] c.fo 3 rfl rfl (by omega) (k + 2) h.2.2.2.1 (by omega)
 have s4 := plCheckE c [c.lo, c.up, c.ti, c.fo] rfl k h (by omega)
 refine Eq.trans s0 ?_
 unfold firstE
 by_cases c0 : checkM c.lo = 0
 ·rw [if_pos c0, if_pos c0]
  refine Eq.trans s1 ?_
  unfold firstE
  by_cases c1 : checkM c.up = 0
  ·rw [if_pos c1, if_pos c1]
   refine Eq.trans s2 ?_
   unfold firstE
   by_cases c2 : checkM c.ti = 0
   ·rw [if_pos c2, if_pos c2]
    refine Eq.trans s3 ?_
    unfold firstE
    by_cases c3 : checkM c.fo = 0
    ·rw [if_pos c3, if_pos c3]
     refine Eq.trans s4 ?_
     unfold firstE
     rw [if_pos rfl]
    ·rw [if_neg c3, if_neg c3, if_neg c3]
   ·rw [if_neg c2, if_neg c2, if_neg c2]
  ·rw [if_neg c1, if_neg c1, if_neg c1]
 ·rw [if_neg c0, if_neg c0, if_neg c0]
theorem plData_ok (c : CaseS) (k : Nat) (h : plFewC c) (hk : 1000 ≤ k) : r37_Data.f k c.lo c.up c.ti c.fo c.ca c.ig = some ((caseData c).lo, (caseData c).up, (caseData c).ti, (caseData c).fo, (caseData c).ca, (caseData c).ig) := by
 unfold r37_Data.f caseData
 rw [plCheck_ok c k h hk]
 show (if caseChk c = 0 then _ else _) = _
 split <;> rfl
theorem plData_few {c : CaseS} (h : plFewC c) : plFewC (caseData c) := by
 unfold caseData
 split
 ·exact h
 ·exact ⟨plFewM_nil, plFewM_nil, plFewM_nil, plFewM_nil, Nat.zero_le _, Nat.zero_le _⟩
def optP (o : Option (List Int)) : List Int × Bool := match o with | some x => (x, true) | none => ([], false)
theorem plHas_ok (l : List Rg) (c : Int) (k : Nat) (h : l.length ≤ 1000) (hk : l.length + 1 ≤ k) : r02_Has.f k l c = some (hasL l c) :=
 has_go l [] c k (by simp; omega) hk
theorem plNear_f (c : CaseS) (h4 : c.ca.length ≤ 12) (h5 : c.ig.length ≤ 12) : ∀ (rest pre : List Int) (k : Nat), (pre ++ rest).length < 1000000 → 2 * rest.length + 20 ≤ k →
  r37_near.l0 k (pre ++ rest) (pre.length : Int) 1 c.lo c.up c.ti c.fo c.ca c.ig = some (nearL c rest)
 | [], pre, k, h1, h2 => by
  obtain ⟨k, rfl⟩ : ∃ j, k = j + 2 := ⟨k - 2, by omega⟩
  rw [r37_near.l0, if_pos (by omega), decide_eq_false (by simp), r37_near.j1, if_neg (by decide)]
  rfl
 | x :: rest, pre, k, h1, h2 => by
  obtain ⟨k, rfl⟩ : ∃ j, k = j + 2 := ⟨k - 2, by omega⟩
  have hp : pre.length < 1000000000 := by simp at h1; omega
  have ih := plNear_f c h4 h5 rest (pre ++ [x]) k (by simpa using h1) (by simp at h2; omega)
  have ex : (pre ++ [x]) ++ rest = pre ++ x :: rest := by simp
  have el : ((pre ++ [x]).length : Int) = ((pre.length + 1 : Nat) : Int) := by simp
  rw [ex, el] at ih
  rw [r37_near.l0, if_pos (by omega), dT (by simp; omega), r37_near.j1, if_pos rfl, if_pos (by omega), if_pos (by simp; omega), rd_mid, wrap_suc hp, plHas_ok _ _ _ (by omega) (by simp at h2; omega), plHas_ok _ _ _ (by omega) (by simp at h2; omega), ih]
  show (if hasL c.ig x = true then _ else _) = _
  rw [nearL]
  split <;> rfl
theorem plNear_b (c : CaseS) (h4 : c.ca.length ≤ 12) (h5 : c.ig.length ≤ 12) : ∀ (rv suf : List Int) (k : Nat), (rv ++ suf).length < 1000000 → 2 * rv.length + 20 ≤ k →
  r37_near.l0 k (rv.reverse ++ suf) ((rv.length : Int) - 1) (-1) c.lo c.up c.ti c.fo c.ca c.ig = some (nearL c rv)
 | [], suf, k, h1, h2 => by
  obtain ⟨k, rfl⟩ : ∃ j, k = j + 2 := ⟨k - 2, by omega⟩
  rw [r37_near.l0, if_neg (by simp), r37_near.j1, if_neg (by decide)]
  rfl
 | x :: rv, suf, k, h1, h2 => by
  obtain ⟨k, rfl⟩ : ∃ j, k = j + 2 := ⟨k - 2, by omega⟩
  have hp : rv.length < 1000000 := by simp at h1; omega
  have ih := plNear_b c h4 h5 rv (x :: suf) k (by simp at h1 ⊢; omega) (by simp at h2; omega)
  have ex : (x :: rv).reverse ++ suf = rv.reverse ++ x :: suf := by simp
  have el : (((x :: rv).length : Nat) : Int) - 1 = ((rv.reverse.length : Nat) : Int) := by simp
  have ew : wrap64 (((rv.reverse.length : Nat) : Int) + -1) = (rv.length : Int) - 1 := by rw [List.length_reverse]; unfold wrap64; omega
  rw [ex, el, r37_near.l0, if_pos (by omega), dT (by simp; omega), r37_near.j1, if_pos rfl, if_pos (by omega), if_pos (by simp; omega), rd_mid, ew, plHas_ok _ _ _ (by omega) (by simp at h2; omega), plHas_ok _ _ _ (by omega) (by simp at h2; omega), ih]
  show (if hasL c.ig x = true then _ else _) = _
  rw [nearL]
  split <;> rfl
theorem plFinal_ok (c : CaseS) (text : List Int) (i k : Nat) (h : plFewC c) (hi : i < text.length) (ht : text.length ≤ 1000) (hk : 2100 ≤ k) :
  r37_final.f k c.lo c.up c.ti c.fo c.ca c.ig text (i : Int) = some (finalS c text i) := by
 have hb := plNear_b c h.2.2.2.2.1 h.2.2.2.2.2 (text.take i).reverse (text.drop i) k (by simp; omega) (by simp; omega)
 have hf := plNear_f c h.2.2.2.2.1 h.2.2.2.2.2 (text.drop (i + 1)) (text.take (i + 1)) k (by simp; omega) (by simp; omega)
 rw [List.reverse_reverse, List.take_append_drop, show (((text.take i).reverse.length : Nat) : Int) - 1 = (i : Int) - 1 by simp; omega] at hb
 rw [List.take_append_drop, show (((text.take (i + 1)).length : Nat) : Int) = ((i + 1 : Nat) : Int) by simp; omega] at hf
 unfold r37_final.f r37_near.f finalS
 rw [show wrap64 ((i : Int) - 1) = (i : Int) - 1 by unfold wrap64; omega, wrap_suc (by omega), hb, hf]
 simp only [Option.bind_some]
 cases nearL c (text.take i).reverse <;> rfl
theorem plFinalI_ok (c : CaseS) (text : List Int) (i : Int) (k : Nat) (h : plFewC c) (ht : text.length ≤ 1000) (hk : 2100 ≤ k) :
  r37_Final.f k c.lo c.up c.ti c.fo c.ca c.ig text i = some (finalI (caseData c) text i) := by
 unfold r37_Final.f finalI
 by_cases h0 : 0 ≤ i
 ·rw [if_pos h0, dT h0]
  by_cases h1 : i < (text.length : Int)
  ·rw [if_pos h1, dT h1, plData_ok c k h (by omega)]
   have := plFinal_ok (caseData c) text i.toNat k (plData_few h) (by omega) ht hk
   rw [Int.toNat_of_nonneg h0] at this
   show (r37_final.f k (caseData c).lo (caseData c).up (caseData c).ti (caseData c).fo (caseData c).ca (caseData c).ig text i).bind _ = _
   rw [this]
   simp
  ·rw [if_neg h1, decide_eq_false h1]
   simp
 ·rw [if_neg h0, decide_eq_false h0]
  simp
@[irreducible] def plW (d : Nat) : Int := 100000 * (d : Int)
@[irreducible] def plV (d : Nat) : Int := 5000000 * (d : Int)
end Go.Proofs.Ythnkmcfhpjmihaa.Q
end
section
namespace Go.Proofs.Ythnkmcfhpjmihaa.Q
open Go.RowKit Go.Proofs.YthnkmcfhpjmihaaW.PrintWords Go.Proofs.YthnkmcfhpjmihaaW.PrintLast Go.Proofs.YthnkmcfhpjmihaaW.PrintMore
attribute [local go_sem] max2_int min2_int max_two min_two max_three min_three max_four min_four
set_option linter.unusedVariables false
set_option linter.unusedSimpArgs false
mutual
def r01_Compare.l0 : Nat → List Int → List Int → Int → Option (Int)
 | 0, _, _, _ => none
 | k + 1, x0, x1, x5 => if x5 < (x0.length : Int) then (r01_Compare.j1 k x0 x1 x5 (decide (x5 < (x1.length : Int)))) else (r01_Compare.j1 k x0 x1 x5 false)
def r01_Compare.j1 : Nat → List Int → List Int → Int → Bool → Option (Int)
 | 0, _, _, _, _ => none
 | k + 1, x0, x1, x5, x15 => if x15 = true then (if 0 ≤ x5 then (if x5 < (x0.length : Int) then (if x5 < (x1.length : Int) then (if (rd x0 x5) < (rd x1 x5) then (some (-1)) else (if (rd x0 x5) > (rd x1 x5) then (some 1) else (r01_Compare.l0 k x0 x1 (wrap64 (x5 + 1))))) else (none)) else (none)) else (none)) else (if (x0.length : Int) < (x1.length : Int) then (some (-1)) else (if (x0.length : Int) > (x1.length : Int) then (some 1) else (some 0)))
end
def r01_Compare.f (k : Nat) (l0 : List Int) (l1 : List Int) : Option (Int) := r01_Compare.l0 k l0 l1 0
set_option maxHeartbeats 8000000 in
set_option maxRecDepth 100000 in
theorem r01_Compare.calls (k : Nat) (A0 : Option Addr) (c0 : Nat) (l0 : List Int) (A1 : Option Addr) (c1 : Nat) (l1 : List Int) (r : Int) (w : World) (hr0 : Kd.C (Kd.int .i64) w A0 l0.length l0) (hc0 : l0.length ≤ c0) (hr1 : Kd.C (Kd.int .i64) w A1 l1.length l1) (hc1 : l1.length ≤ c1) (h : r01_Compare.f k l0 l1 = some r) :
  Calls Try.prog 35 #[.slice A0 l0.length c0, .slice A1 l1.length c1] w fun e w' => e = .returned (.int .i64 r) ∧ Drawn0 w w' := by
 have HR0 := aM hr0
 have HC0 := aM hc0
 clear hr0 hc0
 have HR1 := aM hr1
 have HC1 := aM hc1
 clear hr1 hc1
 have H : (r01_Compare.l0 k l0 l1 0) = some r := h
 clear h
 have H' := aM H
 clear H
 go_enter Try.func35, Try.ntmps35
 go_wp2
 repeat (go_quiet (fail); try go_wp2)
 go_loopg [5] k (fun kq v5 w' => ∃ (x5_1 : Int), v5 = .int .i64 x5_1 ∧ Aside0 (r01_Compare.l0 kq l0 l1 x5_1 = some r) ∧ Aside0 (kq ≤ k) ∧ Drawn0 w w')
 case atStart => exact ⟨(0), (by first | rfl | (simp; done) | (simp [*]; done)), H', ⟨Nat.le_refl _⟩, by repeat (first | exact Drawn0.refl _ | apply Drawn0.step)⟩
 case round =>
  clear H'
  try clear c1
  try clear p2
  obtain ⟨x5_1, rfl, HA, HK1, ⟨m1, rfl⟩⟩ := hrel
  cases gk with
  | zero => exact absurd HA.out (by simp [r01_Compare.l0])
  | succ k1 =>
   have H := HA.out
   clear HA
   simp only [r01_Compare.l0] at H
   have HC3 := aM H
   clear H
   go_upto_region 2 with (fail)
   repeat (go_quiet (fail); go_upto_region 2 with (fail))
   go_cut [15] (fun v15 wc => ∃ (kq : Nat) (x15_2 : Bool), v15 = .bool x15_2 ∧ Aside0 (r01_Compare.j1 kq l0 l1 x5_1 x15_2 = some r) ∧ Aside0 (kq ≤ k1) ∧ Drawn0 w wc)
   case first =>
    have H := HC3.out
    clear HC3
    by_cases c4 : x5_1 < (l0.length : Int)
    ·rw [if_pos c4] at H
     have c4b0 : decide (x5_1 < (l0.length : Int)) = true := dT c4
     clear c4
     (first | rw [c4b0] | (simp only [i64_w, i32_w]; rw [c4b0]) | skip)
     have H' := aM H
     clear H
     go_wp2
     repeat (go_quiet (fail); try go_wp2)
     go_meet
     case rel => exact ⟨_, (decide (x5_1 < (l1.length : Int))), (by first | rfl | (simp; done) | (simp [*]; done)), H', ⟨by have := HK1.out; first | omega | exact Nat.le_refl _⟩, by repeat (first | exact Drawn0.refl _ | apply Drawn0.step)⟩
    ·rw [if_neg c4] at H
     have c4b0 : decide (x5_1 < (l0.length : Int)) = false := decide_eq_false c4
     clear c4
     (first | rw [c4b0] | (simp only [i64_w, i32_w]; rw [c4b0]) | skip)
     have H' := aM H
     clear H
     go_wp2
     repeat (go_quiet (fail); try go_wp2)
     go_meet
     case rel => exact ⟨_, (false), (by first | rfl | (simp; done) | (simp [*]; done)), H', ⟨by have := HK1.out; first | omega | exact Nat.le_refl _⟩, by repeat (first | exact Drawn0.refl _ | apply Drawn0.step)⟩
   case rest =>
    clear HC3
    try clear c1
    try clear p2
    try clear c3
    try clear c4
    try clear c4b0
    try clear p2
    obtain ⟨kq, x15_2, rfl, HA, HJ2, ⟨mc2, rfl⟩⟩ := hcut
    cases kq with
    | zero => exact absurd HA.out (by simp [r01_Compare.j1])
    | succ kj2 =>
     have H := HA.out
     clear HA
     simp only [r01_Compare.j1] at H
     by_cases c5 : x15_2 = true
     ·subst c5
      have H1 : (if 0 ≤ x5_1 then (if x5_1 < (l0.length : Int) then (if x5_1 < (l1.length : Int) then (if (rd l0 x5_1) < (rd l1 x5_1) then (some (-1)) else (if (rd l0 x5_1) > (rd l1 x5_1) then (some 1) else (r01_Compare.l0 kj2 l0 l1 (wrap64 (x5_1 + 1))))) else (none)) else (none)) else (none)) = some r := by rw [if_pos rfl] at H; exact H
      clear H
      have H := H1
      clear H1
      by_cases c6 : 0 ≤ x5_1
      ·rw [if_pos c6] at H
       have c6b0 : decide (0 ≤ x5_1) = true := dT c6
       clear c6
       by_cases c7 : x5_1 < (l0.length : Int)
       ·rw [if_pos c7] at H
        have c7b0 : decide (x5_1 < (l0.length : Int)) = true := dT c7
        clear c7
        by_cases c8 : x5_1 < (l1.length : Int)
        ·rw [if_pos c8] at H
         have c8b0 : decide (x5_1 < (l1.length : Int)) = true := dT c8
         clear c8
         by_cases c9 : (rd l0 x5_1) < (rd l1 x5_1)
         ·rw [if_pos c9] at H
          have c9b0 : decide ((rd l0 x5_1) < (rd l1 x5_1)) = true := dT c9
          clear c9
          obtain rfl := Option.some.inj H
          have p118 : 0 ≤ (x5_1 : Int) := oD (by first | (with_reducible assumption) | assumption)
          have q118 : x5_1 < (l0.length : Int) := oD (by first | (with_reducible assumption) | assumption)
          obtain ⟨ad118, e118, hx118_0⟩ := Kd.at_int HR0.out x5_1 p118 q118
          cases e118
          replace p118 := eq_true p118
          replace q118 := eq_true q118
          have p119 : 0 ≤ (x5_1 : Int) := oD (by first | (with_reducible assumption) | assumption)
          have q119 : x5_1 < (l1.length : Int) := oD (by first | (with_reducible assumption) | assumption)
          obtain ⟨ad119, e119, hx119_0⟩ := Kd.at_int HR1.out x5_1 p119 q119
          cases e119
          replace p119 := eq_true p119
          replace q119 := eq_true q119
          go_wp2
          repeat (go_quiet (fail); try go_wp2)
          go_ret
          exact ⟨by first | rfl | (simp; done) | (simp [*]; done), by repeat (first | exact Drawn0.refl _ | apply Drawn0.step)⟩
         ·rw [if_neg c9] at H
          have c9b0 : decide ((rd l0 x5_1) < (rd l1 x5_1)) = false := decide_eq_false c9
          clear c9
          by_cases c10 : (rd l0 x5_1) > (rd l1 x5_1)
          ·rw [if_pos c10] at H
           have c10b0 : decide ((rd l1 x5_1) < (rd l0 x5_1)) = true := dT c10
           clear c10
           obtain rfl := Option.some.inj H
           have p118 : 0 ≤ (x5_1 : Int) := oD (by first | (with_reducible assumption) | assumption)
           have q118 : x5_1 < (l0.length : Int) := oD (by first | (with_reducible assumption) | assumption)
           obtain ⟨ad118, e118, hx118_0⟩ := Kd.at_int HR0.out x5_1 p118 q118
           cases e118
           replace p118 := eq_true p118
           replace q118 := eq_true q118
           have p119 : 0 ≤ (x5_1 : Int) := oD (by first | (with_reducible assumption) | assumption)
           have q119 : x5_1 < (l1.length : Int) := oD (by first | (with_reducible assumption) | assumption)
           obtain ⟨ad119, e119, hx119_0⟩ := Kd.at_int HR1.out x5_1 p119 q119
           cases e119
           replace p119 := eq_true p119
           replace q119 := eq_true q119
           have p120 : 0 ≤ (x5_1 : Int) := oD (by first | (with_reducible assumption) | assumption)
           have q120 : x5_1 < (l0.length : Int) := oD (by first | (with_reducible assumption) | assumption)
           obtain ⟨ad120, e120, hx120_0⟩ := Kd.at_int HR0.out x5_1 p120 q120
           obtain rfl : ad118 = ad120 := (by injection e120)
           replace p120 := eq_true p120
           replace q120 := eq_true q120
           have p121 : 0 ≤ (x5_1 : Int) := oD (by first | (with_reducible assumption) | assumption)
           have q121 : x5_1 < (l1.length : Int) := oD (by first | (with_reducible assumption) | assumption)
           obtain ⟨ad121, e121, hx121_0⟩ := Kd.at_int HR1.out x5_1 p121 q121
           obtain rfl : ad119 = ad121 := (by injection e121)
           replace p121 := eq_true p121
           replace q121 := eq_true q121
           go_wp2
           repeat (go_quiet (fail); try go_wp2)
           go_ret
           exact ⟨by first | rfl | (simp; done) | (simp [*]; done), by repeat (first | exact Drawn0.refl _ | apply Drawn0.step)⟩
          ·rw [if_neg c10] at H
           have c10b0 : decide ((rd l1 x5_1) < (rd l0 x5_1)) = false := decide_eq_false c10
           clear c10
           have H' := aM H
           clear H
           have p118 : 0 ≤ (x5_1 : Int) := oD (by first | (with_reducible assumption) | assumption)
           have q118 : x5_1 < (l0.length : Int) := oD (by first | (with_reducible assumption) | assumption)
           obtain ⟨ad118, e118, hx118_0⟩ := Kd.at_int HR0.out x5_1 p118 q118
           cases e118
           replace p118 := eq_true p118
           replace q118 := eq_true q118
           have p119 : 0 ≤ (x5_1 : Int) := oD (by first | (with_reducible assumption) | assumption)
           have q119 : x5_1 < (l1.length : Int) := oD (by first | (with_reducible assumption) | assumption)
           obtain ⟨ad119, e119, hx119_0⟩ := Kd.at_int HR1.out x5_1 p119 q119
           cases e119
           replace p119 := eq_true p119
           replace q119 := eq_true q119
           have p120 : 0 ≤ (x5_1 : Int) := oD (by first | (with_reducible assumption) | assumption)
           have q120 : x5_1 < (l0.length : Int) := oD (by first | (with_reducible assumption) | assumption)
           obtain ⟨ad120, e120, hx120_0⟩ := Kd.at_int HR0.out x5_1 p120 q120
           obtain rfl : ad118 = ad120 := (by injection e120)
           replace p120 := eq_true p120
           replace q120 := eq_true q120
           have p121 : 0 ≤ (x5_1 : Int) := oD (by first | (with_reducible assumption) | assumption)
           have q121 : x5_1 < (l1.length : Int) := oD (by first | (with_reducible assumption) | assumption)
           obtain ⟨ad121, e121, hx121_0⟩ := Kd.at_int HR1.out x5_1 p121 q121
           obtain rfl : ad119 = ad121 := (by injection e121)
           replace p121 := eq_true p121
           replace q121 := eq_true q121
           go_wp2
           repeat (go_quiet (fail); try go_wp2)
           go_roundg kj2
           case measure => have := HK1.out; have := HJ2.out; omega
           case rel => exact ⟨(wrap64 (x5_1 + 1)), (by first | rfl | (simp; done) | (simp [*]; done)), H', ⟨by have := HK1.out; have := HJ2.out; omega⟩, by repeat (first | exact Drawn0.refl _ | apply Drawn0.step)⟩
        ·rw [if_neg c8] at H
         exact absurd H (by simp)
       ·rw [if_neg c7] at H
        exact absurd H (by simp)
      ·rw [if_neg c6] at H
       exact absurd H (by simp)
     ·replace c5 := Bool.eq_false_iff.mpr c5
      subst c5
      have H1 : (if (l0.length : Int) < (l1.length : Int) then (some (-1)) else (if (l0.length : Int) > (l1.length : Int) then (some 1) else (some 0))) = some r := by rw [if_neg (show ¬ (false = true) by decide)] at H; exact H
      clear H
      have H := H1
      clear H1
      by_cases c11 : (l0.length : Int) < (l1.length : Int)
      ·rw [if_pos c11] at H
       have c11b0 : decide ((l0.length : Int) < (l1.length : Int)) = true := dT c11
       have c11b1 : decide (l0.length < l1.length) = true := dT (Int.ofNat_lt.mp c11)
       clear c11
       obtain rfl := Option.some.inj H
       go_wp2
       repeat (go_quiet (fail); try go_wp2)
       go_ret
       exact ⟨by first | rfl | (simp; done) | (simp [*]; done), by repeat (first | exact Drawn0.refl _ | apply Drawn0.step)⟩
      ·rw [if_neg c11] at H
       have c11b0 : decide ((l0.length : Int) < (l1.length : Int)) = false := decide_eq_false c11
       have c11b1 : decide (l0.length < l1.length) = false := decide_eq_false (fun h => c11 (Int.ofNat_lt.mpr h))
       clear c11
       by_cases c12 : (l0.length : Int) > (l1.length : Int)
       ·rw [if_pos c12] at H
        have c12b0 : decide ((l1.length : Int) < (l0.length : Int)) = true := dT c12
        have c12b1 : decide (l1.length < l0.length) = true := dT (Int.ofNat_lt.mp c12)
        clear c12
        obtain rfl := Option.some.inj H
        go_wp2
        repeat (go_quiet (fail); try go_wp2)
        go_ret
        exact ⟨by first | rfl | (simp; done) | (simp [*]; done), by repeat (first | exact Drawn0.refl _ | apply Drawn0.step)⟩
       ·rw [if_neg c12] at H
        have c12b0 : decide ((l1.length : Int) < (l0.length : Int)) = false := decide_eq_false c12
        have c12b1 : decide (l1.length < l0.length) = false := decide_eq_false (fun h => c12 (Int.ofNat_lt.mpr h))
        clear c12
        obtain rfl := Option.some.inj H
        go_wp2
        repeat (go_quiet (fail); try go_wp2)
        go_ret
        exact ⟨by first | rfl | (simp; done) | (simp [*]; done), by repeat (first | exact Drawn0.refl _ | apply Drawn0.step)⟩
def r01_Equal.f (k : Nat) (l0 : List Int) (l1 : List Int) : Option (Bool) := (r01_Compare.f k l0 l1).bind fun t122 => (some (t122 == 0))
set_option maxHeartbeats 8000000 in
set_option maxRecDepth 100000 in
theorem r01_Equal.calls (k : Nat) (A0 : Option Addr) (c0 : Nat) (l0 : List Int) (A1 : Option Addr) (c1 : Nat) (l1 : List Int) (r : Bool) (w : World) (hr0 : Kd.C (Kd.int .i64) w A0 l0.length l0) (hc0 : l0.length ≤ c0) (hr1 : Kd.C (Kd.int .i64) w A1 l1.length l1) (hc1 : l1.length ≤ c1) (h : r01_Equal.f k l0 l1 = some r) :
  Calls Try.prog 16 #[.slice A0 l0.length c0, .slice A1 l1.length c1] w fun e w' => e = .returned (.bool r) ∧ Drawn0 w w' := by
 have HR0 := aM hr0
 have HC0 := aM hc0
 clear hr0 hc0
 have HR1 := aM hr1
 have HC1 := aM hc1
 clear hr1 hc1
 have H : ((r01_Compare.f k l0 l1).bind fun t122 => (some (t122 == 0))) = some r := h
 clear h
 replace H := Option.bind_eq_some_iff.mp H
 obtain ⟨t122, A30, H⟩ := H
 replace H : (some (t122 == 0)) = some r := H
 have A3 := aM A30
 clear A30
 obtain rfl := Option.some.inj H
 go_enter Try.func16, Try.ntmps16
 go_wp2_with (first | ((with_reducible refine gate_callee (f := 35) rfl ?_); refine goesL_ (some 7) rfl rfl Try.func35 (by kernel_rfl) rfl #[.slice A0 l0.length c0, .slice A1 l1.length c1] rfl (by (try simp only [List.map_toArray, List.map_cons, List.map_nil]); first | done | rfl | (simp only [List.length_drop, List.length_take]; rfl)) ?_; (with_reducible refine (r01_Compare.calls k _ _ l0 _ _ l1 t122 _ ?side1 ?side2 ?side3 ?side4 A3.out).mono ?_); (case side1 => repeat (first | exact HR0.out | (with_reducible refine Kd.C_alloc ?_ _) | (with_reducible refine Kd.C_drewN ?_ _) | (with_reducible refine Kd.C_drew ?_))); (case side2 => exact HC0.out); (case side3 => repeat (first | exact HR1.out | (with_reducible refine Kd.C_alloc ?_ _) | (with_reducible refine Kd.C_drewN ?_ _) | (with_reducible refine Kd.C_drew ?_))); (case side4 => exact HC1.out); rintro e w' ⟨rfl, ⟨nd, rfl⟩⟩; refine ⟨_, rfl, ?_⟩))
 go_ret
 exact ⟨by first | rfl | (simp; done) | (simp [*]; done), by repeat (first | exact Drawn0.refl _ | apply Drawn0.step)⟩
end Go.Proofs.Ythnkmcfhpjmihaa.Q
end
