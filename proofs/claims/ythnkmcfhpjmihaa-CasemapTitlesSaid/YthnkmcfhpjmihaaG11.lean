/- Lemmas, printed and written for this claim: part 11. -/
import Derived.Test.YthnkmcfhpjmihaaG2
import Derived.Test.YthnkmcfhpjmihaaG8
import Derived.Test.YthnkmcfhpjmihaaG10
import Derived.Test.YthnkmcfhpjmihaaG7
import Derived.WalkKit
import Derived.Test.YthnkmcfhpjmihaaG9
import Derived.Test.YthnkmcfhpjmihaaG6
import Derived.Test.YthnkmcfhpjmihaaG5
import Derived.Test.YthnkmcfhpjmihaaG4
import Derived.Test.YthnkmcfhpjmihaaG3
section
namespace Go.Proofs.Ythnkmcfhpjmihaa.Q
open Go.RowKit Go.Proofs.YthnkmcfhpjmihaaW.PrintWords Go.Proofs.YthnkmcfhpjmihaaW.PrintLast Go.Proofs.YthnkmcfhpjmihaaW.PrintMore
attribute [local go_sem] max2_int min2_int max_two min_two max_three min_three max_four min_four
set_option linter.unusedVariables false
set_option linter.unusedSimpArgs false
def r37_Title.l0 : Nat → List Int → List (S33) → List Int → Int → Int → List (S43) → List (S43) → List (S43) → List (S43) → List (S33) → List (S33) → Option (List Int)
 | 0, _, _, _, _, _, _, _, _, _, _, _ => none
 | k + 1, x1, x2, x8, x9, x10, x580000, x580001, x580002, x580003, x580004, x580005 => if x10 < (x2.length : Int) then (if 0 ≤ x10 then (if 0 ≤ x9 then (if x9 ≤ ((rd_T33 x2 x10).f0) then (if ((rd_T33 x2 x10).f0) ≤ (x1.length : Int) then (if x8.length + ((x1.take (((rd_T33 x2 x10).f0) : Int).toNat).drop (x9 : Int).toNat).length < 17592186044416 then ((some (x8 ++ ((x1.take (((rd_T33 x2 x10).f0) : Int).toNat).drop (x9 : Int).toNat) : List Int)).bind fun y589 => ((r37_titled.f k x580000 x580001 x580002 x580003 x580004 x580005 x1 ((rd_T33 x2 x10).f0) ((rd_T33 x2 x10).f1)).bind fun t593 => (if y589.length + t593.length < 17592186044416 then (r37_Title.l0 k x1 x2 (y589 ++ t593) ((rd_T33 x2 x10).f1) (wrap64 (x10 + 1)) x580000 x580001 x580002 x580003 x580004 x580005) else (none)))) else (none)) else (none)) else (none)) else (none)) else (none)) else (if 0 ≤ x9 then (if x9 ≤ (x1.length : Int) then (if x8.length + (x1.drop (x9 : Int).toNat).length < 17592186044416 then (some (x8 ++ (x1.drop (x9 : Int).toNat))) else (none)) else (none)) else (none))
def r37_Title.f (k : Nat) (l0_0 : List (S43)) (l0_1 : List (S43)) (l0_2 : List (S43)) (l0_3 : List (S43)) (l0_4 : List (S33)) (l0_5 : List (S33)) (l1 : List Int) (l2 : List (S33)) : Option (List Int) := (r37_Data.f k l0_0 l0_1 l0_2 l0_3 l0_4 l0_5).bind fun bt561 => ((r37_Within.f k l2 (l1.length : Int)).bind fun t580 => (if t580 = true then (r37_Title.l0 k l1 l2 ([] : List Int) 0 0 bt561.1 bt561.2.1 bt561.2.2.1 bt561.2.2.2.1 bt561.2.2.2.2.1 bt561.2.2.2.2.2) else ((some (([] : List Int) : List Int)).bind fun y581 => (if y581.length + l1.length < 17592186044416 then (some (y581 ++ l1)) else (none)))))
def r37_Title.T10 : Bool × List (List Nat × List Nat) := (true, [([], []), ([], []), ([], []), ([], []), ([], []), ([3, 4], [3, 4]), ([5], [5]), ([1, 2, 6], [1, 2, 6]), ([0, 7, 7], [0, 7]), ([8, 8, 0, 1, 2, 3, 4, 5, 6, 7, 8], [0, 8])])
def r37_Title.B10 : List Nat := [0, 0, 0, 0, 0, 24, 56, 126, 255, 511]
theorem r37_Title.tab10 : rtab .any (opsOf Try.f28 10) = r37_Title.T10 := by kernel_rfl
theorem r37_Title.bits10 : waitsOk r37_Title.T10.2 r37_Title.B10 = true := by kernel_rfl
set_option maxHeartbeats 8000000 in
set_option maxRecDepth 100000 in
theorem r37_Title.calls (k : Nat) (A0_0 : Option Addr) (c0_0 : Nat) (l0_0 : List (S43)) (A0_1 : Option Addr) (c0_1 : Nat) (l0_1 : List (S43)) (A0_2 : Option Addr) (c0_2 : Nat) (l0_2 : List (S43)) (A0_3 : Option Addr) (c0_3 : Nat) (l0_3 : List (S43)) (A0_4 : Option Addr) (c0_4 : Nat) (l0_4 : List (S33)) (A0_5 : Option Addr) (c0_5 : Nat) (l0_5 : List (S33)) (A1 : Option Addr) (c1 : Nat) (l1 : List Int) (A2 : Option Addr) (c2 : Nat) (l2 : List (S33)) (r : List Int) (w : World) (hr0_0 : Kd.C k43 w A0_0 l0_0.length l0_0) (hc0_0 : l0_0.length ≤ c0_0) (hr0_1 : Kd.C k43 w A0_1 l0_1.length l0_1) (hc0_1 : l0_1.length ≤ c0_1) (hr0_2 : Kd.C k43 w A0_2 l0_2.length l0_2) (hc0_2 : l0_2.length ≤ c0_2) (hr0_3 : Kd.C k43 w A0_3 l0_3.length l0_3) (hc0_3 : l0_3.length ≤ c0_3) (hr0_4 : Kd.C k33 w A0_4 l0_4.length l0_4) (hc0_4 : l0_4.length ≤ c0_4) (hr0_5 : Kd.C k33 w A0_5 l0_5.length l0_5) (hc0_5 : l0_5.length ≤ c0_5) (hr1 : Kd.C (Kd.int .i64) w A1 l1.length l1) (hc1 : l1.length ≤ c1) (hr2 : Kd.C k33 w A2 l2.length l2) (hc2 : l2.length ≤ c2) (h : r37_Title.f k l0_0 l0_1 l0_2 l0_3 l0_4 l0_5 l1 l2 = some r) :
  Calls Try.prog 28 #[.agg #[.slice A0_0 l0_0.length c0_0, .slice A0_1 l0_1.length c0_1, .slice A0_2 l0_2.length c0_2, .slice A0_3 l0_3.length c0_3, .slice A0_4 l0_4.length c0_4, .slice A0_5 l0_5.length c0_5], .slice A1 l1.length c1, .slice A2 l2.length c2] w fun e w' => ∃ v0_ : Value, e = .returned (v0_) ∧ Kd.R (Kd.int .i64) 3 w' w.heap.size (fun _ => True) v0_ r ∧ Below w.heap.size w w' := by
 have hu27 := Try.underlying27
 have hu33 := Try.underlying33
 have HR0_0 := aM hr0_0
 have HC0_0 := aM hc0_0
 clear hr0_0 hc0_0
 have HR0_1 := aM hr0_1
 have HC0_1 := aM hc0_1
 clear hr0_1 hc0_1
 have HR0_2 := aM hr0_2
 have HC0_2 := aM hc0_2
 clear hr0_2 hc0_2
 have HR0_3 := aM hr0_3
 have HC0_3 := aM hc0_3
 clear hr0_3 hc0_3
 have HR0_4 := aM hr0_4
 have HC0_4 := aM hc0_4
 clear hr0_4 hc0_4
 have HR0_5 := aM hr0_5
 have HC0_5 := aM hc0_5
 clear hr0_5 hc0_5
 have HR1 := aM hr1
 have HC1 := aM hc1
 clear hr1 hc1
 have HR2 := aM hr2
 have HC2 := aM hc2
 clear hr2 hc2
 have HB := aM (Below.refl w.heap.size w)
 have H : ((r37_Data.f k l0_0 l0_1 l0_2 l0_3 l0_4 l0_5).bind fun bt561 => ((r37_Within.f k l2 (l1.length : Int)).bind fun t580 => (if t580 = true then (r37_Title.l0 k l1 l2 ([] : List Int) 0 0 bt561.1 bt561.2.1 bt561.2.2.1 bt561.2.2.2.1 bt561.2.2.2.2.1 bt561.2.2.2.2.2) else ((some (([] : List Int) : List Int)).bind fun y581 => (if y581.length + l1.length < 17592186044416 then (some (y581 ++ l1)) else (none)))))) = some r := h
 clear h
 replace H := Option.bind_eq_some_iff.mp H
 obtain ⟨⟨t561, t564, t567, t570, t573, t576⟩, A40, H⟩ := H
 replace H : ((r37_Within.f k l2 (l1.length : Int)).bind fun t580 => (if t580 = true then (r37_Title.l0 k l1 l2 ([] : List Int) 0 0 t561 t564 t567 t570 t573 t576) else ((some (([] : List Int) : List Int)).bind fun y581 => (if y581.length + l1.length < 17592186044416 then (some (y581 ++ l1)) else (none))))) = some r := H
 have A4 := aM A40
 clear A40
 replace H := Option.bind_eq_some_iff.mp H
 obtain ⟨t580, A50, H⟩ := H
 replace H : (if t580 = true then (r37_Title.l0 k l1 l2 ([] : List Int) 0 0 t561 t564 t567 t570 t573 t576) else ((some (([] : List Int) : List Int)).bind fun y581 => (if y581.length + l1.length < 17592186044416 then (some (y581 ++ l1)) else (none)))) = some r := H
 have A5 := aM A50
 clear A50
 by_cases c6 : t580 = true
 ·subst c6
  have H1 : (r37_Title.l0 k l1 l2 ([] : List Int) 0 0 t561 t564 t567 t570 t573 t576) = some r := by rw [if_pos rfl] at H; exact H
  clear H
  have H := H1
  clear H1
  have H' := aM H
  clear H
  go_enter Try.func28, Try.ntmps28
  go_wp2_with (first | ((with_reducible refine gate_dst (N := 3) rfl ?_); refine box_event ?hg (N := 3) ?hd (cs := #[.slice A0_0 l0_0.length c0_0, .slice A0_1 l0_1.length c0_1, .slice A0_2 l0_2.length c0_2, .slice A0_3 l0_3.length c0_3, .slice A0_4 l0_4.length c0_4, .slice A0_5 l0_5.length c0_5]) (t := 27) ?hr ?_; (case hd => rfl); (case hg => rfl); (case hr => first | (go_simp; done) | (go_simp; rfl)); intro gb560 hg w7 hbox hb; have n0_ := aM (bSp (by repeat (first | (with_reducible first | exact HB.out | apply bAl | apply pbN | apply bD1) | exact HB.out)) hb); have n1_ := aM (hbox); have n2_ := aM ((by rw [hg]; exact (bSz (by repeat (first | (with_reducible first | exact HB.out | apply bAl | apply pbN | apply bD1) | exact HB.out))) : w.heap.size ≤ gb560)); have n3_ := aM ((by rw [hg]; exact (bSz (by repeat (first | (with_reducible first | exact HB.out | apply bAl | apply pbN | apply bD1) | exact HB.out))) : w.heap.size ≤ gb560)); clear HB; have HB := n0_; have BK560 := n1_; have GW560 := n2_; have GE560 := n3_; clear n0_ n1_ n2_ n3_; clear hb hbox hg; have hcz8_0 : w7.cell? ⟨gb560, 0, none⟩ = some (.slice A0_0 l0_0.length c0_0) := (bkC BK560.out 0).trans rfl; have hcz8_1 : w7.cell? ⟨gb560, 1, none⟩ = some (.slice A0_1 l0_1.length c0_1) := (bkC BK560.out 1).trans rfl; have hcz8_2 : w7.cell? ⟨gb560, 2, none⟩ = some (.slice A0_2 l0_2.length c0_2) := (bkC BK560.out 2).trans rfl; have hcz8_3 : w7.cell? ⟨gb560, 3, none⟩ = some (.slice A0_3 l0_3.length c0_3) := (bkC BK560.out 3).trans rfl; have hcz8_4 : w7.cell? ⟨gb560, 4, none⟩ = some (.slice A0_4 l0_4.length c0_4) := (bkC BK560.out 4).trans rfl; have hcz8_5 : w7.cell? ⟨gb560, 5, none⟩ = some (.slice A0_5 l0_5.length c0_5) := (bkC BK560.out 5).trans rfl; have hfz8_0 := bkF BK560.out 0; have hfz8_1 := bkF BK560.out 1; have hfz8_2 := bkF BK560.out 2; have hfz8_3 := bkF BK560.out 3; have hfz8_4 := bkF BK560.out 4; have hfz8_5 := bkF BK560.out 5) | ((with_reducible refine gate_callee (f := 47) rfl ?_); refine goesL_ (some 12) rfl rfl Try.func47 (by kernel_rfl) rfl #[.agg #[.slice A0_0 l0_0.length c0_0, .slice A0_1 l0_1.length c0_1, .slice A0_2 l0_2.length c0_2, .slice A0_3 l0_3.length c0_3, .slice A0_4 l0_4.length c0_4, .slice A0_5 l0_5.length c0_5]] rfl (by (try simp only [List.map_toArray, List.map_cons, List.map_nil]); first | done | rfl | (simp only [List.length_drop, List.length_take]; rfl)) ?_; (with_reducible refine (r37_Data.calls k (fun k_ => k_ < w.heap.size) _ _ l0_0 (fun k_ => k_ < w.heap.size) _ _ l0_1 (fun k_ => k_ < w.heap.size) _ _ l0_2 (fun k_ => k_ < w.heap.size) _ _ l0_3 (fun k_ => k_ < w.heap.size) _ _ l0_4 (fun k_ => k_ < w.heap.size) _ _ l0_5 t561 t564 t567 t570 t573 t576 _ ?side1 ?side2 ?side3 ?side4 ?side5 ?side6 A4.out).mono ?_); (case side1 => exact Kd.V_mk HC0_0.out (Kd.F_below (Kd.C_F k43_heap HR0_0.out) (by repeat (first | (with_reducible first | exact HB.out | apply bAl | apply pbN | apply bD1 | refine bSt ?_ GE560.out) | exact HB.out)))); (case side2 => exact Kd.V_mk HC0_1.out (Kd.F_below (Kd.C_F k43_heap HR0_1.out) (by repeat (first | (with_reducible first | exact HB.out | apply bAl | apply pbN | apply bD1 | refine bSt ?_ GE560.out) | exact HB.out)))); (case side3 => exact Kd.V_mk HC0_2.out (Kd.F_below (Kd.C_F k43_heap HR0_2.out) (by repeat (first | (with_reducible first | exact HB.out | apply bAl | apply pbN | apply bD1 | refine bSt ?_ GE560.out) | exact HB.out)))); (case side4 => exact Kd.V_mk HC0_3.out (Kd.F_below (Kd.C_F k43_heap HR0_3.out) (by repeat (first | (with_reducible first | exact HB.out | apply bAl | apply pbN | apply bD1 | refine bSt ?_ GE560.out) | exact HB.out)))); (case side5 => exact Kd.V_mk HC0_4.out (Kd.F_below (Kd.C_F k33_heap HR0_4.out) (by repeat (first | (with_reducible first | exact HB.out | apply bAl | apply pbN | apply bD1 | refine bSt ?_ GE560.out) | exact HB.out)))); (case side6 => exact Kd.V_mk HC0_5.out (Kd.F_below (Kd.C_F k33_heap HR0_5.out) (by repeat (first | (with_reducible first | exact HB.out | apply bAl | apply pbN | apply bD1 | refine bSt ?_ GE560.out) | exact HB.out)))); rintro e w9 ⟨v562, v565, v568, v571, v574, v577, rfl, ho0, ho1, ho2, ho3, ho4, ho5, hb⟩; refine ⟨_, rfl, ?_⟩; have n0_ := aM (Kd.V_lower (Kd.V_mono (ok' := fun k_ => k_ ≠ gb560) ho0 (fun k_ hk_ => Or.elim hk_ (fun hs_ => Or.elim hs_ (fun hs_ => fun e_ => Nat.not_le.2 hs_ (by rw [e_]; exact GW560.out)) (fun hs_ => Or.elim hs_ (fun hs_ => fun e_ => Nat.not_le.2 hs_ (by rw [e_]; exact GW560.out)) (fun hs_ => Or.elim hs_ (fun hs_ => fun e_ => Nat.not_le.2 hs_ (by rw [e_]; exact GW560.out)) (fun hs_ => Or.elim hs_ (fun hs_ => fun e_ => Nat.not_le.2 hs_ (by rw [e_]; exact GW560.out)) (fun hs_ => Or.elim hs_ (fun hs_ => fun e_ => Nat.not_le.2 hs_ (by rw [e_]; exact GW560.out)) (fun hs_ => fun e_ => Nat.not_le.2 hs_ (by rw [e_]; exact GW560.out))))))) (fun hn_ => (Kd.freshB (g := gb560) (o := .cells #[.slice A0_0 l0_0.length c0_0, .slice A0_1 l0_1.length c0_1, .slice A0_2 l0_2.length c0_2, .slice A0_3 l0_3.length c0_3, .slice A0_4 l0_4.length c0_4, .slice A0_5 l0_5.length c0_5] 27 (0, 0)) (by (with_reducible repeat (first | refine bkN ?_ _ | refine bkD ?_ | refine bkA ?_ _)); exact BK560.out) k_ hn_)))) (bSz (by repeat (first | (with_reducible first | exact HB.out | apply bAl | apply pbN | apply bD1 | refine bSt ?_ GE560.out) | exact HB.out)))); have n1_ := aM (Kd.V_lower (Kd.V_mono (ok' := fun k_ => k_ ≠ gb560) ho1 (fun k_ hk_ => Or.elim hk_ (fun hs_ => Or.elim hs_ (fun hs_ => fun e_ => Nat.not_le.2 hs_ (by rw [e_]; exact GW560.out)) (fun hs_ => Or.elim hs_ (fun hs_ => fun e_ => Nat.not_le.2 hs_ (by rw [e_]; exact GW560.out)) (fun hs_ => Or.elim hs_ (fun hs_ => fun e_ => Nat.not_le.2 hs_ (by rw [e_]; exact GW560.out)) (fun hs_ => Or.elim hs_ (fun hs_ => fun e_ => Nat.not_le.2 hs_ (by rw [e_]; exact GW560.out)) (fun hs_ => Or.elim hs_ (fun hs_ => fun e_ => Nat.not_le.2 hs_ (by rw [e_]; exact GW560.out)) (fun hs_ => fun e_ => Nat.not_le.2 hs_ (by rw [e_]; exact GW560.out))))))) (fun hn_ => (Kd.freshB (g := gb560) (o := .cells #[.slice A0_0 l0_0.length c0_0, .slice A0_1 l0_1.length c0_1, .slice A0_2 l0_2.length c0_2, .slice A0_3 l0_3.length c0_3, .slice A0_4 l0_4.length c0_4, .slice A0_5 l0_5.length c0_5] 27 (0, 0)) (by (with_reducible repeat (first | refine bkN ?_ _ | refine bkD ?_ | refine bkA ?_ _)); exact BK560.out) k_ hn_)))) (bSz (by repeat (first | (with_reducible first | exact HB.out | apply bAl | apply pbN | apply bD1 | refine bSt ?_ GE560.out) | exact HB.out)))); have n2_ := aM (Kd.V_lower (Kd.V_mono (ok' := fun k_ => k_ ≠ gb560) ho2 (fun k_ hk_ => Or.elim hk_ (fun hs_ => Or.elim hs_ (fun hs_ => fun e_ => Nat.not_le.2 hs_ (by rw [e_]; exact GW560.out)) (fun hs_ => Or.elim hs_ (fun hs_ => fun e_ => Nat.not_le.2 hs_ (by rw [e_]; exact GW560.out)) (fun hs_ => Or.elim hs_ (fun hs_ => fun e_ => Nat.not_le.2 hs_ (by rw [e_]; exact GW560.out)) (fun hs_ => Or.elim hs_ (fun hs_ => fun e_ => Nat.not_le.2 hs_ (by rw [e_]; exact GW560.out)) (fun hs_ => Or.elim hs_ (fun hs_ => fun e_ => Nat.not_le.2 hs_ (by rw [e_]; exact GW560.out)) (fun hs_ => fun e_ => Nat.not_le.2 hs_ (by rw [e_]; exact GW560.out))))))) (fun hn_ => (Kd.freshB (g := gb560) (o := .cells #[.slice A0_0 l0_0.length c0_0, .slice A0_1 l0_1.length c0_1, .slice A0_2 l0_2.length c0_2, .slice A0_3 l0_3.length c0_3, .slice A0_4 l0_4.length c0_4, .slice A0_5 l0_5.length c0_5] 27 (0, 0)) (by (with_reducible repeat (first | refine bkN ?_ _ | refine bkD ?_ | refine bkA ?_ _)); exact BK560.out) k_ hn_)))) (bSz (by repeat (first | (with_reducible first | exact HB.out | apply bAl | apply pbN | apply bD1 | refine bSt ?_ GE560.out) | exact HB.out)))); have n3_ := aM (Kd.V_lower (Kd.V_mono (ok' := fun k_ => k_ ≠ gb560) ho3 (fun k_ hk_ => Or.elim hk_ (fun hs_ => Or.elim hs_ (fun hs_ => fun e_ => Nat.not_le.2 hs_ (by rw [e_]; exact GW560.out)) (fun hs_ => Or.elim hs_ (fun hs_ => fun e_ => Nat.not_le.2 hs_ (by rw [e_]; exact GW560.out)) (fun hs_ => Or.elim hs_ (fun hs_ => fun e_ => Nat.not_le.2 hs_ (by rw [e_]; exact GW560.out)) (fun hs_ => Or.elim hs_ (fun hs_ => fun e_ => Nat.not_le.2 hs_ (by rw [e_]; exact GW560.out)) (fun hs_ => Or.elim hs_ (fun hs_ => fun e_ => Nat.not_le.2 hs_ (by rw [e_]; exact GW560.out)) (fun hs_ => fun e_ => Nat.not_le.2 hs_ (by rw [e_]; exact GW560.out))))))) (fun hn_ => (Kd.freshB (g := gb560) (o := .cells #[.slice A0_0 l0_0.length c0_0, .slice A0_1 l0_1.length c0_1, .slice A0_2 l0_2.length c0_2, .slice A0_3 l0_3.length c0_3, .slice A0_4 l0_4.length c0_4, .slice A0_5 l0_5.length c0_5] 27 (0, 0)) (by (with_reducible repeat (first | refine bkN ?_ _ | refine bkD ?_ | refine bkA ?_ _)); exact BK560.out) k_ hn_)))) (bSz (by repeat (first | (with_reducible first | exact HB.out | apply bAl | apply pbN | apply bD1 | refine bSt ?_ GE560.out) | exact HB.out)))); have n4_ := aM (Kd.V_lower (Kd.V_mono (ok' := fun k_ => k_ ≠ gb560) ho4 (fun k_ hk_ => Or.elim hk_ (fun hs_ => Or.elim hs_ (fun hs_ => fun e_ => Nat.not_le.2 hs_ (by rw [e_]; exact GW560.out)) (fun hs_ => Or.elim hs_ (fun hs_ => fun e_ => Nat.not_le.2 hs_ (by rw [e_]; exact GW560.out)) (fun hs_ => Or.elim hs_ (fun hs_ => fun e_ => Nat.not_le.2 hs_ (by rw [e_]; exact GW560.out)) (fun hs_ => Or.elim hs_ (fun hs_ => fun e_ => Nat.not_le.2 hs_ (by rw [e_]; exact GW560.out)) (fun hs_ => Or.elim hs_ (fun hs_ => fun e_ => Nat.not_le.2 hs_ (by rw [e_]; exact GW560.out)) (fun hs_ => fun e_ => Nat.not_le.2 hs_ (by rw [e_]; exact GW560.out))))))) (fun hn_ => (Kd.freshB (g := gb560) (o := .cells #[.slice A0_0 l0_0.length c0_0, .slice A0_1 l0_1.length c0_1, .slice A0_2 l0_2.length c0_2, .slice A0_3 l0_3.length c0_3, .slice A0_4 l0_4.length c0_4, .slice A0_5 l0_5.length c0_5] 27 (0, 0)) (by (with_reducible repeat (first | refine bkN ?_ _ | refine bkD ?_ | refine bkA ?_ _)); exact BK560.out) k_ hn_)))) (bSz (by repeat (first | (with_reducible first | exact HB.out | apply bAl | apply pbN | apply bD1 | refine bSt ?_ GE560.out) | exact HB.out)))); have n5_ := aM (Kd.V_lower (Kd.V_mono (ok' := fun k_ => k_ ≠ gb560) ho5 (fun k_ hk_ => Or.elim hk_ (fun hs_ => Or.elim hs_ (fun hs_ => fun e_ => Nat.not_le.2 hs_ (by rw [e_]; exact GW560.out)) (fun hs_ => Or.elim hs_ (fun hs_ => fun e_ => Nat.not_le.2 hs_ (by rw [e_]; exact GW560.out)) (fun hs_ => Or.elim hs_ (fun hs_ => fun e_ => Nat.not_le.2 hs_ (by rw [e_]; exact GW560.out)) (fun hs_ => Or.elim hs_ (fun hs_ => fun e_ => Nat.not_le.2 hs_ (by rw [e_]; exact GW560.out)) (fun hs_ => Or.elim hs_ (fun hs_ => fun e_ => Nat.not_le.2 hs_ (by rw [e_]; exact GW560.out)) (fun hs_ => fun e_ => Nat.not_le.2 hs_ (by rw [e_]; exact GW560.out))))))) (fun hn_ => (Kd.freshB (g := gb560) (o := .cells #[.slice A0_0 l0_0.length c0_0, .slice A0_1 l0_1.length c0_1, .slice A0_2 l0_2.length c0_2, .slice A0_3 l0_3.length c0_3, .slice A0_4 l0_4.length c0_4, .slice A0_5 l0_5.length c0_5] 27 (0, 0)) (by (with_reducible repeat (first | refine bkN ?_ _ | refine bkD ?_ | refine bkA ?_ _)); exact BK560.out) k_ hn_)))) (bSz (by repeat (first | (with_reducible first | exact HB.out | apply bAl | apply pbN | apply bD1 | refine bSt ?_ GE560.out) | exact HB.out)))); have n6_ := aM (blk_below (g := gb560) (o := .cells #[.slice A0_0 l0_0.length c0_0, .slice A0_1 l0_1.length c0_1, .slice A0_2 l0_2.length c0_2, .slice A0_3 l0_3.length c0_3, .slice A0_4 l0_4.length c0_4, .slice A0_5 l0_5.length c0_5] 27 (0, 0)) (by (with_reducible repeat (first | refine bkN ?_ _ | refine bkD ?_ | refine bkA ?_ _)); exact BK560.out) hb); have n7_ := aM (bSp (by repeat (first | (with_reducible first | exact HB.out | apply bAl | apply pbN | apply bD1 | refine bSt ?_ GE560.out) | exact HB.out)) hb); clear BK560; clear HB; have HO563 := n0_; have HO566 := n1_; have HO569 := n2_; have HO572 := n3_; have HO575 := n4_; have HO578 := n5_; have BK560 := n6_; have HB := n7_; clear n0_ n1_ n2_ n3_ n4_ n5_ n6_ n7_; (try clear hb); (try clear hb2); (try clear hk); (try clear hi); (try clear ho0); (try clear ho1); (try clear ho2); (try clear ho3); (try clear ho4); (try clear ho5)) | ((with_reducible refine gate_dst (N := 7) rfl ?_); refine box_event ?hg (N := 7) ?hd (cs := #[.slice none 0 0, .slice none 0 0, .slice none 0 0, .slice none 0 0, .slice none 0 0, .slice none 0 0]) (t := 27) ?hr ?_; (case hd => rfl); (case hg => rfl); (case hr => first | (go_simp; done) | (go_simp; rfl)); intro gb579 hg w10 hbox hb; have n0_ := aM (Kd.V_below (Kd.V_elderB (by (with_reducible repeat (first | apply Kd.V_alloc | apply Kd.V_drewN | apply Kd.V_drew)); exact HO563.out) gb579 (Nat.le_of_eq hg.symm)) hb); have n1_ := aM (Kd.V_below (Kd.V_elderB (by (with_reducible repeat (first | apply Kd.V_alloc | apply Kd.V_drewN | apply Kd.V_drew)); exact HO566.out) gb579 (Nat.le_of_eq hg.symm)) hb); have n2_ := aM (Kd.V_below (Kd.V_elderB (by (with_reducible repeat (first | apply Kd.V_alloc | apply Kd.V_drewN | apply Kd.V_drew)); exact HO569.out) gb579 (Nat.le_of_eq hg.symm)) hb); have n3_ := aM (Kd.V_below (Kd.V_elderB (by (with_reducible repeat (first | apply Kd.V_alloc | apply Kd.V_drewN | apply Kd.V_drew)); exact HO572.out) gb579 (Nat.le_of_eq hg.symm)) hb); have n4_ := aM (Kd.V_below (Kd.V_elderB (by (with_reducible repeat (first | apply Kd.V_alloc | apply Kd.V_drewN | apply Kd.V_drew)); exact HO575.out) gb579 (Nat.le_of_eq hg.symm)) hb); have n5_ := aM (Kd.V_below (Kd.V_elderB (by (with_reducible repeat (first | apply Kd.V_alloc | apply Kd.V_drewN | apply Kd.V_drew)); exact HO578.out) gb579 (Nat.le_of_eq hg.symm)) hb); have n6_ := aM (blk_below (g := gb560) (o := .cells #[.slice A0_0 l0_0.length c0_0, .slice A0_1 l0_1.length c0_1, .slice A0_2 l0_2.length c0_2, .slice A0_3 l0_3.length c0_3, .slice A0_4 l0_4.length c0_4, .slice A0_5 l0_5.length c0_5] 27 (0, 0)) (by (with_reducible repeat (first | refine bkN ?_ _ | refine bkD ?_ | refine bkA ?_ _)); exact BK560.out) hb); have n7_ := aM (bSp (by repeat (first | (with_reducible first | exact HB.out | apply bAl | apply pbN | apply bD1 | refine bSt ?_ GE560.out) | exact HB.out)) hb); have n8_ := aM (hbox); have n9_ := aM ((by rw [hg]; exact (bSz (by repeat (first | (with_reducible first | exact HB.out | apply bAl | apply pbN | apply bD1 | refine bSt ?_ GE560.out) | exact HB.out))) : w.heap.size ≤ gb579)); have n10_ := aM ((by rw [hg]; exact (bSz (by repeat (first | (with_reducible first | exact HB.out | apply bAl | apply pbN | apply bD1 | refine bSt ?_ GE560.out) | exact HB.out))) : w.heap.size ≤ gb579)); have n11_ := aM ((by rw [hg]; exact Nat.ne_of_lt (blk_lt (g := gb560) (o := .cells #[.slice A0_0 l0_0.length c0_0, .slice A0_1 l0_1.length c0_1, .slice A0_2 l0_2.length c0_2, .slice A0_3 l0_3.length c0_3, .slice A0_4 l0_4.length c0_4, .slice A0_5 l0_5.length c0_5] 27 (0, 0)) (by (with_reducible repeat (first | refine bkN ?_ _ | refine bkD ?_ | refine bkA ?_ _)); exact BK560.out)) : gb560 ≠ gb579)); have n12_ := aM ((by rw [hg]; exact Nat.ne_of_gt (blk_lt (g := gb560) (o := .cells #[.slice A0_0 l0_0.length c0_0, .slice A0_1 l0_1.length c0_1, .slice A0_2 l0_2.length c0_2, .slice A0_3 l0_3.length c0_3, .slice A0_4 l0_4.length c0_4, .slice A0_5 l0_5.length c0_5] 27 (0, 0)) (by (with_reducible repeat (first | refine bkN ?_ _ | refine bkD ?_ | refine bkA ?_ _)); exact BK560.out)) : gb579 ≠ gb560)); clear HO563; clear HO566; clear HO569; clear HO572; clear HO575; clear HO578; clear BK560; clear HB; have HO563 := n0_; have HO566 := n1_; have HO569 := n2_; have HO572 := n3_; have HO575 := n4_; have HO578 := n5_; have BK560 := n6_; have HB := n7_; have BK579 := n8_; have GW579 := n9_; have GE579 := n10_; have NB560_579 := n11_; have NB579_560 := n12_; clear n0_ n1_ n2_ n3_ n4_ n5_ n6_ n7_ n8_ n9_ n10_ n11_ n12_; clear hb hbox hg; obtain ⟨Ao11, co11, eo11⟩ := Kd.V_slice HO563.out; subst eo11; have hnb12 := NB579_560.out; have hnc12 := NB560_579.out; have hcz13_0 : w10.cell? ⟨gb579, 0, none⟩ = some (.slice none 0 0) := (bkC BK579.out 0).trans rfl; have hcz13_1 : w10.cell? ⟨gb579, 1, none⟩ = some (.slice none 0 0) := (bkC BK579.out 1).trans rfl; have hcz13_2 : w10.cell? ⟨gb579, 2, none⟩ = some (.slice none 0 0) := (bkC BK579.out 2).trans rfl; have hcz13_3 : w10.cell? ⟨gb579, 3, none⟩ = some (.slice none 0 0) := (bkC BK579.out 3).trans rfl; have hcz13_4 : w10.cell? ⟨gb579, 4, none⟩ = some (.slice none 0 0) := (bkC BK579.out 4).trans rfl; have hcz13_5 : w10.cell? ⟨gb579, 5, none⟩ = some (.slice none 0 0) := (bkC BK579.out 5).trans rfl; have hfz13_0 := bkF BK579.out 0; have hfz13_1 := bkF BK579.out 1; have hfz13_2 := bkF BK579.out 2; have hfz13_3 := bkF BK579.out 3; have hfz13_4 := bkF BK579.out 4; have hfz13_5 := bkF BK579.out 5; obtain ⟨Ao14, co14, eo14⟩ := Kd.V_slice HO566.out; subst eo14; obtain ⟨Ao15, co15, eo15⟩ := Kd.V_slice HO569.out; subst eo15; obtain ⟨Ao16, co16, eo16⟩ := Kd.V_slice HO572.out; subst eo16; obtain ⟨Ao17, co17, eo17⟩ := Kd.V_slice HO575.out; subst eo17; obtain ⟨Ao18, co18, eo18⟩ := Kd.V_slice HO578.out; subst eo18) | ((with_reducible refine gate_callee (f := 13) rfl ?_); refine goesL_ (some 16) rfl rfl Try.func13 (by kernel_rfl) rfl #[.slice A2 l2.length c2, .int .i64 (l1.length : Int)] rfl (by (try simp only [List.map_toArray, List.map_cons, List.map_nil]); first | done | rfl | (simp only [List.length_drop, List.length_take]; rfl)) ?_; (with_reducible refine (r37_Within.calls k _ _ l2 (l1.length : Int) true _ ?side1 ?side2 A5.out).mono ?_); (case side1 => exact Kd.C_below HR2.out (by repeat (first | (with_reducible first | exact HB.out | apply bAl | apply pbN | apply bD1 | refine bSt ?_ GE560.out | refine bSt ?_ GE579.out) | exact HB.out))); (case side2 => exact HC2.out); rintro e w' ⟨rfl, ⟨nd, rfl⟩⟩; refine ⟨_, rfl, ?_⟩))
  go_loopg [8, 9, 10] k (fun kq v8 v9 v10 w' => ∃ (x8_1 : List Int) (x9_1 : Int) (x10_1 : Int), v9 = .int .i64 x9_1 ∧ v10 = .int .i64 x10_1 ∧ Aside0 (r37_Title.l0 kq l1 l2 x8_1 x9_1 x10_1 t561 t564 t567 t570 t573 t576 = some r) ∧ Aside0 (kq ≤ k) ∧ Aside0 (Kd.R (Kd.int .i64) 3 w' w.heap.size (fun _ => True) v8 x8_1) ∧ Aside0 (Kd.V k43 43 w' w.heap.size (fun k_ => some k_ ≠ (v8 : Value).ownBlock ∧ k_ ≠ gb560 ∧ k_ ≠ gb579) (.slice Ao11 t561.length co11) t561) ∧ Aside0 (Kd.V k43 43 w' w.heap.size (fun k_ => some k_ ≠ (v8 : Value).ownBlock ∧ k_ ≠ gb560 ∧ k_ ≠ gb579) (.slice Ao14 t564.length co14) t564) ∧ Aside0 (Kd.V k43 43 w' w.heap.size (fun k_ => some k_ ≠ (v8 : Value).ownBlock ∧ k_ ≠ gb560 ∧ k_ ≠ gb579) (.slice Ao15 t567.length co15) t567) ∧ Aside0 (Kd.V k43 43 w' w.heap.size (fun k_ => some k_ ≠ (v8 : Value).ownBlock ∧ k_ ≠ gb560 ∧ k_ ≠ gb579) (.slice Ao16 t570.length co16) t570) ∧ Aside0 (Kd.V k33 33 w' w.heap.size (fun k_ => some k_ ≠ (v8 : Value).ownBlock ∧ k_ ≠ gb560 ∧ k_ ≠ gb579) (.slice Ao17 t573.length co17) t573) ∧ Aside0 (Kd.V k33 33 w' w.heap.size (fun k_ => some k_ ≠ (v8 : Value).ownBlock ∧ k_ ≠ gb560 ∧ k_ ≠ gb579) (.slice Ao18 t576.length co18) t576) ∧ Aside0 (w'.heap[gb560]? = some (.cells #[(.slice A0_0 l0_0.length c0_0), (.slice A0_1 l0_1.length c0_1), (.slice A0_2 l0_2.length c0_2), (.slice A0_3 l0_3.length c0_3), (.slice A0_4 l0_4.length c0_4), (.slice A0_5 l0_5.length c0_5)] 27 (0, 0))) ∧ Aside0 (w'.heap[gb579]? = some (.cells #[(.slice Ao11 t561.length co11), (.slice Ao14 t564.length co14), (.slice Ao15 t567.length co15), (.slice Ao16 t570.length co16), (.slice Ao17 t573.length co17), (.slice Ao18 t576.length co18)] 27 (0, 0))) ∧ Aside0 (Below w.heap.size w w'))
  case atStart => exact ⟨(([] : List Int)), (0), (0), (by first | rfl | (simp; done) | (simp [*]; done)), (by first | rfl | (simp; done) | (simp [*]; done)), H', ⟨Nat.le_refl _⟩, ⟨by first | exact Kd.R_nil _ _ _ _ _ | exact Kd.N_nil _ _ _ _ _ | exact Kd.V_nil _ _ _ _ _ | exact Kd.Q_nil _ _ _ _ _ | exact Kd.S_nil _ _ _ _ _⟩, ⟨by (with_reducible repeat (first | apply Kd.V_alloc | apply Kd.V_drewN | apply Kd.V_drew)); exact Kd.V_mono (Kd.V_far (p := ⟨gb579, 5, none⟩) (Kd.V_far (p := ⟨gb579, 4, none⟩) (Kd.V_far (p := ⟨gb579, 3, none⟩) (Kd.V_far (p := ⟨gb579, 2, none⟩) (Kd.V_far (p := ⟨gb579, 1, none⟩) (Kd.V_far (p := ⟨gb579, 0, none⟩) (Kd.V_mono HO563.out (fun k_ hk => (⟨hk, hk.2⟩ : _ ∧ k_ ≠ gb579))) (fun _ hk => hk.2) (.slice Ao11 t561.length co11)) (fun _ hk => hk.2) (.slice Ao14 t564.length co14)) (fun _ hk => hk.2) (.slice Ao15 t567.length co15)) (fun _ hk => hk.2) (.slice Ao16 t570.length co16)) (fun _ hk => hk.2) (.slice Ao17 t573.length co17)) (fun _ hk => hk.2) (.slice Ao18 t576.length co18)) (fun _ hk => ⟨(by simp [Value.ownBlock]), ⟨hk.1.1, hk.1.2⟩⟩)⟩, ⟨by (with_reducible repeat (first | apply Kd.V_alloc | apply Kd.V_drewN | apply Kd.V_drew)); exact Kd.V_mono (Kd.V_far (p := ⟨gb579, 5, none⟩) (Kd.V_far (p := ⟨gb579, 4, none⟩) (Kd.V_far (p := ⟨gb579, 3, none⟩) (Kd.V_far (p := ⟨gb579, 2, none⟩) (Kd.V_far (p := ⟨gb579, 1, none⟩) (Kd.V_far (p := ⟨gb579, 0, none⟩) (Kd.V_mono HO566.out (fun k_ hk => (⟨hk, hk.2⟩ : _ ∧ k_ ≠ gb579))) (fun _ hk => hk.2) (.slice Ao11 t561.length co11)) (fun _ hk => hk.2) (.slice Ao14 t564.length co14)) (fun _ hk => hk.2) (.slice Ao15 t567.length co15)) (fun _ hk => hk.2) (.slice Ao16 t570.length co16)) (fun _ hk => hk.2) (.slice Ao17 t573.length co17)) (fun _ hk => hk.2) (.slice Ao18 t576.length co18)) (fun _ hk => ⟨(by simp [Value.ownBlock]), ⟨hk.1.1, hk.1.2⟩⟩)⟩, ⟨by (with_reducible repeat (first | apply Kd.V_alloc | apply Kd.V_drewN | apply Kd.V_drew)); exact Kd.V_mono (Kd.V_far (p := ⟨gb579, 5, none⟩) (Kd.V_far (p := ⟨gb579, 4, none⟩) (Kd.V_far (p := ⟨gb579, 3, none⟩) (Kd.V_far (p := ⟨gb579, 2, none⟩) (Kd.V_far (p := ⟨gb579, 1, none⟩) (Kd.V_far (p := ⟨gb579, 0, none⟩) (Kd.V_mono HO569.out (fun k_ hk => (⟨hk, hk.2⟩ : _ ∧ k_ ≠ gb579))) (fun _ hk => hk.2) (.slice Ao11 t561.length co11)) (fun _ hk => hk.2) (.slice Ao14 t564.length co14)) (fun _ hk => hk.2) (.slice Ao15 t567.length co15)) (fun _ hk => hk.2) (.slice Ao16 t570.length co16)) (fun _ hk => hk.2) (.slice Ao17 t573.length co17)) (fun _ hk => hk.2) (.slice Ao18 t576.length co18)) (fun _ hk => ⟨(by simp [Value.ownBlock]), ⟨hk.1.1, hk.1.2⟩⟩)⟩, ⟨by (with_reducible repeat (first | apply Kd.V_alloc | apply Kd.V_drewN | apply Kd.V_drew)); exact Kd.V_mono (Kd.V_far (p := ⟨gb579, 5, none⟩) (Kd.V_far (p := ⟨gb579, 4, none⟩) (Kd.V_far (p := ⟨gb579, 3, none⟩) (Kd.V_far (p := ⟨gb579, 2, none⟩) (Kd.V_far (p := ⟨gb579, 1, none⟩) (Kd.V_far (p := ⟨gb579, 0, none⟩) (Kd.V_mono HO572.out (fun k_ hk => (⟨hk, hk.2⟩ : _ ∧ k_ ≠ gb579))) (fun _ hk => hk.2) (.slice Ao11 t561.length co11)) (fun _ hk => hk.2) (.slice Ao14 t564.length co14)) (fun _ hk => hk.2) (.slice Ao15 t567.length co15)) (fun _ hk => hk.2) (.slice Ao16 t570.length co16)) (fun _ hk => hk.2) (.slice Ao17 t573.length co17)) (fun _ hk => hk.2) (.slice Ao18 t576.length co18)) (fun _ hk => ⟨(by simp [Value.ownBlock]), ⟨hk.1.1, hk.1.2⟩⟩)⟩, ⟨by (with_reducible repeat (first | apply Kd.V_alloc | apply Kd.V_drewN | apply Kd.V_drew)); exact Kd.V_mono (Kd.V_far (p := ⟨gb579, 5, none⟩) (Kd.V_far (p := ⟨gb579, 4, none⟩) (Kd.V_far (p := ⟨gb579, 3, none⟩) (Kd.V_far (p := ⟨gb579, 2, none⟩) (Kd.V_far (p := ⟨gb579, 1, none⟩) (Kd.V_far (p := ⟨gb579, 0, none⟩) (Kd.V_mono HO575.out (fun k_ hk => (⟨hk, hk.2⟩ : _ ∧ k_ ≠ gb579))) (fun _ hk => hk.2) (.slice Ao11 t561.length co11)) (fun _ hk => hk.2) (.slice Ao14 t564.length co14)) (fun _ hk => hk.2) (.slice Ao15 t567.length co15)) (fun _ hk => hk.2) (.slice Ao16 t570.length co16)) (fun _ hk => hk.2) (.slice Ao17 t573.length co17)) (fun _ hk => hk.2) (.slice Ao18 t576.length co18)) (fun _ hk => ⟨(by simp [Value.ownBlock]), ⟨hk.1.1, hk.1.2⟩⟩)⟩, ⟨by (with_reducible repeat (first | apply Kd.V_alloc | apply Kd.V_drewN | apply Kd.V_drew)); exact Kd.V_mono (Kd.V_far (p := ⟨gb579, 5, none⟩) (Kd.V_far (p := ⟨gb579, 4, none⟩) (Kd.V_far (p := ⟨gb579, 3, none⟩) (Kd.V_far (p := ⟨gb579, 2, none⟩) (Kd.V_far (p := ⟨gb579, 1, none⟩) (Kd.V_far (p := ⟨gb579, 0, none⟩) (Kd.V_mono HO578.out (fun k_ hk => (⟨hk, hk.2⟩ : _ ∧ k_ ≠ gb579))) (fun _ hk => hk.2) (.slice Ao11 t561.length co11)) (fun _ hk => hk.2) (.slice Ao14 t564.length co14)) (fun _ hk => hk.2) (.slice Ao15 t567.length co15)) (fun _ hk => hk.2) (.slice Ao16 t570.length co16)) (fun _ hk => hk.2) (.slice Ao17 t573.length co17)) (fun _ hk => hk.2) (.slice Ao18 t576.length co18)) (fun _ hk => ⟨(by simp [Value.ownBlock]), ⟨hk.1.1, hk.1.2⟩⟩)⟩, ⟨by (with_reducible repeat (first | refine bkN ?_ _ | refine bkD ?_ | refine bkA ?_ _)); refine blk_far ?_ NB560_579.out _; (with_reducible repeat (first | refine bkN ?_ _ | refine bkD ?_ | refine bkA ?_ _)); refine blk_far ?_ NB560_579.out _; (with_reducible repeat (first | refine bkN ?_ _ | refine bkD ?_ | refine bkA ?_ _)); refine blk_far ?_ NB560_579.out _; (with_reducible repeat (first | refine bkN ?_ _ | refine bkD ?_ | refine bkA ?_ _)); refine blk_far ?_ NB560_579.out _; (with_reducible repeat (first | refine bkN ?_ _ | refine bkD ?_ | refine bkA ?_ _)); refine blk_far ?_ NB560_579.out _; (with_reducible repeat (first | refine bkN ?_ _ | refine bkD ?_ | refine bkA ?_ _)); refine blk_far ?_ NB560_579.out _; (with_reducible repeat (first | refine bkN ?_ _ | refine bkD ?_ | refine bkA ?_ _)); exact BK560.out⟩, ⟨by (with_reducible repeat (first | refine bkN ?_ _ | refine bkD ?_ | refine bkA ?_ _)); refine blk_put (cs := #[.slice Ao11 t561.length co11, .slice Ao14 t564.length co14, .slice Ao15 t567.length co15, .slice Ao16 t570.length co16, .slice Ao17 t573.length co17, .slice none 0 0]) ?_ 5 _ rfl; (with_reducible repeat (first | refine bkN ?_ _ | refine bkD ?_ | refine bkA ?_ _)); refine blk_put (cs := #[.slice Ao11 t561.length co11, .slice Ao14 t564.length co14, .slice Ao15 t567.length co15, .slice Ao16 t570.length co16, .slice none 0 0, .slice none 0 0]) ?_ 4 _ rfl; (with_reducible repeat (first | refine bkN ?_ _ | refine bkD ?_ | refine bkA ?_ _)); refine blk_put (cs := #[.slice Ao11 t561.length co11, .slice Ao14 t564.length co14, .slice Ao15 t567.length co15, .slice none 0 0, .slice none 0 0, .slice none 0 0]) ?_ 3 _ rfl; (with_reducible repeat (first | refine bkN ?_ _ | refine bkD ?_ | refine bkA ?_ _)); refine blk_put (cs := #[.slice Ao11 t561.length co11, .slice Ao14 t564.length co14, .slice none 0 0, .slice none 0 0, .slice none 0 0, .slice none 0 0]) ?_ 2 _ rfl; (with_reducible repeat (first | refine bkN ?_ _ | refine bkD ?_ | refine bkA ?_ _)); refine blk_put (cs := #[.slice Ao11 t561.length co11, .slice none 0 0, .slice none 0 0, .slice none 0 0, .slice none 0 0, .slice none 0 0]) ?_ 1 _ rfl; (with_reducible repeat (first | refine bkN ?_ _ | refine bkD ?_ | refine bkA ?_ _)); refine blk_put (cs := #[.slice none 0 0, .slice none 0 0, .slice none 0 0, .slice none 0 0, .slice none 0 0, .slice none 0 0]) ?_ 0 _ rfl; (with_reducible repeat (first | refine bkN ?_ _ | refine bkD ?_ | refine bkA ?_ _)); exact BK579.out⟩, ⟨by repeat (first | (with_reducible first | exact HB.out | apply bAl | apply pbN | apply bD1 | refine bSt ?_ GE560.out | refine bSt ?_ GE579.out) | exact HB.out)⟩⟩
  case round =>
   clear H'
   try clear c1
   try clear c2
   try clear p2
   try clear c4
   try clear c6
   try clear c12
   try clear c13
   try clear hcz13_0
   try clear hcz13_1
   try clear hcz13_2
   try clear hcz13_3
   try clear hcz13_4
   try clear hcz13_5
   try clear hcz8_0
   try clear hcz8_1
   try clear hcz8_2
   try clear hcz8_3
   try clear hcz8_4
   try clear hcz8_5
   try clear hfz13_0
   try clear hfz13_1
   try clear hfz13_2
   try clear hfz13_3
   try clear hfz13_4
   try clear hfz13_5
   try clear hfz8_0
   try clear hfz8_1
   try clear hfz8_2
   try clear hfz8_3
   try clear hfz8_4
   try clear hfz8_5
   obtain ⟨x8_1, x9_1, x10_1, rfl, rfl, HA, HK1, HO_8, HO_580000, HO_580001, HO_580002, HO_580003, HO_580004, HO_580005, BK560, BK579, HB⟩ := hrel
   cases gk with
   | zero => exact absurd HA.out (by simp [r37_Title.l0])
   | succ k1 =>
    have H := HA.out
    clear HA
    simp only [r37_Title.l0] at H
    by_cases c19 : x10_1 < (l2.length : Int)
    ·rw [if_pos c19] at H
     have c19b0 : decide (x10_1 < (l2.length : Int)) = true := dT c19
     clear c19
     by_cases c20 : 0 ≤ x10_1
     ·rw [if_pos c20] at H
      have c20b0 : decide (0 ≤ x10_1) = true := dT c20
      clear c20
      by_cases c21 : 0 ≤ x9_1
      ·rw [if_pos c21] at H
       have c21b0 := eq_true c21
       have c21b1 : decide (0 ≤ x9_1) = true := dT c21
       clear c21
       by_cases c22 : x9_1 ≤ ((rd_T33 l2 x10_1).f0)
       ·rw [if_pos c22] at H
        have c22b0 := eq_true c22
        have c22b1 : decide (x9_1 ≤ ((rd_T33 l2 x10_1).f0)) = true := dT c22
        clear c22
        by_cases c23 : ((rd_T33 l2 x10_1).f0) ≤ (l1.length : Int)
        ·rw [if_pos c23] at H
         have c23b0 := eq_true c23
         have c23b1 : decide (((rd_T33 l2 x10_1).f0) ≤ (l1.length : Int)) = true := dT c23
         clear c23
         by_cases c24 : x8_1.length + ((l1.take (((rd_T33 l2 x10_1).f0) : Int).toNat).drop (x9_1 : Int).toNat).length < 17592186044416
         ·rw [if_pos c24] at H
          have LMc24 := aM c24
          clear c24
          obtain ⟨y589, hy589⟩ : ∃ y_ : List Int, y_ = (x8_1 ++ ((l1.take (((rd_T33 l2 x10_1).f0) : Int).toNat).drop (x9_1 : Int).toNat)) := ⟨_, rfl⟩
          replace H : ((r37_titled.f k1 t561 t564 t567 t570 t573 t576 l1 ((rd_T33 l2 x10_1).f0) ((rd_T33 l2 x10_1).f1)).bind fun t593 => (if y589.length + t593.length < 17592186044416 then (r37_Title.l0 k1 l1 l2 (y589 ++ t593) ((rd_T33 l2 x10_1).f1) (wrap64 (x10_1 + 1)) t561 t564 t567 t570 t573 t576) else (none))) = some r := by first | (rw [hy589]; with_reducible exact H) | (have H2_ := (Option.bind_some _ _).symm.trans H; rw [hy589]; with_reducible exact H2_) | (have H2_ := (Option.bind_some _ _).symm.trans H; with_reducible exact H2_) | with_reducible exact H | (rw [hy589]; exact H) | exact H
          have Ny589 := aM hy589
          clear hy589
          replace H := Option.bind_eq_some_iff.mp H
          obtain ⟨t593, A250, H⟩ := H
          replace H : (if y589.length + t593.length < 17592186044416 then (r37_Title.l0 k1 l1 l2 (y589 ++ t593) ((rd_T33 l2 x10_1).f1) (wrap64 (x10_1 + 1)) t561 t564 t567 t570 t573 t576) else (none)) = some r := H
          have A25 := aM A250
          clear A250
          by_cases c26 : y589.length + t593.length < 17592186044416
          ·rw [if_pos c26] at H
           have LMc26 := aM c26
           clear c26
           obtain ⟨y596, hy596⟩ : ∃ y_ : List Int, y_ = (y589 ++ t593) := ⟨_, rfl⟩
           replace H : (r37_Title.l0 k1 l1 l2 y596 ((rd_T33 l2 x10_1).f1) (wrap64 (x10_1 + 1)) t561 t564 t567 t570 t573 t576) = some r := by first | (rw [hy596]; with_reducible exact H) | (have H2_ := (Option.bind_some _ _).symm.trans H; rw [hy596]; with_reducible exact H2_) | (have H2_ := (Option.bind_some _ _).symm.trans H; with_reducible exact H2_) | with_reducible exact H | (rw [hy596]; exact H) | exact H
           have Ny596 := aM hy596
           clear hy596
           have H' := aM H
           clear H
           have p587 : 0 ≤ (x10_1 : Int) := oD (by first | (with_reducible assumption) | assumption)
           have q587 : x10_1 < (l2.length : Int) := oD (by first | (with_reducible assumption) | assumption)
           obtain ⟨ad587, e587, hx587_0, hx587_1⟩ := at_T33 HR2.out x10_1 p587 q587
           cases e587
           replace hx587_0 := (HB.out.cell (World.block_lt_of_cell? w _ hx587_0)).trans hx587_0
           replace hx587_1 := (HB.out.cell (World.block_lt_of_cell? w _ hx587_1)).trans hx587_1
           replace p587 := eq_true p587
           replace q587 := eq_true q587
           obtain ⟨i027, hi027, _, hsz27, _⟩ := info_parts info3
           obtain ⟨A27, hcut27, hA27, hC27⟩ := print_mid_of (P := Try.prog) (Value.int .i64) 0 28 3 .i64 .i64 Try.underlying28 hi027 hsz27 A1 c1 l1 x9_1 ((rd_T33 l2 x10_1).f0) (oD (by first | (with_reducible assumption) | assumption)) (by first | omega | exact oD (by first | (with_reducible assumption) | assumption)) (oD (by first | (with_reducible assumption) | assumption)) HC1.out
           have HR588 := aM (Kd.C_of_reads (h1 := fun _ => rfl) (hA27 _ (Kd.reads_of_C HR1.out)))
           have HC588 := aM hC27
           clear hA27 hC27 hi027 hsz27
           try go_wp2_with (first | ((with_reducible refine gate_builtin (b := .append) (xs := #[.tmp 27, .tmp 35]) rfl ?_); at_builtin; refine Kd.R_append_rows (Kd.int .i64) (w0 := w) w.heap.size rfl (.tmp 27) (.tmp 35) 28 3 (.int .i64 0) 8 rfl Try.underlying28 info3 rfl (by decide) (by omega) u8 x8_1 ((l1.take (((rd_T33 l2 x10_1).f0) : Int).toNat).drop (x9_1 : Int).toNat) _ _ _ (fun _ => True) (fun _ => False) rfl rfl ?aO ?aR (fun _ _ h => h) (fun _ h => h.elim) ?aF ?aB ?aS ?aL ?_; (case aR => first | (rw [← show ((l1.take (((rd_T33 l2 x10_1).f0) : Int).toNat).drop (x9_1 : Int).toNat).length = (((rd_T33 l2 x10_1).f0).toNat - x9_1.toNat) from (by rw [List.length_drop, List.length_take]; have h_ : (((rd_T33 l2 x10_1).f0) : Int) ≤ (l1.length : Int) := oD (by first | (with_reducible assumption) | assumption); omega)]; repeat (first | exact (Kd.C_below HR588.out HB.out) | (with_reducible refine Kd.C_alloc ?_ _) | (with_reducible refine Kd.C_drewN ?_ _) | (with_reducible refine Kd.C_drew ?_))) | (repeat (first | exact (Kd.C_below HR588.out HB.out) | (with_reducible refine Kd.C_alloc ?_ _) | (with_reducible refine Kd.C_drewN ?_ _) | (with_reducible refine Kd.C_drew ?_)))); (case aB => exact (by repeat (first | (with_reducible first | exact HB.out | apply bAl | apply pbN | apply bD1 | refine bSt ?_ GE560.out | refine bSt ?_ GE579.out) | exact HB.out))); (case aF => exact (fun _ _ => trivial)); (case aO => exact (by (with_reducible repeat (first | apply Kd.R_alloc | apply Kd.R_drewN | apply Kd.R_drew)); exact HO_8.out)); (case aS => exact (bSz (by repeat (first | (with_reducible first | exact HB.out | apply bAl | apply pbN | apply bD1 | refine bSt ?_ GE560.out | refine bSt ?_ GE579.out) | exact HB.out)))); (case aL => have := LMc24.out; have hlx_ := (show ((l1.take (((rd_T33 l2 x10_1).f0) : Int).toNat).drop (x9_1 : Int).toNat).length = (((rd_T33 l2 x10_1).f0).toNat - x9_1.toNat) from (by rw [List.length_drop, List.length_take]; have h_ : (((rd_T33 l2 x10_1).f0) : Int) ≤ (l1.length : Int) := oD (by first | (with_reducible assumption) | assumption); omega)); omega); intro v590 w28 ho hb hg hat; rw [← Ny589.out] at ho; have n0_ := aM (Kd.V_afterv (ok := (fun k_ => k_ ≠ gb560 ∧ k_ ≠ gb579)) (by (with_reducible repeat (first | apply Kd.V_alloc | apply Kd.V_drewN | apply Kd.V_drew)); exact Kd.V_mono HO_580000.out (fun _ hk => ⟨⟨hk.2.1, hk.2.2⟩, hk.1⟩)) hg hat); have n1_ := aM (Kd.V_afterv (ok := (fun k_ => k_ ≠ gb560 ∧ k_ ≠ gb579)) (by (with_reducible repeat (first | apply Kd.V_alloc | apply Kd.V_drewN | apply Kd.V_drew)); exact Kd.V_mono HO_580001.out (fun _ hk => ⟨⟨hk.2.1, hk.2.2⟩, hk.1⟩)) hg hat); have n2_ := aM (Kd.V_afterv (ok := (fun k_ => k_ ≠ gb560 ∧ k_ ≠ gb579)) (by (with_reducible repeat (first | apply Kd.V_alloc | apply Kd.V_drewN | apply Kd.V_drew)); exact Kd.V_mono HO_580002.out (fun _ hk => ⟨⟨hk.2.1, hk.2.2⟩, hk.1⟩)) hg hat); have n3_ := aM (Kd.V_afterv (ok := (fun k_ => k_ ≠ gb560 ∧ k_ ≠ gb579)) (by (with_reducible repeat (first | apply Kd.V_alloc | apply Kd.V_drewN | apply Kd.V_drew)); exact Kd.V_mono HO_580003.out (fun _ hk => ⟨⟨hk.2.1, hk.2.2⟩, hk.1⟩)) hg hat); have n4_ := aM (Kd.V_afterv (ok := (fun k_ => k_ ≠ gb560 ∧ k_ ≠ gb579)) (by (with_reducible repeat (first | apply Kd.V_alloc | apply Kd.V_drewN | apply Kd.V_drew)); exact Kd.V_mono HO_580004.out (fun _ hk => ⟨⟨hk.2.1, hk.2.2⟩, hk.1⟩)) hg hat); have n5_ := aM (Kd.V_afterv (ok := (fun k_ => k_ ≠ gb560 ∧ k_ ≠ gb579)) (by (with_reducible repeat (first | apply Kd.V_alloc | apply Kd.V_drewN | apply Kd.V_drew)); exact Kd.V_mono HO_580005.out (fun _ hk => ⟨⟨hk.2.1, hk.2.2⟩, hk.1⟩)) hg hat); have n6_ := aM (blk_grown (g := gb560) (o := .cells #[.slice A0_0 l0_0.length c0_0, .slice A0_1 l0_1.length c0_1, .slice A0_2 l0_2.length c0_2, .slice A0_3 l0_3.length c0_3, .slice A0_4 l0_4.length c0_4, .slice A0_5 l0_5.length c0_5] 27 (0, 0)) (by (with_reducible repeat (first | refine bkN ?_ _ | refine bkD ?_ | refine bkA ?_ _)); exact BK560.out) hg (Kd.R_ne HO_8.out BK560.out (by decide))); have n7_ := aM (blk_grown (g := gb579) (o := .cells #[.slice Ao11 t561.length co11, .slice Ao14 t564.length co14, .slice Ao15 t567.length co15, .slice Ao16 t570.length co16, .slice Ao17 t573.length co17, .slice Ao18 t576.length co18] 27 (0, 0)) (by (with_reducible repeat (first | refine bkN ?_ _ | refine bkD ?_ | refine bkA ?_ _)); exact BK579.out) hg (Kd.R_ne HO_8.out BK579.out (by decide))); have n8_ := aM (hb); have n9_ := aM (ho); clear HO_580000; clear HO_580001; clear HO_580002; clear HO_580003; clear HO_580004; clear HO_580005; clear BK560; clear BK579; clear HB; clear HO_8; have HO_580000 := n0_; have HO_580001 := n1_; have HO_580002 := n2_; have HO_580003 := n3_; have HO_580004 := n4_; have HO_580005 := n5_; have BK560 := n6_; have BK579 := n7_; have HB := n8_; have HO591 := n9_; clear n0_ n1_ n2_ n3_ n4_ n5_ n6_ n7_ n8_ n9_; clear ho hb hg hat))
           have n0_ := aM (Kd.V_drew HO_580000.out)
           have n1_ := aM (Kd.V_drew HO_580001.out)
           have n2_ := aM (Kd.V_drew HO_580002.out)
           have n3_ := aM (Kd.V_drew HO_580003.out)
           have n4_ := aM (Kd.V_drew HO_580004.out)
           have n5_ := aM (Kd.V_drew HO_580005.out)
           have n6_ := aM (Kd.R_drew HO591.out)
           have n7_ := aM (bkD BK560.out)
           have n8_ := aM (bkD BK579.out)
           have n9_ := aM (bD1 HB.out)
           clear HO_580000
           clear HO_580001
           clear HO_580002
           clear HO_580003
           clear HO_580004
           clear HO_580005
           clear HO591
           clear BK560
           clear BK579
           clear HB
           have HO_580000 := n0_
           have HO_580001 := n1_
           have HO_580002 := n2_
           have HO_580003 := n3_
           have HO_580004 := n4_
           have HO_580005 := n5_
           have HO591 := n6_
           have BK560 := n7_
           have BK579 := n8_
           have HB := n9_
           clear n0_ n1_ n2_ n3_ n4_ n5_ n6_ n7_ n8_ n9_
           have p592 : 0 ≤ (x10_1 : Int) := oD (by first | (with_reducible assumption) | assumption)
           have q592 : x10_1 < (l2.length : Int) := oD (by first | (with_reducible assumption) | assumption)
           obtain ⟨ad592, e592, hx592_0, hx592_1⟩ := at_T33 HR2.out x10_1 p592 q592
           have hw592_1 := hx592_1
           have hw592_0 := hx592_0
           obtain rfl : ad587 = ad592 := (by injection e592)
           replace hx592_0 := (HB.out.cell (World.block_lt_of_cell? w _ hx592_0)).trans hx592_0
           replace hx592_1 := (HB.out.cell (World.block_lt_of_cell? w _ hx592_1)).trans hx592_1
           replace p592 := eq_true p592
           replace q592 := eq_true q592
           refine start_ (n := 10) (S := fun w' => w'.cell? ⟨gb579, 0, none⟩ = some (.slice Ao11 t561.length co11) ∧ w'.cell? ⟨gb579, 1, none⟩ = some (.slice Ao14 t564.length co14) ∧ w'.cell? ⟨gb579, 2, none⟩ = some (.slice Ao15 t567.length co15) ∧ w'.cell? ⟨gb579, 3, none⟩ = some (.slice Ao16 t570.length co16) ∧ w'.cell? ⟨gb579, 4, none⟩ = some (.slice Ao17 t573.length co17) ∧ w'.cell? ⟨gb579, 5, none⟩ = some (.slice Ao18 t576.length co18) ∧ w'.cell? (ad587.add ((x10_1).toNat * 2)) = some (.int .i64 ((rd_T33 l2 x10_1).f0)) ∧ w'.cell? ⟨(ad587.add ((x10_1).toNat * 2)).block, (ad587.add ((x10_1).toNat * 2)).off + 1, none⟩ = some (.int .i64 ((rd_T33 l2 x10_1).f1))) (ds := []) #[false, false, false, false, false, false, false, false, false, false] (by kernel_rfl) rfl rfl ⟨(bkC BK579.out 0).trans rfl, (bkC BK579.out 1).trans rfl, (bkC BK579.out 2).trans rfl, (bkC BK579.out 3).trans rfl, (bkC BK579.out 4).trans rfl, (bkC BK579.out 5).trans rfl, ((HB.out.cell (World.block_lt_of_cell? w _ hw592_0)).trans hw592_0), ((HB.out.cell (World.block_lt_of_cell? w _ hw592_1)).trans hw592_1)⟩ (fun hHeld => ?_); refine with_tabW r37_Title.tab10 r37_Title.bits10 (fun HT_ HW_ => ?_)
           generalize w28.drew = w29 at HO_580000 HO_580001 HO_580002 HO_580003 HO_580004 HO_580005 HO591 BK560 BK579 HB hx592_0 hx592_1 hHeld ⊢
           refine pure_ (i := 0) (N := some 37) (v := ?_) (a' := ?_) #[true, false, false, false, false, false, false, false, false, false] rfl rfl (any_of HT_.out (by kernel_rfl)) (fun _ _ _ h => h) (Or.inl ⟨by rfl, ?_⟩) ?_ ?_
           rotate_left
           ·intro w'
            go_simp
            with_reducible rfl
           rotate_left
           ·simp only [Act.put, sI, sZ, sS, i64_w, i32_w]
            rfl
           refine pure_ (i := 2) (N := some 39) (v := ?_) (a' := ?_) #[true, false, true, false, false, false, false, false, false, false] rfl rfl (any_of HT_.out (by kernel_rfl)) (fun _ _ _ h => h) (Or.inl ⟨by rfl, ?_⟩) ?_ ?_
           rotate_left
           ·intro w'
            go_simp
            with_reducible rfl
           rotate_left
           ·simp only [Act.put, sI, sZ, sS, i64_w, i32_w]
            rfl
           refine pure_ (i := 3) (N := some 40) (v := ?_) (a' := ?_) #[true, false, true, true, false, false, false, false, false, false] rfl rfl (any_of HT_.out (by kernel_rfl)) (fun _ _ _ h => h) (Or.inl ⟨by rfl, ?_⟩) ?_ ?_
           rotate_left
           ·intro w'
            go_simp
            with_reducible rfl
           rotate_left
           ·simp only [Act.put, sI, sZ, sS, i64_w, i32_w]
            rfl
           refine pure_ (i := 4) (N := some 41) (v := ?_) (a' := ?_) #[true, false, true, true, true, false, false, false, false, false] rfl rfl (any_of HT_.out (by kernel_rfl)) (fun _ _ _ h => h) (Or.inl ⟨by rfl, ?_⟩) ?_ ?_
           rotate_left
           ·intro w'
            go_simp
            with_reducible rfl
           rotate_left
           ·simp only [Act.put, sI, sZ, sS, i64_w, i32_w]
            rfl
           refine pure_ (i := 5) (N := some 42) (v := ?_) (a' := ?_) #[true, false, true, true, true, true, false, false, false, false] rfl rfl (any_of HT_.out (by kernel_rfl)) (fun _ _ _ h => h) (Or.inl ⟨by rfl, ?_⟩) ?_ ?_
           rotate_left
           ·intro w'
            go_simp
            with_reducible rfl
           rotate_left
           ·simp only [Act.put, sI, sZ, sS, i64_w, i32_w]
            rfl
           refine take_ (i := 1) (N := some 38) (v := ?_) (a' := ?_) #[true, true, true, true, true, true, false, false, false, false] rfl rfl (take_ofW HT_.out HW_.out (by kernel_rfl)) (fun _ _ _ h => h) (Or.inl ⟨by rfl, ?_⟩) hHeld ?_ ?_
           rotate_left
           ·rintro w' ⟨s0, s1, s2, s3, s4, s5, s6, s7⟩
            go_simp
            with_reducible rfl
           rotate_left
           ·simp only [Act.put, sI, sZ, sS, i64_w, i32_w]
            rfl
           refine take_ (i := 6) (N := some 43) (v := ?_) (a' := ?_) #[true, true, true, true, true, true, true, false, false, false] rfl rfl (take_ofW HT_.out HW_.out (by kernel_rfl)) (fun _ _ _ h => h) (Or.inl ⟨by rfl, ?_⟩) hHeld ?_ ?_
           rotate_left
           ·rintro w' ⟨s0, s1, s2, s3, s4, s5, s6, s7⟩
            go_simp
            with_reducible rfl
           rotate_left
           ·simp only [Act.put, sI, sZ, sS, i64_w, i32_w]
            rfl
           refine one_ (i := 7) (N := some 44) #[true, true, true, true, true, true, true, true, false, false] rfl rfl (one_of HT_.out (by kernel_rfl)) (by decide) (fun K hK => ?_)
           refine goes_ Try.func53 (by kernel_rfl) rfl #[.agg #[.slice Ao11 t561.length co11, .slice Ao14 t564.length co14, .slice Ao15 t567.length co15, .slice Ao16 t570.length co16, .slice Ao17 t573.length co17, .slice Ao18 t576.length co18], .slice A1 l1.length c1, .agg #[.int .i64 ((rd_T33 l2 x10_1).f0), .int .i64 ((rd_T33 l2 x10_1).f1)]] (by rfl) rfl rfl (by (try simp only [List.map_toArray, List.map_cons, List.map_nil]); first | done | rfl | (simp only [List.length_drop, List.length_take]; rfl)) ?_
           with_reducible refine (r37_titled.calls k1 _ _ t561 _ _ t564 _ _ t567 _ _ t570 _ _ t573 _ _ t576 _ _ l1 ((rd_T33 l2 x10_1).f0) ((rd_T33 l2 x10_1).f1) t593 _ ?side1 ?side2 ?side3 ?side4 ?side5 ?side6 ?side7 ?side8 ?side9 ?side10 ?side11 ?side12 ?side13 ?side14 A25.out).mono ?_
           (case side1 => repeat (first | exact (Kd.V_reads' HO_580000.out).2.2 | (with_reducible refine Kd.C_alloc ?_ _) | (with_reducible refine Kd.C_drewN ?_ _) | (with_reducible refine Kd.C_drew ?_)))
           (case side2 => exact (Kd.V_reads' HO_580000.out).2.1)
           (case side3 => repeat (first | exact (Kd.V_reads' HO_580001.out).2.2 | (with_reducible refine Kd.C_alloc ?_ _) | (with_reducible refine Kd.C_drewN ?_ _) | (with_reducible refine Kd.C_drew ?_)))
           (case side4 => exact (Kd.V_reads' HO_580001.out).2.1)
           (case side5 => repeat (first | exact (Kd.V_reads' HO_580002.out).2.2 | (with_reducible refine Kd.C_alloc ?_ _) | (with_reducible refine Kd.C_drewN ?_ _) | (with_reducible refine Kd.C_drew ?_)))
           (case side6 => exact (Kd.V_reads' HO_580002.out).2.1)
           (case side7 => repeat (first | exact (Kd.V_reads' HO_580003.out).2.2 | (with_reducible refine Kd.C_alloc ?_ _) | (with_reducible refine Kd.C_drewN ?_ _) | (with_reducible refine Kd.C_drew ?_)))
           (case side8 => exact (Kd.V_reads' HO_580003.out).2.1)
           (case side9 => repeat (first | exact (Kd.V_reads' HO_580004.out).2.2 | (with_reducible refine Kd.C_alloc ?_ _) | (with_reducible refine Kd.C_drewN ?_ _) | (with_reducible refine Kd.C_drew ?_)))
           (case side10 => exact (Kd.V_reads' HO_580004.out).2.1)
           (case side11 => repeat (first | exact (Kd.V_reads' HO_580005.out).2.2 | (with_reducible refine Kd.C_alloc ?_ _) | (with_reducible refine Kd.C_drewN ?_ _) | (with_reducible refine Kd.C_drew ?_)))
           (case side12 => exact (Kd.V_reads' HO_580005.out).2.1)
           (case side13 => repeat (first | exact (Kd.C_below HR1.out HB.out) | (with_reducible refine Kd.C_alloc ?_ _) | (with_reducible refine Kd.C_drewN ?_ _) | (with_reducible refine Kd.C_drew ?_)))
           (case side14 => exact HC1.out)
           rintro e w30 ⟨v594, rfl, ho0, hb⟩
           refine ⟨_, rfl, ?_⟩
           have n0_ := aM (Kd.V_elder' (by (with_reducible repeat (first | apply Kd.V_alloc | apply Kd.V_drewN | apply Kd.V_drew)); exact HO_580000.out) (Kd.R_base ho0) hb)
           have n1_ := aM (Kd.V_elder' (by (with_reducible repeat (first | apply Kd.V_alloc | apply Kd.V_drewN | apply Kd.V_drew)); exact HO_580001.out) (Kd.R_base ho0) hb)
           have n2_ := aM (Kd.V_elder' (by (with_reducible repeat (first | apply Kd.V_alloc | apply Kd.V_drewN | apply Kd.V_drew)); exact HO_580002.out) (Kd.R_base ho0) hb)
           have n3_ := aM (Kd.V_elder' (by (with_reducible repeat (first | apply Kd.V_alloc | apply Kd.V_drewN | apply Kd.V_drew)); exact HO_580003.out) (Kd.R_base ho0) hb)
           have n4_ := aM (Kd.V_elder' (by (with_reducible repeat (first | apply Kd.V_alloc | apply Kd.V_drewN | apply Kd.V_drew)); exact HO_580004.out) (Kd.R_base ho0) hb)
           have n5_ := aM (Kd.V_elder' (by (with_reducible repeat (first | apply Kd.V_alloc | apply Kd.V_drewN | apply Kd.V_drew)); exact HO_580005.out) (Kd.R_base ho0) hb)
           have n6_ := aM (Kd.R_elder' (by (with_reducible repeat (first | apply Kd.R_alloc | apply Kd.R_drewN | apply Kd.R_drew)); exact HO591.out) (Kd.R_base ho0) hb)
           have n7_ := aM (Kd.R_lower (Kd.R_new' ho0 (Kd.R_lt (by (with_reducible repeat (first | apply Kd.R_alloc | apply Kd.R_drewN | apply Kd.R_drew)); exact HO591.out))) (bSz (by repeat (first | (with_reducible first | exact HB.out | apply bAl | apply pbN | apply bD1 | refine bSt ?_ GE560.out | refine bSt ?_ GE579.out) | exact HB.out))))
           have n8_ := aM (blk_below (g := gb560) (o := .cells #[.slice A0_0 l0_0.length c0_0, .slice A0_1 l0_1.length c0_1, .slice A0_2 l0_2.length c0_2, .slice A0_3 l0_3.length c0_3, .slice A0_4 l0_4.length c0_4, .slice A0_5 l0_5.length c0_5] 27 (0, 0)) (by (with_reducible repeat (first | refine bkN ?_ _ | refine bkD ?_ | refine bkA ?_ _)); exact BK560.out) hb)
           have n9_ := aM (blk_below (g := gb579) (o := .cells #[.slice Ao11 t561.length co11, .slice Ao14 t564.length co14, .slice Ao15 t567.length co15, .slice Ao16 t570.length co16, .slice Ao17 t573.length co17, .slice Ao18 t576.length co18] 27 (0, 0)) (by (with_reducible repeat (first | refine bkN ?_ _ | refine bkD ?_ | refine bkA ?_ _)); exact BK579.out) hb)
           have n10_ := aM (bSp (by repeat (first | (with_reducible first | exact HB.out | apply bAl | apply pbN | apply bD1 | refine bSt ?_ GE560.out | refine bSt ?_ GE579.out) | exact HB.out)) hb)
           clear HO_580000
           clear HO_580001
           clear HO_580002
           clear HO_580003
           clear HO_580004
           clear HO_580005
           clear HO591
           clear BK560
           clear BK579
           clear HB
           have HO_580000 := n0_
           have HO_580001 := n1_
           have HO_580002 := n2_
           have HO_580003 := n3_
           have HO_580004 := n4_
           have HO_580005 := n5_
           have HO591 := n6_
           have HO595 := n7_
           have BK560 := n8_
           have BK579 := n9_
           have HB := n10_
           clear n0_ n1_ n2_ n3_ n4_ n5_ n6_ n7_ n8_ n9_ n10_
           (try clear hb)
           (try clear hb2)
           (try clear hk)
           (try clear hi)
           (try clear ho0)
           obtain ⟨Ao32, co32, eo32⟩ := Kd.R_slice HO595.out
           (first | subst eo32 | (injection eo32 with f1_ f2_ f3_; have f4_ := f1_.symm; have f5_ := f3_.symm; clear f1_ f2_ f3_; subst f4_; subst f5_))
           refine hK.out _ _ ⟨(bkC BK579.out 0).trans rfl, (bkC BK579.out 1).trans rfl, (bkC BK579.out 2).trans rfl, (bkC BK579.out 3).trans rfl, (bkC BK579.out 4).trans rfl, (bkC BK579.out 5).trans rfl, ((HB.out.cell (World.block_lt_of_cell? w _ hw592_0)).trans hw592_0), ((HB.out.cell (World.block_lt_of_cell? w _ hw592_1)).trans hw592_1)⟩ (fun hHeld => ?_)
           clear hK K
           refine norm_ (a' := ?_) ?_ ?_
           rotate_left
           ·show Act.put _ (some 44) _ = _
            simp only [Act.put, sI, sZ, sS, i64_w, i32_w]
            rfl
           refine one_ (i := 8) (N := some 45) #[true, true, true, true, true, true, true, true, true, false] rfl rfl (one_of HT_.out (by kernel_rfl)) (by decide) (fun K hK => ?_)
           refine Kd.R_append_rows_step (Kd.int .i64) (w0 := w) w.heap.size (by rfl) (.tmp 37) (.tmp 44) 28 3 (.int .i64 0) 8 rfl Try.underlying28 info3 rfl (by decide) (by omega) v590 y589 t593 _ _ _ (fun k_ => some k_ ≠ (.slice Ao32 t593.length co32 : Value).ownBlock) (fun _ => False) rfl rfl ?aO ?aR (fun _ _ h => h) (fun _ h => h.elim) ?aF ?aB ?aS ?aL ?_
           (case aR => repeat (first | exact (Kd.R_reads' HO595.out).2.2 | (with_reducible refine Kd.C_alloc ?_ _) | (with_reducible refine Kd.C_drewN ?_ _) | (with_reducible refine Kd.C_drew ?_)))
           (case aB => exact (by repeat (first | (with_reducible first | exact HB.out | apply bAl | apply pbN | apply bD1 | refine bSt ?_ GE560.out | refine bSt ?_ GE579.out) | exact HB.out)))
           (case aF => exact (fun k_ hk => Kd.fresh' (Kd.R_lt (by (with_reducible repeat (first | apply Kd.R_alloc | apply Kd.R_drewN | apply Kd.R_drew)); exact HO595.out)) k_ hk))
           (case aO => exact (by (with_reducible repeat (first | apply Kd.R_alloc | apply Kd.R_drewN | apply Kd.R_drew)); exact Kd.R_mono HO591.out (fun _ hk => hk.2)))
           (case aS => exact (bSz (by repeat (first | (with_reducible first | exact HB.out | apply bAl | apply pbN | apply bD1 | refine bSt ?_ GE560.out | refine bSt ?_ GE579.out) | exact HB.out))))
           (case aL => have := LMc26.out; omega)
           intro v597 w31 ho hb hg hat
           rw [← Ny596.out] at ho
           have n0_ := aM (Kd.V_afterv (ok := (fun k_ => some k_ ≠ (.slice Ao32 t593.length co32 : Value).ownBlock ∧ k_ ≠ gb560 ∧ k_ ≠ gb579)) (by (with_reducible repeat (first | apply Kd.V_alloc | apply Kd.V_drewN | apply Kd.V_drew)); exact Kd.V_mono HO_580000.out (fun _ hk => ⟨⟨hk.2, ⟨hk.1.1.1, hk.1.1.2⟩⟩, hk.1.2⟩)) hg hat)
           have n1_ := aM (Kd.V_afterv (ok := (fun k_ => some k_ ≠ (.slice Ao32 t593.length co32 : Value).ownBlock ∧ k_ ≠ gb560 ∧ k_ ≠ gb579)) (by (with_reducible repeat (first | apply Kd.V_alloc | apply Kd.V_drewN | apply Kd.V_drew)); exact Kd.V_mono HO_580001.out (fun _ hk => ⟨⟨hk.2, ⟨hk.1.1.1, hk.1.1.2⟩⟩, hk.1.2⟩)) hg hat)
           have n2_ := aM (Kd.V_afterv (ok := (fun k_ => some k_ ≠ (.slice Ao32 t593.length co32 : Value).ownBlock ∧ k_ ≠ gb560 ∧ k_ ≠ gb579)) (by (with_reducible repeat (first | apply Kd.V_alloc | apply Kd.V_drewN | apply Kd.V_drew)); exact Kd.V_mono HO_580002.out (fun _ hk => ⟨⟨hk.2, ⟨hk.1.1.1, hk.1.1.2⟩⟩, hk.1.2⟩)) hg hat)
           have n3_ := aM (Kd.V_afterv (ok := (fun k_ => some k_ ≠ (.slice Ao32 t593.length co32 : Value).ownBlock ∧ k_ ≠ gb560 ∧ k_ ≠ gb579)) (by (with_reducible repeat (first | apply Kd.V_alloc | apply Kd.V_drewN | apply Kd.V_drew)); exact Kd.V_mono HO_580003.out (fun _ hk => ⟨⟨hk.2, ⟨hk.1.1.1, hk.1.1.2⟩⟩, hk.1.2⟩)) hg hat)
           have n4_ := aM (Kd.V_afterv (ok := (fun k_ => some k_ ≠ (.slice Ao32 t593.length co32 : Value).ownBlock ∧ k_ ≠ gb560 ∧ k_ ≠ gb579)) (by (with_reducible repeat (first | apply Kd.V_alloc | apply Kd.V_drewN | apply Kd.V_drew)); exact Kd.V_mono HO_580004.out (fun _ hk => ⟨⟨hk.2, ⟨hk.1.1.1, hk.1.1.2⟩⟩, hk.1.2⟩)) hg hat)
           have n5_ := aM (Kd.V_afterv (ok := (fun k_ => some k_ ≠ (.slice Ao32 t593.length co32 : Value).ownBlock ∧ k_ ≠ gb560 ∧ k_ ≠ gb579)) (by (with_reducible repeat (first | apply Kd.V_alloc | apply Kd.V_drewN | apply Kd.V_drew)); exact Kd.V_mono HO_580005.out (fun _ hk => ⟨⟨hk.2, ⟨hk.1.1.1, hk.1.1.2⟩⟩, hk.1.2⟩)) hg hat)
           have n6_ := aM (blk_grown (g := gb560) (o := .cells #[.slice A0_0 l0_0.length c0_0, .slice A0_1 l0_1.length c0_1, .slice A0_2 l0_2.length c0_2, .slice A0_3 l0_3.length c0_3, .slice A0_4 l0_4.length c0_4, .slice A0_5 l0_5.length c0_5] 27 (0, 0)) (by (with_reducible repeat (first | refine bkN ?_ _ | refine bkD ?_ | refine bkA ?_ _)); exact BK560.out) hg (Kd.R_ne HO591.out BK560.out (by decide)))
           have n7_ := aM (blk_grown (g := gb579) (o := .cells #[.slice Ao11 t561.length co11, .slice Ao14 t564.length co14, .slice Ao15 t567.length co15, .slice Ao16 t570.length co16, .slice Ao17 t573.length co17, .slice Ao18 t576.length co18] 27 (0, 0)) (by (with_reducible repeat (first | refine bkN ?_ _ | refine bkD ?_ | refine bkA ?_ _)); exact BK579.out) hg (Kd.R_ne HO591.out BK579.out (by decide)))
           have n8_ := aM (Kd.R_after (ok := (fun _ => True)) (by (with_reducible repeat (first | apply Kd.R_alloc | apply Kd.R_drewN | apply Kd.R_drew)); exact HO595.out) hg hat)
           have n9_ := aM (hb)
           have n10_ := aM (ho)
           clear HO_580000
           clear HO_580001
           clear HO_580002
           clear HO_580003
           clear HO_580004
           clear HO_580005
           clear BK560
           clear BK579
           clear HO595
           clear HB
           clear HO591
           have HO_580000 := n0_
           have HO_580001 := n1_
           have HO_580002 := n2_
           have HO_580003 := n3_
           have HO_580004 := n4_
           have HO_580005 := n5_
           have BK560 := n6_
           have BK579 := n7_
           have HO595 := n8_
           have HB := n9_
           have HO598 := n10_
           clear n0_ n1_ n2_ n3_ n4_ n5_ n6_ n7_ n8_ n9_ n10_
           clear ho hb hg hat
           refine hK.out _ _ ⟨(bkC BK579.out 0).trans rfl, (bkC BK579.out 1).trans rfl, (bkC BK579.out 2).trans rfl, (bkC BK579.out 3).trans rfl, (bkC BK579.out 4).trans rfl, (bkC BK579.out 5).trans rfl, ((HB.out.cell (World.block_lt_of_cell? w _ hw592_0)).trans hw592_0), ((HB.out.cell (World.block_lt_of_cell? w _ hw592_1)).trans hw592_1)⟩ (fun hHeld => ?_)
           clear hK K
           refine norm_ (a' := ?_) ?_ ?_
           rotate_left
           ·show Act.put _ (some 45) _ = _
            simp only [Act.put, sI, sZ, sS, i64_w, i32_w]
            rfl
           refine pure_ (i := 9) (N := some 8) (v := ?_) (a' := ?_) #[true, true, true, true, true, true, true, true, true, true] rfl rfl (any_of HT_.out (by kernel_rfl)) (fun _ _ _ h => h) (Or.inl ⟨by rfl, ?_⟩) ?_ ?_
           rotate_left
           ·intro w'
            go_simp
            with_reducible rfl
           rotate_left
           ·simp only [Act.put, sI, sZ, sS, i64_w, i32_w]
            rfl
           refine done_ (done_of HT_.out (by kernel_rfl)) ?_
           have p599 : 0 ≤ (x10_1 : Int) := oD (by first | (with_reducible assumption) | assumption)
           have q599 : x10_1 < (l2.length : Int) := oD (by first | (with_reducible assumption) | assumption)
           obtain ⟨ad599, e599, hx599_0, hx599_1⟩ := at_T33 HR2.out x10_1 p599 q599
           obtain rfl : ad587 = ad599 := (by injection e599)
           replace hx599_0 := (HB.out.cell (World.block_lt_of_cell? w _ hx599_0)).trans hx599_0
           replace hx599_1 := (HB.out.cell (World.block_lt_of_cell? w _ hx599_1)).trans hx599_1
           replace p599 := eq_true p599
           replace q599 := eq_true q599
           try go_wp2
           go_roundg k1
           case measure => have := HK1.out; omega
           case rel => exact ⟨(y596), ((rd_T33 l2 x10_1).f1), (wrap64 (x10_1 + 1)), (by first | rfl | (simp; done) | (simp [*]; done)), (by first | rfl | (simp; done) | (simp [*]; done)), H', ⟨by have := HK1.out; omega⟩, ⟨by (with_reducible repeat (first | apply Kd.R_alloc | apply Kd.R_drewN | apply Kd.R_drew)); exact Kd.R_mono HO598.out (fun _ hk => trivial)⟩, ⟨by (with_reducible repeat (first | apply Kd.V_alloc | apply Kd.V_drewN | apply Kd.V_drew)); exact Kd.V_mono HO_580000.out (fun _ hk => ⟨hk.2, ⟨hk.1.2.1, hk.1.2.2⟩⟩)⟩, ⟨by (with_reducible repeat (first | apply Kd.V_alloc | apply Kd.V_drewN | apply Kd.V_drew)); exact Kd.V_mono HO_580001.out (fun _ hk => ⟨hk.2, ⟨hk.1.2.1, hk.1.2.2⟩⟩)⟩, ⟨by (with_reducible repeat (first | apply Kd.V_alloc | apply Kd.V_drewN | apply Kd.V_drew)); exact Kd.V_mono HO_580002.out (fun _ hk => ⟨hk.2, ⟨hk.1.2.1, hk.1.2.2⟩⟩)⟩, ⟨by (with_reducible repeat (first | apply Kd.V_alloc | apply Kd.V_drewN | apply Kd.V_drew)); exact Kd.V_mono HO_580003.out (fun _ hk => ⟨hk.2, ⟨hk.1.2.1, hk.1.2.2⟩⟩)⟩, ⟨by (with_reducible repeat (first | apply Kd.V_alloc | apply Kd.V_drewN | apply Kd.V_drew)); exact Kd.V_mono HO_580004.out (fun _ hk => ⟨hk.2, ⟨hk.1.2.1, hk.1.2.2⟩⟩)⟩, ⟨by (with_reducible repeat (first | apply Kd.V_alloc | apply Kd.V_drewN | apply Kd.V_drew)); exact Kd.V_mono HO_580005.out (fun _ hk => ⟨hk.2, ⟨hk.1.2.1, hk.1.2.2⟩⟩)⟩, ⟨by (with_reducible repeat (first | refine bkN ?_ _ | refine bkD ?_ | refine bkA ?_ _)); exact BK560.out⟩, ⟨by (with_reducible repeat (first | refine bkN ?_ _ | refine bkD ?_ | refine bkA ?_ _)); exact BK579.out⟩, ⟨by repeat (first | (with_reducible first | exact HB.out | apply bAl | apply pbN | apply bD1 | refine bSt ?_ GE560.out | refine bSt ?_ GE579.out) | exact HB.out)⟩⟩
          ·rw [if_neg c26] at H
           exact absurd H (by simp)
         ·rw [if_neg c24] at H
          exact absurd H (by simp)
        ·rw [if_neg c23] at H
         exact absurd H (by simp)
       ·rw [if_neg c22] at H
        exact absurd H (by simp)
      ·rw [if_neg c21] at H
       exact absurd H (by simp)
     ·rw [if_neg c20] at H
      exact absurd H (by simp)
    ·rw [if_neg c19] at H
     have c19b0 : decide (x10_1 < (l2.length : Int)) = false := decide_eq_false c19
     clear c19
     by_cases c33 : 0 ≤ x9_1
     ·rw [if_pos c33] at H
      have c33b0 := eq_true c33
      have c33b1 : decide (0 ≤ x9_1) = true := dT c33
      clear c33
      by_cases c34 : x9_1 ≤ (l1.length : Int)
      ·rw [if_pos c34] at H
       have c34b0 := eq_true c34
       have c34b1 : decide (x9_1 ≤ (l1.length : Int)) = true := dT c34
       clear c34
       by_cases c35 : x8_1.length + (l1.drop (x9_1 : Int).toNat).length < 17592186044416
       ·rw [if_pos c35] at H
        have LMc35 := aM c35
        clear c35
        obtain ⟨y601, hy601⟩ : ∃ y_ : List Int, y_ = (x8_1 ++ (l1.drop (x9_1 : Int).toNat)) := ⟨_, rfl⟩
        replace H : (some y601) = some r := by first | (rw [hy601]; with_reducible exact H) | (have H2_ := (Option.bind_some _ _).symm.trans H; rw [hy601]; with_reducible exact H2_) | (have H2_ := (Option.bind_some _ _).symm.trans H; with_reducible exact H2_) | with_reducible exact H | (rw [hy601]; exact H) | exact H
        have Ny601 := aM hy601
        clear hy601
        obtain rfl := Option.some.inj H
        obtain ⟨i036, hi036, _, hsz36, _⟩ := info_parts info3
        obtain ⟨A36, hcut36, hA36, hC36⟩ := print_drop_of (P := Try.prog) (Value.int .i64) 0 28 3 .i64 Try.underlying28 hi036 hsz36 A1 c1 l1 x9_1 (oD (by first | (with_reducible assumption) | assumption)) (oD (by first | (with_reducible assumption) | assumption)) HC1.out
        have HR600 := aM (Kd.C_of_reads (h1 := fun _ => rfl) (hA36 _ (Kd.reads_of_C HR1.out)))
        have HC600 := aM hC36
        clear hA36 hC36 hi036 hsz36
        go_wp2_with (first | ((with_reducible refine gate_builtin (b := .append) (xs := #[.tmp 51, .tmp 54]) rfl ?_); at_builtin; refine Kd.R_append_rows (Kd.int .i64) (w0 := w) w.heap.size rfl (.tmp 51) (.tmp 54) 28 3 (.int .i64 0) 8 rfl Try.underlying28 info3 rfl (by decide) (by omega) u8 x8_1 (l1.drop (x9_1 : Int).toNat) _ _ _ (fun _ => True) (fun _ => False) rfl rfl ?aO ?aR (fun _ _ h => h) (fun _ h => h.elim) ?aF ?aB ?aS ?aL ?_; (case aR => first | (rw [← show (l1.drop (x9_1 : Int).toNat).length = (l1.length - x9_1.toNat) from List.length_drop]; repeat (first | exact (Kd.C_below HR600.out HB.out) | (with_reducible refine Kd.C_alloc ?_ _) | (with_reducible refine Kd.C_drewN ?_ _) | (with_reducible refine Kd.C_drew ?_))) | (repeat (first | exact (Kd.C_below HR600.out HB.out) | (with_reducible refine Kd.C_alloc ?_ _) | (with_reducible refine Kd.C_drewN ?_ _) | (with_reducible refine Kd.C_drew ?_)))); (case aB => exact (by repeat (first | (with_reducible first | exact HB.out | apply bAl | apply pbN | apply bD1 | refine bSt ?_ GE560.out | refine bSt ?_ GE579.out) | exact HB.out))); (case aF => exact (fun _ _ => trivial)); (case aO => exact (by (with_reducible repeat (first | apply Kd.R_alloc | apply Kd.R_drewN | apply Kd.R_drew)); exact HO_8.out)); (case aS => exact (bSz (by repeat (first | (with_reducible first | exact HB.out | apply bAl | apply pbN | apply bD1 | refine bSt ?_ GE560.out | refine bSt ?_ GE579.out) | exact HB.out)))); (case aL => have := LMc35.out; have hlx_ := (show (l1.drop (x9_1 : Int).toNat).length = (l1.length - x9_1.toNat) from List.length_drop); omega); intro v602 w37 ho hb hg hat; rw [← Ny601.out] at ho; have n0_ := aM (Kd.V_afterv (ok := (fun k_ => k_ ≠ gb560 ∧ k_ ≠ gb579)) (by (with_reducible repeat (first | apply Kd.V_alloc | apply Kd.V_drewN | apply Kd.V_drew)); exact Kd.V_mono HO_580000.out (fun _ hk => ⟨⟨hk.2.1, hk.2.2⟩, hk.1⟩)) hg hat); have n1_ := aM (Kd.V_afterv (ok := (fun k_ => k_ ≠ gb560 ∧ k_ ≠ gb579)) (by (with_reducible repeat (first | apply Kd.V_alloc | apply Kd.V_drewN | apply Kd.V_drew)); exact Kd.V_mono HO_580001.out (fun _ hk => ⟨⟨hk.2.1, hk.2.2⟩, hk.1⟩)) hg hat); have n2_ := aM (Kd.V_afterv (ok := (fun k_ => k_ ≠ gb560 ∧ k_ ≠ gb579)) (by (with_reducible repeat (first | apply Kd.V_alloc | apply Kd.V_drewN | apply Kd.V_drew)); exact Kd.V_mono HO_580002.out (fun _ hk => ⟨⟨hk.2.1, hk.2.2⟩, hk.1⟩)) hg hat); have n3_ := aM (Kd.V_afterv (ok := (fun k_ => k_ ≠ gb560 ∧ k_ ≠ gb579)) (by (with_reducible repeat (first | apply Kd.V_alloc | apply Kd.V_drewN | apply Kd.V_drew)); exact Kd.V_mono HO_580003.out (fun _ hk => ⟨⟨hk.2.1, hk.2.2⟩, hk.1⟩)) hg hat); have n4_ := aM (Kd.V_afterv (ok := (fun k_ => k_ ≠ gb560 ∧ k_ ≠ gb579)) (by (with_reducible repeat (first | apply Kd.V_alloc | apply Kd.V_drewN | apply Kd.V_drew)); exact Kd.V_mono HO_580004.out (fun _ hk => ⟨⟨hk.2.1, hk.2.2⟩, hk.1⟩)) hg hat); have n5_ := aM (Kd.V_afterv (ok := (fun k_ => k_ ≠ gb560 ∧ k_ ≠ gb579)) (by (with_reducible repeat (first | apply Kd.V_alloc | apply Kd.V_drewN | apply Kd.V_drew)); exact Kd.V_mono HO_580005.out (fun _ hk => ⟨⟨hk.2.1, hk.2.2⟩, hk.1⟩)) hg hat); have n6_ := aM (blk_grown (g := gb560) (o := .cells #[.slice A0_0 l0_0.length c0_0, .slice A0_1 l0_1.length c0_1, .slice A0_2 l0_2.length c0_2, .slice A0_3 l0_3.length c0_3, .slice A0_4 l0_4.length c0_4, .slice A0_5 l0_5.length c0_5] 27 (0, 0)) (by (with_reducible repeat (first | refine bkN ?_ _ | refine bkD ?_ | refine bkA ?_ _)); exact BK560.out) hg (Kd.R_ne HO_8.out BK560.out (by decide))); have n7_ := aM (blk_grown (g := gb579) (o := .cells #[.slice Ao11 t561.length co11, .slice Ao14 t564.length co14, .slice Ao15 t567.length co15, .slice Ao16 t570.length co16, .slice Ao17 t573.length co17, .slice Ao18 t576.length co18] 27 (0, 0)) (by (with_reducible repeat (first | refine bkN ?_ _ | refine bkD ?_ | refine bkA ?_ _)); exact BK579.out) hg (Kd.R_ne HO_8.out BK579.out (by decide))); have n8_ := aM (hb); have n9_ := aM (ho); clear HO_580000; clear HO_580001; clear HO_580002; clear HO_580003; clear HO_580004; clear HO_580005; clear BK560; clear BK579; clear HB; clear HO_8; have HO_580000 := n0_; have HO_580001 := n1_; have HO_580002 := n2_; have HO_580003 := n3_; have HO_580004 := n4_; have HO_580005 := n5_; have BK560 := n6_; have BK579 := n7_; have HB := n8_; have HO603 := n9_; clear n0_ n1_ n2_ n3_ n4_ n5_ n6_ n7_ n8_ n9_; clear ho hb hg hat))
        go_ret
        exact ⟨_, by first | rfl | (simp [eN, eS] <;> rfl) | (simp [*, eN, eS] <;> rfl), by (with_reducible repeat (first | apply Kd.R_alloc | apply Kd.R_drewN | apply Kd.R_drew)); exact HO603.out, by repeat (first | (with_reducible first | exact HB.out | apply bAl | apply pbN | apply bD1 | refine bSt ?_ GE560.out | refine bSt ?_ GE579.out) | exact HB.out)⟩
       ·rw [if_neg c35] at H
        exact absurd H (by simp)
      ·rw [if_neg c34] at H
       exact absurd H (by simp)
     ·rw [if_neg c33] at H
      exact absurd H (by simp)
 ·replace c6 := Bool.eq_false_iff.mpr c6
  subst c6
  have H1 : ((some (([] : List Int) : List Int)).bind fun y581 => (if y581.length + l1.length < 17592186044416 then (some (y581 ++ l1)) else (none))) = some r := by rw [if_neg (show ¬ (false = true) by decide)] at H; exact H
  clear H
  have H := H1
  clear H1
  obtain ⟨y581, hy581⟩ : ∃ y_ : List Int, y_ = (([] : List Int)) := ⟨_, rfl⟩
  replace H : (if y581.length + l1.length < 17592186044416 then (some (y581 ++ l1)) else (none)) = some r := by first | (rw [hy581]; with_reducible exact H) | (have H2_ := (Option.bind_some _ _).symm.trans H; rw [hy581]; with_reducible exact H2_) | (have H2_ := (Option.bind_some _ _).symm.trans H; with_reducible exact H2_) | with_reducible exact H | (rw [hy581]; exact H) | exact H
  have Ny581 := aM hy581
  clear hy581
  by_cases c38 : y581.length + l1.length < 17592186044416
  ·rw [if_pos c38] at H
   have LMc38 := aM c38
   clear c38
   obtain ⟨y584, hy584⟩ : ∃ y_ : List Int, y_ = (y581 ++ l1) := ⟨_, rfl⟩
   replace H : (some y584) = some r := by first | (rw [hy584]; with_reducible exact H) | (have H2_ := (Option.bind_some _ _).symm.trans H; rw [hy584]; with_reducible exact H2_) | (have H2_ := (Option.bind_some _ _).symm.trans H; with_reducible exact H2_) | with_reducible exact H | (rw [hy584]; exact H) | exact H
   have Ny584 := aM hy584
   clear hy584
   obtain rfl := Option.some.inj H
   go_enter Try.func28, Try.ntmps28
   go_wp2_with (first | ((with_reducible refine gate_dst (N := 3) rfl ?_); refine box_event ?hg (N := 3) ?hd (cs := #[.slice A0_0 l0_0.length c0_0, .slice A0_1 l0_1.length c0_1, .slice A0_2 l0_2.length c0_2, .slice A0_3 l0_3.length c0_3, .slice A0_4 l0_4.length c0_4, .slice A0_5 l0_5.length c0_5]) (t := 27) ?hr ?_; (case hd => rfl); (case hg => rfl); (case hr => first | (go_simp; done) | (go_simp; rfl)); intro gb560 hg w39 hbox hb; have n0_ := aM (bSp (by repeat (first | (with_reducible first | exact HB.out | apply bAl | apply pbN | apply bD1) | exact HB.out)) hb); have n1_ := aM (hbox); have n2_ := aM ((by rw [hg]; exact (bSz (by repeat (first | (with_reducible first | exact HB.out | apply bAl | apply pbN | apply bD1) | exact HB.out))) : w.heap.size ≤ gb560)); have n3_ := aM ((by rw [hg]; exact (bSz (by repeat (first | (with_reducible first | exact HB.out | apply bAl | apply pbN | apply bD1) | exact HB.out))) : w.heap.size ≤ gb560)); clear HB; have HB := n0_; have BK560 := n1_; have GW560 := n2_; have GE560 := n3_; clear n0_ n1_ n2_ n3_; clear hb hbox hg; have hcz40_0 : w39.cell? ⟨gb560, 0, none⟩ = some (.slice A0_0 l0_0.length c0_0) := (bkC BK560.out 0).trans rfl; have hcz40_1 : w39.cell? ⟨gb560, 1, none⟩ = some (.slice A0_1 l0_1.length c0_1) := (bkC BK560.out 1).trans rfl; have hcz40_2 : w39.cell? ⟨gb560, 2, none⟩ = some (.slice A0_2 l0_2.length c0_2) := (bkC BK560.out 2).trans rfl; have hcz40_3 : w39.cell? ⟨gb560, 3, none⟩ = some (.slice A0_3 l0_3.length c0_3) := (bkC BK560.out 3).trans rfl; have hcz40_4 : w39.cell? ⟨gb560, 4, none⟩ = some (.slice A0_4 l0_4.length c0_4) := (bkC BK560.out 4).trans rfl; have hcz40_5 : w39.cell? ⟨gb560, 5, none⟩ = some (.slice A0_5 l0_5.length c0_5) := (bkC BK560.out 5).trans rfl; have hfz40_0 := bkF BK560.out 0; have hfz40_1 := bkF BK560.out 1; have hfz40_2 := bkF BK560.out 2; have hfz40_3 := bkF BK560.out 3; have hfz40_4 := bkF BK560.out 4; have hfz40_5 := bkF BK560.out 5) | ((with_reducible refine gate_callee (f := 47) rfl ?_); refine goesL_ (some 12) rfl rfl Try.func47 (by kernel_rfl) rfl #[.agg #[.slice A0_0 l0_0.length c0_0, .slice A0_1 l0_1.length c0_1, .slice A0_2 l0_2.length c0_2, .slice A0_3 l0_3.length c0_3, .slice A0_4 l0_4.length c0_4, .slice A0_5 l0_5.length c0_5]] rfl (by (try simp only [List.map_toArray, List.map_cons, List.map_nil]); first | done | rfl | (simp only [List.length_drop, List.length_take]; rfl)) ?_; (with_reducible refine (r37_Data.calls k (fun k_ => k_ < w.heap.size) _ _ l0_0 (fun k_ => k_ < w.heap.size) _ _ l0_1 (fun k_ => k_ < w.heap.size) _ _ l0_2 (fun k_ => k_ < w.heap.size) _ _ l0_3 (fun k_ => k_ < w.heap.size) _ _ l0_4 (fun k_ => k_ < w.heap.size) _ _ l0_5 t561 t564 t567 t570 t573 t576 _ ?side1 ?side2 ?side3 ?side4 ?side5 ?side6 A4.out).mono ?_); (case side1 => exact Kd.V_mk HC0_0.out (Kd.F_below (Kd.C_F k43_heap HR0_0.out) (by repeat (first | (with_reducible first | exact HB.out | apply bAl | apply pbN | apply bD1 | refine bSt ?_ GE560.out) | exact HB.out)))); (case side2 => exact Kd.V_mk HC0_1.out (Kd.F_below (Kd.C_F k43_heap HR0_1.out) (by repeat (first | (with_reducible first | exact HB.out | apply bAl | apply pbN | apply bD1 | refine bSt ?_ GE560.out) | exact HB.out)))); (case side3 => exact Kd.V_mk HC0_2.out (Kd.F_below (Kd.C_F k43_heap HR0_2.out) (by repeat (first | (with_reducible first | exact HB.out | apply bAl | apply pbN | apply bD1 | refine bSt ?_ GE560.out) | exact HB.out)))); (case side4 => exact Kd.V_mk HC0_3.out (Kd.F_below (Kd.C_F k43_heap HR0_3.out) (by repeat (first | (with_reducible first | exact HB.out | apply bAl | apply pbN | apply bD1 | refine bSt ?_ GE560.out) | exact HB.out)))); (case side5 => exact Kd.V_mk HC0_4.out (Kd.F_below (Kd.C_F k33_heap HR0_4.out) (by repeat (first | (with_reducible first | exact HB.out | apply bAl | apply pbN | apply bD1 | refine bSt ?_ GE560.out) | exact HB.out)))); (case side6 => exact Kd.V_mk HC0_5.out (Kd.F_below (Kd.C_F k33_heap HR0_5.out) (by repeat (first | (with_reducible first | exact HB.out | apply bAl | apply pbN | apply bD1 | refine bSt ?_ GE560.out) | exact HB.out)))); rintro e w41 ⟨v562, v565, v568, v571, v574, v577, rfl, ho0, ho1, ho2, ho3, ho4, ho5, hb⟩; refine ⟨_, rfl, ?_⟩; have n0_ := aM (Kd.V_lower (Kd.V_mono (ok' := fun k_ => k_ ≠ gb560) ho0 (fun k_ hk_ => Or.elim hk_ (fun hs_ => Or.elim hs_ (fun hs_ => fun e_ => Nat.not_le.2 hs_ (by rw [e_]; exact GW560.out)) (fun hs_ => Or.elim hs_ (fun hs_ => fun e_ => Nat.not_le.2 hs_ (by rw [e_]; exact GW560.out)) (fun hs_ => Or.elim hs_ (fun hs_ => fun e_ => Nat.not_le.2 hs_ (by rw [e_]; exact GW560.out)) (fun hs_ => Or.elim hs_ (fun hs_ => fun e_ => Nat.not_le.2 hs_ (by rw [e_]; exact GW560.out)) (fun hs_ => Or.elim hs_ (fun hs_ => fun e_ => Nat.not_le.2 hs_ (by rw [e_]; exact GW560.out)) (fun hs_ => fun e_ => Nat.not_le.2 hs_ (by rw [e_]; exact GW560.out))))))) (fun hn_ => (Kd.freshB (g := gb560) (o := .cells #[.slice A0_0 l0_0.length c0_0, .slice A0_1 l0_1.length c0_1, .slice A0_2 l0_2.length c0_2, .slice A0_3 l0_3.length c0_3, .slice A0_4 l0_4.length c0_4, .slice A0_5 l0_5.length c0_5] 27 (0, 0)) (by (with_reducible repeat (first | refine bkN ?_ _ | refine bkD ?_ | refine bkA ?_ _)); exact BK560.out) k_ hn_)))) (bSz (by repeat (first | (with_reducible first | exact HB.out | apply bAl | apply pbN | apply bD1 | refine bSt ?_ GE560.out) | exact HB.out)))); have n1_ := aM (Kd.V_lower (Kd.V_mono (ok' := fun k_ => k_ ≠ gb560) ho1 (fun k_ hk_ => Or.elim hk_ (fun hs_ => Or.elim hs_ (fun hs_ => fun e_ => Nat.not_le.2 hs_ (by rw [e_]; exact GW560.out)) (fun hs_ => Or.elim hs_ (fun hs_ => fun e_ => Nat.not_le.2 hs_ (by rw [e_]; exact GW560.out)) (fun hs_ => Or.elim hs_ (fun hs_ => fun e_ => Nat.not_le.2 hs_ (by rw [e_]; exact GW560.out)) (fun hs_ => Or.elim hs_ (fun hs_ => fun e_ => Nat.not_le.2 hs_ (by rw [e_]; exact GW560.out)) (fun hs_ => Or.elim hs_ (fun hs_ => fun e_ => Nat.not_le.2 hs_ (by rw [e_]; exact GW560.out)) (fun hs_ => fun e_ => Nat.not_le.2 hs_ (by rw [e_]; exact GW560.out))))))) (fun hn_ => (Kd.freshB (g := gb560) (o := .cells #[.slice A0_0 l0_0.length c0_0, .slice A0_1 l0_1.length c0_1, .slice A0_2 l0_2.length c0_2, .slice A0_3 l0_3.length c0_3, .slice A0_4 l0_4.length c0_4, .slice A0_5 l0_5.length c0_5] 27 (0, 0)) (by (with_reducible repeat (first | refine bkN ?_ _ | refine bkD ?_ | refine bkA ?_ _)); exact BK560.out) k_ hn_)))) (bSz (by repeat (first | (with_reducible first | exact HB.out | apply bAl | apply pbN | apply bD1 | refine bSt ?_ GE560.out) | exact HB.out)))); have n2_ := aM (Kd.V_lower (Kd.V_mono (ok' := fun k_ => k_ ≠ gb560) ho2 (fun k_ hk_ => Or.elim hk_ (fun hs_ => Or.elim hs_ (fun hs_ => fun e_ => Nat.not_le.2 hs_ (by rw [e_]; exact GW560.out)) (fun hs_ => Or.elim hs_ (fun hs_ => fun e_ => Nat.not_le.2 hs_ (by rw [e_]; exact GW560.out)) (fun hs_ => Or.elim hs_ (fun hs_ => fun e_ => Nat.not_le.2 hs_ (by rw [e_]; exact GW560.out)) (fun hs_ => Or.elim hs_ (fun hs_ => fun e_ => Nat.not_le.2 hs_ (by rw [e_]; exact GW560.out)) (fun hs_ => Or.elim hs_ (fun hs_ => fun e_ => Nat.not_le.2 hs_ (by rw [e_]; exact GW560.out)) (fun hs_ => fun e_ => Nat.not_le.2 hs_ (by rw [e_]; exact GW560.out))))))) (fun hn_ => (Kd.freshB (g := gb560) (o := .cells #[.slice A0_0 l0_0.length c0_0, .slice A0_1 l0_1.length c0_1, .slice A0_2 l0_2.length c0_2, .slice A0_3 l0_3.length c0_3, .slice A0_4 l0_4.length c0_4, .slice A0_5 l0_5.length c0_5] 27 (0, 0)) (by (with_reducible repeat (first | refine bkN ?_ _ | refine bkD ?_ | refine bkA ?_ _)); exact BK560.out) k_ hn_)))) (bSz (by repeat (first | (with_reducible first | exact HB.out | apply bAl | apply pbN | apply bD1 | refine bSt ?_ GE560.out) | exact HB.out)))); have n3_ := aM (Kd.V_lower (Kd.V_mono (ok' := fun k_ => k_ ≠ gb560) ho3 (fun k_ hk_ => Or.elim hk_ (fun hs_ => Or.elim hs_ (fun hs_ => fun e_ => Nat.not_le.2 hs_ (by rw [e_]; exact GW560.out)) (fun hs_ => Or.elim hs_ (fun hs_ => fun e_ => Nat.not_le.2 hs_ (by rw [e_]; exact GW560.out)) (fun hs_ => Or.elim hs_ (fun hs_ => fun e_ => Nat.not_le.2 hs_ (by rw [e_]; exact GW560.out)) (fun hs_ => Or.elim hs_ (fun hs_ => fun e_ => Nat.not_le.2 hs_ (by rw [e_]; exact GW560.out)) (fun hs_ => Or.elim hs_ (fun hs_ => fun e_ => Nat.not_le.2 hs_ (by rw [e_]; exact GW560.out)) (fun hs_ => fun e_ => Nat.not_le.2 hs_ (by rw [e_]; exact GW560.out))))))) (fun hn_ => (Kd.freshB (g := gb560) (o := .cells #[.slice A0_0 l0_0.length c0_0, .slice A0_1 l0_1.length c0_1, .slice A0_2 l0_2.length c0_2, .slice A0_3 l0_3.length c0_3, .slice A0_4 l0_4.length c0_4, .slice A0_5 l0_5.length c0_5] 27 (0, 0)) (by (with_reducible repeat (first | refine bkN ?_ _ | refine bkD ?_ | refine bkA ?_ _)); exact BK560.out) k_ hn_)))) (bSz (by repeat (first | (with_reducible first | exact HB.out | apply bAl | apply pbN | apply bD1 | refine bSt ?_ GE560.out) | exact HB.out)))); have n4_ := aM (Kd.V_lower (Kd.V_mono (ok' := fun k_ => k_ ≠ gb560) ho4 (fun k_ hk_ => Or.elim hk_ (fun hs_ => Or.elim hs_ (fun hs_ => fun e_ => Nat.not_le.2 hs_ (by rw [e_]; exact GW560.out)) (fun hs_ => Or.elim hs_ (fun hs_ => fun e_ => Nat.not_le.2 hs_ (by rw [e_]; exact GW560.out)) (fun hs_ => Or.elim hs_ (fun hs_ => fun e_ => Nat.not_le.2 hs_ (by rw [e_]; exact GW560.out)) (fun hs_ => Or.elim hs_ (fun hs_ => fun e_ => Nat.not_le.2 hs_ (by rw [e_]; exact GW560.out)) (fun hs_ => Or.elim hs_ (fun hs_ => fun e_ => Nat.not_le.2 hs_ (by rw [e_]; exact GW560.out)) (fun hs_ => fun e_ => Nat.not_le.2 hs_ (by rw [e_]; exact GW560.out))))))) (fun hn_ => (Kd.freshB (g := gb560) (o := .cells #[.slice A0_0 l0_0.length c0_0, .slice A0_1 l0_1.length c0_1, .slice A0_2 l0_2.length c0_2, .slice A0_3 l0_3.length c0_3, .slice A0_4 l0_4.length c0_4, .slice A0_5 l0_5.length c0_5] 27 (0, 0)) (by (with_reducible repeat (first | refine bkN ?_ _ | refine bkD ?_ | refine bkA ?_ _)); exact BK560.out) k_ hn_)))) (bSz (by repeat (first | (with_reducible first | exact HB.out | apply bAl | apply pbN | apply bD1 | refine bSt ?_ GE560.out) | exact HB.out)))); have n5_ := aM (Kd.V_lower (Kd.V_mono (ok' := fun k_ => k_ ≠ gb560) ho5 (fun k_ hk_ => Or.elim hk_ (fun hs_ => Or.elim hs_ (fun hs_ => fun e_ => Nat.not_le.2 hs_ (by rw [e_]; exact GW560.out)) (fun hs_ => Or.elim hs_ (fun hs_ => fun e_ => Nat.not_le.2 hs_ (by rw [e_]; exact GW560.out)) (fun hs_ => Or.elim hs_ (fun hs_ => fun e_ => Nat.not_le.2 hs_ (by rw [e_]; exact GW560.out)) (fun hs_ => Or.elim hs_ (fun hs_ => fun e_ => Nat.not_le.2 hs_ (by rw [e_]; exact GW560.out)) (fun hs_ => Or.elim hs_ (fun hs_ => fun e_ => Nat.not_le.2 hs_ (by rw [e_]; exact GW560.out)) (fun hs_ => fun e_ => Nat.not_le.2 hs_ (by rw [e_]; exact GW560.out))))))) (fun hn_ => (Kd.freshB (g := gb560) (o := .cells #[.slice A0_0 l0_0.length c0_0, .slice A0_1 l0_1.length c0_1, .slice A0_2 l0_2.length c0_2, .slice A0_3 l0_3.length c0_3, .slice A0_4 l0_4.length c0_4, .slice A0_5 l0_5.length c0_5] 27 (0, 0)) (by (with_reducible repeat (first | refine bkN ?_ _ | refine bkD ?_ | refine bkA ?_ _)); exact BK560.out) k_ hn_)))) (bSz (by repeat (first | (with_reducible first | exact HB.out | apply bAl | apply pbN | apply bD1 | refine bSt ?_ GE560.out) | exact HB.out)))); have n6_ := aM (blk_below (g := gb560) (o := .cells #[.slice A0_0 l0_0.length c0_0, .slice A0_1 l0_1.length c0_1, .slice A0_2 l0_2.length c0_2, .slice A0_3 l0_3.length c0_3, .slice A0_4 l0_4.length c0_4, .slice A0_5 l0_5.length c0_5] 27 (0, 0)) (by (with_reducible repeat (first | refine bkN ?_ _ | refine bkD ?_ | refine bkA ?_ _)); exact BK560.out) hb); have n7_ := aM (bSp (by repeat (first | (with_reducible first | exact HB.out | apply bAl | apply pbN | apply bD1 | refine bSt ?_ GE560.out) | exact HB.out)) hb); clear BK560; clear HB; have HO563 := n0_; have HO566 := n1_; have HO569 := n2_; have HO572 := n3_; have HO575 := n4_; have HO578 := n5_; have BK560 := n6_; have HB := n7_; clear n0_ n1_ n2_ n3_ n4_ n5_ n6_ n7_; (try clear hb); (try clear hb2); (try clear hk); (try clear hi); (try clear ho0); (try clear ho1); (try clear ho2); (try clear ho3); (try clear ho4); (try clear ho5)) | ((with_reducible refine gate_dst (N := 7) rfl ?_); refine box_event ?hg (N := 7) ?hd (cs := #[.slice none 0 0, .slice none 0 0, .slice none 0 0, .slice none 0 0, .slice none 0 0, .slice none 0 0]) (t := 27) ?hr ?_; (case hd => rfl); (case hg => rfl); (case hr => first | (go_simp; done) | (go_simp; rfl)); intro gb579 hg w42 hbox hb; have n0_ := aM (Kd.V_below (Kd.V_elderB (by (with_reducible repeat (first | apply Kd.V_alloc | apply Kd.V_drewN | apply Kd.V_drew)); exact HO563.out) gb579 (Nat.le_of_eq hg.symm)) hb); have n1_ := aM (Kd.V_below (Kd.V_elderB (by (with_reducible repeat (first | apply Kd.V_alloc | apply Kd.V_drewN | apply Kd.V_drew)); exact HO566.out) gb579 (Nat.le_of_eq hg.symm)) hb); have n2_ := aM (Kd.V_below (Kd.V_elderB (by (with_reducible repeat (first | apply Kd.V_alloc | apply Kd.V_drewN | apply Kd.V_drew)); exact HO569.out) gb579 (Nat.le_of_eq hg.symm)) hb); have n3_ := aM (Kd.V_below (Kd.V_elderB (by (with_reducible repeat (first | apply Kd.V_alloc | apply Kd.V_drewN | apply Kd.V_drew)); exact HO572.out) gb579 (Nat.le_of_eq hg.symm)) hb); have n4_ := aM (Kd.V_below (Kd.V_elderB (by (with_reducible repeat (first | apply Kd.V_alloc | apply Kd.V_drewN | apply Kd.V_drew)); exact HO575.out) gb579 (Nat.le_of_eq hg.symm)) hb); have n5_ := aM (Kd.V_below (Kd.V_elderB (by (with_reducible repeat (first | apply Kd.V_alloc | apply Kd.V_drewN | apply Kd.V_drew)); exact HO578.out) gb579 (Nat.le_of_eq hg.symm)) hb); have n6_ := aM (blk_below (g := gb560) (o := .cells #[.slice A0_0 l0_0.length c0_0, .slice A0_1 l0_1.length c0_1, .slice A0_2 l0_2.length c0_2, .slice A0_3 l0_3.length c0_3, .slice A0_4 l0_4.length c0_4, .slice A0_5 l0_5.length c0_5] 27 (0, 0)) (by (with_reducible repeat (first | refine bkN ?_ _ | refine bkD ?_ | refine bkA ?_ _)); exact BK560.out) hb); have n7_ := aM (bSp (by repeat (first | (with_reducible first | exact HB.out | apply bAl | apply pbN | apply bD1 | refine bSt ?_ GE560.out) | exact HB.out)) hb); have n8_ := aM (hbox); have n9_ := aM ((by rw [hg]; exact (bSz (by repeat (first | (with_reducible first | exact HB.out | apply bAl | apply pbN | apply bD1 | refine bSt ?_ GE560.out) | exact HB.out))) : w.heap.size ≤ gb579)); have n10_ := aM ((by rw [hg]; exact (bSz (by repeat (first | (with_reducible first | exact HB.out | apply bAl | apply pbN | apply bD1 | refine bSt ?_ GE560.out) | exact HB.out))) : w.heap.size ≤ gb579)); have n11_ := aM ((by rw [hg]; exact Nat.ne_of_lt (blk_lt (g := gb560) (o := .cells #[.slice A0_0 l0_0.length c0_0, .slice A0_1 l0_1.length c0_1, .slice A0_2 l0_2.length c0_2, .slice A0_3 l0_3.length c0_3, .slice A0_4 l0_4.length c0_4, .slice A0_5 l0_5.length c0_5] 27 (0, 0)) (by (with_reducible repeat (first | refine bkN ?_ _ | refine bkD ?_ | refine bkA ?_ _)); exact BK560.out)) : gb560 ≠ gb579)); have n12_ := aM ((by rw [hg]; exact Nat.ne_of_gt (blk_lt (g := gb560) (o := .cells #[.slice A0_0 l0_0.length c0_0, .slice A0_1 l0_1.length c0_1, .slice A0_2 l0_2.length c0_2, .slice A0_3 l0_3.length c0_3, .slice A0_4 l0_4.length c0_4, .slice A0_5 l0_5.length c0_5] 27 (0, 0)) (by (with_reducible repeat (first | refine bkN ?_ _ | refine bkD ?_ | refine bkA ?_ _)); exact BK560.out)) : gb579 ≠ gb560)); clear HO563; clear HO566; clear HO569; clear HO572; clear HO575; clear HO578; clear BK560; clear HB; have HO563 := n0_; have HO566 := n1_; have HO569 := n2_; have HO572 := n3_; have HO575 := n4_; have HO578 := n5_; have BK560 := n6_; have HB := n7_; have BK579 := n8_; have GW579 := n9_; have GE579 := n10_; have NB560_579 := n11_; have NB579_560 := n12_; clear n0_ n1_ n2_ n3_ n4_ n5_ n6_ n7_ n8_ n9_ n10_ n11_ n12_; clear hb hbox hg; obtain ⟨Ao43, co43, eo43⟩ := Kd.V_slice HO563.out; subst eo43; have hnb44 := NB579_560.out; have hnc44 := NB560_579.out; have hcz45_0 : w42.cell? ⟨gb579, 0, none⟩ = some (.slice none 0 0) := (bkC BK579.out 0).trans rfl; have hcz45_1 : w42.cell? ⟨gb579, 1, none⟩ = some (.slice none 0 0) := (bkC BK579.out 1).trans rfl; have hcz45_2 : w42.cell? ⟨gb579, 2, none⟩ = some (.slice none 0 0) := (bkC BK579.out 2).trans rfl; have hcz45_3 : w42.cell? ⟨gb579, 3, none⟩ = some (.slice none 0 0) := (bkC BK579.out 3).trans rfl; have hcz45_4 : w42.cell? ⟨gb579, 4, none⟩ = some (.slice none 0 0) := (bkC BK579.out 4).trans rfl; have hcz45_5 : w42.cell? ⟨gb579, 5, none⟩ = some (.slice none 0 0) := (bkC BK579.out 5).trans rfl; have hfz45_0 := bkF BK579.out 0; have hfz45_1 := bkF BK579.out 1; have hfz45_2 := bkF BK579.out 2; have hfz45_3 := bkF BK579.out 3; have hfz45_4 := bkF BK579.out 4; have hfz45_5 := bkF BK579.out 5; obtain ⟨Ao46, co46, eo46⟩ := Kd.V_slice HO566.out; subst eo46; obtain ⟨Ao47, co47, eo47⟩ := Kd.V_slice HO569.out; subst eo47; obtain ⟨Ao48, co48, eo48⟩ := Kd.V_slice HO572.out; subst eo48; obtain ⟨Ao49, co49, eo49⟩ := Kd.V_slice HO575.out; subst eo49; obtain ⟨Ao50, co50, eo50⟩ := Kd.V_slice HO578.out; subst eo50) | ((with_reducible refine gate_callee (f := 13) rfl ?_); refine goesL_ (some 16) rfl rfl Try.func13 (by kernel_rfl) rfl #[.slice A2 l2.length c2, .int .i64 (l1.length : Int)] rfl (by (try simp only [List.map_toArray, List.map_cons, List.map_nil]); first | done | rfl | (simp only [List.length_drop, List.length_take]; rfl)) ?_; (with_reducible refine (r37_Within.calls k _ _ l2 (l1.length : Int) false _ ?side1 ?side2 A5.out).mono ?_); (case side1 => exact Kd.C_below HR2.out (by repeat (first | (with_reducible first | exact HB.out | apply bAl | apply pbN | apply bD1 | refine bSt ?_ GE560.out | refine bSt ?_ GE579.out) | exact HB.out))); (case side2 => exact HC2.out); rintro e w' ⟨rfl, ⟨nd, rfl⟩⟩; refine ⟨_, rfl, ?_⟩) | ((with_reducible refine gate_dst (N := 18) rfl ?_); refine Kd.R_lit (Kd.int .i64) _ 3 ?hg (N := 18) ?hd (xs := ([] : List Int)) (inner := []) (ok := fun _ => True) (okp := fun _ => True) ?hr ?hp (fun _ hk => hk) trivial (Below.refl _ _) (Nat.le_refl _) (by simp) ?_; (case hd => rfl); (case hg => rfl); (case hr => first | (go_simp; done) | (go_simp; rfl)); (case hp => exact (Reps.none _ _)); intro v582 w51 ho52 hb hg_ hnew_; clear hg_ hnew_; (first | rw [← Ny581.out] at ho52 | (simp only [Int.reduceToNat] at ho52; rw [← Ny581.out] at ho52)); have n0_ := aM (Kd.V_elder' (by (with_reducible repeat (first | apply Kd.V_alloc | apply Kd.V_drewN | apply Kd.V_drew)); exact (Kd.V_mono (Kd.V_far (p := ⟨gb579, 5, none⟩) (Kd.V_far (p := ⟨gb579, 4, none⟩) (Kd.V_far (p := ⟨gb579, 3, none⟩) (Kd.V_far (p := ⟨gb579, 2, none⟩) (Kd.V_far (p := ⟨gb579, 1, none⟩) (Kd.V_far (p := ⟨gb579, 0, none⟩) (Kd.V_mono HO563.out (fun k_ hk => (⟨hk, hk.2⟩ : _ ∧ k_ ≠ gb579))) (fun _ hk => hk.2) (.slice Ao43 t561.length co43)) (fun _ hk => hk.2) (.slice Ao46 t564.length co46)) (fun _ hk => hk.2) (.slice Ao47 t567.length co47)) (fun _ hk => hk.2) (.slice Ao48 t570.length co48)) (fun _ hk => hk.2) (.slice Ao49 t573.length co49)) (fun _ hk => hk.2) (.slice Ao50 t576.length co50)) (fun _ h_ => h_.1))) (Kd.R_base ho52) hb); have n1_ := aM (Kd.V_elder' (by (with_reducible repeat (first | apply Kd.V_alloc | apply Kd.V_drewN | apply Kd.V_drew)); exact (Kd.V_mono (Kd.V_far (p := ⟨gb579, 5, none⟩) (Kd.V_far (p := ⟨gb579, 4, none⟩) (Kd.V_far (p := ⟨gb579, 3, none⟩) (Kd.V_far (p := ⟨gb579, 2, none⟩) (Kd.V_far (p := ⟨gb579, 1, none⟩) (Kd.V_far (p := ⟨gb579, 0, none⟩) (Kd.V_mono HO566.out (fun k_ hk => (⟨hk, hk.2⟩ : _ ∧ k_ ≠ gb579))) (fun _ hk => hk.2) (.slice Ao43 t561.length co43)) (fun _ hk => hk.2) (.slice Ao46 t564.length co46)) (fun _ hk => hk.2) (.slice Ao47 t567.length co47)) (fun _ hk => hk.2) (.slice Ao48 t570.length co48)) (fun _ hk => hk.2) (.slice Ao49 t573.length co49)) (fun _ hk => hk.2) (.slice Ao50 t576.length co50)) (fun _ h_ => h_.1))) (Kd.R_base ho52) hb); have n2_ := aM (Kd.V_elder' (by (with_reducible repeat (first | apply Kd.V_alloc | apply Kd.V_drewN | apply Kd.V_drew)); exact (Kd.V_mono (Kd.V_far (p := ⟨gb579, 5, none⟩) (Kd.V_far (p := ⟨gb579, 4, none⟩) (Kd.V_far (p := ⟨gb579, 3, none⟩) (Kd.V_far (p := ⟨gb579, 2, none⟩) (Kd.V_far (p := ⟨gb579, 1, none⟩) (Kd.V_far (p := ⟨gb579, 0, none⟩) (Kd.V_mono HO569.out (fun k_ hk => (⟨hk, hk.2⟩ : _ ∧ k_ ≠ gb579))) (fun _ hk => hk.2) (.slice Ao43 t561.length co43)) (fun _ hk => hk.2) (.slice Ao46 t564.length co46)) (fun _ hk => hk.2) (.slice Ao47 t567.length co47)) (fun _ hk => hk.2) (.slice Ao48 t570.length co48)) (fun _ hk => hk.2) (.slice Ao49 t573.length co49)) (fun _ hk => hk.2) (.slice Ao50 t576.length co50)) (fun _ h_ => h_.1))) (Kd.R_base ho52) hb); have n3_ := aM (Kd.V_elder' (by (with_reducible repeat (first | apply Kd.V_alloc | apply Kd.V_drewN | apply Kd.V_drew)); exact (Kd.V_mono (Kd.V_far (p := ⟨gb579, 5, none⟩) (Kd.V_far (p := ⟨gb579, 4, none⟩) (Kd.V_far (p := ⟨gb579, 3, none⟩) (Kd.V_far (p := ⟨gb579, 2, none⟩) (Kd.V_far (p := ⟨gb579, 1, none⟩) (Kd.V_far (p := ⟨gb579, 0, none⟩) (Kd.V_mono HO572.out (fun k_ hk => (⟨hk, hk.2⟩ : _ ∧ k_ ≠ gb579))) (fun _ hk => hk.2) (.slice Ao43 t561.length co43)) (fun _ hk => hk.2) (.slice Ao46 t564.length co46)) (fun _ hk => hk.2) (.slice Ao47 t567.length co47)) (fun _ hk => hk.2) (.slice Ao48 t570.length co48)) (fun _ hk => hk.2) (.slice Ao49 t573.length co49)) (fun _ hk => hk.2) (.slice Ao50 t576.length co50)) (fun _ h_ => h_.1))) (Kd.R_base ho52) hb); have n4_ := aM (Kd.V_elder' (by (with_reducible repeat (first | apply Kd.V_alloc | apply Kd.V_drewN | apply Kd.V_drew)); exact (Kd.V_mono (Kd.V_far (p := ⟨gb579, 5, none⟩) (Kd.V_far (p := ⟨gb579, 4, none⟩) (Kd.V_far (p := ⟨gb579, 3, none⟩) (Kd.V_far (p := ⟨gb579, 2, none⟩) (Kd.V_far (p := ⟨gb579, 1, none⟩) (Kd.V_far (p := ⟨gb579, 0, none⟩) (Kd.V_mono HO575.out (fun k_ hk => (⟨hk, hk.2⟩ : _ ∧ k_ ≠ gb579))) (fun _ hk => hk.2) (.slice Ao43 t561.length co43)) (fun _ hk => hk.2) (.slice Ao46 t564.length co46)) (fun _ hk => hk.2) (.slice Ao47 t567.length co47)) (fun _ hk => hk.2) (.slice Ao48 t570.length co48)) (fun _ hk => hk.2) (.slice Ao49 t573.length co49)) (fun _ hk => hk.2) (.slice Ao50 t576.length co50)) (fun _ h_ => h_.1))) (Kd.R_base ho52) hb); have n5_ := aM (Kd.V_elder' (by (with_reducible repeat (first | apply Kd.V_alloc | apply Kd.V_drewN | apply Kd.V_drew)); exact (Kd.V_mono (Kd.V_far (p := ⟨gb579, 5, none⟩) (Kd.V_far (p := ⟨gb579, 4, none⟩) (Kd.V_far (p := ⟨gb579, 3, none⟩) (Kd.V_far (p := ⟨gb579, 2, none⟩) (Kd.V_far (p := ⟨gb579, 1, none⟩) (Kd.V_far (p := ⟨gb579, 0, none⟩) (Kd.V_mono HO578.out (fun k_ hk => (⟨hk, hk.2⟩ : _ ∧ k_ ≠ gb579))) (fun _ hk => hk.2) (.slice Ao43 t561.length co43)) (fun _ hk => hk.2) (.slice Ao46 t564.length co46)) (fun _ hk => hk.2) (.slice Ao47 t567.length co47)) (fun _ hk => hk.2) (.slice Ao48 t570.length co48)) (fun _ hk => hk.2) (.slice Ao49 t573.length co49)) (fun _ hk => hk.2) (.slice Ao50 t576.length co50)) (fun _ h_ => h_.1))) (Kd.R_base ho52) hb); have n6_ := aM (Kd.R_lower ho52 (bSz (by repeat (first | (with_reducible first | exact HB.out | apply bAl | apply pbN | apply bD1 | refine bSt ?_ GE560.out | refine bSt ?_ GE579.out) | exact HB.out)))); have n7_ := aM (blk_below (g := gb560) (o := .cells #[.slice A0_0 l0_0.length c0_0, .slice A0_1 l0_1.length c0_1, .slice A0_2 l0_2.length c0_2, .slice A0_3 l0_3.length c0_3, .slice A0_4 l0_4.length c0_4, .slice A0_5 l0_5.length c0_5] 27 (0, 0)) (by (with_reducible repeat (first | refine bkN ?_ _ | refine bkD ?_ | refine bkA ?_ _)); refine blk_far ?_ NB560_579.out _; (with_reducible repeat (first | refine bkN ?_ _ | refine bkD ?_ | refine bkA ?_ _)); refine blk_far ?_ NB560_579.out _; (with_reducible repeat (first | refine bkN ?_ _ | refine bkD ?_ | refine bkA ?_ _)); refine blk_far ?_ NB560_579.out _; (with_reducible repeat (first | refine bkN ?_ _ | refine bkD ?_ | refine bkA ?_ _)); refine blk_far ?_ NB560_579.out _; (with_reducible repeat (first | refine bkN ?_ _ | refine bkD ?_ | refine bkA ?_ _)); refine blk_far ?_ NB560_579.out _; (with_reducible repeat (first | refine bkN ?_ _ | refine bkD ?_ | refine bkA ?_ _)); refine blk_far ?_ NB560_579.out _; (with_reducible repeat (first | refine bkN ?_ _ | refine bkD ?_ | refine bkA ?_ _)); exact BK560.out) hb); have n8_ := aM (blk_below (g := gb579) (o := .cells #[.slice Ao43 t561.length co43, .slice Ao46 t564.length co46, .slice Ao47 t567.length co47, .slice Ao48 t570.length co48, .slice Ao49 t573.length co49, .slice Ao50 t576.length co50] 27 (0, 0)) (by (with_reducible repeat (first | refine bkN ?_ _ | refine bkD ?_ | refine bkA ?_ _)); refine blk_put (cs := #[.slice Ao43 t561.length co43, .slice Ao46 t564.length co46, .slice Ao47 t567.length co47, .slice Ao48 t570.length co48, .slice Ao49 t573.length co49, .slice none 0 0]) ?_ 5 _ rfl; (with_reducible repeat (first | refine bkN ?_ _ | refine bkD ?_ | refine bkA ?_ _)); refine blk_put (cs := #[.slice Ao43 t561.length co43, .slice Ao46 t564.length co46, .slice Ao47 t567.length co47, .slice Ao48 t570.length co48, .slice none 0 0, .slice none 0 0]) ?_ 4 _ rfl; (with_reducible repeat (first | refine bkN ?_ _ | refine bkD ?_ | refine bkA ?_ _)); refine blk_put (cs := #[.slice Ao43 t561.length co43, .slice Ao46 t564.length co46, .slice Ao47 t567.length co47, .slice none 0 0, .slice none 0 0, .slice none 0 0]) ?_ 3 _ rfl; (with_reducible repeat (first | refine bkN ?_ _ | refine bkD ?_ | refine bkA ?_ _)); refine blk_put (cs := #[.slice Ao43 t561.length co43, .slice Ao46 t564.length co46, .slice none 0 0, .slice none 0 0, .slice none 0 0, .slice none 0 0]) ?_ 2 _ rfl; (with_reducible repeat (first | refine bkN ?_ _ | refine bkD ?_ | refine bkA ?_ _)); refine blk_put (cs := #[.slice Ao43 t561.length co43, .slice none 0 0, .slice none 0 0, .slice none 0 0, .slice none 0 0, .slice none 0 0]) ?_ 1 _ rfl; (with_reducible repeat (first | refine bkN ?_ _ | refine bkD ?_ | refine bkA ?_ _)); refine blk_put (cs := #[.slice none 0 0, .slice none 0 0, .slice none 0 0, .slice none 0 0, .slice none 0 0, .slice none 0 0]) ?_ 0 _ rfl; (with_reducible repeat (first | refine bkN ?_ _ | refine bkD ?_ | refine bkA ?_ _)); exact BK579.out) hb); have n9_ := aM (bSp (by repeat (first | (with_reducible first | exact HB.out | apply bAl | apply pbN | apply bD1 | refine bSt ?_ GE560.out | refine bSt ?_ GE579.out) | exact HB.out)) hb); clear HO563; clear HO566; clear HO569; clear HO572; clear HO575; clear HO578; clear BK560; clear BK579; clear HB; have HO563 := n0_; have HO566 := n1_; have HO569 := n2_; have HO572 := n3_; have HO575 := n4_; have HO578 := n5_; have HO583 := n6_; have BK560 := n7_; have BK579 := n8_; have HB := n9_; clear n0_ n1_ n2_ n3_ n4_ n5_ n6_ n7_ n8_ n9_; clear hb ho52) | ((with_reducible refine gate_builtin (b := .append) (xs := #[.tmp 18, .tmp 19]) rfl ?_); at_builtin; refine Kd.R_append_rows (Kd.int .i64) (w0 := w) w.heap.size rfl (.tmp 18) (.tmp 19) 28 3 (.int .i64 0) 8 rfl Try.underlying28 info3 rfl (by decide) (by omega) v582 y581 l1 _ _ _ (fun _ => True) (fun _ => False) rfl rfl ?aO ?aR (fun _ _ h => h) (fun _ h => h.elim) ?aF ?aB ?aS ?aL ?_; (case aR => repeat (first | exact (Kd.C_below HR1.out HB.out) | (with_reducible refine Kd.C_alloc ?_ _) | (with_reducible refine Kd.C_drewN ?_ _) | (with_reducible refine Kd.C_drew ?_))); (case aB => exact (by repeat (first | (with_reducible first | exact HB.out | apply bAl | apply pbN | apply bD1 | refine bSt ?_ GE560.out | refine bSt ?_ GE579.out) | exact HB.out))); (case aF => exact (fun _ _ => trivial)); (case aO => exact (by (with_reducible repeat (first | apply Kd.R_alloc | apply Kd.R_drewN | apply Kd.R_drew)); exact HO583.out)); (case aS => exact (bSz (by repeat (first | (with_reducible first | exact HB.out | apply bAl | apply pbN | apply bD1 | refine bSt ?_ GE560.out | refine bSt ?_ GE579.out) | exact HB.out)))); (case aL => have := LMc38.out; omega); intro v585 w53 ho hb hg hat; rw [← Ny584.out] at ho; have n0_ := aM (blk_grown (g := gb560) (o := .cells #[.slice A0_0 l0_0.length c0_0, .slice A0_1 l0_1.length c0_1, .slice A0_2 l0_2.length c0_2, .slice A0_3 l0_3.length c0_3, .slice A0_4 l0_4.length c0_4, .slice A0_5 l0_5.length c0_5] 27 (0, 0)) (by (with_reducible repeat (first | refine bkN ?_ _ | refine bkD ?_ | refine bkA ?_ _)); exact BK560.out) hg (Kd.R_ne HO583.out BK560.out (by decide))); have n1_ := aM (Kd.V_afterv (ok := (fun k_ => k_ ≠ gb560 ∧ k_ ≠ gb579)) (by (with_reducible repeat (first | apply Kd.V_alloc | apply Kd.V_drewN | apply Kd.V_drew)); exact HO563.out) hg hat); have n2_ := aM (Kd.V_afterv (ok := (fun k_ => k_ ≠ gb560 ∧ k_ ≠ gb579)) (by (with_reducible repeat (first | apply Kd.V_alloc | apply Kd.V_drewN | apply Kd.V_drew)); exact HO566.out) hg hat); have n3_ := aM (Kd.V_afterv (ok := (fun k_ => k_ ≠ gb560 ∧ k_ ≠ gb579)) (by (with_reducible repeat (first | apply Kd.V_alloc | apply Kd.V_drewN | apply Kd.V_drew)); exact HO569.out) hg hat); have n4_ := aM (Kd.V_afterv (ok := (fun k_ => k_ ≠ gb560 ∧ k_ ≠ gb579)) (by (with_reducible repeat (first | apply Kd.V_alloc | apply Kd.V_drewN | apply Kd.V_drew)); exact HO572.out) hg hat); have n5_ := aM (Kd.V_afterv (ok := (fun k_ => k_ ≠ gb560 ∧ k_ ≠ gb579)) (by (with_reducible repeat (first | apply Kd.V_alloc | apply Kd.V_drewN | apply Kd.V_drew)); exact HO575.out) hg hat); have n6_ := aM (Kd.V_afterv (ok := (fun k_ => k_ ≠ gb560 ∧ k_ ≠ gb579)) (by (with_reducible repeat (first | apply Kd.V_alloc | apply Kd.V_drewN | apply Kd.V_drew)); exact HO578.out) hg hat); have n7_ := aM (blk_grown (g := gb579) (o := .cells #[.slice Ao43 t561.length co43, .slice Ao46 t564.length co46, .slice Ao47 t567.length co47, .slice Ao48 t570.length co48, .slice Ao49 t573.length co49, .slice Ao50 t576.length co50] 27 (0, 0)) (by (with_reducible repeat (first | refine bkN ?_ _ | refine bkD ?_ | refine bkA ?_ _)); exact BK579.out) hg (Kd.R_ne HO583.out BK579.out (by decide))); have n8_ := aM (hb); have n9_ := aM (ho); clear BK560; clear HO563; clear HO566; clear HO569; clear HO572; clear HO575; clear HO578; clear BK579; clear HB; clear HO583; have BK560 := n0_; have HO563 := n1_; have HO566 := n2_; have HO569 := n3_; have HO572 := n4_; have HO575 := n5_; have HO578 := n6_; have BK579 := n7_; have HB := n8_; have HO586 := n9_; clear n0_ n1_ n2_ n3_ n4_ n5_ n6_ n7_ n8_ n9_; clear ho hb hg hat))
   go_ret
   exact ⟨_, by first | rfl | (simp [eN, eS] <;> rfl) | (simp [*, eN, eS] <;> rfl), by (with_reducible repeat (first | apply Kd.R_alloc | apply Kd.R_drewN | apply Kd.R_drew)); exact HO586.out, by repeat (first | (with_reducible first | exact HB.out | apply bAl | apply pbN | apply bD1 | refine bSt ?_ GE560.out | refine bSt ?_ GE579.out) | exact HB.out)⟩
  ·rw [if_neg c38] at H
   exact absurd H (by simp)
end Go.Proofs.Ythnkmcfhpjmihaa.Q
end
section
namespace Go.Proofs.Ythnkmcfhpjmihaa.Q
open Go.RowKit Go.Proofs.YthnkmcfhpjmihaaW.PrintWords Go.Proofs.YthnkmcfhpjmihaaW.PrintLast Go.Proofs.YthnkmcfhpjmihaaW.PrintMore
set_option linter.unusedVariables false
theorem plTag_go (i0 : Bool) (tg : ByteArray) (ht : tg = if i0 then tagF else tagE) : ∀ (rest pre : List Mp) (k : Nat), (pre ++ rest).length < 1000000 → rest.length + 1 ≤ k →
  r37_tagged.l0 k (pre ++ rest) tg (pre.length : Int) = some (rest.any (badTag i0))
 | [], pre, k, h1, h2 => by
  obtain ⟨k, rfl⟩ : ∃ j, k = j + 1 := ⟨k - 1, by omega⟩
  rw [r37_tagged.l0, if_neg (by simp)]
  rfl
 | x :: rest, pre, k, h1, h2 => by
  obtain ⟨k, rfl⟩ : ∃ j, k = j + 1 := ⟨k - 1, by omega⟩
  have hp : pre.length < 1000000000 := by simp at h1; omega
  have ih := plTag_go i0 tg ht rest (pre ++ [x]) k (by simpa using h1) (by simp at h2; omega)
  have ex : (pre ++ [x]) ++ rest = pre ++ x :: rest := by simp
  have el : ((pre ++ [x]).length : Int) = ((pre.length + 1 : Nat) : Int) := by simp
  rw [ex, el] at ih
  rw [r37_tagged.l0, if_pos (by simp; omega), if_pos (by omega), rdM_mid, wrap_suc hp, ih, List.any_cons]
  unfold badTag
  by_cases hz : x.f2.size = 0
  ·rw [if_pos ((bytesEq_nil _).2 hz), decide_eq_false (by simpa using hz)]
   rfl
  ·rw [if_neg (fun hh => hz ((bytesEq_nil _).1 hh)), dT hz]
   subst ht
   cases i0 with
   | true =>
    show (if x.f2.toList = tagF.toList then _ else _) = _
    by_cases hf : x.f2 = tagF
    ·rw [if_pos (by rw [hf]), decide_eq_false (by simpa using hf)]
     rfl
    ·rw [if_neg (fun hh => hf ((bytesEq_iff _ _).1 hh)), dT hf]
     rfl
   | false =>
    show (if x.f2.toList = tagE.toList then _ else _) = _
    rw [if_neg (fun hh => hz (by rw [(bytesEq_iff _ _).1 hh]; rfl))]
    rfl
theorem plTag_ok (i0 : Bool) (l : List Mp) (k : Nat) (h : plFewM l) (hk : 50 ≤ k) : r37_tagged.f k l (if i0 then tagF else tagE) = some (l.any (badTag i0)) :=
 plTag_go i0 _ rfl l [] k (by have := h.1; simp; omega) (by have := h.1; omega)
theorem plSame_go : ∀ (xs ys px py : List Rg) (k : Nat), px.length = py.length → xs.length = ys.length → (px ++ xs).length < 1000000000 → xs.length + 1 ≤ k →
  r02_Same.l0 k (px.length : Int) (px ++ xs) (py ++ ys) = some (decide (xs.map toP = ys.map toP))
 | [], [], px, py, k, h1, h2, h3, h4 => by
  obtain ⟨k, rfl⟩ : ∃ j, k = j + 1 := ⟨k - 1, by omega⟩
  rw [r02_Same.l0, if_neg (by simp)]
  rfl
 | x :: xs, y :: ys, px, py, k, h1, h2, h3, h4 => by
  obtain ⟨k, rfl⟩ : ∃ j, k = j + 1 := ⟨k - 1, by omega⟩
  have hp : px.length < 1000000000 := by simp at h3; omega
  have ih := plSame_go xs ys (px ++ [x]) (py ++ [y]) k (by simp [h1]) (by simpa using h2) (by simpa using h3) (by simp at h4; omega)
  have ex : (px ++ [x]) ++ xs = px ++ x :: xs := by simp
  have ey : (py ++ [y]) ++ ys = py ++ y :: ys := by simp
  have el : ((px ++ [x]).length : Int) = ((px.length + 1 : Nat) : Int) := by simp
  rw [ex, ey, el] at ih
  have e1 : rd_T33 (py ++ y :: ys) (px.length : Int) = y := by rw [h1]; exact rdG_mid _ _ _
  rw [r02_Same.l0, if_pos (by simp; omega), if_pos (by omega), if_pos (by simp at h2 ⊢; omega), rdG_mid, e1, wrap_suc hp]
  rw [ih]
  by_cases ha : x.f0 = y.f0
  ·by_cases hb : x.f1 = y.f1
   ·rw [if_neg (by simp [ha, hb])]
    simp [toP, ha, hb]
   ·rw [if_pos (by simp [hb])]
    simp [toP, hb]
  ·rw [if_pos (by simp [ha])]
   simp [toP, ha]
 | [], _ :: _, _, _, _, _, h2, _, _ => by simp at h2
 | _ :: _, [], _, _, _, _, h2, _, _ => by simp at h2
theorem plComb_make (l : List Rg) : combS l [] 1 = CpM.make (l.map toP) := by
 rw [← CpM.rmake_eq]
 unfold combS CpM.rmake cutsAB
 congr 1
 funext c
 unfold keepAB keepsB CpM.hasB
 simp
theorem plValid_ok (s : List Rg) (k : Nat) (h : s.length ≤ 1000) (hk : s.length + 1 ≤ k) : r02_Valid.f k s = some (validL s) := by
 have hm : r02_Make.f s = some (mkRS s) := by
  unfold r02_Make.f r02_combine.f
  rw [if_pos (by simp; omega), plComb_make]
  rfl
 unfold r02_Valid.f
 rw [hm]
 show (r02_Same.f k s (mkRS s)).bind _ = _
 unfold r02_Same.f validL
 have e : (mkRS s).map toP = CpM.make (s.map toP) := toP_ofP _
 by_cases hl : s.length = (mkRS s).length
 ·rw [if_pos (by omega)]
  have := plSame_go s (mkRS s) [] [] k rfl hl (by simp; omega) hk
  rw [List.nil_append, List.nil_append, e] at this
  rw [show ((0 : Int)) = (([] : List Rg).length : Int) from rfl, this]
  rfl
 ·rw [if_neg (by omega), decide_eq_false]
  ·rfl
  ·intro hh
   rw [← e] at hh
   exact hl (by simpa using congrArg List.length hh)
theorem plCheckJ (c : CaseS) (b : Bool) (k : Nat) (h : plFewC c) (hk : 50 ≤ k) : r37_Check.j1 (k + 1) b c.lo c.up c.ti c.fo c.ca c.ig = some (if b then 6 else if validL c.ca && validL c.ig then 0 else 11) := by
 obtain ⟨h0, h1, h2, h3, h4, h5⟩ := h
 rw [r37_Check.j1]
 cases b with
 | true => rfl
 | false =>
  rw [if_neg (by decide), plValid_ok c.ca k (by omega) (by omega), plValid_ok c.ig k (by omega) (by omega)]
  simp only [Option.bind_some]
  cases validL c.ca <;> cases validL c.ig <;> rfl
theorem plCheckE (c : CaseS) (L : List (List Mp)) (hL : L.length = 4) (k : Nat) (h : plFewC c) (hk : 60 ≤ k) : r37_Check.l0 (k + 2) L 4 c.lo c.up c.ti c.fo c.ca c.ig = some (if badsS c then 6 else if validL c.ca && validL c.ig then 0 else 11) := by
 have e0 := plTag_ok true c.lo (k + 1) h.1 (by omega)
 have e1 := plTag_ok false c.up (k + 1) h.2.1 (by omega)
 have e2 := plTag_ok false c.ti (k + 1) h.2.2.1 (by omega)
 have e3 := plTag_ok false c.fo (k + 1) h.2.2.2.1 (by omega)
 have hj := fun b => plCheckJ c b k h (by omega)
 rw [r37_Check.l0, if_neg (by omega)]
 show (r37_tagged.f (k + 1) c.lo (if true = true then tagF else tagE)).bind (fun t285 => if t285 = true then _ else (r37_tagged.f (k + 1) c.up (if false = true then tagF else tagE)).bind fun t286 => if t286 = true then _ else (r37_tagged.f (k + 1) c.ti (if false = true then tagF else tagE)).bind fun t287 => if t287 = true then _ else (r37_tagged.f (k + 1) c.fo (if false = true then tagF else tagE)).bind _) = _
 rw [e0, e1, e2, e3]
 simp only [Option.bind_some, hj]
 unfold badsS
 cases c.lo.any (badTag true) <;> cases c.up.any (badTag false) <;> cases c.ti.any (badTag false) <;> cases c.fo.any (badTag false) <;> rfl
theorem plCheckS (c : CaseS) (L : List (List Mp)) (x : List Mp) (i : Nat) (hx : rd_L5 L (i : Int) = x) (hL : L.length = 4) (hi : i < 4) (k : Nat) (h : plFewM x) (hk : 900 ≤ k) :
  r37_Check.l0 (k + 1) L (i : Int) c.lo c.up c.ti c.fo c.ca c.ig = if checkM x = 0 then r37_Check.l0 k L ((i + 1 : Nat) : Int) c.lo c.up c.ti c.fo c.ca c.ig else some (checkM x) := by
 rw [r37_Check.l0, if_pos (by omega), if_pos (by omega), hx, plCheckM_ok x k h hk, wrap_suc (by omega : i < 1000000000)]
 rfl
theorem plCheck_ok (c : CaseS) (k : Nat) (h : plFewC c) (hk : 1000 ≤ k) : r37_Check.f k c.lo c.up c.ti c.fo c.ca c.ig = some (caseChk c) := by
 obtain ⟨k, rfl⟩ : ∃ j, k = j + 6 := ⟨k - 6, by omega⟩
 unfold r37_Check.f caseChk
 have s0 := plCheckS c [c.lo, c.up, c.ti, c.fo] c.lo 0 rfl rfl (by omega) (k + 5) h.1 (by omega)
 have s1 := plCheckS c [c.lo, c.up, c.ti, c.fo] c.up 1 rfl rfl (by omega) (k + 4) h.2.1 (by omega)
 have s2 := plCheckS c [c.lo, c.up, c.ti, c.fo] c.ti 2 rfl rfl (by omega) (k + 3) h.2.2.1 (by omega)
 have s3 := plCheckS c [c.lo, c.up, c.ti, c.fo] c.fo 3 rfl rfl (by omega) (k + 2) h.2.2.2.1 (by omega)
 have s4 := plCheckE c [c.lo, c.up, c.ti, c.fo] rfl k h (by omega)
 refine Eq.trans s0 ?_
 unfold firstE
 by_cases c0 : checkM c.lo = 0
 ·rw [if_pos c0, if_pos c0]
  refine Eq.trans s1 ?_
  unfold firstE
  by_cases c1 : checkM c.up = 0
  ·rw [if_pos c1, if_pos c1]
   refine Eq.trans s2 ?_
   unfold firstE
   by_cases c2 : checkM c.ti = 0
   ·rw [if_pos c2, if_pos c2]
    refine Eq.trans s3 ?_
    unfold firstE
    by_cases c3 : checkM c.fo = 0
    ·rw [if_pos c3, if_pos c3]
     refine Eq.trans s4 ?_
     unfold firstE
     rw [if_pos rfl]
    ·rw [if_neg c3, if_neg c3, if_neg c3]
   ·rw [if_neg c2, if_neg c2, if_neg c2]
  ·rw [if_neg c1, if_neg c1, if_neg c1]
 ·rw [if_neg c0, if_neg c0, if_neg c0]
theorem plData_ok (c : CaseS) (k : Nat) (h : plFewC c) (hk : 1000 ≤ k) : r37_Data.f k c.lo c.up c.ti c.fo c.ca c.ig = some ((caseData c).lo, (caseData c).up, (caseData c).ti, (caseData c).fo, (caseData c).ca, (caseData c).ig) := by
 unfold r37_Data.f caseData
 rw [plCheck_ok c k h hk]
 show (if caseChk c = 0 then _ else _) = _
 split <;> rfl
theorem plData_few {c : CaseS} (h : plFewC c) : plFewC (caseData c) := by
 unfold caseData
 split
 ·exact h
 ·exact ⟨plFewM_nil, plFewM_nil, plFewM_nil, plFewM_nil, Nat.zero_le _, Nat.zero_le _⟩
def optP (o : Option (List Int)) : List Int × Bool := match o with | some x => (x, true) | none => ([], false)
theorem plFind_go (a : Int) (t : ByteArray) : ∀ (rest pre : List Mp) (k : Nat), plFewM (pre ++ rest) → rest.length + 1 ≤ k →
  r11_find.l0 k (pre ++ rest) a t (pre.length : Int) = some (optP (findM rest a t))
 | [], pre, k, h1, h2 => by
  obtain ⟨k, rfl⟩ : ∃ j, k = j + 1 := ⟨k - 1, by omega⟩
  rw [r11_find.l0, if_neg (by simp)]
  rfl
 | x :: rest, pre, k, h1, h2 => by
  obtain ⟨k, rfl⟩ : ∃ j, k = j + 1 := ⟨k - 1, by omega⟩
  have hl := h1.1
  have hp : pre.length < 1000000000 := by simp at hl; omega
  have ex : (pre ++ [x]) ++ rest = pre ++ x :: rest := by simp
  have ih := plFind_go a t rest (pre ++ [x]) k (by rw [ex]; exact h1) (by simp at h2; omega)
  have el : ((pre ++ [x]).length : Int) = ((pre.length + 1 : Nat) : Int) := by simp
  rw [ex, el] at ih
  have hx := h1.2 x (by simp)
  rw [r11_find.l0, if_pos (by simp; omega), if_pos (by omega), rdM_mid, wrap_suc hp, ih]
  unfold findM
  rw [List.find?_cons]
  by_cases h3 : x.f0 = a
  ·rw [if_pos h3, dT h3]
   by_cases h4 : x.f2 = t
   ·rw [if_pos (by rw [h4]), dT h4]
    show (if ([] : List Int).length + x.f1.length < 17592186044416 then _ else _) = _
    rw [if_pos (by simp; omega)]
    rfl
   ·rw [if_neg (fun hh => h4 ((bytesEq_iff _ _).1 hh)), decide_eq_false h4]
    rfl
  ·rw [if_neg h3, decide_eq_false h3]
   rfl
theorem plGet_ok (l : List Mp) (a : Int) (t : ByteArray) (k : Nat) (h : plFewM l) (hk : 900 ≤ k) : r11_Get.f k l a t = some (optP (getM l a t)) := by
 have hv : r11_valid.f k l = some (if checkM l = 0 then l else []) := by
  unfold r11_valid.f
  rw [plCheckM_ok l k h hk]
  show (if checkM l = 0 then _ else _) = _
  split <;> rfl
 unfold r11_Get.f getM
 rw [hv]
 show (r11_find.f k (if checkM l = 0 then l else []) a t).bind _ = _
 by_cases hc : checkM l = 0
 ·rw [if_pos hc, if_pos hc]
  have : r11_find.f k l a t = _ := plFind_go a t l [] k h (by have := h.1; omega)
  rw [this]
  rfl
 ·rw [if_neg hc, if_neg hc]
  have : r11_find.f k [] a t = _ := plFind_go a t [] [] k plFewM_nil (by simp; omega)
  rw [this]
  rfl
theorem plMapd_ok (l : List Mp) (x : Int) (k : Nat) (h : plFewM l) (hk : 900 ≤ k) : r37_mapped.f k l x = some (mapdS l x) := by
 unfold r37_mapped.f mapdS
 have : r11_Get.f k l x (⟨#[]⟩ : ByteArray) = _ := plGet_ok l x tagE k h hk
 rw [this]
 cases getM l x tagE <;> rfl
theorem plHas_ok (l : List Rg) (c : Int) (k : Nat) (h : l.length ≤ 1000) (hk : l.length + 1 ≤ k) : r02_Has.f k l c = some (hasL l c) :=
 has_go l [] c k (by simp; omega) hk
theorem plNear_f (c : CaseS) (h4 : c.ca.length ≤ 12) (h5 : c.ig.length ≤ 12) : ∀ (rest pre : List Int) (k : Nat), (pre ++ rest).length < 1000000 → 2 * rest.length + 20 ≤ k →
  r37_near.l0 k (pre ++ rest) (pre.length : Int) 1 c.lo c.up c.ti c.fo c.ca c.ig = some (nearL c rest)
 | [], pre, k, h1, h2 => by
  obtain ⟨k, rfl⟩ : ∃ j, k = j + 2 := ⟨k - 2, by omega⟩
  rw [r37_near.l0, if_pos (by omega), decide_eq_false (by simp), r37_near.j1, if_neg (by decide)]
  rfl
 | x :: rest, pre, k, h1, h2 => by
  obtain ⟨k, rfl⟩ : ∃ j, k = j + 2 := ⟨k - 2, by omega⟩
  have hp : pre.length < 1000000000 := by simp at h1; omega
  have ih := plNear_f c h4 h5 rest (pre ++ [x]) k (by simpa using h1) (by simp at h2; omega)
  have ex : (pre ++ [x]) ++ rest = pre ++ x :: rest := by simp
  have el : ((pre ++ [x]).length : Int) = ((pre.length + 1 : Nat) : Int) := by simp
  rw [ex, el] at ih
  rw [r37_near.l0, if_pos (by omega), dT (by simp; omega), r37_near.j1, if_pos rfl, if_pos (by omega), if_pos (by simp; omega), rd_mid, wrap_suc hp, plHas_ok _ _ _ (by omega) (by simp at h2; omega), plHas_ok _ _ _ (by omega) (by simp at h2; omega), ih]
  show (if hasL c.ig x = true then _ else _) = _
  rw [nearL]
  split <;> rfl
theorem plNear_b (c : CaseS) (h4 : c.ca.length ≤ 12) (h5 : c.ig.length ≤ 12) : ∀ (rv suf : List Int) (k : Nat), (rv ++ suf).length < 1000000 → 2 * rv.length + 20 ≤ k →
  r37_near.l0 k (rv.reverse ++ suf) ((rv.length : Int) - 1) (-1) c.lo c.up c.ti c.fo c.ca c.ig = some (nearL c rv)
 | [], suf, k, h1, h2 => by
  obtain ⟨k, rfl⟩ : ∃ j, k = j + 2 := ⟨k - 2, by omega⟩
  rw [r37_near.l0, if_neg (by simp), r37_near.j1, if_neg (by decide)]
  rfl
 | x :: rv, suf, k, h1, h2 => by
  obtain ⟨k, rfl⟩ : ∃ j, k = j + 2 := ⟨k - 2, by omega⟩
  have hp : rv.length < 1000000 := by simp at h1; omega
  have ih := plNear_b c h4 h5 rv (x :: suf) k (by simp at h1 ⊢; omega) (by simp at h2; omega)
  have ex : (x :: rv).reverse ++ suf = rv.reverse ++ x :: suf := by simp
  have el : (((x :: rv).length : Nat) : Int) - 1 = ((rv.reverse.length : Nat) : Int) := by simp
  have ew : wrap64 (((rv.reverse.length : Nat) : Int) + -1) = (rv.length : Int) - 1 := by rw [List.length_reverse]; unfold wrap64; omega
  rw [ex, el, r37_near.l0, if_pos (by omega), dT (by simp; omega), r37_near.j1, if_pos rfl, if_pos (by omega), if_pos (by simp; omega), rd_mid, ew, plHas_ok _ _ _ (by omega) (by simp at h2; omega), plHas_ok _ _ _ (by omega) (by simp at h2; omega), ih]
  show (if hasL c.ig x = true then _ else _) = _
  rw [nearL]
  split <;> rfl
theorem plFinal_ok (c : CaseS) (text : List Int) (i k : Nat) (h : plFewC c) (hi : i < text.length) (ht : text.length ≤ 1000) (hk : 2100 ≤ k) :
  r37_final.f k c.lo c.up c.ti c.fo c.ca c.ig text (i : Int) = some (finalS c text i) := by
 have hb := plNear_b c h.2.2.2.2.1 h.2.2.2.2.2 (text.take i).reverse (text.drop i) k (by simp; omega) (by simp; omega)
 have hf := plNear_f c h.2.2.2.2.1 h.2.2.2.2.2 (text.drop (i + 1)) (text.take (i + 1)) k (by simp; omega) (by simp; omega)
 rw [List.reverse_reverse, List.take_append_drop, show (((text.take i).reverse.length : Nat) : Int) - 1 = (i : Int) - 1 by simp; omega] at hb
 rw [List.take_append_drop, show (((text.take (i + 1)).length : Nat) : Int) = ((i + 1 : Nat) : Int) by simp; omega] at hf
 unfold r37_final.f r37_near.f finalS
 rw [show wrap64 ((i : Int) - 1) = (i : Int) - 1 by unfold wrap64; omega, wrap_suc (by omega), hb, hf]
 simp only [Option.bind_some]
 cases nearL c (text.take i).reverse <;> rfl
theorem plRd (text : List Int) (i : Nat) : rd text (i : Int) = text.getD i 0 := by unfold rd; rw [Int.toNat_natCast]
theorem plLower_ok (c : CaseS) (text : List Int) (i k : Nat) (h : plFewC c) (hi : i < text.length) (ht : text.length ≤ 1000) (hk : 2100 ≤ k) :
  r37_lower.f k c.lo c.up c.ti c.fo c.ca c.ig text (i : Int) = some (lowerS c text i) := by
 have hg : r11_Get.f k c.lo (text.getD i 0) (⟨#[102, 105, 110, 97, 108]⟩ : ByteArray) = _ := plGet_ok c.lo (text.getD i 0) tagF k h.1 (by omega)
 have hm := plMapd_ok c.lo (text.getD i 0) k h.1 (by omega)
 have hf := plFinal_ok c text i k h hi ht hk
 unfold r37_lower.f lowerS
 rw [if_pos (by omega), if_pos (by omega), plRd, hg, hm, hf]
 simp only [Option.bind_some]
 cases getM c.lo (text.getD i 0) tagF with
 | none => rfl
 | some xs =>
  show (if finalS c text i = true then _ else _) = _
  show _ = some (if finalS c text i = true then xs else mapdS c.lo (text.getD i 0))
  split <;> rfl
theorem plWithin_go (n : Nat) : ∀ (rest pre : List Rg) (a : Int) (k : Nat), (pre ++ rest).length < 1000000 → rest.length + 1 ≤ k →
  r37_Within.l0 k (pre ++ rest) (n : Int) a (pre.length : Int) = some (withinS rest a n)
 | [], pre, a, k, h1, h2 => by
  obtain ⟨k, rfl⟩ : ∃ j, k = j + 1 := ⟨k - 1, by omega⟩
  rw [r37_Within.l0, if_neg (by simp)]
  rfl
 | x :: rest, pre, a, k, h1, h2 => by
  obtain ⟨k, rfl⟩ : ∃ j, k = j + 1 := ⟨k - 1, by omega⟩
  have hp : pre.length < 1000000000 := by simp at h1; omega
  have ih := plWithin_go n rest (pre ++ [x]) x.f1 k (by simpa using h1) (by simp at h2; omega)
  have ex : (pre ++ [x]) ++ rest = pre ++ x :: rest := by simp
  have el : ((pre ++ [x]).length : Int) = ((pre.length + 1 : Nat) : Int) := by simp
  rw [ex, el] at ih
  rw [r37_Within.l0, if_pos (by simp; omega), if_pos (by omega), rdG_mid, wrap_suc hp, ih, withinS]
  by_cases c1 : x.f0 < a
  ·rw [if_pos c1, decide_eq_false (by omega)]; rfl
  ·rw [if_neg c1, dT (by omega)]
   by_cases c2 : x.f1 < x.f0
   ·rw [if_pos c2, decide_eq_false (by omega)]; rfl
   ·rw [if_neg c2, dT (by omega)]
    by_cases c3 : x.f1 > (n : Int)
    ·rw [if_pos c3, decide_eq_false (by omega)]; rfl
    ·rw [if_neg c3, dT (by omega)]; rfl
theorem plTitled_len {c : CaseS} (h0 : okM c.lo = true) (h2 : okM c.ti = true) (text : List Int) : ∀ m i b, (titledS c text m i b).length ≤ 100000 * m
 | 0, i, b => by simp [titledS]
 | m + 1, i, b => by
  have a1 := plTitled_len h0 h2 text m (i + 1) true
  have a2 := plTitled_len h0 h2 text m (i + 1) false
  have l1 := lowerS_len h0 text i
  have l2 := mapdS_len h2 (text.getD i 0)
  rw [titledS]
  split
  ·rw [List.length_append]; omega
  ·split
   ·rw [List.length_append]; omega
   ·rw [List.length_cons]; omega
@[irreducible] def plW (d : Nat) : Int := 100000 * (d : Int)
theorem plW_eq (d : Nat) : plW d = 100000 * (d : Int) := by unfold plW; rfl
theorem plW_s (d : Nat) : plW (d + 1) = plW d + 100000 := by rw [plW_eq, plW_eq]; omega
@[irreducible] def plV (d : Nat) : Int := 5000000 * (d : Int)
theorem plV_eq (d : Nat) : plV d = 5000000 * (d : Int) := by unfold plV; rfl
theorem plV_s (d : Nat) : plV (d + 1) = plV d + 5000000 := by rw [plV_eq, plV_eq]; omega
theorem plTitled_go (c : CaseS) (text : List Int) (h : plFewC c) (ht : text.length ≤ 1000) (lo : Int) (hi : Nat) (hhi : hi ≤ text.length) : ∀ (d n k : Nat) (out : List Int) (b : Bool), n + d = hi → d + 2200 ≤ k → (out.length : Int) + plW d ≤ 1000000000 →
  r37_titled.l0 k text out b (n : Int) c.lo c.up c.ti c.fo c.ca c.ig lo (hi : Int) = some (out ++ titledS c text d n b) := by
 intro d
 induction d with
 | zero =>
  intro n k out b h1 h2 h3
  obtain ⟨k, rfl⟩ : ∃ j, k = j + 1 := ⟨k - 1, by omega⟩
  rw [r37_titled.l0, if_neg (by omega), titledS, List.append_nil]
 | succ d ihd =>
  intro n k out b h1 h2 h3
  rw [plW_s] at h3
  have hp0 : 0 ≤ plW d := by rw [plW_eq]; omega
  obtain ⟨k, rfl⟩ : ∃ j, k = j + 1 := ⟨k - 1, by omega⟩
  have l1 := lowerS_len (plOkM h.1) text n
  have l2 := mapdS_len (plOkM h.2.2.1) (text.getD n 0)
  rw [r37_titled.l0, if_pos (by omega), titledS, wrap_suc (by omega : n < 1000000000)]
  cases b with
  | true =>
   rw [if_pos rfl, if_pos rfl, plLower_ok c text n k h (by omega) ht (by omega)]
   show (if out.length + (lowerS c text n).length < 17592186044416 then _ else _) = _
   rw [if_pos (by omega), ihd (n + 1) k _ true (by omega) (by omega) (by rw [List.length_append]; omega), List.append_assoc]
  | false =>
   rw [if_neg (by decide : ¬ (false = true)), if_neg (by decide : ¬ (false = true)), if_pos (by omega), if_pos (by omega), plRd, plHas_ok _ _ _ (by have := h.2.2.2.2.1; omega) (by have := h.2.2.2.2.1; omega)]
   show (if hasL c.ca (text.getD n 0) = true then _ else _) = _
   by_cases hh : hasL c.ca (text.getD n 0) = true
   ·rw [if_pos hh, if_pos hh, plMapd_ok c.ti _ k h.2.2.1 (by omega)]
    show (if out.length + (mapdS c.ti (text.getD n 0)).length < 17592186044416 then _ else _) = _
    rw [if_pos (by omega), ihd (n + 1) k _ true (by omega) (by omega) (by rw [List.length_append]; omega), List.append_assoc]
   ·rw [if_neg hh, if_neg hh, if_pos (by omega), ihd (n + 1) k _ false (by omega) (by omega) (by rw [List.length_append, List.length_singleton]; omega), List.append_assoc]
    rfl
theorem plTitle_go (c : CaseS) (text : List Int) (h : plFewC c) (ht : text.length ≤ 40) : ∀ (rest pre : List Rg) (k a : Nat) (out : List Int), (pre ++ rest).length ≤ 40 → rest.length + 2300 ≤ k → withinS rest (a : Int) text.length = true → a ≤ text.length → (out.length : Int) + plV rest.length ≤ 500000000 →
  r37_Title.l0 k text (pre ++ rest) out (a : Int) (pre.length : Int) c.lo c.up c.ti c.fo c.ca c.ig = some (out ++ titleA c text rest a) := by
 intro rest
 induction rest with
 | nil =>
  intro pre k a out h1 h2 h3 h4 h5
  obtain ⟨k, rfl⟩ : ∃ j, k = j + 1 := ⟨k - 1, by omega⟩
  have : (text.drop a).length ≤ 40 := by simp; omega
  have h5 : out.length ≤ 500000000 := by rw [plV_eq] at h5; omega
  rw [r37_Title.l0, if_neg (by simp), if_pos (by omega), if_pos (by omega), Int.toNat_natCast, if_pos (by omega)]
  rfl
 | cons p rest ihd =>
  intro pre k a out h1 h2 h3 h4 h5
  obtain ⟨k, rfl⟩ : ∃ j, k = j + 1 := ⟨k - 1, by omega⟩
  rw [withinS] at h3
  rw [List.length_cons, plV_s] at h5
  have hp0 : 0 ≤ plV rest.length := by rw [plV_eq]; omega
  simp only [Bool.and_eq_true, decide_eq_true_eq] at h3
  obtain ⟨⟨⟨w1, w2⟩, w3⟩, w4⟩ := h3
  obtain ⟨lo, hlo⟩ : ∃ n : Nat, p.f0 = (n : Int) := ⟨p.f0.toNat, by omega⟩
  obtain ⟨hi, hhi⟩ : ∃ n : Nat, p.f1 = (n : Int) := ⟨p.f1.toNat, by omega⟩
  rw [hlo] at w1 w2
  rw [hhi] at w2 w3 w4
  have hp : pre.length < 1000000000 := by simp at h1; omega
  have tl := plTitled_len (plOkM h.1) (plOkM h.2.2.1) text (hi - lo) lo false
  have e1 : ((text.take lo).drop a).length ≤ 40 := by simp; omega
  have ih := ihd (pre ++ [p]) k hi (out ++ (text.take lo).drop a ++ titledS c text (hi - lo) lo false) (by simpa using h1) (by simp at h2; omega) w4 (by omega) (by simp only [List.length_append]; omega)
  have ex : (pre ++ [p]) ++ rest = pre ++ p :: rest := by simp
  have el : ((pre ++ [p]).length : Int) = ((pre.length + 1 : Nat) : Int) := by simp
  rw [ex, el] at ih
  have htd : r37_titled.f k c.lo c.up c.ti c.fo c.ca c.ig text (lo : Int) (hi : Int) = some ([] ++ titledS c text (hi - lo) lo false) :=
   plTitled_go c text h (by omega) (lo : Int) hi (by omega) (hi - lo) lo k [] false (by omega) (by simp at h2; omega) (by rw [plW_eq, List.length_nil]; omega)
  rw [r37_Title.l0, if_pos (by simp; omega), if_pos (by omega), if_pos (by omega), rdG_mid, hlo, hhi, if_pos (by omega), if_pos (by omega), Int.toNat_natCast, Int.toNat_natCast, if_pos (by omega), htd, List.nil_append, wrap_suc hp, titleA, hlo, hhi, Int.toNat_natCast, Int.toNat_natCast]
  show (if (out ++ (text.take lo).drop a).length + (titledS c text (hi - lo) lo false).length < 17592186044416 then _ else _) = _
  rw [if_pos (by rw [List.length_append]; omega), ih]
  simp only [List.append_assoc]
theorem plTitle_ok (c : CaseS) (text : List Int) (ps : List Rg) (k : Nat) (h : plFewC c) (ht : text.length ≤ 40) (hps : ps.length ≤ 40) (hk : 2400 ≤ k) :
  r37_Title.f k c.lo c.up c.ti c.fo c.ca c.ig text ps = some (TitleS c text ps) := by
 have hw : r37_Within.f k ps (text.length : Int) = _ := plWithin_go text.length ps [] 0 k (by simp; omega) (by omega)
 unfold r37_Title.f TitleS
 rw [plData_ok c k h (by omega)]
 simp only [Option.bind_some]
 rw [hw]
 show (if withinS ps 0 text.length = true then _ else _) = _
 by_cases hh : withinS ps 0 text.length = true
 ·rw [if_pos hh, if_pos hh]
  exact plTitle_go (caseData c) text (plData_few h) ht ps [] k 0 [] (by simpa using hps) (by omega) hh (Nat.zero_le _) (by rw [plV_eq, List.length_nil]; omega)
 ·rw [if_neg hh, if_neg hh]
  show (if ([] : List Int).length + text.length < 17592186044416 then _ else _) = _
  rw [if_pos (by simp; omega)]
  rfl
end Go.Proofs.Ythnkmcfhpjmihaa.Q
end
