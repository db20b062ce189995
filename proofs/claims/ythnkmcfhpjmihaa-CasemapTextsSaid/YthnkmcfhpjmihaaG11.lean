/- Lemmas, printed and written for this claim: part 11. -/
import Derived.Test.YthnkmcfhpjmihaaG2
import Derived.Test.YthnkmcfhpjmihaaG9
import Derived.Test.YthnkmcfhpjmihaaG7
import Derived.Test.YthnkmcfhpjmihaaG6
import Derived.Test.YthnkmcfhpjmihaaG10
import Derived.Test.YthnkmcfhpjmihaaG8
import Derived.WalkKit
import Derived.Test.YthnkmcfhpjmihaaG5
import Derived.Test.YthnkmcfhpjmihaaG4
import Derived.Test.YthnkmcfhpjmihaaG3
section
namespace Go.Proofs.Ythnkmcfhpjmihaa.Q
open Go.RowKit Go.Proofs.YthnkmcfhpjmihaaW.PrintWords Go.Proofs.YthnkmcfhpjmihaaW.PrintLast Go.Proofs.YthnkmcfhpjmihaaW.PrintMore
attribute [local go_sem] max2_int min2_int max_two min_two max_three min_three max_four min_four
set_option linter.unusedVariables false
set_option linter.unusedSimpArgs false
def r37_Upper.l0 : Nat → List Int → List Int → Int → List (S43) → List (S43) → List (S43) → List (S43) → List (S33) → List (S33) → Option (List Int)
 | 0, _, _, _, _, _, _, _, _, _ => none
 | k + 1, x1, x6, x7, x398000, x398001, x398002, x398003, x398004, x398005 => if x7 < (x1.length : Int) then (if 0 ≤ x7 then ((r37_mapped.f k x398001 (rd x1 x7)).bind fun t399 => (if x6.length + t399.length < 17592186044416 then (r37_Upper.l0 k x1 (x6 ++ t399) (wrap64 (x7 + 1)) x398000 x398001 x398002 x398003 x398004 x398005) else (none))) else (none)) else (some x6)
def r37_Upper.f (k : Nat) (l0_0 : List (S43)) (l0_1 : List (S43)) (l0_2 : List (S43)) (l0_3 : List (S43)) (l0_4 : List (S33)) (l0_5 : List (S33)) (l1 : List Int) : Option (List Int) := (r37_Data.f k l0_0 l0_1 l0_2 l0_3 l0_4 l0_5).bind fun bt379 => (r37_Upper.l0 k l1 ([] : List Int) 0 bt379.1 bt379.2.1 bt379.2.2.1 bt379.2.2.2.1 bt379.2.2.2.2.1 bt379.2.2.2.2.2)
def r37_Upper.T6 : Bool × List (List Nat × List Nat) := (true, [([], []), ([], []), ([1], [1]), ([], []), ([], []), ([3, 4], [3, 4]), ([5], [5]), ([2, 6], [2, 6]), ([0, 7, 7], [0, 7]), ([8, 8, 0, 1, 2, 3, 4, 5, 6, 7, 8], [0, 8])])
def r37_Upper.B6 : List Nat := [0, 0, 2, 0, 0, 24, 56, 126, 255, 511]
theorem r37_Upper.tab6 : rtab .any (opsOf Try.f25 6) = r37_Upper.T6 := by kernel_rfl
theorem r37_Upper.bits6 : waitsOk r37_Upper.T6.2 r37_Upper.B6 = true := by kernel_rfl
set_option maxHeartbeats 8000000 in
set_option maxRecDepth 100000 in
theorem r37_Upper.calls (k : Nat) (A0_0 : Option Addr) (c0_0 : Nat) (l0_0 : List (S43)) (A0_1 : Option Addr) (c0_1 : Nat) (l0_1 : List (S43)) (A0_2 : Option Addr) (c0_2 : Nat) (l0_2 : List (S43)) (A0_3 : Option Addr) (c0_3 : Nat) (l0_3 : List (S43)) (A0_4 : Option Addr) (c0_4 : Nat) (l0_4 : List (S33)) (A0_5 : Option Addr) (c0_5 : Nat) (l0_5 : List (S33)) (A1 : Option Addr) (c1 : Nat) (l1 : List Int) (r : List Int) (w : World) (hr0_0 : Kd.C k43 w A0_0 l0_0.length l0_0) (hc0_0 : l0_0.length ≤ c0_0) (hr0_1 : Kd.C k43 w A0_1 l0_1.length l0_1) (hc0_1 : l0_1.length ≤ c0_1) (hr0_2 : Kd.C k43 w A0_2 l0_2.length l0_2) (hc0_2 : l0_2.length ≤ c0_2) (hr0_3 : Kd.C k43 w A0_3 l0_3.length l0_3) (hc0_3 : l0_3.length ≤ c0_3) (hr0_4 : Kd.C k33 w A0_4 l0_4.length l0_4) (hc0_4 : l0_4.length ≤ c0_4) (hr0_5 : Kd.C k33 w A0_5 l0_5.length l0_5) (hc0_5 : l0_5.length ≤ c0_5) (hr1 : Kd.C (Kd.int .i64) w A1 l1.length l1) (hc1 : l1.length ≤ c1) (h : r37_Upper.f k l0_0 l0_1 l0_2 l0_3 l0_4 l0_5 l1 = some r) :
  Calls Try.prog 25 #[.agg #[.slice A0_0 l0_0.length c0_0, .slice A0_1 l0_1.length c0_1, .slice A0_2 l0_2.length c0_2, .slice A0_3 l0_3.length c0_3, .slice A0_4 l0_4.length c0_4, .slice A0_5 l0_5.length c0_5], .slice A1 l1.length c1] w fun e w' => ∃ v0_ : Value, e = .returned (v0_) ∧ Kd.R (Kd.int .i64) 3 w' w.heap.size (fun _ => True) v0_ r ∧ Below w.heap.size w w' := by
 have hu27 := Try.underlying27
 have HR0_0 := aM hr0_0
 have HC0_0 := aM hc0_0
 clear hr0_0 hc0_0
 have HR0_1 := aM hr0_1
 have HC0_1 := aM hc0_1
 clear hr0_1 hc0_1
 have HR0_2 := aM hr0_2
 have HC0_2 := aM hc0_2
 clear hr0_2 hc0_2
 have HR0_3 := aM hr0_3
 have HC0_3 := aM hc0_3
 clear hr0_3 hc0_3
 have HR0_4 := aM hr0_4
 have HC0_4 := aM hc0_4
 clear hr0_4 hc0_4
 have HR0_5 := aM hr0_5
 have HC0_5 := aM hc0_5
 clear hr0_5 hc0_5
 have HR1 := aM hr1
 have HC1 := aM hc1
 clear hr1 hc1
 have HB := aM (Below.refl w.heap.size w)
 have H : ((r37_Data.f k l0_0 l0_1 l0_2 l0_3 l0_4 l0_5).bind fun bt379 => (r37_Upper.l0 k l1 ([] : List Int) 0 bt379.1 bt379.2.1 bt379.2.2.1 bt379.2.2.2.1 bt379.2.2.2.2.1 bt379.2.2.2.2.2)) = some r := h
 clear h
 replace H := Option.bind_eq_some_iff.mp H
 obtain ⟨⟨t379, t382, t385, t388, t391, t394⟩, A30, H⟩ := H
 replace H : (r37_Upper.l0 k l1 ([] : List Int) 0 t379 t382 t385 t388 t391 t394) = some r := H
 have A3 := aM A30
 clear A30
 have H' := aM H
 clear H
 go_enter Try.func25, Try.ntmps25
 go_wp2_with (first | ((with_reducible refine gate_dst (N := 2) rfl ?_); refine box_event ?hg (N := 2) ?hd (cs := #[.slice A0_0 l0_0.length c0_0, .slice A0_1 l0_1.length c0_1, .slice A0_2 l0_2.length c0_2, .slice A0_3 l0_3.length c0_3, .slice A0_4 l0_4.length c0_4, .slice A0_5 l0_5.length c0_5]) (t := 27) ?hr ?_; (case hd => rfl); (case hg => rfl); (case hr => first | (go_simp; done) | (go_simp; rfl)); intro gb378 hg w4 hbox hb; have n0_ := aM (bSp (by repeat (first | (with_reducible first | exact HB.out | apply bAl | apply pbN | apply bD1) | exact HB.out)) hb); have n1_ := aM (hbox); have n2_ := aM ((by rw [hg]; exact (bSz (by repeat (first | (with_reducible first | exact HB.out | apply bAl | apply pbN | apply bD1) | exact HB.out))) : w.heap.size ≤ gb378)); have n3_ := aM ((by rw [hg]; exact (bSz (by repeat (first | (with_reducible first | exact HB.out | apply bAl | apply pbN | apply bD1) | exact HB.out))) : w.heap.size ≤ gb378)); clear HB; have HB := n0_; have BK378 := n1_; have GW378 := n2_; have GE378 := n3_; clear n0_ n1_ n2_ n3_; clear hb hbox hg; have hcz5_0 : w4.cell? ⟨gb378, 0, none⟩ = some (.slice A0_0 l0_0.length c0_0) := (bkC BK378.out 0).trans rfl; have hcz5_1 : w4.cell? ⟨gb378, 1, none⟩ = some (.slice A0_1 l0_1.length c0_1) := (bkC BK378.out 1).trans rfl; have hcz5_2 : w4.cell? ⟨gb378, 2, none⟩ = some (.slice A0_2 l0_2.length c0_2) := (bkC BK378.out 2).trans rfl; have hcz5_3 : w4.cell? ⟨gb378, 3, none⟩ = some (.slice A0_3 l0_3.length c0_3) := (bkC BK378.out 3).trans rfl; have hcz5_4 : w4.cell? ⟨gb378, 4, none⟩ = some (.slice A0_4 l0_4.length c0_4) := (bkC BK378.out 4).trans rfl; have hcz5_5 : w4.cell? ⟨gb378, 5, none⟩ = some (.slice A0_5 l0_5.length c0_5) := (bkC BK378.out 5).trans rfl; have hfz5_0 := bkF BK378.out 0; have hfz5_1 := bkF BK378.out 1; have hfz5_2 := bkF BK378.out 2; have hfz5_3 := bkF BK378.out 3; have hfz5_4 := bkF BK378.out 4; have hfz5_5 := bkF BK378.out 5) | ((with_reducible refine gate_callee (f := 47) rfl ?_); refine goesL_ (some 9) rfl rfl Try.func47 (by kernel_rfl) rfl #[.agg #[.slice A0_0 l0_0.length c0_0, .slice A0_1 l0_1.length c0_1, .slice A0_2 l0_2.length c0_2, .slice A0_3 l0_3.length c0_3, .slice A0_4 l0_4.length c0_4, .slice A0_5 l0_5.length c0_5]] rfl (by (try simp only [List.map_toArray, List.map_cons, List.map_nil]); first | done | rfl | (simp only [List.length_drop, List.length_take]; rfl)) ?_; (with_reducible refine (r37_Data.calls k (fun k_ => k_ < w.heap.size) _ _ l0_0 (fun k_ => k_ < w.heap.size) _ _ l0_1 (fun k_ => k_ < w.heap.size) _ _ l0_2 (fun k_ => k_ < w.heap.size) _ _ l0_3 (fun k_ => k_ < w.heap.size) _ _ l0_4 (fun k_ => k_ < w.heap.size) _ _ l0_5 t379 t382 t385 t388 t391 t394 _ ?side1 ?side2 ?side3 ?side4 ?side5 ?side6 A3.out).mono ?_); (case side1 => exact Kd.V_mk HC0_0.out (Kd.F_below (Kd.C_F k43_heap HR0_0.out) (by repeat (first | (with_reducible first | exact HB.out | apply bAl | apply pbN | apply bD1 | refine bSt ?_ GE378.out) | exact HB.out)))); (case side2 => exact Kd.V_mk HC0_1.out (Kd.F_below (Kd.C_F k43_heap HR0_1.out) (by repeat (first | (with_reducible first | exact HB.out | apply bAl | apply pbN | apply bD1 | refine bSt ?_ GE378.out) | exact HB.out)))); (case side3 => exact Kd.V_mk HC0_2.out (Kd.F_below (Kd.C_F k43_heap HR0_2.out) (by repeat (first | (with_reducible first | exact HB.out | apply bAl | apply pbN | apply bD1 | refine bSt ?_ GE378.out) | exact HB.out)))); (case side4 => exact Kd.V_mk HC0_3.out (Kd.F_below (Kd.C_F k43_heap HR0_3.out) (by repeat (first | (with_reducible first | exact HB.out | apply bAl | apply pbN | apply bD1 | refine bSt ?_ GE378.out) | exact HB.out)))); (case side5 => exact Kd.V_mk HC0_4.out (Kd.F_below (Kd.C_F k33_heap HR0_4.out) (by repeat (first | (with_reducible first | exact HB.out | apply bAl | apply pbN | apply bD1 | refine bSt ?_ GE378.out) | exact HB.out)))); (case side6 => exact Kd.V_mk HC0_5.out (Kd.F_below (Kd.C_F k33_heap HR0_5.out) (by repeat (first | (with_reducible first | exact HB.out | apply bAl | apply pbN | apply bD1 | refine bSt ?_ GE378.out) | exact HB.out)))); rintro e w6 ⟨v380, v383, v386, v389, v392, v395, rfl, ho0, ho1, ho2, ho3, ho4, ho5, hb⟩; refine ⟨_, rfl, ?_⟩; have n0_ := aM (Kd.V_lower (Kd.V_mono (ok' := fun k_ => k_ ≠ gb378) ho0 (fun k_ hk_ => Or.elim hk_ (fun hs_ => Or.elim hs_ (fun hs_ => fun e_ => Nat.not_le.2 hs_ (by rw [e_]; exact GW378.out)) (fun hs_ => Or.elim hs_ (fun hs_ => fun e_ => Nat.not_le.2 hs_ (by rw [e_]; exact GW378.out)) (fun hs_ => Or.elim hs_ (fun hs_ => fun e_ => Nat.not_le.2 hs_ (by rw [e_]; exact GW378.out)) (fun hs_ => Or.elim hs_ (fun hs_ => fun e_ => Nat.not_le.2 hs_ (by rw [e_]; exact GW378.out)) (fun hs_ => Or.elim hs_ (fun hs_ => fun e_ => Nat.not_le.2 hs_ (by rw [e_]; exact GW378.out)) (fun hs_ => fun e_ => Nat.not_le.2 hs_ (by rw [e_]; exact GW378.out))))))) (fun hn_ => (Kd.freshB (g := gb378) (o := .cells #[.slice A0_0 l0_0.length c0_0, .slice A0_1 l0_1.length c0_1, .slice A0_2 l0_2.length c0_2, .slice A0_3 l0_3.length c0_3, .slice A0_4 l0_4.length c0_4, .slice A0_5 l0_5.length c0_5] 27 (0, 0)) (by (with_reducible repeat (first | refine bkN ?_ _ | refine bkD ?_ | refine bkA ?_ _)); exact BK378.out) k_ hn_)))) (bSz (by repeat (first | (with_reducible first | exact HB.out | apply bAl | apply pbN | apply bD1 | refine bSt ?_ GE378.out) | exact HB.out)))); have n1_ := aM (Kd.V_lower (Kd.V_mono (ok' := fun k_ => k_ ≠ gb378) ho1 (fun k_ hk_ => Or.elim hk_ (fun hs_ => Or.elim hs_ (fun hs_ => fun e_ => Nat.not_le.2 hs_ (by rw [e_]; exact GW378.out)) (fun hs_ => Or.elim hs_ (fun hs_ => fun e_ => Nat.not_le.2 hs_ (by rw [e_]; exact GW378.out)) (fun hs_ => Or.elim hs_ (fun hs_ => fun e_ => Nat.not_le.2 hs_ (by rw [e_]; exact GW378.out)) (fun hs_ => Or.elim hs_ (fun hs_ => fun e_ => Nat.not_le.2 hs_ (by rw [e_]; exact GW378.out)) (fun hs_ => Or.elim hs_ (fun hs_ => fun e_ => Nat.not_le.2 hs_ (by rw [e_]; exact GW378.out)) (fun hs_ => fun e_ => Nat.not_le.2 hs_ (by rw [e_]; exact GW378.out))))))) (fun hn_ => (Kd.freshB (g := gb378) (o := .cells #[.slice A0_0 l0_0.length c0_0, .slice A0_1 l0_1.length c0_1, .slice A0_2 l0_2.length c0_2, .slice A0_3 l0_3.length c0_3, .slice A0_4 l0_4.length c0_4, .slice A0_5 l0_5.length c0_5] 27 (0, 0)) (by (with_reducible repeat (first | refine bkN ?_ _ | refine bkD ?_ | refine bkA ?_ _)); exact BK378.out) k_ hn_)))) (bSz (by repeat (first | (with_reducible first | exact HB.out | apply bAl | apply pbN | apply bD1 | refine bSt ?_ GE378.out) | exact HB.out)))); have n2_ := aM (Kd.V_lower (Kd.V_mono (ok' := fun k_ => k_ ≠ gb378) ho2 (fun k_ hk_ => Or.elim hk_ (fun hs_ => Or.elim hs_ (fun hs_ => fun e_ => Nat.not_le.2 hs_ (by rw [e_]; exact GW378.out)) (fun hs_ => Or.elim hs_ (fun hs_ => fun e_ => Nat.not_le.2 hs_ (by rw [e_]; exact GW378.out)) (fun hs_ => Or.elim hs_ (fun hs_ => fun e_ => Nat.not_le.2 hs_ (by rw [e_]; exact GW378.out)) (fun hs_ => Or.elim hs_ (fun hs_ => fun e_ => Nat.not_le.2 hs_ (by rw [e_]; exact GW378.out)) (fun hs_ => Or.elim hs_ (fun hs_ => fun e_ => Nat.not_le.2 hs_ (by rw [e_]; exact GW378.out)) (fun hs_ => fun e_ => Nat.not_le.2 hs_ (by rw [e_]; exact GW378.out))))))) (fun hn_ => (Kd.freshB (g := gb378) (o := .cells #[.slice A0_0 l0_0.length c0_0, .slice A0_1 l0_1.length c0_1, .slice A0_2 l0_2.length c0_2, .slice A0_3 l0_3.length c0_3, .slice A0_4 l0_4.length c0_4, .slice A0_5 l0_5.length c0_5] 27 (0, 0)) (by (with_reducible repeat (first | refine bkN ?_ _ | refine bkD ?_ | refine bkA ?_ _)); exact BK378.out) k_ hn_)))) (bSz (by repeat (first | (with_reducible first | exact HB.out | apply bAl | apply pbN | apply bD1 | refine bSt ?_ GE378.out) | exact HB.out)))); have n3_ := aM (Kd.V_lower (Kd.V_mono (ok' := fun k_ => k_ ≠ gb378) ho3 (fun k_ hk_ => Or.elim hk_ (fun hs_ => Or.elim hs_ (fun hs_ => fun e_ => Nat.not_le.2 hs_ (by rw [e_]; exact GW378.out)) (fun hs_ => Or.elim hs_ (fun hs_ => fun e_ => Nat.not_le.2 hs_ (by rw [e_]; exact GW378.out)) (fun hs_ => Or.elim hs_ (fun hs_ => fun e_ => Nat.not_le.2 hs_ (by rw [e_]; exact GW378.out)) (fun hs_ => Or.elim hs_ (fun hs_ => fun e_ => Nat.not_le.2 hs_ (by rw [e_]; exact GW378.out)) (fun hs_ => Or.elim hs_ (fun hs_ => fun e_ => Nat.not_le.2 hs_ (by rw [e_]; exact GW378.out)) (fun hs_ => fun e_ => Nat.not_le.2 hs_ (by rw [e_]; exact GW378.out))))))) (fun hn_ => (Kd.freshB (g := gb378) (o := .cells #[.slice A0_0 l0_0.length c0_0, .slice A0_1 l0_1.length c0_1, .slice A0_2 l0_2.length c0_2, .slice A0_3 l0_3.length c0_3, .slice A0_4 l0_4.length c0_4, .slice A0_5 l0_5.length c0_5] 27 (0, 0)) (by (with_reducible repeat (first | refine bkN ?_ _ | refine bkD ?_ | refine bkA ?_ _)); exact BK378.out) k_ hn_)))) (bSz (by repeat (first | (with_reducible first | exact HB.out | apply bAl | apply pbN | apply bD1 | refine bSt ?_ GE378.out) | exact HB.out)))); have n4_ := aM (Kd.V_lower (Kd.V_mono (ok' := fun k_ => k_ ≠ gb378) ho4 (fun k_ hk_ => Or.elim hk_ (fun hs_ => Or.elim hs_ (fun hs_ => fun e_ => Nat.not_le.2 hs_ (by rw [e_]; exact GW378.out)) (fun hs_ => Or.elim hs_ (fun hs_ => fun e_ => Nat.not_le.2 hs_ (by rw [e_]; exact GW378.out)) (fun hs_ => Or.elim hs_ (fun hs_ => fun e_ => Nat.not_le.2 hs_ (by rw [e_]; exact GW378.out)) (fun hs_ => Or.elim hs_ (fun hs_ => fun e_ => Nat.not_le.2 hs_ (by rw [e_]; exact GW378.out)) (fun hs_ => Or.elim hs_ (fun hs_ => fun e_ => Nat.not_le.2 hs_ (by rw [e_]; exact GW378.out)) (fun hs_ => fun e_ => Nat.not_le.2 hs_ (by rw [e_]; exact GW378.out))))))) (fun hn_ => (Kd.freshB (g := gb378) (o := .cells #[.slice A0_0 l0_0.length c0_0, .slice A0_1 l0_1.length c0_1, .slice A0_2 l0_2.length c0_2, .slice A0_3 l0_3.length c0_3, .slice A0_4 l0_4.length c0_4, .slice A0_5 l0_5.length c0_5] 27 (0, 0)) (by (with_reducible repeat (first | refine bkN ?_ _ | refine bkD ?_ | refine bkA ?_ _)); exact BK378.out) k_ hn_)))) (bSz (by repeat (first | (with_reducible first | exact HB.out | apply bAl | apply pbN | apply bD1 | refine bSt ?_ GE378.out) | exact HB.out)))); have n5_ := aM (Kd.V_lower (Kd.V_mono (ok' := fun k_ => k_ ≠ gb378) ho5 (fun k_ hk_ => Or.elim hk_ (fun hs_ => Or.elim hs_ (fun hs_ => fun e_ => Nat.not_le.2 hs_ (by rw [e_]; exact GW378.out)) (fun hs_ => Or.elim hs_ (fun hs_ => fun e_ => Nat.not_le.2 hs_ (by rw [e_]; exact GW378.out)) (fun hs_ => Or.elim hs_ (fun hs_ => fun e_ => Nat.not_le.2 hs_ (by rw [e_]; exact GW378.out)) (fun hs_ => Or.elim hs_ (fun hs_ => fun e_ => Nat.not_le.2 hs_ (by rw [e_]; exact GW378.out)) (fun hs_ => Or.elim hs_ (fun hs_ => fun e_ => Nat.not_le.2 hs_ (by rw [e_]; exact GW378.out)) (fun hs_ => fun e_ => Nat.not_le.2 hs_ (by rw [e_]; exact GW378.out))))))) (fun hn_ => (Kd.freshB (g := gb378) (o := .cells #[.slice A0_0 l0_0.length c0_0, .slice A0_1 l0_1.length c0_1, .slice A0_2 l0_2.length c0_2, .slice A0_3 l0_3.length c0_3, .slice A0_4 l0_4.length c0_4, .slice A0_5 l0_5.length c0_5] 27 (0, 0)) (by (with_reducible repeat (first | refine bkN ?_ _ | refine bkD ?_ | refine bkA ?_ _)); exact BK378.out) k_ hn_)))) (bSz (by repeat (first | (with_reducible first | exact HB.out | apply bAl | apply pbN | apply bD1 | refine bSt ?_ GE378.out) | exact HB.out)))); have n6_ := aM (blk_below (g := gb378) (o := .cells #[.slice A0_0 l0_0.length c0_0, .slice A0_1 l0_1.length c0_1, .slice A0_2 l0_2.length c0_2, .slice A0_3 l0_3.length c0_3, .slice A0_4 l0_4.length c0_4, .slice A0_5 l0_5.length c0_5] 27 (0, 0)) (by (with_reducible repeat (first | refine bkN ?_ _ | refine bkD ?_ | refine bkA ?_ _)); exact BK378.out) hb); have n7_ := aM (bSp (by repeat (first | (with_reducible first | exact HB.out | apply bAl | apply pbN | apply bD1 | refine bSt ?_ GE378.out) | exact HB.out)) hb); clear BK378; clear HB; have HO381 := n0_; have HO384 := n1_; have HO387 := n2_; have HO390 := n3_; have HO393 := n4_; have HO396 := n5_; have BK378 := n6_; have HB := n7_; clear n0_ n1_ n2_ n3_ n4_ n5_ n6_ n7_; (try clear hb); (try clear hb2); (try clear hk); (try clear hi); (try clear ho0); (try clear ho1); (try clear ho2); (try clear ho3); (try clear ho4); (try clear ho5)) | ((with_reducible refine gate_dst (N := 5) rfl ?_); refine box_event ?hg (N := 5) ?hd (cs := #[.slice none 0 0, .slice none 0 0, .slice none 0 0, .slice none 0 0, .slice none 0 0, .slice none 0 0]) (t := 27) ?hr ?_; (case hd => rfl); (case hg => rfl); (case hr => first | (go_simp; done) | (go_simp; rfl)); intro gb397 hg w7 hbox hb; have n0_ := aM (Kd.V_below (Kd.V_elderB (by (with_reducible repeat (first | apply Kd.V_alloc | apply Kd.V_drewN | apply Kd.V_drew)); exact HO381.out) gb397 (Nat.le_of_eq hg.symm)) hb); have n1_ := aM (Kd.V_below (Kd.V_elderB (by (with_reducible repeat (first | apply Kd.V_alloc | apply Kd.V_drewN | apply Kd.V_drew)); exact HO384.out) gb397 (Nat.le_of_eq hg.symm)) hb); have n2_ := aM (Kd.V_below (Kd.V_elderB (by (with_reducible repeat (first | apply Kd.V_alloc | apply Kd.V_drewN | apply Kd.V_drew)); exact HO387.out) gb397 (Nat.le_of_eq hg.symm)) hb); have n3_ := aM (Kd.V_below (Kd.V_elderB (by (with_reducible repeat (first | apply Kd.V_alloc | apply Kd.V_drewN | apply Kd.V_drew)); exact HO390.out) gb397 (Nat.le_of_eq hg.symm)) hb); have n4_ := aM (Kd.V_below (Kd.V_elderB (by (with_reducible repeat (first | apply Kd.V_alloc | apply Kd.V_drewN | apply Kd.V_drew)); exact HO393.out) gb397 (Nat.le_of_eq hg.symm)) hb); have n5_ := aM (Kd.V_below (Kd.V_elderB (by (with_reducible repeat (first | apply Kd.V_alloc | apply Kd.V_drewN | apply Kd.V_drew)); exact HO396.out) gb397 (Nat.le_of_eq hg.symm)) hb); have n6_ := aM (blk_below (g := gb378) (o := .cells #[.slice A0_0 l0_0.length c0_0, .slice A0_1 l0_1.length c0_1, .slice A0_2 l0_2.length c0_2, .slice A0_3 l0_3.length c0_3, .slice A0_4 l0_4.length c0_4, .slice A0_5 l0_5.length c0_5] 27 (0, 0)) (by (with_reducible repeat (first | refine bkN ?_ _ | refine bkD ?_ | refine bkA ?_ _)); exact BK378.out) hb); have n7_ := aM (bSp (by repeat (first | (with_reducible first | exact HB.out | apply bAl | apply pbN | apply bD1 | refine bSt ?_ GE378.out) | exact HB.out)) hb); have n8_ := aM (hbox); have n9_ := aM ((by rw [hg]; exact (bSz (by repeat (first | (with_reducible first | exact HB.out | apply bAl | apply pbN | apply bD1 | refine bSt ?_ GE378.out) | exact HB.out))) : w.heap.size ≤ gb397)); have n10_ := aM ((by rw [hg]; exact (bSz (by repeat (first | (with_reducible first | exact HB.out | apply bAl | apply pbN | apply bD1 | refine bSt ?_ GE378.out) | exact HB.out))) : w.heap.size ≤ gb397)); have n11_ := aM ((by rw [hg]; exact Nat.ne_of_lt (blk_lt (g := gb378) (o := .cells #[.slice A0_0 l0_0.length c0_0, .slice A0_1 l0_1.length c0_1, .slice A0_2 l0_2.length c0_2, .slice A0_3 l0_3.length c0_3, .slice A0_4 l0_4.length c0_4, .slice A0_5 l0_5.length c0_5] 27 (0, 0)) (by (with_reducible repeat (first | refine bkN ?_ _ | refine bkD ?_ | refine bkA ?_ _)); exact BK378.out)) : gb378 ≠ gb397)); have n12_ := aM ((by rw [hg]; exact Nat.ne_of_gt (blk_lt (g := gb378) (o := .cells #[.slice A0_0 l0_0.length c0_0, .slice A0_1 l0_1.length c0_1, .slice A0_2 l0_2.length c0_2, .slice A0_3 l0_3.length c0_3, .slice A0_4 l0_4.length c0_4, .slice A0_5 l0_5.length c0_5] 27 (0, 0)) (by (with_reducible repeat (first | refine bkN ?_ _ | refine bkD ?_ | refine bkA ?_ _)); exact BK378.out)) : gb397 ≠ gb378)); clear HO381; clear HO384; clear HO387; clear HO390; clear HO393; clear HO396; clear BK378; clear HB; have HO381 := n0_; have HO384 := n1_; have HO387 := n2_; have HO390 := n3_; have HO393 := n4_; have HO396 := n5_; have BK378 := n6_; have HB := n7_; have BK397 := n8_; have GW397 := n9_; have GE397 := n10_; have NB378_397 := n11_; have NB397_378 := n12_; clear n0_ n1_ n2_ n3_ n4_ n5_ n6_ n7_ n8_ n9_ n10_ n11_ n12_; clear hb hbox hg; obtain ⟨Ao8, co8, eo8⟩ := Kd.V_slice HO381.out; subst eo8; have hnb9 := NB397_378.out; have hnc9 := NB378_397.out; have hcz10_0 : w7.cell? ⟨gb397, 0, none⟩ = some (.slice none 0 0) := (bkC BK397.out 0).trans rfl; have hcz10_1 : w7.cell? ⟨gb397, 1, none⟩ = some (.slice none 0 0) := (bkC BK397.out 1).trans rfl; have hcz10_2 : w7.cell? ⟨gb397, 2, none⟩ = some (.slice none 0 0) := (bkC BK397.out 2).trans rfl; have hcz10_3 : w7.cell? ⟨gb397, 3, none⟩ = some (.slice none 0 0) := (bkC BK397.out 3).trans rfl; have hcz10_4 : w7.cell? ⟨gb397, 4, none⟩ = some (.slice none 0 0) := (bkC BK397.out 4).trans rfl; have hcz10_5 : w7.cell? ⟨gb397, 5, none⟩ = some (.slice none 0 0) := (bkC BK397.out 5).trans rfl; have hfz10_0 := bkF BK397.out 0; have hfz10_1 := bkF BK397.out 1; have hfz10_2 := bkF BK397.out 2; have hfz10_3 := bkF BK397.out 3; have hfz10_4 := bkF BK397.out 4; have hfz10_5 := bkF BK397.out 5; obtain ⟨Ao11, co11, eo11⟩ := Kd.V_slice HO384.out; subst eo11; obtain ⟨Ao12, co12, eo12⟩ := Kd.V_slice HO387.out; subst eo12; obtain ⟨Ao13, co13, eo13⟩ := Kd.V_slice HO390.out; subst eo13; obtain ⟨Ao14, co14, eo14⟩ := Kd.V_slice HO393.out; subst eo14; obtain ⟨Ao15, co15, eo15⟩ := Kd.V_slice HO396.out; subst eo15))
 go_loopg [6, 7] k (fun kq v6 v7 w' => ∃ (x6_1 : List Int) (x7_1 : Int), v7 = .int .i64 x7_1 ∧ Aside0 (r37_Upper.l0 kq l1 x6_1 x7_1 t379 t382 t385 t388 t391 t394 = some r) ∧ Aside0 (kq ≤ k) ∧ Aside0 (Kd.R (Kd.int .i64) 3 w' w.heap.size (fun _ => True) v6 x6_1) ∧ Aside0 (Kd.V k43 43 w' w.heap.size (fun k_ => some k_ ≠ (v6 : Value).ownBlock ∧ k_ ≠ gb378 ∧ k_ ≠ gb397) (.slice Ao8 t379.length co8) t379) ∧ Aside0 (Kd.V k43 43 w' w.heap.size (fun k_ => some k_ ≠ (v6 : Value).ownBlock ∧ k_ ≠ gb378 ∧ k_ ≠ gb397) (.slice Ao11 t382.length co11) t382) ∧ Aside0 (Kd.V k43 43 w' w.heap.size (fun k_ => some k_ ≠ (v6 : Value).ownBlock ∧ k_ ≠ gb378 ∧ k_ ≠ gb397) (.slice Ao12 t385.length co12) t385) ∧ Aside0 (Kd.V k43 43 w' w.heap.size (fun k_ => some k_ ≠ (v6 : Value).ownBlock ∧ k_ ≠ gb378 ∧ k_ ≠ gb397) (.slice Ao13 t388.length co13) t388) ∧ Aside0 (Kd.V k33 33 w' w.heap.size (fun k_ => some k_ ≠ (v6 : Value).ownBlock ∧ k_ ≠ gb378 ∧ k_ ≠ gb397) (.slice Ao14 t391.length co14) t391) ∧ Aside0 (Kd.V k33 33 w' w.heap.size (fun k_ => some k_ ≠ (v6 : Value).ownBlock ∧ k_ ≠ gb378 ∧ k_ ≠ gb397) (.slice Ao15 t394.length co15) t394) ∧ Aside0 (w'.heap[gb378]? = some (.cells #[(.slice A0_0 l0_0.length c0_0), (.slice A0_1 l0_1.length c0_1), (.slice A0_2 l0_2.length c0_2), (.slice A0_3 l0_3.length c0_3), (.slice A0_4 l0_4.length c0_4), (.slice A0_5 l0_5.length c0_5)] 27 (0, 0))) ∧ Aside0 (w'.heap[gb397]? = some (.cells #[(.slice Ao8 t379.length co8), (.slice Ao11 t382.length co11), (.slice Ao12 t385.length co12), (.slice Ao13 t388.length co13), (.slice Ao14 t391.length co14), (.slice Ao15 t394.length co15)] 27 (0, 0))) ∧ Aside0 (Below w.heap.size w w'))
 case atStart => exact ⟨(([] : List Int)), (0), (by first | rfl | (simp; done) | (simp [*]; done)), H', ⟨Nat.le_refl _⟩, ⟨by first | exact Kd.R_nil _ _ _ _ _ | exact Kd.N_nil _ _ _ _ _ | exact Kd.V_nil _ _ _ _ _ | exact Kd.Q_nil _ _ _ _ _ | exact Kd.S_nil _ _ _ _ _⟩, ⟨by (with_reducible repeat (first | apply Kd.V_alloc | apply Kd.V_drewN | apply Kd.V_drew)); exact Kd.V_mono (Kd.V_far (p := ⟨gb397, 5, none⟩) (Kd.V_far (p := ⟨gb397, 4, none⟩) (Kd.V_far (p := ⟨gb397, 3, none⟩) (Kd.V_far (p := ⟨gb397, 2, none⟩) (Kd.V_far (p := ⟨gb397, 1, none⟩) (Kd.V_far (p := ⟨gb397, 0, none⟩) (Kd.V_mono HO381.out (fun k_ hk => (⟨hk, hk.2⟩ : _ ∧ k_ ≠ gb397))) (fun _ hk => hk.2) (.slice Ao8 t379.length co8)) (fun _ hk => hk.2) (.slice Ao11 t382.length co11)) (fun _ hk => hk.2) (.slice Ao12 t385.length co12)) (fun _ hk => hk.2) (.slice Ao13 t388.length co13)) (fun _ hk => hk.2) (.slice Ao14 t391.length co14)) (fun _ hk => hk.2) (.slice Ao15 t394.length co15)) (fun _ hk => ⟨(by simp [Value.ownBlock]), ⟨hk.1.1, hk.1.2⟩⟩)⟩, ⟨by (with_reducible repeat (first | apply Kd.V_alloc | apply Kd.V_drewN | apply Kd.V_drew)); exact Kd.V_mono (Kd.V_far (p := ⟨gb397, 5, none⟩) (Kd.V_far (p := ⟨gb397, 4, none⟩) (Kd.V_far (p := ⟨gb397, 3, none⟩) (Kd.V_far (p := ⟨gb397, 2, none⟩) (Kd.V_far (p := ⟨gb397, 1, none⟩) (Kd.V_far (p := ⟨gb397, 0, none⟩) (Kd.V_mono HO384.out (fun k_ hk => (⟨hk, hk.2⟩ : _ ∧ k_ ≠ gb397))) (fun _ hk => hk.2) (.slice Ao8 t379.length co8)) (fun _ hk => hk.2) (.slice Ao11 t382.length co11)) (fun _ hk => hk.2) (.slice Ao12 t385.length co12)) (fun _ hk => hk.2) (.slice Ao13 t388.length co13)) (fun _ hk => hk.2) (.slice Ao14 t391.length co14)) (fun _ hk => hk.2) (.slice Ao15 t394.length co15)) (fun _ hk => ⟨(by simp [Value.ownBlock]), ⟨hk.1.1, hk.1.2⟩⟩)⟩, ⟨by (with_reducible repeat (first | apply Kd.V_alloc | apply Kd.V_drewN | apply Kd.V_drew)); exact Kd.V_mono (Kd.V_far (p := ⟨gb397, 5, none⟩) (Kd.V_far (p := ⟨gb397, 4, none⟩) (Kd.V_far (p := ⟨gb397, 3, none⟩) (Kd.V_far (p := ⟨gb397, 2, none⟩) (Kd.V_far (p := ⟨gb397, 1, none⟩) (Kd.V_far (p := ⟨gb397, 0, none⟩) (Kd.V_mono HO387.out (fun k_ hk => (⟨hk, hk.2⟩ : _ ∧ k_ ≠ gb397))) (fun _ hk => hk.2) (.slice Ao8 t379.length co8)) (fun _ hk => hk.2) (.slice Ao11 t382.length co11)) (fun _ hk => hk.2) (.slice Ao12 t385.length co12)) (fun _ hk => hk.2) (.slice Ao13 t388.length co13)) (fun _ hk => hk.2) (.slice Ao14 t391.length co14)) (fun _ hk => hk.2) (.slice Ao15 t394.length co15)) (fun _ hk => ⟨(by simp [Value.ownBlock]), ⟨hk.1.1, hk.1.2⟩⟩)⟩, ⟨by (with_reducible repeat (first | apply Kd.V_alloc | apply Kd.V_drewN | apply Kd.V_drew)); exact Kd.V_mono (Kd.V_far (p := ⟨gb397, 5, none⟩) (Kd.V_far (p := ⟨gb397, 4, none⟩) (Kd.V_far (p := ⟨gb397, 3, none⟩) (Kd.V_far (p := ⟨gb397, 2, none⟩) (Kd.V_far (p := ⟨gb397, 1, none⟩) (Kd.V_far (p := ⟨gb397, 0, none⟩) (Kd.V_mono HO390.out (fun k_ hk => (⟨hk, hk.2⟩ : _ ∧ k_ ≠ gb397))) (fun _ hk => hk.2) (.slice Ao8 t379.length co8)) (fun _ hk => hk.2) (.slice Ao11 t382.length co11)) (fun _ hk => hk.2) (.slice Ao12 t385.length co12)) (fun _ hk => hk.2) (.slice Ao13 t388.length co13)) (fun _ hk => hk.2) (.slice Ao14 t391.length co14)) (fun _ hk => hk.2) (.slice Ao15 t394.length co15)) (fun _ hk => ⟨(by simp [Value.ownBlock]), ⟨hk.1.1, hk.1.2⟩⟩)⟩, ⟨by (with_reducible repeat (first | apply Kd.V_alloc | apply Kd.V_drewN | apply Kd.V_drew)); exact Kd.V_mono (Kd.V_far (p := ⟨gb397, 5, none⟩) (Kd.V_far (p := ⟨gb397, 4, none⟩) (Kd.V_far (p := ⟨gb397, 3, none⟩) (Kd.V_far (p := ⟨gb397, 2, none⟩) (Kd.V_far (p := ⟨gb397, 1, none⟩) (Kd.V_far (p := ⟨gb397, 0, none⟩) (Kd.V_mono HO393.out (fun k_ hk => (⟨hk, hk.2⟩ : _ ∧ k_ ≠ gb397))) (fun _ hk => hk.2) (.slice Ao8 t379.length co8)) (fun _ hk => hk.2) (.slice Ao11 t382.length co11)) (fun _ hk => hk.2) (.slice Ao12 t385.length co12)) (fun _ hk => hk.2) (.slice Ao13 t388.length co13)) (fun _ hk => hk.2) (.slice Ao14 t391.length co14)) (fun _ hk => hk.2) (.slice Ao15 t394.length co15)) (fun _ hk => ⟨(by simp [Value.ownBlock]), ⟨hk.1.1, hk.1.2⟩⟩)⟩, ⟨by (with_reducible repeat (first | apply Kd.V_alloc | apply Kd.V_drewN | apply Kd.V_drew)); exact Kd.V_mono (Kd.V_far (p := ⟨gb397, 5, none⟩) (Kd.V_far (p := ⟨gb397, 4, none⟩) (Kd.V_far (p := ⟨gb397, 3, none⟩) (Kd.V_far (p := ⟨gb397, 2, none⟩) (Kd.V_far (p := ⟨gb397, 1, none⟩) (Kd.V_far (p := ⟨gb397, 0, none⟩) (Kd.V_mono HO396.out (fun k_ hk => (⟨hk, hk.2⟩ : _ ∧ k_ ≠ gb397))) (fun _ hk => hk.2) (.slice Ao8 t379.length co8)) (fun _ hk => hk.2) (.slice Ao11 t382.length co11)) (fun _ hk => hk.2) (.slice Ao12 t385.length co12)) (fun _ hk => hk.2) (.slice Ao13 t388.length co13)) (fun _ hk => hk.2) (.slice Ao14 t391.length co14)) (fun _ hk => hk.2) (.slice Ao15 t394.length co15)) (fun _ hk => ⟨(by simp [Value.ownBlock]), ⟨hk.1.1, hk.1.2⟩⟩)⟩, ⟨by (with_reducible repeat (first | refine bkN ?_ _ | refine bkD ?_ | refine bkA ?_ _)); refine blk_far ?_ NB378_397.out _; (with_reducible repeat (first | refine bkN ?_ _ | refine bkD ?_ | refine bkA ?_ _)); refine blk_far ?_ NB378_397.out _; (with_reducible repeat (first | refine bkN ?_ _ | refine bkD ?_ | refine bkA ?_ _)); refine blk_far ?_ NB378_397.out _; (with_reducible repeat (first | refine bkN ?_ _ | refine bkD ?_ | refine bkA ?_ _)); refine blk_far ?_ NB378_397.out _; (with_reducible repeat (first | refine bkN ?_ _ | refine bkD ?_ | refine bkA ?_ _)); refine blk_far ?_ NB378_397.out _; (with_reducible repeat (first | refine bkN ?_ _ | refine bkD ?_ | refine bkA ?_ _)); refine blk_far ?_ NB378_397.out _; (with_reducible repeat (first | refine bkN ?_ _ | refine bkD ?_ | refine bkA ?_ _)); exact BK378.out⟩, ⟨by (with_reducible repeat (first | refine bkN ?_ _ | refine bkD ?_ | refine bkA ?_ _)); refine blk_put (cs := #[.slice Ao8 t379.length co8, .slice Ao11 t382.length co11, .slice Ao12 t385.length co12, .slice Ao13 t388.length co13, .slice Ao14 t391.length co14, .slice none 0 0]) ?_ 5 _ rfl; (with_reducible repeat (first | refine bkN ?_ _ | refine bkD ?_ | refine bkA ?_ _)); refine blk_put (cs := #[.slice Ao8 t379.length co8, .slice Ao11 t382.length co11, .slice Ao12 t385.length co12, .slice Ao13 t388.length co13, .slice none 0 0, .slice none 0 0]) ?_ 4 _ rfl; (with_reducible repeat (first | refine bkN ?_ _ | refine bkD ?_ | refine bkA ?_ _)); refine blk_put (cs := #[.slice Ao8 t379.length co8, .slice Ao11 t382.length co11, .slice Ao12 t385.length co12, .slice none 0 0, .slice none 0 0, .slice none 0 0]) ?_ 3 _ rfl; (with_reducible repeat (first | refine bkN ?_ _ | refine bkD ?_ | refine bkA ?_ _)); refine blk_put (cs := #[.slice Ao8 t379.length co8, .slice Ao11 t382.length co11, .slice none 0 0, .slice none 0 0, .slice none 0 0, .slice none 0 0]) ?_ 2 _ rfl; (with_reducible repeat (first | refine bkN ?_ _ | refine bkD ?_ | refine bkA ?_ _)); refine blk_put (cs := #[.slice Ao8 t379.length co8, .slice none 0 0, .slice none 0 0, .slice none 0 0, .slice none 0 0, .slice none 0 0]) ?_ 1 _ rfl; (with_reducible repeat (first | refine bkN ?_ _ | refine bkD ?_ | refine bkA ?_ _)); refine blk_put (cs := #[.slice none 0 0, .slice none 0 0, .slice none 0 0, .slice none 0 0, .slice none 0 0, .slice none 0 0]) ?_ 0 _ rfl; (with_reducible repeat (first | refine bkN ?_ _ | refine bkD ?_ | refine bkA ?_ _)); exact BK397.out⟩, ⟨by repeat (first | (with_reducible first | exact HB.out | apply bAl | apply pbN | apply bD1 | refine bSt ?_ GE378.out | refine bSt ?_ GE397.out) | exact HB.out)⟩⟩
 case round =>
  clear H'
  try clear c1
  try clear c2
  try clear p2
  try clear c4
  try clear c9
  try clear hcz10_0
  try clear hcz10_1
  try clear hcz10_2
  try clear hcz10_3
  try clear hcz10_4
  try clear hcz10_5
  try clear hcz5_0
  try clear hcz5_1
  try clear hcz5_2
  try clear hcz5_3
  try clear hcz5_4
  try clear hcz5_5
  try clear hfz10_0
  try clear hfz10_1
  try clear hfz10_2
  try clear hfz10_3
  try clear hfz10_4
  try clear hfz10_5
  try clear hfz5_0
  try clear hfz5_1
  try clear hfz5_2
  try clear hfz5_3
  try clear hfz5_4
  try clear hfz5_5
  obtain ⟨x6_1, x7_1, rfl, HA, HK1, HO_6, HO_398000, HO_398001, HO_398002, HO_398003, HO_398004, HO_398005, BK378, BK397, HB⟩ := hrel
  cases gk with
  | zero => exact absurd HA.out (by simp [r37_Upper.l0])
  | succ k1 =>
   have H := HA.out
   clear HA
   simp only [r37_Upper.l0] at H
   by_cases c16 : x7_1 < (l1.length : Int)
   ·rw [if_pos c16] at H
    have c16b0 : decide (x7_1 < (l1.length : Int)) = true := dT c16
    clear c16
    by_cases c17 : 0 ≤ x7_1
    ·rw [if_pos c17] at H
     have c17b0 : decide (0 ≤ x7_1) = true := dT c17
     clear c17
     replace H := Option.bind_eq_some_iff.mp H
     obtain ⟨t399, A180, H⟩ := H
     replace H : (if x6_1.length + t399.length < 17592186044416 then (r37_Upper.l0 k1 l1 (x6_1 ++ t399) (wrap64 (x7_1 + 1)) t379 t382 t385 t388 t391 t394) else (none)) = some r := H
     have A18 := aM A180
     clear A180
     by_cases c19 : x6_1.length + t399.length < 17592186044416
     ·rw [if_pos c19] at H
      have LMc19 := aM c19
      clear c19
      obtain ⟨y402, hy402⟩ : ∃ y_ : List Int, y_ = (x6_1 ++ t399) := ⟨_, rfl⟩
      replace H : (r37_Upper.l0 k1 l1 y402 (wrap64 (x7_1 + 1)) t379 t382 t385 t388 t391 t394) = some r := by first | (rw [hy402]; with_reducible exact H) | (have H2_ := (Option.bind_some _ _).symm.trans H; rw [hy402]; with_reducible exact H2_) | (have H2_ := (Option.bind_some _ _).symm.trans H; with_reducible exact H2_) | with_reducible exact H | (rw [hy402]; exact H) | exact H
      have Ny402 := aM hy402
      clear hy402
      have H' := aM H
      clear H
      try go_wp2
      have n0_ := aM (Kd.R_drew HO_6.out)
      have n1_ := aM (Kd.V_drew HO_398000.out)
      have n2_ := aM (Kd.V_drew HO_398001.out)
      have n3_ := aM (Kd.V_drew HO_398002.out)
      have n4_ := aM (Kd.V_drew HO_398003.out)
      have n5_ := aM (Kd.V_drew HO_398004.out)
      have n6_ := aM (Kd.V_drew HO_398005.out)
      have n7_ := aM (bkD BK378.out)
      have n8_ := aM (bkD BK397.out)
      have n9_ := aM (bD1 HB.out)
      clear HO_6
      clear HO_398000
      clear HO_398001
      clear HO_398002
      clear HO_398003
      clear HO_398004
      clear HO_398005
      clear BK378
      clear BK397
      clear HB
      have HO_6 := n0_
      have HO_398000 := n1_
      have HO_398001 := n2_
      have HO_398002 := n3_
      have HO_398003 := n4_
      have HO_398004 := n5_
      have HO_398005 := n6_
      have BK378 := n7_
      have BK397 := n8_
      have HB := n9_
      clear n0_ n1_ n2_ n3_ n4_ n5_ n6_ n7_ n8_ n9_
      have p398 : 0 ≤ (x7_1 : Int) := oD (by first | (with_reducible assumption) | assumption)
      have q398 : x7_1 < (l1.length : Int) := oD (by first | (with_reducible assumption) | assumption)
      obtain ⟨ad398, e398, hx398_0⟩ := Kd.at_int HR1.out x7_1 p398 q398
      have hw398_0 := hx398_0
      cases e398
      replace hx398_0 := (HB.out.cell (World.block_lt_of_cell? w _ hx398_0)).trans hx398_0
      replace p398 := eq_true p398
      replace q398 := eq_true q398
      refine start_ (n := 10) (S := fun w' => w'.cell? ⟨gb397, 0, none⟩ = some (.slice Ao8 t379.length co8) ∧ w'.cell? ⟨gb397, 1, none⟩ = some (.slice Ao11 t382.length co11) ∧ w'.cell? ⟨gb397, 2, none⟩ = some (.slice Ao12 t385.length co12) ∧ w'.cell? ⟨gb397, 3, none⟩ = some (.slice Ao13 t388.length co13) ∧ w'.cell? ⟨gb397, 4, none⟩ = some (.slice Ao14 t391.length co14) ∧ w'.cell? ⟨gb397, 5, none⟩ = some (.slice Ao15 t394.length co15) ∧ w'.cell? (ad398.add (x7_1).toNat) = some (.int .i64 (rd l1 x7_1))) (ds := []) #[false, false, false, false, false, false, false, false, false, false] (by kernel_rfl) rfl rfl ⟨(bkC BK397.out 0).trans rfl, (bkC BK397.out 1).trans rfl, (bkC BK397.out 2).trans rfl, (bkC BK397.out 3).trans rfl, (bkC BK397.out 4).trans rfl, (bkC BK397.out 5).trans rfl, ((HB.out.cell (World.block_lt_of_cell? w _ hw398_0)).trans hw398_0)⟩ (fun hHeld => ?_); refine with_tabW r37_Upper.tab6 r37_Upper.bits6 (fun HT_ HW_ => ?_)
      generalize wr.drew = w20 at HO_6 HO_398000 HO_398001 HO_398002 HO_398003 HO_398004 HO_398005 BK378 BK397 HB hx398_0 hHeld ⊢
      refine pure_ (i := 0) (N := some 16) (v := ?_) (a' := ?_) #[true, false, false, false, false, false, false, false, false, false] rfl rfl (any_of HT_.out (by kernel_rfl)) (fun _ _ _ h => h) (Or.inl ⟨by rfl, ?_⟩) ?_ ?_
      rotate_left
      ·intro w'
       go_simp
       with_reducible rfl
      rotate_left
      ·simp only [Act.put, sI, sZ, sS, i64_w, i32_w]
       rfl
      refine pure_ (i := 1) (N := some 17) (v := ?_) (a' := ?_) #[true, true, false, false, false, false, false, false, false, false] rfl rfl (any_of HT_.out (by kernel_rfl)) (fun _ _ _ h => h) (Or.inl ⟨by rfl, ?_⟩) ?_ ?_
      rotate_left
      ·intro w'
       go_simp
       with_reducible rfl
      rotate_left
      ·simp only [Act.put, sI, sZ, sS, i64_w, i32_w]
       rfl
      refine pure_ (i := 3) (N := some 19) (v := ?_) (a' := ?_) #[true, true, false, true, false, false, false, false, false, false] rfl rfl (any_of HT_.out (by kernel_rfl)) (fun _ _ _ h => h) (Or.inl ⟨by rfl, ?_⟩) ?_ ?_
      rotate_left
      ·intro w'
       go_simp
       with_reducible rfl
      rotate_left
      ·simp only [Act.put, sI, sZ, sS, i64_w, i32_w]
       rfl
      refine pure_ (i := 4) (N := some 20) (v := ?_) (a' := ?_) #[true, true, false, true, true, false, false, false, false, false] rfl rfl (any_of HT_.out (by kernel_rfl)) (fun _ _ _ h => h) (Or.inl ⟨by rfl, ?_⟩) ?_ ?_
      rotate_left
      ·intro w'
       go_simp
       with_reducible rfl
      rotate_left
      ·simp only [Act.put, sI, sZ, sS, i64_w, i32_w]
       rfl
      refine pure_ (i := 5) (N := some 21) (v := ?_) (a' := ?_) #[true, true, false, true, true, true, false, false, false, false] rfl rfl (any_of HT_.out (by kernel_rfl)) (fun _ _ _ h => h) (Or.inl ⟨by rfl, ?_⟩) ?_ ?_
      rotate_left
      ·intro w'
       go_simp
       with_reducible rfl
      rotate_left
      ·simp only [Act.put, sI, sZ, sS, i64_w, i32_w]
       rfl
      refine take_ (i := 2) (N := some 18) (v := ?_) (a' := ?_) #[true, true, true, true, true, true, false, false, false, false] rfl rfl (take_ofW HT_.out HW_.out (by kernel_rfl)) (fun _ _ _ h => h) (Or.inl ⟨by rfl, ?_⟩) hHeld ?_ ?_
      rotate_left
      ·rintro w' ⟨s0, s1, s2, s3, s4, s5, s6⟩
       go_simp
       with_reducible rfl
      rotate_left
      ·simp only [Act.put, sI, sZ, sS, i64_w, i32_w]
       rfl
      refine take_ (i := 6) (N := some 22) (v := ?_) (a' := ?_) #[true, true, true, true, true, true, true, false, false, false] rfl rfl (take_ofW HT_.out HW_.out (by kernel_rfl)) (fun _ _ _ h => h) (Or.inl ⟨by rfl, ?_⟩) hHeld ?_ ?_
      rotate_left
      ·rintro w' ⟨s0, s1, s2, s3, s4, s5, s6⟩
       go_simp
       with_reducible rfl
      rotate_left
      ·simp only [Act.put, sI, sZ, sS, i64_w, i32_w]
       rfl
      refine one_ (i := 7) (N := some 23) #[true, true, true, true, true, true, true, true, false, false] rfl rfl (one_of HT_.out (by kernel_rfl)) (by decide) (fun K hK => ?_)
      refine goes_ Try.func49 (by kernel_rfl) rfl #[.slice Ao11 t382.length co11, .int .i64 (rd l1 x7_1)] (by rfl) rfl rfl (by (try simp only [List.map_toArray, List.map_cons, List.map_nil]); first | done | rfl | (simp only [List.length_drop, List.length_take]; rfl)) ?_
      with_reducible refine (r37_mapped.calls k1 _ _ t382 (rd l1 x7_1) t399 _ ?side1 ?side2 A18.out).mono ?_
      (case side1 => repeat (first | exact (Kd.V_reads' HO_398001.out).2.2 | (with_reducible refine Kd.C_alloc ?_ _) | (with_reducible refine Kd.C_drewN ?_ _) | (with_reducible refine Kd.C_drew ?_)))
      (case side2 => exact (Kd.V_reads' HO_398001.out).2.1)
      rintro e w21 ⟨v400, rfl, ho0, hb⟩
      refine ⟨_, rfl, ?_⟩
      have n0_ := aM (Kd.R_elder' (by (with_reducible repeat (first | apply Kd.R_alloc | apply Kd.R_drewN | apply Kd.R_drew)); exact HO_6.out) (Kd.R_base ho0) hb)
      have n1_ := aM (Kd.V_elder' (by (with_reducible repeat (first | apply Kd.V_alloc | apply Kd.V_drewN | apply Kd.V_drew)); exact HO_398000.out) (Kd.R_base ho0) hb)
      have n2_ := aM (Kd.V_elder' (by (with_reducible repeat (first | apply Kd.V_alloc | apply Kd.V_drewN | apply Kd.V_drew)); exact HO_398001.out) (Kd.R_base ho0) hb)
      have n3_ := aM (Kd.V_elder' (by (with_reducible repeat (first | apply Kd.V_alloc | apply Kd.V_drewN | apply Kd.V_drew)); exact HO_398002.out) (Kd.R_base ho0) hb)
      have n4_ := aM (Kd.V_elder' (by (with_reducible repeat (first | apply Kd.V_alloc | apply Kd.V_drewN | apply Kd.V_drew)); exact HO_398003.out) (Kd.R_base ho0) hb)
      have n5_ := aM (Kd.V_elder' (by (with_reducible repeat (first | apply Kd.V_alloc | apply Kd.V_drewN | apply Kd.V_drew)); exact HO_398004.out) (Kd.R_base ho0) hb)
      have n6_ := aM (Kd.V_elder' (by (with_reducible repeat (first | apply Kd.V_alloc | apply Kd.V_drewN | apply Kd.V_drew)); exact HO_398005.out) (Kd.R_base ho0) hb)
      have n7_ := aM (Kd.R_lower (Kd.R_new' ho0 (Kd.R_lt (by (with_reducible repeat (first | apply Kd.R_alloc | apply Kd.R_drewN | apply Kd.R_drew)); exact HO_6.out))) (bSz (by repeat (first | (with_reducible first | exact HB.out | apply bAl | apply pbN | apply bD1 | refine bSt ?_ GE378.out | refine bSt ?_ GE397.out) | exact HB.out))))
      have n8_ := aM (blk_below (g := gb378) (o := .cells #[.slice A0_0 l0_0.length c0_0, .slice A0_1 l0_1.length c0_1, .slice A0_2 l0_2.length c0_2, .slice A0_3 l0_3.length c0_3, .slice A0_4 l0_4.length c0_4, .slice A0_5 l0_5.length c0_5] 27 (0, 0)) (by (with_reducible repeat (first | refine bkN ?_ _ | refine bkD ?_ | refine bkA ?_ _)); exact BK378.out) hb)
      have n9_ := aM (blk_below (g := gb397) (o := .cells #[.slice Ao8 t379.length co8, .slice Ao11 t382.length co11, .slice Ao12 t385.length co12, .slice Ao13 t388.length co13, .slice Ao14 t391.length co14, .slice Ao15 t394.length co15] 27 (0, 0)) (by (with_reducible repeat (first | refine bkN ?_ _ | refine bkD ?_ | refine bkA ?_ _)); exact BK397.out) hb)
      have n10_ := aM (bSp (by repeat (first | (with_reducible first | exact HB.out | apply bAl | apply pbN | apply bD1 | refine bSt ?_ GE378.out | refine bSt ?_ GE397.out) | exact HB.out)) hb)
      clear HO_6
      clear HO_398000
      clear HO_398001
      clear HO_398002
      clear HO_398003
      clear HO_398004
      clear HO_398005
      clear BK378
      clear BK397
      clear HB
      have HO_6 := n0_
      have HO_398000 := n1_
      have HO_398001 := n2_
      have HO_398002 := n3_
      have HO_398003 := n4_
      have HO_398004 := n5_
      have HO_398005 := n6_
      have HO401 := n7_
      have BK378 := n8_
      have BK397 := n9_
      have HB := n10_
      clear n0_ n1_ n2_ n3_ n4_ n5_ n6_ n7_ n8_ n9_ n10_
      (try clear hb)
      (try clear hb2)
      (try clear hk)
      (try clear hi)
      (try clear ho0)
      obtain ⟨Ao23, co23, eo23⟩ := Kd.R_slice HO401.out
      (first | subst eo23 | (injection eo23 with f1_ f2_ f3_; have f4_ := f1_.symm; have f5_ := f3_.symm; clear f1_ f2_ f3_; subst f4_; subst f5_))
      refine hK.out _ _ ⟨(bkC BK397.out 0).trans rfl, (bkC BK397.out 1).trans rfl, (bkC BK397.out 2).trans rfl, (bkC BK397.out 3).trans rfl, (bkC BK397.out 4).trans rfl, (bkC BK397.out 5).trans rfl, ((HB.out.cell (World.block_lt_of_cell? w _ hw398_0)).trans hw398_0)⟩ (fun hHeld => ?_)
      clear hK K
      refine norm_ (a' := ?_) ?_ ?_
      rotate_left
      ·show Act.put _ (some 23) _ = _
       simp only [Act.put, sI, sZ, sS, i64_w, i32_w]
       rfl
      refine one_ (i := 8) (N := some 24) #[true, true, true, true, true, true, true, true, true, false] rfl rfl (one_of HT_.out (by kernel_rfl)) (by decide) (fun K hK => ?_)
      refine Kd.R_append_rows_step (Kd.int .i64) (w0 := w) w.heap.size (by rfl) (.tmp 16) (.tmp 23) 28 3 (.int .i64 0) 8 rfl Try.underlying28 info3 rfl (by decide) (by omega) u6 x6_1 t399 _ _ _ (fun k_ => some k_ ≠ (.slice Ao23 t399.length co23 : Value).ownBlock) (fun _ => False) rfl rfl ?aO ?aR (fun _ _ h => h) (fun _ h => h.elim) ?aF ?aB ?aS ?aL ?_
      (case aR => repeat (first | exact (Kd.R_reads' HO401.out).2.2 | (with_reducible refine Kd.C_alloc ?_ _) | (with_reducible refine Kd.C_drewN ?_ _) | (with_reducible refine Kd.C_drew ?_)))
      (case aB => exact (by repeat (first | (with_reducible first | exact HB.out | apply bAl | apply pbN | apply bD1 | refine bSt ?_ GE378.out | refine bSt ?_ GE397.out) | exact HB.out)))
      (case aF => exact (fun k_ hk => Kd.fresh' (Kd.R_lt (by (with_reducible repeat (first | apply Kd.R_alloc | apply Kd.R_drewN | apply Kd.R_drew)); exact HO401.out)) k_ hk))
      (case aO => exact (by (with_reducible repeat (first | apply Kd.R_alloc | apply Kd.R_drewN | apply Kd.R_drew)); exact Kd.R_mono HO_6.out (fun _ hk => hk.2)))
      (case aS => exact (bSz (by repeat (first | (with_reducible first | exact HB.out | apply bAl | apply pbN | apply bD1 | refine bSt ?_ GE378.out | refine bSt ?_ GE397.out) | exact HB.out))))
      (case aL => have := LMc19.out; omega)
      intro v403 w22 ho hb hg hat
      rw [← Ny402.out] at ho
      have n0_ := aM (Kd.V_afterv (ok := (fun k_ => some k_ ≠ (.slice Ao23 t399.length co23 : Value).ownBlock ∧ k_ ≠ gb378 ∧ k_ ≠ gb397)) (by (with_reducible repeat (first | apply Kd.V_alloc | apply Kd.V_drewN | apply Kd.V_drew)); exact Kd.V_mono HO_398000.out (fun _ hk => ⟨⟨hk.2, ⟨hk.1.2.1, hk.1.2.2⟩⟩, hk.1.1⟩)) hg hat)
      have n1_ := aM (Kd.V_afterv (ok := (fun k_ => some k_ ≠ (.slice Ao23 t399.length co23 : Value).ownBlock ∧ k_ ≠ gb378 ∧ k_ ≠ gb397)) (by (with_reducible repeat (first | apply Kd.V_alloc | apply Kd.V_drewN | apply Kd.V_drew)); exact Kd.V_mono HO_398001.out (fun _ hk => ⟨⟨hk.2, ⟨hk.1.2.1, hk.1.2.2⟩⟩, hk.1.1⟩)) hg hat)
      have n2_ := aM (Kd.V_afterv (ok := (fun k_ => some k_ ≠ (.slice Ao23 t399.length co23 : Value).ownBlock ∧ k_ ≠ gb378 ∧ k_ ≠ gb397)) (by (with_reducible repeat (first | apply Kd.V_alloc | apply Kd.V_drewN | apply Kd.V_drew)); exact Kd.V_mono HO_398002.out (fun _ hk => ⟨⟨hk.2, ⟨hk.1.2.1, hk.1.2.2⟩⟩, hk.1.1⟩)) hg hat)
      have n3_ := aM (Kd.V_afterv (ok := (fun k_ => some k_ ≠ (.slice Ao23 t399.length co23 : Value).ownBlock ∧ k_ ≠ gb378 ∧ k_ ≠ gb397)) (by (with_reducible repeat (first | apply Kd.V_alloc | apply Kd.V_drewN | apply Kd.V_drew)); exact Kd.V_mono HO_398003.out (fun _ hk => ⟨⟨hk.2, ⟨hk.1.2.1, hk.1.2.2⟩⟩, hk.1.1⟩)) hg hat)
      have n4_ := aM (Kd.V_afterv (ok := (fun k_ => some k_ ≠ (.slice Ao23 t399.length co23 : Value).ownBlock ∧ k_ ≠ gb378 ∧ k_ ≠ gb397)) (by (with_reducible repeat (first | apply Kd.V_alloc | apply Kd.V_drewN | apply Kd.V_drew)); exact Kd.V_mono HO_398004.out (fun _ hk => ⟨⟨hk.2, ⟨hk.1.2.1, hk.1.2.2⟩⟩, hk.1.1⟩)) hg hat)
      have n5_ := aM (Kd.V_afterv (ok := (fun k_ => some k_ ≠ (.slice Ao23 t399.length co23 : Value).ownBlock ∧ k_ ≠ gb378 ∧ k_ ≠ gb397)) (by (with_reducible repeat (first | apply Kd.V_alloc | apply Kd.V_drewN | apply Kd.V_drew)); exact Kd.V_mono HO_398005.out (fun _ hk => ⟨⟨hk.2, ⟨hk.1.2.1, hk.1.2.2⟩⟩, hk.1.1⟩)) hg hat)
      have n6_ := aM (blk_grown (g := gb378) (o := .cells #[.slice A0_0 l0_0.length c0_0, .slice A0_1 l0_1.length c0_1, .slice A0_2 l0_2.length c0_2, .slice A0_3 l0_3.length c0_3, .slice A0_4 l0_4.length c0_4, .slice A0_5 l0_5.length c0_5] 27 (0, 0)) (by (with_reducible repeat (first | refine bkN ?_ _ | refine bkD ?_ | refine bkA ?_ _)); exact BK378.out) hg (Kd.R_ne HO_6.out BK378.out (by decide)))
      have n7_ := aM (blk_grown (g := gb397) (o := .cells #[.slice Ao8 t379.length co8, .slice Ao11 t382.length co11, .slice Ao12 t385.length co12, .slice Ao13 t388.length co13, .slice Ao14 t391.length co14, .slice Ao15 t394.length co15] 27 (0, 0)) (by (with_reducible repeat (first | refine bkN ?_ _ | refine bkD ?_ | refine bkA ?_ _)); exact BK397.out) hg (Kd.R_ne HO_6.out BK397.out (by decide)))
      have n8_ := aM (Kd.R_after (ok := (fun _ => True)) (by (with_reducible repeat (first | apply Kd.R_alloc | apply Kd.R_drewN | apply Kd.R_drew)); exact HO401.out) hg hat)
      have n9_ := aM (hb)
      have n10_ := aM (ho)
      clear HO_398000
      clear HO_398001
      clear HO_398002
      clear HO_398003
      clear HO_398004
      clear HO_398005
      clear BK378
      clear BK397
      clear HO401
      clear HB
      clear HO_6
      have HO_398000 := n0_
      have HO_398001 := n1_
      have HO_398002 := n2_
      have HO_398003 := n3_
      have HO_398004 := n4_
      have HO_398005 := n5_
      have BK378 := n6_
      have BK397 := n7_
      have HO401 := n8_
      have HB := n9_
      have HO404 := n10_
      clear n0_ n1_ n2_ n3_ n4_ n5_ n6_ n7_ n8_ n9_ n10_
      clear ho hb hg hat
      refine hK.out _ _ ⟨(bkC BK397.out 0).trans rfl, (bkC BK397.out 1).trans rfl, (bkC BK397.out 2).trans rfl, (bkC BK397.out 3).trans rfl, (bkC BK397.out 4).trans rfl, (bkC BK397.out 5).trans rfl, ((HB.out.cell (World.block_lt_of_cell? w _ hw398_0)).trans hw398_0)⟩ (fun hHeld => ?_)
      clear hK K
      refine norm_ (a' := ?_) ?_ ?_
      rotate_left
      ·show Act.put _ (some 24) _ = _
       simp only [Act.put, sI, sZ, sS, i64_w, i32_w]
       rfl
      refine pure_ (i := 9) (N := some 6) (v := ?_) (a' := ?_) #[true, true, true, true, true, true, true, true, true, true] rfl rfl (any_of HT_.out (by kernel_rfl)) (fun _ _ _ h => h) (Or.inl ⟨by rfl, ?_⟩) ?_ ?_
      rotate_left
      ·intro w'
       go_simp
       with_reducible rfl
      rotate_left
      ·simp only [Act.put, sI, sZ, sS, i64_w, i32_w]
       rfl
      refine done_ (done_of HT_.out (by kernel_rfl)) ?_
      try go_wp2
      go_roundg k1
      case measure => have := HK1.out; omega
      case rel => exact ⟨(y402), (wrap64 (x7_1 + 1)), (by first | rfl | (simp; done) | (simp [*]; done)), H', ⟨by have := HK1.out; omega⟩, ⟨by (with_reducible repeat (first | apply Kd.R_alloc | apply Kd.R_drewN | apply Kd.R_drew)); exact Kd.R_mono HO404.out (fun _ hk => trivial)⟩, ⟨by (with_reducible repeat (first | apply Kd.V_alloc | apply Kd.V_drewN | apply Kd.V_drew)); exact Kd.V_mono HO_398000.out (fun _ hk => ⟨hk.2, ⟨hk.1.2.1, hk.1.2.2⟩⟩)⟩, ⟨by (with_reducible repeat (first | apply Kd.V_alloc | apply Kd.V_drewN | apply Kd.V_drew)); exact Kd.V_mono HO_398001.out (fun _ hk => ⟨hk.2, ⟨hk.1.2.1, hk.1.2.2⟩⟩)⟩, ⟨by (with_reducible repeat (first | apply Kd.V_alloc | apply Kd.V_drewN | apply Kd.V_drew)); exact Kd.V_mono HO_398002.out (fun _ hk => ⟨hk.2, ⟨hk.1.2.1, hk.1.2.2⟩⟩)⟩, ⟨by (with_reducible repeat (first | apply Kd.V_alloc | apply Kd.V_drewN | apply Kd.V_drew)); exact Kd.V_mono HO_398003.out (fun _ hk => ⟨hk.2, ⟨hk.1.2.1, hk.1.2.2⟩⟩)⟩, ⟨by (with_reducible repeat (first | apply Kd.V_alloc | apply Kd.V_drewN | apply Kd.V_drew)); exact Kd.V_mono HO_398004.out (fun _ hk => ⟨hk.2, ⟨hk.1.2.1, hk.1.2.2⟩⟩)⟩, ⟨by (with_reducible repeat (first | apply Kd.V_alloc | apply Kd.V_drewN | apply Kd.V_drew)); exact Kd.V_mono HO_398005.out (fun _ hk => ⟨hk.2, ⟨hk.1.2.1, hk.1.2.2⟩⟩)⟩, ⟨by (with_reducible repeat (first | refine bkN ?_ _ | refine bkD ?_ | refine bkA ?_ _)); exact BK378.out⟩, ⟨by (with_reducible repeat (first | refine bkN ?_ _ | refine bkD ?_ | refine bkA ?_ _)); exact BK397.out⟩, ⟨by repeat (first | (with_reducible first | exact HB.out | apply bAl | apply pbN | apply bD1 | refine bSt ?_ GE378.out | refine bSt ?_ GE397.out) | exact HB.out)⟩⟩
     ·rw [if_neg c19] at H
      exact absurd H (by simp)
    ·rw [if_neg c17] at H
     exact absurd H (by simp)
   ·rw [if_neg c16] at H
    have c16b0 : decide (x7_1 < (l1.length : Int)) = false := decide_eq_false c16
    clear c16
    obtain rfl := Option.some.inj H
    go_wp2
    go_ret
    exact ⟨_, by first | rfl | (simp [eN, eS] <;> rfl) | (simp [*, eN, eS] <;> rfl), by (with_reducible repeat (first | apply Kd.R_alloc | apply Kd.R_drewN | apply Kd.R_drew)); exact HO_6.out, by repeat (first | (with_reducible first | exact HB.out | apply bAl | apply pbN | apply bD1 | refine bSt ?_ GE378.out | refine bSt ?_ GE397.out) | exact HB.out)⟩
attribute [local go_sem] max2_int min2_int max_two min_two max_three min_three max_four min_four
set_option linter.unusedVariables false
set_option linter.unusedSimpArgs false
def r37_only.f (l0 : List Int) (a1 : Int) : Option (Int) := if (l0.length : Int) = 1 then (if 0 < (l0.length : Int) then (some (rd l0 0)) else (none)) else (some a1)
attribute [local go_sem] max2_int min2_int max_two min_two max_three min_three max_four min_four
set_option linter.unusedVariables false
set_option linter.unusedSimpArgs false
def r37_Simple.f (k : Nat) (l0_0 : List (S43)) (l0_1 : List (S43)) (l0_2 : List (S43)) (l0_3 : List (S43)) (l0_4 : List (S33)) (l0_5 : List (S33)) (a1 : Int) : Option (Int × Int × Int) := (r37_Data.f k l0_0 l0_1 l0_2 l0_3 l0_4 l0_5).bind fun bt480 => ((r37_mapped.f k bt480.1 a1).bind fun t499 => ((r37_only.f t499 a1).bind fun t502 => ((r37_mapped.f k bt480.2.1 a1).bind fun t503 => ((r37_only.f t503 a1).bind fun t506 => ((r37_mapped.f k bt480.2.2.1 a1).bind fun t507 => ((r37_only.f t507 a1).bind fun t510 => (some (t502, t506, t510))))))))
def r37_Simple.T2 : Bool × List (List Nat × List Nat) := (true, [([], []), ([0], [0]), ([], []), ([1, 2], [1, 2]), ([], []), ([3, 4, 3], [3, 4]), ([], []), ([6], [6]), ([], []), ([7, 8, 5], [7, 8]), ([], []), ([9, 10, 9], [9, 10]), ([], []), ([12], [12]), ([], []), ([13, 14, 11], [13, 14]), ([], []), ([15, 16, 15], [15, 16]), ([5, 17, 0, 1, 2, 3, 4, 5], [5]), ([11, 18, 0, 1, 2, 3, 4, 5, 6, 7, 8, 9, 10, 11, 18], [11]), ([17, 19, 0, 1, 2, 3, 4, 5, 6, 7, 8, 9, 10, 11, 12, 13, 14, 15, 16, 17, 18, 19], [17])])
def r37_Simple.B2 : List Nat := [0, 1, 0, 7, 0, 31, 0, 64, 0, 511, 0, 2047, 0, 4096, 0, 32767, 0, 131071, 262143, 524287, 1048575]
attribute [local go_sem] max2_int min2_int max_two min_two max_three min_three max_four min_four
set_option linter.unusedVariables false
set_option linter.unusedSimpArgs false
def r37_titled.l0 : Nat → List Int → List Int → Bool → Int → List (S43) → List (S43) → List (S43) → List (S43) → List (S33) → List (S33) → Int → Int → Option (List Int)
 | 0, _, _, _, _, _, _, _, _, _, _, _, _ => none
 | k + 1, x1, x7, x8, x9, x540000, x540001, x540002, x540003, x540004, x540005, x541000, x541001 => if x9 < x541001 then (if x8 = true then ((r37_lower.f k x540000 x540001 x540002 x540003 x540004 x540005 x1 x9).bind fun t541 => (if x7.length + t541.length < 17592186044416 then (r37_titled.l0 k x1 (x7 ++ t541) x8 (wrap64 (x9 + 1)) x540000 x540001 x540002 x540003 x540004 x540005 x541000 x541001) else (none))) else (if 0 ≤ x9 then (if x9 < (x1.length : Int) then ((r02_Has.f k x540004 (rd x1 x9)).bind fun t548 => (if t548 = true then ((r37_mapped.f k x540002 (rd x1 x9)).bind fun t550 => (if x7.length + t550.length < 17592186044416 then (r37_titled.l0 k x1 (x7 ++ t550) true (wrap64 (x9 + 1)) x540000 x540001 x540002 x540003 x540004 x540005 x541000 x541001) else (none))) else (if x7.length < 17592186044416 then (r37_titled.l0 k x1 (x7 ++ [rd x1 x9]) x8 (wrap64 (x9 + 1)) x540000 x540001 x540002 x540003 x540004 x540005 x541000 x541001) else (none)))) else (none)) else (none))) else (some x7)
def r37_titled.f (k : Nat) (l0_0 : List (S43)) (l0_1 : List (S43)) (l0_2 : List (S43)) (l0_3 : List (S43)) (l0_4 : List (S33)) (l0_5 : List (S33)) (l1 : List Int) (a2_0 : Int) (a2_1 : Int) : Option (List Int) := r37_titled.l0 k l1 ([] : List Int) false a2_0 l0_0 l0_1 l0_2 l0_3 l0_4 l0_5 a2_0 a2_1
def r37_titled.T9 : Bool × List (List Nat × List Nat) := (true, [([], []), ([0], [0]), ([], []), ([], []), ([2, 3], [2, 3]), ([4], [4]), ([1, 5], [1, 5]), ([6, 6], [6])])
def r37_titled.B9 : List Nat := [0, 1, 0, 0, 12, 28, 63, 127]
def r37_titled.T10 : Bool × List (List Nat × List Nat) := (true, [([], []), ([], []), ([1], [1]), ([], []), ([], []), ([3, 4], [3, 4]), ([5], [5]), ([2, 6], [2, 6]), ([0, 7, 7], [0, 7]), ([8, 8, 0, 1, 2, 3, 4, 5, 6, 7, 8], [0, 8])])
def r37_titled.B10 : List Nat := [0, 0, 2, 0, 0, 24, 56, 126, 255, 511]
attribute [local go_sem] max2_int min2_int max_two min_two max_three min_three max_four min_four
set_option linter.unusedVariables false
set_option linter.unusedSimpArgs false
def r37_Title.l0 : Nat → List Int → List (S33) → List Int → Int → Int → List (S43) → List (S43) → List (S43) → List (S43) → List (S33) → List (S33) → Option (List Int)
 | 0, _, _, _, _, _, _, _, _, _, _, _ => none
 | k + 1, x1, x2, x8, x9, x10, x580000, x580001, x580002, x580003, x580004, x580005 => if x10 < (x2.length : Int) then (if 0 ≤ x10 then (if 0 ≤ x9 then (if x9 ≤ ((rd_T33 x2 x10).f0) then (if ((rd_T33 x2 x10).f0) ≤ (x1.length : Int) then (if x8.length + ((x1.take (((rd_T33 x2 x10).f0) : Int).toNat).drop (x9 : Int).toNat).length < 17592186044416 then ((some (x8 ++ ((x1.take (((rd_T33 x2 x10).f0) : Int).toNat).drop (x9 : Int).toNat) : List Int)).bind fun y589 => ((r37_titled.f k x580000 x580001 x580002 x580003 x580004 x580005 x1 ((rd_T33 x2 x10).f0) ((rd_T33 x2 x10).f1)).bind fun t593 => (if y589.length + t593.length < 17592186044416 then (r37_Title.l0 k x1 x2 (y589 ++ t593) ((rd_T33 x2 x10).f1) (wrap64 (x10 + 1)) x580000 x580001 x580002 x580003 x580004 x580005) else (none)))) else (none)) else (none)) else (none)) else (none)) else (none)) else (if 0 ≤ x9 then (if x9 ≤ (x1.length : Int) then (if x8.length + (x1.drop (x9 : Int).toNat).length < 17592186044416 then (some (x8 ++ (x1.drop (x9 : Int).toNat))) else (none)) else (none)) else (none))
def r37_Title.f (k : Nat) (l0_0 : List (S43)) (l0_1 : List (S43)) (l0_2 : List (S43)) (l0_3 : List (S43)) (l0_4 : List (S33)) (l0_5 : List (S33)) (l1 : List Int) (l2 : List (S33)) : Option (List Int) := (r37_Data.f k l0_0 l0_1 l0_2 l0_3 l0_4 l0_5).bind fun bt561 => ((r37_Within.f k l2 (l1.length : Int)).bind fun t580 => (if t580 = true then (r37_Title.l0 k l1 l2 ([] : List Int) 0 0 bt561.1 bt561.2.1 bt561.2.2.1 bt561.2.2.2.1 bt561.2.2.2.2.1 bt561.2.2.2.2.2) else ((some (([] : List Int) : List Int)).bind fun y581 => (if y581.length + l1.length < 17592186044416 then (some (y581 ++ l1)) else (none)))))
def r37_Title.T10 : Bool × List (List Nat × List Nat) := (true, [([], []), ([], []), ([], []), ([], []), ([], []), ([3, 4], [3, 4]), ([5], [5]), ([1, 2, 6], [1, 2, 6]), ([0, 7, 7], [0, 7]), ([8, 8, 0, 1, 2, 3, 4, 5, 6, 7, 8], [0, 8])])
def r37_Title.B10 : List Nat := [0, 0, 0, 0, 0, 24, 56, 126, 255, 511]
end Go.Proofs.Ythnkmcfhpjmihaa.Q
end
section
namespace Go.Proofs.Ythnkmcfhpjmihaa.Q
open Go.RowKit Go.Proofs.YthnkmcfhpjmihaaW.PrintWords Go.Proofs.YthnkmcfhpjmihaaW.PrintLast Go.Proofs.YthnkmcfhpjmihaaW.PrintMore
set_option linter.unusedVariables false
theorem plTag_go (i0 : Bool) (tg : ByteArray) (ht : tg = if i0 then tagF else tagE) : ∀ (rest pre : List Mp) (k : Nat), (pre ++ rest).length < 1000000 → rest.length + 1 ≤ k →
  r37_tagged.l0 k (pre ++ rest) tg (pre.length : Int) = some (rest.any (badTag i0))
 | [], pre, k, h1, h2 => by
  obtain ⟨k, rfl⟩ : ∃ j, k = j + 1 := ⟨k - 1, by omega⟩
  rw [r37_tagged.l0, if_neg (by simp)]
  rfl
 | x :: rest, pre, k, h1, h2 => by
  obtain ⟨k, rfl⟩ : ∃ j, k = j + 1 := ⟨k - 1, by omega⟩
  have hp : pre.length < 1000000000 := by simp at h1; omega
  have ih := plTag_go i0 tg ht rest (pre ++ [x]) k (by simpa using h1) (by simp at h2; omega)
  have ex : (pre ++ [x]) ++ rest = pre ++ x :: rest := by simp
  have el : ((pre ++ [x]).length : Int) = ((pre.length + 1 : Nat) : Int) := by simp
  rw [ex, el] at ih
  rw [r37_tagged.l0, if_pos (by simp; omega), if_pos (by omega), rdM_mid, wrap_suc hp, ih, List.any_cons]
  unfold badTag
  by_cases hz : x.f2.size = 0
  ·rw [if_pos ((bytesEq_nil _).2 hz), decide_eq_false (by simpa using hz)]
   rfl
  ·rw [if_neg (fun hh => hz ((bytesEq_nil _).1 hh)), dT hz]
   subst ht
   cases i0 with
   | true =>
    show (if x.f2.toList = tagF.toList then _ else _) = _
    by_cases hf : x.f2 = tagF
    ·rw [if_pos (by rw [hf]), decide_eq_false (by simpa using hf)]
     rfl
    ·rw [if_neg (fun hh => hf ((bytesEq_iff _ _).1 hh)), dT hf]
     rfl
   | false =>
    show (if x.f2.toList = tagE.toList then _ else _) = _
    rw [if_neg (fun hh => hz (by rw [(bytesEq_iff _ _).1 hh]; rfl))]
    rfl
theorem plTag_ok (i0 : Bool) (l : List Mp) (k : Nat) (h : plFewM l) (hk : 50 ≤ k) : r37_tagged.f k l (if i0 then tagF else tagE) = some (l.any (badTag i0)) :=
 plTag_go i0 _ rfl l [] k (by have := h.1; simp; omega) (by have := h.1; omega)
theorem plSame_go : ∀ (xs ys px py : List Rg) (k : Nat), px.length = py.length → xs.length = ys.length → (px ++ xs).length < 1000000000 → xs.length + 1 ≤ k →
  r02_Same.l0 k (px.length : Int) (px ++ xs) (py ++ ys) = some (decide (xs.map toP = ys.map toP))
 | [], [], px, py, k, h1, h2, h3, h4 => by
  obtain ⟨k, rfl⟩ : ∃ j, k = j + 1 := ⟨k - 1, by omega⟩
  rw [r02_Same.l0, if_neg (by simp)]
  rfl
 | x :: xs, y :: ys, px, py, k, h1, h2, h3, h4 => by
  obtain ⟨k, rfl⟩ : ∃ j, k = j + 1 := ⟨k - 1, by omega⟩
  have hp : px.length < 1000000000 := by simp at h3; omega
  have ih := plSame_go xs ys (px ++ [x]) (py ++ [y]) k (by simp [h1]) (by simpa using h2) (by simpa using h3) (by simp at h4; omega)
  have ex : (px ++ [x]) ++ xs = px ++ x :: xs := by simp
  have ey : (py ++ [y]) ++ ys = py ++ y :: ys := by simp
  have el : ((px ++ [x]).length : Int) = ((px.length + 1 : Nat) : Int) := by simp
  rw [ex, ey, el] at ih
  have e1 : rd_T33 (py ++ y :: ys) (px.length : Int) = y := by rw [h1]; exact rdG_mid _ _ _
  rw [r02_Same.l0, if_pos (by simp; omega), if_pos (by omega), if_pos (by simp at h2 ⊢; omega), rdG_mid, e1, wrap_suc hp]
  rw [ih]
  by_cases ha : x.f0 = y.f0
  ·by_cases hb : x.f1 = y.f1
   ·rw [if_neg (by simp [ha, hb])]
    simp [toP, ha, hb]
   ·rw [if_pos (by simp [hb])]
    simp [toP, hb]
  ·rw [if_pos (by simp [ha])]
   simp [toP, ha]
 | [], _ :: _, _, _, _, _, h2, _, _ => by simp at h2
 | _ :: _, [], _, _, _, _, h2, _, _ => by simp at h2
theorem plComb_make (l : List Rg) : combS l [] 1 = CpM.make (l.map toP) := by
 rw [← CpM.rmake_eq]
 unfold combS CpM.rmake cutsAB
 congr 1
 funext c
 unfold keepAB keepsB CpM.hasB
 simp
theorem plValid_ok (s : List Rg) (k : Nat) (h : s.length ≤ 1000) (hk : s.length + 1 ≤ k) : r02_Valid.f k s = some (validL s) := by
 have hm : r02_Make.f s = some (mkRS s) := by
  unfold r02_Make.f r02_combine.f
  rw [if_pos (by simp; omega), plComb_make]
  rfl
 unfold r02_Valid.f
 rw [hm]
 show (r02_Same.f k s (mkRS s)).bind _ = _
 unfold r02_Same.f validL
 have e : (mkRS s).map toP = CpM.make (s.map toP) := toP_ofP _
 by_cases hl : s.length = (mkRS s).length
 ·rw [if_pos (by omega)]
  have := plSame_go s (mkRS s) [] [] k rfl hl (by simp; omega) hk
  rw [List.nil_append, List.nil_append, e] at this
  rw [show ((0 : Int)) = (([] : List Rg).length : Int) from rfl, this]
  rfl
 ·rw [if_neg (by omega), decide_eq_false]
  ·rfl
  ·intro hh
   rw [← e] at hh
   exact hl (by simpa using congrArg List.length hh)
theorem plCheckJ (c : CaseS) (b : Bool) (k : Nat) (h : plFewC c) (hk : 50 ≤ k) : r37_Check.j1 (k + 1) b c.lo c.up c.ti c.fo c.ca c.ig = some (if b then 6 else if validL c.ca && validL c.ig then 0 else 11) := by
 obtain ⟨h0, h1, h2, h3, h4, h5⟩ := h
 rw [r37_Check.j1]
 cases b with
 | true => rfl
 | false =>
  rw [if_neg (by decide), plValid_ok c.ca k (by omega) (by omega), plValid_ok c.ig k (by omega) (by omega)]
  simp only [Option.bind_some]
  cases validL c.ca <;> cases validL c.ig <;> rfl
theorem plCheckE (c : CaseS) (L : List (List Mp)) (hL : L.length = 4) (k : Nat) (h : plFewC c) (hk : 60 ≤ k) : r37_Check.l0 (k + 2) L 4 c.lo c.up c.ti c.fo c.ca c.ig = some (if badsS c then 6 else if validL c.ca && validL c.ig then 0 else 11) := by
 have e0 := plTag_ok true c.lo (k + 1) h.1 (by omega)
 have e1 := plTag_ok false c.up (k + 1) h.2.1 (by omega)
 have e2 := plTag_ok false c.ti (k + 1) h.2.2.1 (by omega)
 have e3 := plTag_ok false c.fo (k + 1) h.2.2.2.1 (by omega)
 have hj := fun b => plCheckJ c b k h (by omega)
 rw [r37_Check.l0, if_neg (by omega)]
 show (r37_tagged.f (k + 1) c.lo (if true = true then tagF else tagE)).bind (fun t285 => if t285 = true then _ else (r37_tagged.f (k + 1) c.up (if false = true then tagF else tagE)).bind fun t286 => if t286 = true then _ else (r37_tagged.f (k + 1) c.ti (if false = true then tagF else tagE)).bind fun t287 => if t287 = true then _ else (r37_tagged.f (k + 1) c.fo (if false = true then tagF else tagE)).bind _) = _
 rw [e0, e1, e2, e3]
 simp only [Option.bind_some, hj]
 unfold badsS
 cases c.lo.any (badTag true) <;> cases c.up.any (badTag false) <;> cases c.ti.any (badTag false) <;> cases c.fo.any (badTag false) <;> rfl
theorem plCheckS (c : CaseS) (L : List (List Mp)) (x : List Mp) (i : Nat) (hx : rd_L5 L (i : Int) = x) (hL : L.length = 4) (hi : i < 4) (k : Nat) (h : plFewM x) (hk : 900 ≤ k) :
  r37_Check.l0 (k + 1) L (i : Int) c.lo c.up c.ti c.fo c.ca c.ig = if checkM x = 0 then r37_Check.l0 k L ((i + 1 : Nat) : Int) c.lo c.up c.ti c.fo c.ca c.ig else some (checkM x) := by
 rw [r37_Check.l0, if_pos (by omega), if_pos (by omega), hx, plCheckM_ok x k h hk, wrap_suc (by omega : i < 1000000000)]
 rfl
theorem plCheck_ok (c : CaseS) (k : Nat) (h : plFewC c) (hk : 1000 ≤ k) : r37_Check.f k c.lo c.up c.ti c.fo c.ca c.ig = some (caseChk c) := by
 obtain ⟨k, rfl⟩ : ∃ j, k = j + 6 := ⟨k - 6, by omega⟩
 unfold r37_Check.f caseChk
 have s0 := plCheckS c [c.lo, c.up, c.ti, c.fo] c.lo 0 rfl rfl (by omega) (k + 5) h.1 (by omega)
 have s1 := plCheckS c [c.lo, c.up, c.ti, c.fo] c.up 1 rfl rfl (by omega) (k + 4) h.2.1 (by omega)
 have s2 := plCheckS c [c.lo, c.up, c.ti, c.fo] c.ti 2 rfl rfl (by omega) (k + 3) h.2.2.1 (by omega)
 have s3 := plCheckS c [c.lo, c.up, c.ti, c.fo] c.fo 3 rfl rfl (by omega) (k + 2) h.2.2.2.1 (by omega)
 have s4 := plCheckE c [c.lo, c.up, c.ti, c.fo] rfl k h (by omega)
 refine Eq.trans s0 ?_
 unfold firstE
 by_cases c0 : checkM c.lo = 0
 ·rw [if_pos c0, if_pos c0]
  refine Eq.trans s1 ?_
  unfold firstE
  by_cases c1 : checkM c.up = 0
  ·rw [if_pos c1, if_pos c1]
   refine Eq.trans s2 ?_
   unfold firstE
   by_cases c2 : checkM c.ti = 0
   ·rw [if_pos c2, if_pos c2]
    refine Eq.trans s3 ?_
    unfold firstE
    by_cases c3 : checkM c.fo = 0
    ·rw [if_pos c3, if_pos c3]
     refine Eq.trans s4 ?_
     unfold firstE
     rw [if_pos rfl]
    ·rw [if_neg c3, if_neg c3, if_neg c3]
   ·rw [if_neg c2, if_neg c2, if_neg c2]
  ·rw [if_neg c1, if_neg c1, if_neg c1]
 ·rw [if_neg c0, if_neg c0, if_neg c0]
theorem plData_ok (c : CaseS) (k : Nat) (h : plFewC c) (hk : 1000 ≤ k) : r37_Data.f k c.lo c.up c.ti c.fo c.ca c.ig = some ((caseData c).lo, (caseData c).up, (caseData c).ti, (caseData c).fo, (caseData c).ca, (caseData c).ig) := by
 unfold r37_Data.f caseData
 rw [plCheck_ok c k h hk]
 show (if caseChk c = 0 then _ else _) = _
 split <;> rfl
theorem plData_few {c : CaseS} (h : plFewC c) : plFewC (caseData c) := by
 unfold caseData
 split
 ·exact h
 ·exact ⟨plFewM_nil, plFewM_nil, plFewM_nil, plFewM_nil, Nat.zero_le _, Nat.zero_le _⟩
def optP (o : Option (List Int)) : List Int × Bool := match o with | some x => (x, true) | none => ([], false)
theorem plFind_go (a : Int) (t : ByteArray) : ∀ (rest pre : List Mp) (k : Nat), plFewM (pre ++ rest) → rest.length + 1 ≤ k →
  r11_find.l0 k (pre ++ rest) a t (pre.length : Int) = some (optP (findM rest a t))
 | [], pre, k, h1, h2 => by
  obtain ⟨k, rfl⟩ : ∃ j, k = j + 1 := ⟨k - 1, by omega⟩
  rw [r11_find.l0, if_neg (by simp)]
  rfl
 | x :: rest, pre, k, h1, h2 => by
  obtain ⟨k, rfl⟩ : ∃ j, k = j + 1 := ⟨k - 1, by omega⟩
  have hl := h1.1
  have hp : pre.length < 1000000000 := by simp at hl; omega
  have ex : (pre ++ [x]) ++ rest = pre ++ x :: rest := by simp
  have ih := plFind_go a t rest (pre ++ [x]) k (by rw [ex]; exact h1) (by simp at h2; omega)
  have el : ((pre ++ [x]).length : Int) = ((pre.length + 1 : Nat) : Int) := by simp
  rw [ex, el] at ih
  have hx := h1.2 x (by simp)
  rw [r11_find.l0, if_pos (by simp; omega), if_pos (by omega), rdM_mid, wrap_suc hp, ih]
  unfold findM
  rw [List.find?_cons]
  by_cases h3 : x.f0 = a
  ·rw [if_pos h3, dT h3]
   by_cases h4 : x.f2 = t
   ·rw [if_pos (by rw [h4]), dT h4]
    show (if ([] : List Int).length + x.f1.length < 17592186044416 then _ else _) = _
    rw [if_pos (by simp; omega)]
    rfl
   ·rw [if_neg (fun hh => h4 ((bytesEq_iff _ _).1 hh)), decide_eq_false h4]
    rfl
  ·rw [if_neg h3, decide_eq_false h3]
   rfl
theorem plGet_ok (l : List Mp) (a : Int) (t : ByteArray) (k : Nat) (h : plFewM l) (hk : 900 ≤ k) : r11_Get.f k l a t = some (optP (getM l a t)) := by
 have hv : r11_valid.f k l = some (if checkM l = 0 then l else []) := by
  unfold r11_valid.f
  rw [plCheckM_ok l k h hk]
  show (if checkM l = 0 then _ else _) = _
  split <;> rfl
 unfold r11_Get.f getM
 rw [hv]
 show (r11_find.f k (if checkM l = 0 then l else []) a t).bind _ = _
 by_cases hc : checkM l = 0
 ·rw [if_pos hc, if_pos hc]
  have : r11_find.f k l a t = _ := plFind_go a t l [] k h (by have := h.1; omega)
  rw [this]
  rfl
 ·rw [if_neg hc, if_neg hc]
  have : r11_find.f k [] a t = _ := plFind_go a t [] [] k plFewM_nil (by simp; omega)
  rw [this]
  rfl
theorem plMapd_ok (l : List Mp) (x : Int) (k : Nat) (h : plFewM l) (hk : 900 ≤ k) : r37_mapped.f k l x = some (mapdS l x) := by
 unfold r37_mapped.f mapdS
 have : r11_Get.f k l x (⟨#[]⟩ : ByteArray) = _ := plGet_ok l x tagE k h hk
 rw [this]
 cases getM l x tagE <;> rfl
theorem plHas_ok (l : List Rg) (c : Int) (k : Nat) (h : l.length ≤ 1000) (hk : l.length + 1 ≤ k) : r02_Has.f k l c = some (hasL l c) :=
 has_go l [] c k (by simp; omega) hk
theorem plNear_f (c : CaseS) (h4 : c.ca.length ≤ 12) (h5 : c.ig.length ≤ 12) : ∀ (rest pre : List Int) (k : Nat), (pre ++ rest).length < 1000000 → 2 * rest.length + 20 ≤ k →
  r37_near.l0 k (pre ++ rest) (pre.length : Int) 1 c.lo c.up c.ti c.fo c.ca c.ig = some (nearL c rest)
 | [], pre, k, h1, h2 => by
  obtain ⟨k, rfl⟩ : ∃ j, k = j + 2 := ⟨k - 2, by omega⟩
  rw [r37_near.l0, if_pos (by omega), decide_eq_false (by simp), r37_near.j1, if_neg (by decide)]
  rfl
 | x :: rest, pre, k, h1, h2 => by
  obtain ⟨k, rfl⟩ : ∃ j, k = j + 2 := ⟨k - 2, by omega⟩
  have hp : pre.length < 1000000000 := by simp at h1; omega
  have ih := plNear_f c h4 h5 rest (pre ++ [x]) k (by simpa using h1) (by simp at h2; omega)
  have ex : (pre ++ [x]) ++ rest = pre ++ x :: rest := by simp
  have el : ((pre ++ [x]).length : Int) = ((pre.length + 1 : Nat) : Int) := by simp
  rw [ex, el] at ih
  rw [r37_near.l0, if_pos (by omega), dT (by simp; omega), r37_near.j1, if_pos rfl, if_pos (by omega), if_pos (by simp; omega), rd_mid, wrap_suc hp, plHas_ok _ _ _ (by omega) (by simp at h2; omega), plHas_ok _ _ _ (by omega) (by simp at h2; omega), ih]
  show (if hasL c.ig x = true then _ else _) = _
  rw [nearL]
  split <;> rfl
theorem plNear_b (c : CaseS) (h4 : c.ca.length ≤ 12) (h5 : c.ig.length ≤ 12) : ∀ (rv suf : List Int) (k : Nat), (rv ++ suf).length < 1000000 → 2 * rv.length + 20 ≤ k →
  r37_near.l0 k (rv.reverse ++ suf) ((rv.length : Int) - 1) (-1) c.lo c.up c.ti c.fo c.ca c.ig = some (nearL c rv)
 | [], suf, k, h1, h2 => by
  obtain ⟨k, rfl⟩ : ∃ j, k = j + 2 := ⟨k - 2, by omega⟩
  rw [r37_near.l0, if_neg (by simp), r37_near.j1, if_neg (by decide)]
  rfl
 | x :: rv, suf, k, h1, h2 => by
  obtain ⟨k, rfl⟩ : ∃ j, k = j + 2 := ⟨k - 2, by omega⟩
  have hp : rv.length < 1000000 := by simp at h1; omega
  have ih := plNear_b c h4 h5 rv (x :: suf) k (by simp at h1 ⊢; omega) (by simp at h2; omega)
  have ex : (x :: rv).reverse ++ suf = rv.reverse ++ x :: suf := by simp
  have el : (((x :: rv).length : Nat) : Int) - 1 = ((rv.reverse.length : Nat) : Int) := by simp
  have ew : wrap64 (((rv.reverse.length : Nat) : Int) + -1) = (rv.length : Int) - 1 := by rw [List.length_reverse]; unfold wrap64; omega
  rw [ex, el, r37_near.l0, if_pos (by omega), dT (by simp; omega), r37_near.j1, if_pos rfl, if_pos (by omega), if_pos (by simp; omega), rd_mid, ew, plHas_ok _ _ _ (by omega) (by simp at h2; omega), plHas_ok _ _ _ (by omega) (by simp at h2; omega), ih]
  show (if hasL c.ig x = true then _ else _) = _
  rw [nearL]
  split <;> rfl
theorem plFinal_ok (c : CaseS) (text : List Int) (i k : Nat) (h : plFewC c) (hi : i < text.length) (ht : text.length ≤ 1000) (hk : 2100 ≤ k) :
  r37_final.f k c.lo c.up c.ti c.fo c.ca c.ig text (i : Int) = some (finalS c text i) := by
 have hb := plNear_b c h.2.2.2.2.1 h.2.2.2.2.2 (text.take i).reverse (text.drop i) k (by simp; omega) (by simp; omega)
 have hf := plNear_f c h.2.2.2.2.1 h.2.2.2.2.2 (text.drop (i + 1)) (text.take (i + 1)) k (by simp; omega) (by simp; omega)
 rw [List.reverse_reverse, List.take_append_drop, show (((text.take i).reverse.length : Nat) : Int) - 1 = (i : Int) - 1 by simp; omega] at hb
 rw [List.take_append_drop, show (((text.take (i + 1)).length : Nat) : Int) = ((i + 1 : Nat) : Int) by simp; omega] at hf
 unfold r37_final.f r37_near.f finalS
 rw [show wrap64 ((i : Int) - 1) = (i : Int) - 1 by unfold wrap64; omega, wrap_suc (by omega), hb, hf]
 simp only [Option.bind_some]
 cases nearL c (text.take i).reverse <;> rfl
theorem plRd (text : List Int) (i : Nat) : rd text (i : Int) = text.getD i 0 := by unfold rd; rw [Int.toNat_natCast]
theorem plLower_ok (c : CaseS) (text : List Int) (i k : Nat) (h : plFewC c) (hi : i < text.length) (ht : text.length ≤ 1000) (hk : 2100 ≤ k) :
  r37_lower.f k c.lo c.up c.ti c.fo c.ca c.ig text (i : Int) = some (lowerS c text i) := by
 have hg : r11_Get.f k c.lo (text.getD i 0) (⟨#[102, 105, 110, 97, 108]⟩ : ByteArray) = _ := plGet_ok c.lo (text.getD i 0) tagF k h.1 (by omega)
 have hm := plMapd_ok c.lo (text.getD i 0) k h.1 (by omega)
 have hf := plFinal_ok c text i k h hi ht hk
 unfold r37_lower.f lowerS
 rw [if_pos (by omega), if_pos (by omega), plRd, hg, hm, hf]
 simp only [Option.bind_some]
 cases getM c.lo (text.getD i 0) tagF with
 | none => rfl
 | some xs =>
  show (if finalS c text i = true then _ else _) = _
  show _ = some (if finalS c text i = true then xs else mapdS c.lo (text.getD i 0))
  split <;> rfl
theorem plLowerA_go (c : CaseS) (text : List Int) (h : plFewC c) (ht : text.length ≤ 1000) : ∀ (d n k : Nat), n + d = text.length → d + 2200 ≤ k →
  r37_Lower.l0 k text (lowerA c text n) (n : Int) c.lo c.up c.ti c.fo c.ca c.ig = some (lowerA c text text.length)
 | 0, n, k, h1, h2 => by
  obtain ⟨k, rfl⟩ : ∃ j, k = j + 1 := ⟨k - 1, by omega⟩
  rw [r37_Lower.l0, if_neg (by omega), show n = text.length by omega]
 | d + 1, n, k, h1, h2 => by
  obtain ⟨k, rfl⟩ : ∃ j, k = j + 1 := ⟨k - 1, by omega⟩
  have ih := plLowerA_go c text h ht d (n + 1) k (by omega) (by omega)
  have l1 := lowerA_len (plOkM h.1) text n
  have l2 := lowerS_len (plOkM h.1) text n
  rw [r37_Lower.l0, if_pos (by omega), plLower_ok c text n k h (by omega) ht (by omega)]
  show (if (lowerA c text n).length + (lowerS c text n).length < 17592186044416 then _ else _) = _
  rw [if_pos (by omega), wrap_suc (by omega : n < 1000000000)]
  exact ih
theorem plLowerT_ok (c : CaseS) (text : List Int) (k : Nat) (h : plFewC c) (ht : text.length ≤ 1000) (hk : 3300 ≤ k) : r37_Lower.f k c.lo c.up c.ti c.fo c.ca c.ig text = some (LowerS c text) := by
 unfold r37_Lower.f LowerS
 rw [plData_ok c k h (by omega)]
 exact plLowerA_go (caseData c) text (plData_few h) ht text.length 0 k (by omega) (by omega)
theorem plUpperA_go (c : CaseS) (text : List Int) (h : plFewC c) (ht : text.length ≤ 1000) : ∀ (d n k : Nat), n + d = text.length → d + 2200 ≤ k →
  r37_Upper.l0 k text (upperA c text n) (n : Int) c.lo c.up c.ti c.fo c.ca c.ig = some (upperA c text text.length)
 | 0, n, k, h1, h2 => by
  obtain ⟨k, rfl⟩ : ∃ j, k = j + 1 := ⟨k - 1, by omega⟩
  rw [r37_Upper.l0, if_neg (by omega), show n = text.length by omega]
 | d + 1, n, k, h1, h2 => by
  obtain ⟨k, rfl⟩ : ∃ j, k = j + 1 := ⟨k - 1, by omega⟩
  have ih := plUpperA_go c text h ht d (n + 1) k (by omega) (by omega)
  have l1 := upperA_len (plOkM h.2.1) text n
  have l2 := mapdS_len (plOkM h.2.1) (text.getD n 0)
  rw [r37_Upper.l0, if_pos (by omega), if_pos (by omega), plRd, plMapd_ok c.up _ k h.2.1 (by omega)]
  show (if (upperA c text n).length + (mapdS c.up (text.getD n 0)).length < 17592186044416 then _ else _) = _
  rw [if_pos (by omega), wrap_suc (by omega : n < 1000000000)]
  exact ih
theorem plUpperT_ok (c : CaseS) (text : List Int) (k : Nat) (h : plFewC c) (ht : text.length ≤ 1000) (hk : 3300 ≤ k) : r37_Upper.f k c.lo c.up c.ti c.fo c.ca c.ig text = some (UpperS c text) := by
 unfold r37_Upper.f UpperS
 rw [plData_ok c k h (by omega)]
 exact plUpperA_go (caseData c) text (plData_few h) ht text.length 0 k (by omega) (by omega)
theorem LowerS_len {c : CaseS} (h : okC c = true) (text : List Int) : (LowerS c text).length ≤ 100000 * text.length := lowerA_len (caseData_ok h).1 text _
theorem UpperS_len {c : CaseS} (h : okC c = true) (text : List Int) : (UpperS c text).length ≤ 100000 * text.length := upperA_len (caseData_ok h).2.1 text _
@[irreducible] def plW (d : Nat) : Int := 100000 * (d : Int)
@[irreducible] def plV (d : Nat) : Int := 5000000 * (d : Int)
end Go.Proofs.Ythnkmcfhpjmihaa.Q
end
section
namespace Go.Proofs.Ythnkmcfhpjmihaa.Q
open Go.RowKit Go.Proofs.YthnkmcfhpjmihaaW.PrintWords Go.Proofs.YthnkmcfhpjmihaaW.PrintLast Go.Proofs.YthnkmcfhpjmihaaW.PrintMore
attribute [local go_sem] max2_int min2_int max_two min_two max_three min_three max_four min_four
set_option linter.unusedVariables false
set_option linter.unusedSimpArgs false
mutual
def r01_Compare.l0 : Nat → List Int → List Int → Int → Option (Int)
 | 0, _, _, _ => none
 | k + 1, x0, x1, x5 => if x5 < (x0.length : Int) then (r01_Compare.j1 k x0 x1 x5 (decide (x5 < (x1.length : Int)))) else (r01_Compare.j1 k x0 x1 x5 false)
def r01_Compare.j1 : Nat → List Int → List Int → Int → Bool → Option (Int)
 | 0, _, _, _, _ => none
 | k + 1, x0, x1, x5, x15 => if x15 = true then (if 0 ≤ x5 then (if x5 < (x0.length : Int) then (if x5 < (x1.length : Int) then (if (rd x0 x5) < (rd x1 x5) then (some (-1)) else (if (rd x0 x5) > (rd x1 x5) then (some 1) else (r01_Compare.l0 k x0 x1 (wrap64 (x5 + 1))))) else (none)) else (none)) else (none)) else (if (x0.length : Int) < (x1.length : Int) then (some (-1)) else (if (x0.length : Int) > (x1.length : Int) then (some 1) else (some 0)))
end
def r01_Compare.f (k : Nat) (l0 : List Int) (l1 : List Int) : Option (Int) := r01_Compare.l0 k l0 l1 0
set_option maxHeartbeats 8000000 in
set_option maxRecDepth 100000 in
theorem r01_Compare.calls (k : Nat) (A0 : Option Addr) (c0 : Nat) (l0 : List Int) (A1 : Option Addr) (c1 : Nat) (l1 : List Int) (r : Int) (w : World) (hr0 : Kd.C (Kd.int .i64) w A0 l0.length l0) (hc0 : l0.length ≤ c0) (hr1 : Kd.C (Kd.int .i64) w A1 l1.length l1) (hc1 : l1.length ≤ c1) (h : r01_Compare.f k l0 l1 = some r) :
  Calls Try.prog 35 #[.slice A0 l0.length c0, .slice A1 l1.length c1] w fun e w' => e = .returned (.int .i64 r) ∧ Drawn0 w w' := by
 have HR0 := aM hr0
 have HC0 := aM hc0
 clear hr0 hc0
 have HR1 := aM hr1
 have HC1 := aM hc1
 clear hr1 hc1
 have H : (r01_Compare.l0 k l0 l1 0) = some r := h
 clear h
 have H' := aM H
 clear H
 go_enter Try.func35, Try.ntmps35
 go_wp2
 repeat (go_quiet (fail); try go_wp2)
 go_loopg [5] k (fun kq v5 w' => ∃ (x5_1 : Int), v5 = .int .i64 x5_1 ∧ Aside0 (r01_Compare.l0 kq l0 l1 x5_1 = some r) ∧ Aside0 (kq ≤ k) ∧ Drawn0 w w')
 case atStart => exact ⟨(0), (by first | rfl | (simp; done) | (simp [*]; done)), H', ⟨Nat.le_refl _⟩, by repeat (first | exact Drawn0.refl _ | apply Drawn0.step)⟩
 case round =>
  clear H'
  try clear c1
  try clear p2
  obtain ⟨x5_1, rfl, HA, HK1, ⟨m1, rfl⟩⟩ := hrel
  cases gk with
  | zero => exact absurd HA.out (by simp [r01_Compare.l0])
  | succ k1 =>
   have H := HA.out
   clear HA
   simp only [r01_Compare.l0] at H
   have HC3 := aM H
   clear H
   go_upto_region 2 with (fail)
   repeat (go_quiet (fail); go_upto_region 2 with (fail))
   go_cut [15] (fun v15 wc => ∃ (kq : Nat) (x15_2 : Bool), v15 = .bool x15_2 ∧ Aside0 (r01_Compare.j1 kq l0 l1 x5_1 x15_2 = some r) ∧ Aside0 (kq ≤ k1) ∧ Drawn0 w wc)
   case first =>
    have H := HC3.out
    clear HC3
    by_cases c4 : x5_1 < (l0.length : Int)
    ·rw [if_pos c4] at H
     have c4b0 : decide (x5_1 < (l0.length : Int)) = true := dT c4
     clear c4
     (first | rw [c4b0] | (simp only [i64_w, i32_w]; rw [c4b0]) | skip)
     have H' := aM H
     clear H
     go_wp2
     repeat (go_quiet (fail); try go_wp2)
     go_meet
     case rel => exact ⟨_, (decide (x5_1 < (l1.length : Int))), (by first | rfl | (simp; done) | (simp [*]; done)), H', ⟨by have := HK1.out; first | omega | exact Nat.le_refl _⟩, by repeat (first | exact Drawn0.refl _ | apply Drawn0.step)⟩
    ·rw [if_neg c4] at H
     have c4b0 : decide (x5_1 < (l0.length : Int)) = false := decide_eq_false c4
     clear c4
     (first | rw [c4b0] | (simp only [i64_w, i32_w]; rw [c4b0]) | skip)
     have H' := aM H
     clear H
     go_wp2
     repeat (go_quiet (fail); try go_wp2)
     go_meet
     case rel => exact ⟨_, (false), (by first | rfl | (simp; done) | (simp [*]; done)), H', ⟨by have := HK1.out; first | omega | exact Nat.le_refl _⟩, by repeat (first | exact Drawn0.refl _ | apply Drawn0.step)⟩
   case rest =>
    clear HC3
    try clear c1
    try clear p2
    try clear c3
    try clear c4
    try clear c4b0
    try clear p2
    obtain ⟨kq, x15_2, rfl, HA, HJ2, ⟨mc2, rfl⟩⟩ := hcut
    cases kq with
    | zero => exact absurd HA.out (by simp [r01_Compare.j1])
    | succ kj2 =>
     have H := HA.out
     clear HA
     simp only [r01_Compare.j1] at H
     by_cases c5 : x15_2 = true
     ·subst c5
      have H1 : (if 0 ≤ x5_1 then (if x5_1 < (l0.length : Int) then (if x5_1 < (l1.length : Int) then (if (rd l0 x5_1) < (rd l1 x5_1) then (some (-1)) else (if (rd l0 x5_1) > (rd l1 x5_1) then (some 1) else (r01_Compare.l0 kj2 l0 l1 (wrap64 (x5_1 + 1))))) else (none)) else (none)) else (none)) = some r := by rw [if_pos rfl] at H; exact H
      clear H
      have H := H1
      clear H1
      by_cases c6 : 0 ≤ x5_1
      ·rw [if_pos c6] at H
       have c6b0 : decide (0 ≤ x5_1) = true := dT c6
       clear c6
       by_cases c7 : x5_1 < (l0.length : Int)
       ·rw [if_pos c7] at H
        have c7b0 : decide (x5_1 < (l0.length : Int)) = true := dT c7
        clear c7
        by_cases c8 : x5_1 < (l1.length : Int)
        ·rw [if_pos c8] at H
         have c8b0 : decide (x5_1 < (l1.length : Int)) = true := dT c8
         clear c8
         by_cases c9 : (rd l0 x5_1) < (rd l1 x5_1)
         ·rw [if_pos c9] at H
          have c9b0 : decide ((rd l0 x5_1) < (rd l1 x5_1)) = true := dT c9
          clear c9
          obtain rfl := Option.some.inj H
          have p118 : 0 ≤ (x5_1 : Int) := oD (by first | (with_reducible assumption) | assumption)
          have q118 : x5_1 < (l0.length : Int) := oD (by first | (with_reducible assumption) | assumption)
          obtain ⟨ad118, e118, hx118_0⟩ := Kd.at_int HR0.out x5_1 p118 q118
          cases e118
          replace p118 := eq_true p118
          replace q118 := eq_true q118
          have p119 : 0 ≤ (x5_1 : Int) := oD (by first | (with_reducible assumption) | assumption)
          have q119 : x5_1 < (l1.length : Int) := oD (by first | (with_reducible assumption) | assumption)
          obtain ⟨ad119, e119, hx119_0⟩ := Kd.at_int HR1.out x5_1 p119 q119
          cases e119
          replace p119 := eq_true p119
          replace q119 := eq_true q119
          go_wp2
          repeat (go_quiet (fail); try go_wp2)
          go_ret
          exact ⟨by first | rfl | (simp; done) | (simp [*]; done), by repeat (first | exact Drawn0.refl _ | apply Drawn0.step)⟩
         ·rw [if_neg c9] at H
          have c9b0 : decide ((rd l0 x5_1) < (rd l1 x5_1)) = false := decide_eq_false c9
          clear c9
          by_cases c10 : (rd l0 x5_1) > (rd l1 x5_1)
          ·rw [if_pos c10] at H
           have c10b0 : decide ((rd l1 x5_1) < (rd l0 x5_1)) = true := dT c10
           clear c10
           obtain rfl := Option.some.inj H
           have p118 : 0 ≤ (x5_1 : Int) := oD (by first | (with_reducible assumption) | assumption)
           have q118 : x5_1 < (l0.length : Int) := oD (by first | (with_reducible assumption) | assumption)
           obtain ⟨ad118, e118, hx118_0⟩ := Kd.at_int HR0.out x5_1 p118 q118
           cases e118
           replace p118 := eq_true p118
           replace q118 := eq_true q118
           have p119 : 0 ≤ (x5_1 : Int) := oD (by first | (with_reducible assumption) | assumption)
           have q119 : x5_1 < (l1.length : Int) := oD (by first | (with_reducible assumption) | assumption)
           obtain ⟨ad119, e119, hx119_0⟩ := Kd.at_int HR1.out x5_1 p119 q119
           cases e119
           replace p119 := eq_true p119
           replace q119 := eq_true q119
           have p120 : 0 ≤ (x5_1 : Int) := oD (by first | (with_reducible assumption) | assumption)
           have q120 : x5_1 < (l0.length : Int) := oD (by first | (with_reducible assumption) | assumption)
           obtain ⟨ad120, e120, hx120_0⟩ := Kd.at_int HR0.out x5_1 p120 q120
           obtain rfl : ad118 = ad120 := (by injection e120)
           replace p120 := eq_true p120
           replace q120 := eq_true q120
           have p121 : 0 ≤ (x5_1 : Int) := oD (by first | (with_reducible assumption) | assumption)
           have q121 : x5_1 < (l1.length : Int) := oD (by first | (with_reducible assumption) | assumption)
           obtain ⟨ad121, e121, hx121_0⟩ := Kd.at_int HR1.out x5_1 p121 q121
           obtain rfl : ad119 = ad121 := (by injection e121)
           replace p121 := eq_true p121
           replace q121 := eq_true q121
           go_wp2
           repeat (go_quiet (fail); try go_wp2)
           go_ret
           exact ⟨by first | rfl | (simp; done) | (simp [*]; done), by repeat (first | exact Drawn0.refl _ | apply Drawn0.step)⟩
          ·rw [if_neg c10] at H
           have c10b0 : decide ((rd l1 x5_1) < (rd l0 x5_1)) = false := decide_eq_false c10
           clear c10
           have H' := aM H
           clear H
           have p118 : 0 ≤ (x5_1 : Int) := oD (by first | (with_reducible assumption) | assumption)
           have q118 : x5_1 < (l0.length : Int) := oD (by first | (with_reducible assumption) | assumption)
           obtain ⟨ad118, e118, hx118_0⟩ := Kd.at_int HR0.out x5_1 p118 q118
           cases e118
           replace p118 := eq_true p118
           replace q118 := eq_true q118
           have p119 : 0 ≤ (x5_1 : Int) := oD (by first | (with_reducible assumption) | assumption)
           have q119 : x5_1 < (l1.length : Int) := oD (by first | (with_reducible assumption) | assumption)
           obtain ⟨ad119, e119, hx119_0⟩ := Kd.at_int HR1.out x5_1 p119 q119
           cases e119
           replace p119 := eq_true p119
           replace q119 := eq_true q119
           have p120 : 0 ≤ (x5_1 : Int) := oD (by first | (with_reducible assumption) | assumption)
           have q120 : x5_1 < (l0.length : Int) := oD (by first | (with_reducible assumption) | assumption)
           obtain ⟨ad120, e120, hx120_0⟩ := Kd.at_int HR0.out x5_1 p120 q120
           obtain rfl : ad118 = ad120 := (by injection e120)
           replace p120 := eq_true p120
           replace q120 := eq_true q120
           have p121 : 0 ≤ (x5_1 : Int) := oD (by first | (with_reducible assumption) | assumption)
           have q121 : x5_1 < (l1.length : Int) := oD (by first | (with_reducible assumption) | assumption)
           obtain ⟨ad121, e121, hx121_0⟩ := Kd.at_int HR1.out x5_1 p121 q121
           obtain rfl : ad119 = ad121 := (by injection e121)
           replace p121 := eq_true p121
           replace q121 := eq_true q121
           go_wp2
           repeat (go_quiet (fail); try go_wp2)
           go_roundg kj2
           case measure => have := HK1.out; have := HJ2.out; omega
           case rel => exact ⟨(wrap64 (x5_1 + 1)), (by first | rfl | (simp; done) | (simp [*]; done)), H', ⟨by have := HK1.out; have := HJ2.out; omega⟩, by repeat (first | exact Drawn0.refl _ | apply Drawn0.step)⟩
        ·rw [if_neg c8] at H
         exact absurd H (by simp)
       ·rw [if_neg c7] at H
        exact absurd H (by simp)
      ·rw [if_neg c6] at H
       exact absurd H (by simp)
     ·replace c5 := Bool.eq_false_iff.mpr c5
      subst c5
      have H1 : (if (l0.length : Int) < (l1.length : Int) then (some (-1)) else (if (l0.length : Int) > (l1.length : Int) then (some 1) else (some 0))) = some r := by rw [if_neg (show ¬ (false = true) by decide)] at H; exact H
      clear H
      have H := H1
      clear H1
      by_cases c11 : (l0.length : Int) < (l1.length : Int)
      ·rw [if_pos c11] at H
       have c11b0 : decide ((l0.length : Int) < (l1.length : Int)) = true := dT c11
       have c11b1 : decide (l0.length < l1.length) = true := dT (Int.ofNat_lt.mp c11)
       clear c11
       obtain rfl := Option.some.inj H
       go_wp2
       repeat (go_quiet (fail); try go_wp2)
       go_ret
       exact ⟨by first | rfl | (simp; done) | (simp [*]; done), by repeat (first | exact Drawn0.refl _ | apply Drawn0.step)⟩
      ·rw [if_neg c11] at H
       have c11b0 : decide ((l0.length : Int) < (l1.length : Int)) = false := decide_eq_false c11
       have c11b1 : decide (l0.length < l1.length) = false := decide_eq_false (fun h => c11 (Int.ofNat_lt.mpr h))
       clear c11
       by_cases c12 : (l0.length : Int) > (l1.length : Int)
       ·rw [if_pos c12] at H
        have c12b0 : decide ((l1.length : Int) < (l0.length : Int)) = true := dT c12
        have c12b1 : decide (l1.length < l0.length) = true := dT (Int.ofNat_lt.mp c12)
        clear c12
        obtain rfl := Option.some.inj H
        go_wp2
        repeat (go_quiet (fail); try go_wp2)
        go_ret
        exact ⟨by first | rfl | (simp; done) | (simp [*]; done), by repeat (first | exact Drawn0.refl _ | apply Drawn0.step)⟩
       ·rw [if_neg c12] at H
        have c12b0 : decide ((l1.length : Int) < (l0.length : Int)) = false := decide_eq_false c12
        have c12b1 : decide (l1.length < l0.length) = false := decide_eq_false (fun h => c12 (Int.ofNat_lt.mpr h))
        clear c12
        obtain rfl := Option.some.inj H
        go_wp2
        repeat (go_quiet (fail); try go_wp2)
        go_ret
        exact ⟨by first | rfl | (simp; done) | (simp [*]; done), by repeat (first | exact Drawn0.refl _ | apply Drawn0.step)⟩
def r01_Equal.f (k : Nat) (l0 : List Int) (l1 : List Int) : Option (Bool) := (r01_Compare.f k l0 l1).bind fun t122 => (some (t122 == 0))
set_option maxHeartbeats 8000000 in
set_option maxRecDepth 100000 in
theorem r01_Equal.calls (k : Nat) (A0 : Option Addr) (c0 : Nat) (l0 : List Int) (A1 : Option Addr) (c1 : Nat) (l1 : List Int) (r : Bool) (w : World) (hr0 : Kd.C (Kd.int .i64) w A0 l0.length l0) (hc0 : l0.length ≤ c0) (hr1 : Kd.C (Kd.int .i64) w A1 l1.length l1) (hc1 : l1.length ≤ c1) (h : r01_Equal.f k l0 l1 = some r) :
  Calls Try.prog 16 #[.slice A0 l0.length c0, .slice A1 l1.length c1] w fun e w' => e = .returned (.bool r) ∧ Drawn0 w w' := by
 have HR0 := aM hr0
 have HC0 := aM hc0
 clear hr0 hc0
 have HR1 := aM hr1
 have HC1 := aM hc1
 clear hr1 hc1
 have H : ((r01_Compare.f k l0 l1).bind fun t122 => (some (t122 == 0))) = some r := h
 clear h
 replace H := Option.bind_eq_some_iff.mp H
 obtain ⟨t122, A30, H⟩ := H
 replace H : (some (t122 == 0)) = some r := H
 have A3 := aM A30
 clear A30
 obtain rfl := Option.some.inj H
 go_enter Try.func16, Try.ntmps16
 go_wp2_with (first | ((with_reducible refine gate_callee (f := 35) rfl ?_); refine goesL_ (some 7) rfl rfl Try.func35 (by kernel_rfl) rfl #[.slice A0 l0.length c0, .slice A1 l1.length c1] rfl (by (try simp only [List.map_toArray, List.map_cons, List.map_nil]); first | done | rfl | (simp only [List.length_drop, List.length_take]; rfl)) ?_; (with_reducible refine (r01_Compare.calls k _ _ l0 _ _ l1 t122 _ ?side1 ?side2 ?side3 ?side4 A3.out).mono ?_); (case side1 => repeat (first | exact HR0.out | (with_reducible refine Kd.C_alloc ?_ _) | (with_reducible refine Kd.C_drewN ?_ _) | (with_reducible refine Kd.C_drew ?_))); (case side2 => exact HC0.out); (case side3 => repeat (first | exact HR1.out | (with_reducible refine Kd.C_alloc ?_ _) | (with_reducible refine Kd.C_drewN ?_ _) | (with_reducible refine Kd.C_drew ?_))); (case side4 => exact HC1.out); rintro e w' ⟨rfl, ⟨nd, rfl⟩⟩; refine ⟨_, rfl, ?_⟩))
 go_ret
 exact ⟨by first | rfl | (simp; done) | (simp [*]; done), by repeat (first | exact Drawn0.refl _ | apply Drawn0.step)⟩
end Go.Proofs.Ythnkmcfhpjmihaa.Q
end
