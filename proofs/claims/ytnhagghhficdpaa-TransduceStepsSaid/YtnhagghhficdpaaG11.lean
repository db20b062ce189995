/- Lemmas, printed and written for this claim: part 11. -/
import Derived.Test.YtnhagghhficdpaaG2
import Derived.Test.YtnhagghhficdpaaG10
import Derived.Test.YtnhagghhficdpaaG6
import Derived.Test.YtnhagghhficdpaaG5
import Derived.WalkKit
import Derived.Test.YtnhagghhficdpaaG8
import Derived.Test.YtnhagghhficdpaaG9
import Derived.Test.YtnhagghhficdpaaG7
import Derived.Test.YtnhagghhficdpaaG4
import Derived.Test.YtnhagghhficdpaaG3
section
namespace Go.Proofs.Ytnhagghhficdpaa.Q
open Go.RowKit Go.Proofs.YtnhagghhficdpaaW.PrintWords Go.Proofs.YtnhagghhficdpaaW.PrintLast Go.Proofs.YtnhagghhficdpaaW.PrintMore
attribute [local go_sem] max2_int min2_int max_two min_two max_three min_three max_four min_four   -- for this text's walks alone
set_option linter.unusedVariables false
set_option linter.unusedSimpArgs false
def unicodetextlaw51_TransduceSteps.f (k : Nat) (l0 : List (S34)) (l1 : List Int) (a2 : Int) : Option (Bool) := (unicodetextlaw51_few.f k l0 l1).bind fun t242 => (if t242 = true then ((transduce_Step.f l0 l1 a2).bind fun bt243 => ((unicodetextref51_Step.f k l0 l1 a2).bind fun bt245 => (if bt243.1 = bt245.1 then (if bt243.2 = bt245.2 then ((unicodetextlaw51_alive.f k).bind fun t247 => (some t247)) else (some false)) else (some false)))) else ((unicodetextlaw51_alive.f k).bind fun t248 => (some t248)))
set_option maxHeartbeats 8000000 in
set_option maxRecDepth 100000 in
theorem unicodetextlaw51_TransduceSteps.calls (k : Nat) (A0 : Option Addr) (c0 : Nat) (l0 : List (S34)) (A1 : Option Addr) (c1 : Nat) (l1 : List Int) (a2 : Int) (r : Bool) (w : World) (hr0 : Kd.C k34 w A0 l0.length l0) (hc0 : l0.length ≤ c0) (hr1 : Kd.C (Kd.int .i64) w A1 l1.length l1) (hc1 : l1.length ≤ c1) (h : unicodetextlaw51_TransduceSteps.f k l0 l1 a2 = some r) :
    Calls Try.prog 3 #[.slice A0 l0.length c0, .slice A1 l1.length c1, .int .i64 a2] w fun e w' => e = .returned (.bool r) ∧ Below w.heap.size w w' := by
  have HR0 := Aside0.mk hr0
  have HC0 := Aside0.mk hc0
  clear hr0 hc0
  have HR1 := Aside0.mk hr1
  have HC1 := Aside0.mk hc1
  clear hr1 hc1
  have HB := Aside0.mk (Below.refl w.heap.size w)
  have H : ((unicodetextlaw51_few.f k l0 l1).bind fun t242 => (if t242 = true then ((transduce_Step.f l0 l1 a2).bind fun bt243 => ((unicodetextref51_Step.f k l0 l1 a2).bind fun bt245 => (if bt243.1 = bt245.1 then (if bt243.2 = bt245.2 then ((unicodetextlaw51_alive.f k).bind fun t247 => (some t247)) else (some false)) else (some false)))) else ((unicodetextlaw51_alive.f k).bind fun t248 => (some t248)))) = some r := h
  clear h
  replace H := Option.bind_eq_some_iff.mp H
  obtain ⟨t242, A40, H⟩ := H
  replace H : (if t242 = true then ((transduce_Step.f l0 l1 a2).bind fun bt243 => ((unicodetextref51_Step.f k l0 l1 a2).bind fun bt245 => (if bt243.1 = bt245.1 then (if bt243.2 = bt245.2 then ((unicodetextlaw51_alive.f k).bind fun t247 => (some t247)) else (some false)) else (some false)))) else ((unicodetextlaw51_alive.f k).bind fun t248 => (some t248))) = some r := H
  have A4 := Aside0.mk A40
  clear A40
  by_cases c5 : t242 = true
  · subst c5
    have H1 : ((transduce_Step.f l0 l1 a2).bind fun bt243 => ((unicodetextref51_Step.f k l0 l1 a2).bind fun bt245 => (if bt243.1 = bt245.1 then (if bt243.2 = bt245.2 then ((unicodetextlaw51_alive.f k).bind fun t247 => (some t247)) else (some false)) else (some false)))) = some r := by rw [if_pos rfl] at H; exact H
    clear H
    have H := H1
    clear H1
    replace H := Option.bind_eq_some_iff.mp H
    obtain ⟨⟨t243, t244⟩, A60, H⟩ := H
    replace H : ((unicodetextref51_Step.f k l0 l1 a2).bind fun bt245 => (if t243 = bt245.1 then (if t244 = bt245.2 then ((unicodetextlaw51_alive.f k).bind fun t247 => (some t247)) else (some false)) else (some false))) = some r := H
    have A6 := Aside0.mk A60
    clear A60
    replace H := Option.bind_eq_some_iff.mp H
    obtain ⟨⟨t245, t246⟩, A70, H⟩ := H
    replace H : (if t243 = t245 then (if t244 = t246 then ((unicodetextlaw51_alive.f k).bind fun t247 => (some t247)) else (some false)) else (some false)) = some r := H
    have A7 := Aside0.mk A70
    clear A70
    by_cases c8 : t243 = t245
    · rw [if_pos c8] at H
      have c8b0 : (t243 == t245) = true := beq_iff_eq.mpr c8
      have c8b1 : (t243 != t245) = false := bne_eq_false_iff_eq.mpr c8
      clear c8
      by_cases c9 : t244 = t246
      · rw [if_pos c9] at H
        have c9b0 : (t244 == t246) = true := beq_iff_eq.mpr c9
        have c9b1 : (t244 != t246) = false := bne_eq_false_iff_eq.mpr c9
        clear c9
        replace H := Option.bind_eq_some_iff.mp H
        obtain ⟨t247, A100, H⟩ := H
        replace H : (some t247) = some r := H
        have A10 := Aside0.mk A100
        clear A100
        obtain rfl := Option.some.inj H
        go_enter Try.func3, Try.ntmps3
        go_wp2_with (first | ((with_reducible refine gate_callee (f := 11) rfl ?_); refine goesL_ (some 13) rfl rfl Try.func11 (by kernel_rfl) rfl #[.slice A0 l0.length c0, .slice A1 l1.length c1] rfl (by (try simp only [List.map_toArray, List.map_cons, List.map_nil]); first | done | rfl | (simp only [List.length_drop, List.length_take]; rfl)) ?_; (with_reducible refine (unicodetextlaw51_few.calls k _ _ l0 _ _ l1 true _ ?side1 ?side2 ?side3 ?side4 A4.out).mono ?_); (case side1 => repeat (first | exact HR0.out | (with_reducible refine Kd.C_alloc ?_ _) | (with_reducible refine Kd.C_drewN ?_ _) | (with_reducible refine Kd.C_drew ?_))); (case side2 => exact HC0.out); (case side3 => repeat (first | exact HR1.out | (with_reducible refine Kd.C_alloc ?_ _) | (with_reducible refine Kd.C_drewN ?_ _) | (with_reducible refine Kd.C_drew ?_))); (case side4 => exact HC1.out); rintro e w11 ⟨rfl, hb⟩; refine ⟨_, rfl, ?_⟩; have n0_ := Aside0.mk (below_step (by repeat (first | (with_reducible first | exact HB.out | apply below_alloc | apply pw_below_drewN | apply below_drew1) | exact HB.out)) hb); clear HB; have HB := n0_; clear n0_; (try clear hb); (try clear hb2); (try clear hk); (try clear hi)) | ((with_reducible refine gate_callee (f := 13) rfl ?_); refine goesL_ (some 20) rfl rfl Try.func13 (by kernel_rfl) rfl #[.slice A0 l0.length c0, .slice A1 l1.length c1, .int .i64 a2] rfl (by (try simp only [List.map_toArray, List.map_cons, List.map_nil]); first | done | rfl | (simp only [List.length_drop, List.length_take]; rfl)) ?_; (with_reducible refine (transduce_Step.calls _ _ l0 _ _ l1 a2 t243 t244 _ ?side1 ?side2 ?side3 ?side4 A6.out).mono ?_); (case side1 => repeat (first | exact (Kd.C_below HR0.out HB.out) | (with_reducible refine Kd.C_alloc ?_ _) | (with_reducible refine Kd.C_drewN ?_ _) | (with_reducible refine Kd.C_drew ?_))); (case side2 => exact HC0.out); (case side3 => repeat (first | exact (Kd.C_below HR1.out HB.out) | (with_reducible refine Kd.C_alloc ?_ _) | (with_reducible refine Kd.C_drewN ?_ _) | (with_reducible refine Kd.C_drew ?_))); (case side4 => exact HC1.out); rintro e w12 ⟨rfl, hb⟩; refine ⟨_, rfl, ?_⟩; have n0_ := Aside0.mk (below_step (by repeat (first | (with_reducible first | exact HB.out | apply below_alloc | apply pw_below_drewN | apply below_drew1) | exact HB.out)) hb); clear HB; have HB := n0_; clear n0_; (try clear hb); (try clear hb2); (try clear hk); (try clear hi)) | ((with_reducible refine gate_callee (f := 14) rfl ?_); refine goesL_ (some 27) rfl rfl Try.func14 (by kernel_rfl) rfl #[.slice A0 l0.length c0, .slice A1 l1.length c1, .int .i64 a2] rfl (by (try simp only [List.map_toArray, List.map_cons, List.map_nil]); first | done | rfl | (simp only [List.length_drop, List.length_take]; rfl)) ?_; (with_reducible refine (unicodetextref51_Step.calls k _ _ l0 _ _ l1 a2 t245 t246 _ ?side1 ?side2 ?side3 ?side4 A7.out).mono ?_); (case side1 => repeat (first | exact (Kd.C_below HR0.out HB.out) | (with_reducible refine Kd.C_alloc ?_ _) | (with_reducible refine Kd.C_drewN ?_ _) | (with_reducible refine Kd.C_drew ?_))); (case side2 => exact HC0.out); (case side3 => repeat (first | exact (Kd.C_below HR1.out HB.out) | (with_reducible refine Kd.C_alloc ?_ _) | (with_reducible refine Kd.C_drewN ?_ _) | (with_reducible refine Kd.C_drew ?_))); (case side4 => exact HC1.out); rintro e w13 ⟨rfl, hb⟩; refine ⟨_, rfl, ?_⟩; have n0_ := Aside0.mk (below_step (by repeat (first | (with_reducible first | exact HB.out | apply below_alloc | apply pw_below_drewN | apply below_drew1) | exact HB.out)) hb); clear HB; have HB := n0_; clear n0_; (try clear hb); (try clear hb2); (try clear hk); (try clear hi)) | (go_at_call 12; (with_reducible refine (unicodetextlaw51_alive.calls k  t247 _ A10.out).mono ?_); rintro e w14 ⟨rfl, hb⟩; have n0_ := Aside0.mk (below_step (by repeat (first | (with_reducible first | exact HB.out | apply below_alloc | apply pw_below_drewN | apply below_drew1) | exact HB.out)) hb); clear HB; have HB := n0_; clear n0_; (try clear hb); (try clear hb2); (try clear hk); (try clear hi)))
        go_ret
        exact ⟨by first | rfl | (simp [errW_none, errW_some] <;> rfl) | (simp [*, errW_none, errW_some] <;> rfl), by repeat (first | (with_reducible first | exact HB.out | apply below_alloc | apply pw_below_drewN | apply below_drew1) | exact HB.out)⟩
      · rw [if_neg c9] at H
        have c9b0 : (t244 == t246) = false := beq_eq_false_iff_ne.mpr c9
        have c9b1 : (t244 != t246) = true := bne_iff_ne.mpr c9
        obtain rfl := Option.some.inj H
        go_enter Try.func3, Try.ntmps3
        go_wp2_with (first | ((with_reducible refine gate_callee (f := 11) rfl ?_); refine goesL_ (some 13) rfl rfl Try.func11 (by kernel_rfl) rfl #[.slice A0 l0.length c0, .slice A1 l1.length c1] rfl (by (try simp only [List.map_toArray, List.map_cons, List.map_nil]); first | done | rfl | (simp only [List.length_drop, List.length_take]; rfl)) ?_; (with_reducible refine (unicodetextlaw51_few.calls k _ _ l0 _ _ l1 true _ ?side1 ?side2 ?side3 ?side4 A4.out).mono ?_); (case side1 => repeat (first | exact HR0.out | (with_reducible refine Kd.C_alloc ?_ _) | (with_reducible refine Kd.C_drewN ?_ _) | (with_reducible refine Kd.C_drew ?_))); (case side2 => exact HC0.out); (case side3 => repeat (first | exact HR1.out | (with_reducible refine Kd.C_alloc ?_ _) | (with_reducible refine Kd.C_drewN ?_ _) | (with_reducible refine Kd.C_drew ?_))); (case side4 => exact HC1.out); rintro e w15 ⟨rfl, hb⟩; refine ⟨_, rfl, ?_⟩; have n0_ := Aside0.mk (below_step (by repeat (first | (with_reducible first | exact HB.out | apply below_alloc | apply pw_below_drewN | apply below_drew1) | exact HB.out)) hb); clear HB; have HB := n0_; clear n0_; (try clear hb); (try clear hb2); (try clear hk); (try clear hi)) | ((with_reducible refine gate_callee (f := 13) rfl ?_); refine goesL_ (some 20) rfl rfl Try.func13 (by kernel_rfl) rfl #[.slice A0 l0.length c0, .slice A1 l1.length c1, .int .i64 a2] rfl (by (try simp only [List.map_toArray, List.map_cons, List.map_nil]); first | done | rfl | (simp only [List.length_drop, List.length_take]; rfl)) ?_; (with_reducible refine (transduce_Step.calls _ _ l0 _ _ l1 a2 t243 t244 _ ?side1 ?side2 ?side3 ?side4 A6.out).mono ?_); (case side1 => repeat (first | exact (Kd.C_below HR0.out HB.out) | (with_reducible refine Kd.C_alloc ?_ _) | (with_reducible refine Kd.C_drewN ?_ _) | (with_reducible refine Kd.C_drew ?_))); (case side2 => exact HC0.out); (case side3 => repeat (first | exact (Kd.C_below HR1.out HB.out) | (with_reducible refine Kd.C_alloc ?_ _) | (with_reducible refine Kd.C_drewN ?_ _) | (with_reducible refine Kd.C_drew ?_))); (case side4 => exact HC1.out); rintro e w16 ⟨rfl, hb⟩; refine ⟨_, rfl, ?_⟩; have n0_ := Aside0.mk (below_step (by repeat (first | (with_reducible first | exact HB.out | apply below_alloc | apply pw_below_drewN | apply below_drew1) | exact HB.out)) hb); clear HB; have HB := n0_; clear n0_; (try clear hb); (try clear hb2); (try clear hk); (try clear hi)) | ((with_reducible refine gate_callee (f := 14) rfl ?_); refine goesL_ (some 27) rfl rfl Try.func14 (by kernel_rfl) rfl #[.slice A0 l0.length c0, .slice A1 l1.length c1, .int .i64 a2] rfl (by (try simp only [List.map_toArray, List.map_cons, List.map_nil]); first | done | rfl | (simp only [List.length_drop, List.length_take]; rfl)) ?_; (with_reducible refine (unicodetextref51_Step.calls k _ _ l0 _ _ l1 a2 t245 t246 _ ?side1 ?side2 ?side3 ?side4 A7.out).mono ?_); (case side1 => repeat (first | exact (Kd.C_below HR0.out HB.out) | (with_reducible refine Kd.C_alloc ?_ _) | (with_reducible refine Kd.C_drewN ?_ _) | (with_reducible refine Kd.C_drew ?_))); (case side2 => exact HC0.out); (case side3 => repeat (first | exact (Kd.C_below HR1.out HB.out) | (with_reducible refine Kd.C_alloc ?_ _) | (with_reducible refine Kd.C_drewN ?_ _) | (with_reducible refine Kd.C_drew ?_))); (case side4 => exact HC1.out); rintro e w17 ⟨rfl, hb⟩; refine ⟨_, rfl, ?_⟩; have n0_ := Aside0.mk (below_step (by repeat (first | (with_reducible first | exact HB.out | apply below_alloc | apply pw_below_drewN | apply below_drew1) | exact HB.out)) hb); clear HB; have HB := n0_; clear n0_; (try clear hb); (try clear hb2); (try clear hk); (try clear hi)))
        go_ret
        exact ⟨by first | rfl | (simp [errW_none, errW_some] <;> rfl) | (simp [*, errW_none, errW_some] <;> rfl), by repeat (first | (with_reducible first | exact HB.out | apply below_alloc | apply pw_below_drewN | apply below_drew1) | exact HB.out)⟩
    · rw [if_neg c8] at H
      have c8b0 : (t243 == t245) = false := beq_eq_false_iff_ne.mpr c8
      have c8b1 : (t243 != t245) = true := bne_iff_ne.mpr c8
      obtain rfl := Option.some.inj H
      go_enter Try.func3, Try.ntmps3
      go_wp2_with (first | ((with_reducible refine gate_callee (f := 11) rfl ?_); refine goesL_ (some 13) rfl rfl Try.func11 (by kernel_rfl) rfl #[.slice A0 l0.length c0, .slice A1 l1.length c1] rfl (by (try simp only [List.map_toArray, List.map_cons, List.map_nil]); first | done | rfl | (simp only [List.length_drop, List.length_take]; rfl)) ?_; (with_reducible refine (unicodetextlaw51_few.calls k _ _ l0 _ _ l1 true _ ?side1 ?side2 ?side3 ?side4 A4.out).mono ?_); (case side1 => repeat (first | exact HR0.out | (with_reducible refine Kd.C_alloc ?_ _) | (with_reducible refine Kd.C_drewN ?_ _) | (with_reducible refine Kd.C_drew ?_))); (case side2 => exact HC0.out); (case side3 => repeat (first | exact HR1.out | (with_reducible refine Kd.C_alloc ?_ _) | (with_reducible refine Kd.C_drewN ?_ _) | (with_reducible refine Kd.C_drew ?_))); (case side4 => exact HC1.out); rintro e w18 ⟨rfl, hb⟩; refine ⟨_, rfl, ?_⟩; have n0_ := Aside0.mk (below_step (by repeat (first | (with_reducible first | exact HB.out | apply below_alloc | apply pw_below_drewN | apply below_drew1) | exact HB.out)) hb); clear HB; have HB := n0_; clear n0_; (try clear hb); (try clear hb2); (try clear hk); (try clear hi)) | ((with_reducible refine gate_callee (f := 13) rfl ?_); refine goesL_ (some 20) rfl rfl Try.func13 (by kernel_rfl) rfl #[.slice A0 l0.length c0, .slice A1 l1.length c1, .int .i64 a2] rfl (by (try simp only [List.map_toArray, List.map_cons, List.map_nil]); first | done | rfl | (simp only [List.length_drop, List.length_take]; rfl)) ?_; (with_reducible refine (transduce_Step.calls _ _ l0 _ _ l1 a2 t243 t244 _ ?side1 ?side2 ?side3 ?side4 A6.out).mono ?_); (case side1 => repeat (first | exact (Kd.C_below HR0.out HB.out) | (with_reducible refine Kd.C_alloc ?_ _) | (with_reducible refine Kd.C_drewN ?_ _) | (with_reducible refine Kd.C_drew ?_))); (case side2 => exact HC0.out); (case side3 => repeat (first | exact (Kd.C_below HR1.out HB.out) | (with_reducible refine Kd.C_alloc ?_ _) | (with_reducible refine Kd.C_drewN ?_ _) | (with_reducible refine Kd.C_drew ?_))); (case side4 => exact HC1.out); rintro e w19 ⟨rfl, hb⟩; refine ⟨_, rfl, ?_⟩; have n0_ := Aside0.mk (below_step (by repeat (first | (with_reducible first | exact HB.out | apply below_alloc | apply pw_below_drewN | apply below_drew1) | exact HB.out)) hb); clear HB; have HB := n0_; clear n0_; (try clear hb); (try clear hb2); (try clear hk); (try clear hi)) | ((with_reducible refine gate_callee (f := 14) rfl ?_); refine goesL_ (some 27) rfl rfl Try.func14 (by kernel_rfl) rfl #[.slice A0 l0.length c0, .slice A1 l1.length c1, .int .i64 a2] rfl (by (try simp only [List.map_toArray, List.map_cons, List.map_nil]); first | done | rfl | (simp only [List.length_drop, List.length_take]; rfl)) ?_; (with_reducible refine (unicodetextref51_Step.calls k _ _ l0 _ _ l1 a2 t245 t246 _ ?side1 ?side2 ?side3 ?side4 A7.out).mono ?_); (case side1 => repeat (first | exact (Kd.C_below HR0.out HB.out) | (with_reducible refine Kd.C_alloc ?_ _) | (with_reducible refine Kd.C_drewN ?_ _) | (with_reducible refine Kd.C_drew ?_))); (case side2 => exact HC0.out); (case side3 => repeat (first | exact (Kd.C_below HR1.out HB.out) | (with_reducible refine Kd.C_alloc ?_ _) | (with_reducible refine Kd.C_drewN ?_ _) | (with_reducible refine Kd.C_drew ?_))); (case side4 => exact HC1.out); rintro e w20 ⟨rfl, hb⟩; refine ⟨_, rfl, ?_⟩; have n0_ := Aside0.mk (below_step (by repeat (first | (with_reducible first | exact HB.out | apply below_alloc | apply pw_below_drewN | apply below_drew1) | exact HB.out)) hb); clear HB; have HB := n0_; clear n0_; (try clear hb); (try clear hb2); (try clear hk); (try clear hi)))
      go_ret
      exact ⟨by first | rfl | (simp [errW_none, errW_some] <;> rfl) | (simp [*, errW_none, errW_some] <;> rfl), by repeat (first | (with_reducible first | exact HB.out | apply below_alloc | apply pw_below_drewN | apply below_drew1) | exact HB.out)⟩
  · replace c5 := Bool.eq_false_iff.mpr c5
    subst c5
    have H1 : ((unicodetextlaw51_alive.f k).bind fun t248 => (some t248)) = some r := by rw [if_neg (show ¬ (false = true) by decide)] at H; exact H
    clear H
    have H := H1
    clear H1
    replace H := Option.bind_eq_some_iff.mp H
    obtain ⟨t248, A210, H⟩ := H
    replace H : (some t248) = some r := H
    have A21 := Aside0.mk A210
    clear A210
    obtain rfl := Option.some.inj H
    go_enter Try.func3, Try.ntmps3
    go_wp2_with (first | ((with_reducible refine gate_callee (f := 11) rfl ?_); refine goesL_ (some 13) rfl rfl Try.func11 (by kernel_rfl) rfl #[.slice A0 l0.length c0, .slice A1 l1.length c1] rfl (by (try simp only [List.map_toArray, List.map_cons, List.map_nil]); first | done | rfl | (simp only [List.length_drop, List.length_take]; rfl)) ?_; (with_reducible refine (unicodetextlaw51_few.calls k _ _ l0 _ _ l1 false _ ?side1 ?side2 ?side3 ?side4 A4.out).mono ?_); (case side1 => repeat (first | exact HR0.out | (with_reducible refine Kd.C_alloc ?_ _) | (with_reducible refine Kd.C_drewN ?_ _) | (with_reducible refine Kd.C_drew ?_))); (case side2 => exact HC0.out); (case side3 => repeat (first | exact HR1.out | (with_reducible refine Kd.C_alloc ?_ _) | (with_reducible refine Kd.C_drewN ?_ _) | (with_reducible refine Kd.C_drew ?_))); (case side4 => exact HC1.out); rintro e w22 ⟨rfl, hb⟩; refine ⟨_, rfl, ?_⟩; have n0_ := Aside0.mk (below_step (by repeat (first | (with_reducible first | exact HB.out | apply below_alloc | apply pw_below_drewN | apply below_drew1) | exact HB.out)) hb); clear HB; have HB := n0_; clear n0_; (try clear hb); (try clear hb2); (try clear hk); (try clear hi)) | ((with_reducible refine gate_callee (f := 12) rfl ?_); refine goesL_ (some 15) rfl rfl Try.func12 (by kernel_rfl) rfl #[] rfl (by (try simp only [List.map_toArray, List.map_cons, List.map_nil]); first | done | rfl | (simp only [List.length_drop, List.length_take]; rfl)) ?_; (with_reducible refine (unicodetextlaw51_alive.calls k  t248 _ A21.out).mono ?_); rintro e w23 ⟨rfl, hb⟩; refine ⟨_, rfl, ?_⟩; have n0_ := Aside0.mk (below_step (by repeat (first | (with_reducible first | exact HB.out | apply below_alloc | apply pw_below_drewN | apply below_drew1) | exact HB.out)) hb); clear HB; have HB := n0_; clear n0_; (try clear hb); (try clear hb2); (try clear hk); (try clear hi)))
    go_ret
    exact ⟨by first | rfl | (simp [errW_none, errW_some] <;> rfl) | (simp [*, errW_none, errW_some] <;> rfl), by repeat (first | (with_reducible first | exact HB.out | apply below_alloc | apply pw_below_drewN | apply below_drew1) | exact HB.out)⟩
end Go.Proofs.Ytnhagghhficdpaa.Q
end
section
namespace Go.Proofs.Ytnhagghhficdpaa.Q
open Go.RowKit Go.Proofs.YtnhagghhficdpaaW.PrintWords Go.Proofs.YtnhagghhficdpaaW.PrintLast Go.Proofs.YtnhagghhficdpaaW.PrintMore
set_option linter.unusedVariables false
def plFewS (l : List St) : Prop := l.length ≤ 10 ∧ ∀ s ∈ l, s.f0.length ≤ 12
def plFewU (x : Ru) : Prop := plFewS x.f0 ∧ plFewS x.f1 ∧ plFewS x.f2 ∧ x.f3.length ≤ 20
def plFewL (l : List Ru) : Prop := l.length ≤ 6 ∧ ∀ x ∈ l, plFewU x
theorem plRdP_mid (pre : List Pc) (x : Pc) (rest : List Pc) : rd_T51 (pre ++ x :: rest) (pre.length : Int) = x := by
  unfold rd_T51
  rw [Int.toNat_natCast, List.getD_eq_getElem?_getD, List.getElem?_append_right (Nat.le_refl _), Nat.sub_self]
  rfl
theorem plSame_go : ∀ (xs ys px py : List Rg) (k : Nat), px.length = py.length → xs.length = ys.length → (px ++ xs).length < 1000000000 → xs.length + 1 ≤ k →
    unicodetextref02_Same.l0 k (px.length : Int) (px ++ xs) (py ++ ys) = some (decide (xs.map toP = ys.map toP))
  | [], [], px, py, k, h1, h2, h3, h4 => by
    obtain ⟨k, rfl⟩ : ∃ j, k = j + 1 := ⟨k - 1, by omega⟩
    rw [unicodetextref02_Same.l0, if_neg (by simp)]
    rfl
  | x :: xs, y :: ys, px, py, k, h1, h2, h3, h4 => by
    obtain ⟨k, rfl⟩ : ∃ j, k = j + 1 := ⟨k - 1, by omega⟩
    have hp : px.length < 1000000000 := by simp at h3; omega
    have ih := plSame_go xs ys (px ++ [x]) (py ++ [y]) k (by simp [h1]) (by simpa using h2) (by simpa using h3) (by simp at h4; omega)
    have ex : (px ++ [x]) ++ xs = px ++ x :: xs := by simp
    have ey : (py ++ [y]) ++ ys = py ++ y :: ys := by simp
    have el : ((px ++ [x]).length : Int) = ((px.length + 1 : Nat) : Int) := by simp
    rw [ex, ey, el] at ih
    have e1 : rd_T59 (py ++ y :: ys) (px.length : Int) = y := by rw [h1]; exact rdG_mid _ _ _
    rw [unicodetextref02_Same.l0, if_pos (by simp; omega), if_pos (by omega), if_pos (by simp at h2 ⊢; omega), rdG_mid, e1, wrap_suc hp]
    rw [ih]
    by_cases ha : x.f0 = y.f0
    · by_cases hb : x.f1 = y.f1
      · rw [if_neg (by simp [ha, hb])]
        simp [toP, ha, hb]
      · rw [if_pos (by simp [hb])]
        simp [toP, hb]
    · rw [if_pos (by simp [ha])]
      simp [toP, ha]
  | [], _ :: _, _, _, _, _, h2, _, _ => by simp at h2
  | _ :: _, [], _, _, _, _, h2, _, _ => by simp at h2
theorem plComb_make (l : List Rg) : combS l [] 1 = CpM.make (l.map toP) := by
  rw [← CpM.rmake_eq]
  unfold combS CpM.rmake cutsAB
  congr 1
  funext c
  unfold keepAB keepsB CpM.hasB
  simp
theorem plValid_ok (s : St) (k : Nat) (h : s.f0.length ≤ 1000) (hk : s.f0.length + 1 ≤ k) : unicodetextref02_Valid.f k s.f0 = some (validS s) := by
  have hm : unicodetextref02_Make.f s.f0 = some (mkRS s.f0) := by
    unfold unicodetextref02_Make.f unicodetextref02_combine.f
    rw [if_pos (by simp; omega), plComb_make]
    rfl
  unfold unicodetextref02_Valid.f
  rw [hm]
  show (unicodetextref02_Same.f k s.f0 (mkRS s.f0)).bind _ = _
  unfold unicodetextref02_Same.f validS
  have e : (mkRS s.f0).map toP = CpM.make (s.f0.map toP) := toP_ofP _
  by_cases hl : s.f0.length = (mkRS s.f0).length
  · rw [if_pos (by omega)]
    have := plSame_go s.f0 (mkRS s.f0) [] [] k rfl hl (by simp; omega) hk
    rw [List.nil_append, List.nil_append, e] at this
    rw [show ((0 : Int)) = (([] : List Rg).length : Int) from rfl, this]
    rfl
  · rw [if_neg (by omega), decide_eq_false]
    · rfl
    · intro hh
      rw [← e] at hh
      exact hl (by simpa using congrArg List.length hh)
def plBad (s : St) : Bool := !validS s || decide (s.f0.length = 0)
theorem plRight_go : ∀ (rest pre : List St) (k : Nat), (∀ s ∈ rest, s.f0.length ≤ 12) → (pre ++ rest).length < 1000000000 → rest.length + 15 ≤ k →
    unicodetextref50_right.l0 k (pre ++ rest) (pre.length : Int) = some (!(rest.any plBad))
  | [], pre, k, h0, h1, h2 => by
    obtain ⟨k, rfl⟩ : ∃ j, k = j + 1 := ⟨k - 1, by omega⟩
    rw [unicodetextref50_right.l0, if_neg (by simp)]
    rfl
  | s :: rest, pre, k, h0, h1, h2 => by
    obtain ⟨k, rfl⟩ : ∃ j, k = j + 1 := ⟨k - 1, by omega⟩
    have hp : pre.length < 1000000000 := by simp at h1; omega
    have ih := plRight_go rest (pre ++ [s]) k (fun y hy => h0 y (List.mem_cons_of_mem _ hy)) (by simpa using h1) (by simp at h2; omega)
    have ex : (pre ++ [s]) ++ rest = pre ++ s :: rest := by simp
    have el : ((pre ++ [s]).length : Int) = ((pre.length + 1 : Nat) : Int) := by simp
    rw [ex, el] at ih
    have hs := h0 s List.mem_cons_self
    rw [unicodetextref50_right.l0, if_pos (by simp; omega), if_pos (by omega), rdS_mid, wrap_suc hp, ih, plValid_ok s k (by omega) (by simp at h2; omega), List.any_cons]
    show (if validS s = true then _ else _) = _
    unfold plBad
    cases hv : validS s with
    | false => rfl
    | true =>
      rw [if_pos rfl]
      by_cases hl : s.f0.length = 0
      · rw [if_pos (by omega), decide_eq_true hl]; rfl
      · rw [if_neg (by omega), decide_eq_false hl]; rfl
theorem plRight_ok (l : List St) (k : Nat) (h : plFewS l) (hk : 30 ≤ k) : unicodetextref50_right.f k l = some (!(l.any plBad)) :=
  plRight_go l [] k h.2 (by have := h.1; simp; omega) (by have := h.1; omega)
theorem plPieces_go (m0 m1 m2 : List St) (hm : m1.length < 1000000000) : ∀ (rest pre : List Pc) (k : Nat), (pre ++ rest).length < 1000000000 → rest.length + 1 ≤ k →
    unicodetextref50_one.l0 k (pre.length : Int) m0 m1 m2 (pre ++ rest) = some (if rest.any (pieceBad m1.length) then 1 else 0)
  | [], pre, k, h1, h2 => by
    obtain ⟨k, rfl⟩ : ∃ j, k = j + 1 := ⟨k - 1, by omega⟩
    rw [unicodetextref50_one.l0, if_neg (by simp)]
    rfl
  | p :: rest, pre, k, h1, h2 => by
    obtain ⟨k, rfl⟩ : ∃ j, k = j + 1 := ⟨k - 1, by omega⟩
    have hp : pre.length < 1000000000 := by simp at h1; omega
    have ih := plPieces_go m0 m1 m2 hm rest (pre ++ [p]) k (by simpa using h1) (by simp at h2; omega)
    have ex : (pre ++ [p]) ++ rest = pre ++ p :: rest := by simp
    have el : ((pre ++ [p]).length : Int) = ((pre.length + 1 : Nat) : Int) := by simp
    rw [ex, el] at ih
    rw [unicodetextref50_one.l0, if_pos (by simp; omega), if_pos (by omega), plRdP_mid, wrap_suc hp, ih, List.any_cons, valid_eq]
    generalize (rest.any (pieceBad m1.length)) = b
    have hd : ∀ P : Prop, [Decidable P] → (decide P = true) = P := fun P _ => by simp
    unfold pieceBad
    simp only [Option.bind_some, hd]
    by_cases h1 : p.f1 = 0
    · rw [if_pos h1]
      by_cases h0 : 0 ≤ p.f0 ∧ p.f0 ≤ 1114111
      · have e : (!((decide (p.f0 = 0) && (decide (1 ≤ p.f1) && decide (p.f1 ≤ (m1.length : Int)))) || (decide (p.f1 = 0) && (decide (0 ≤ p.f0) && decide (p.f0 ≤ 1114111))))) = false := by
          simp only [Bool.not_eq_false', Bool.or_eq_true, Bool.and_eq_true, decide_eq_true_eq]; right; exact ⟨h1, h0⟩
        rw [e, Bool.false_or]
        by_cases h00 : p.f0 = 0
        · rw [if_pos h00, if_neg (by omega), if_pos h0]
        · rw [if_neg h00, if_pos h0]
      · have e : (!((decide (p.f0 = 0) && (decide (1 ≤ p.f1) && decide (p.f1 ≤ (m1.length : Int)))) || (decide (p.f1 = 0) && (decide (0 ≤ p.f0) && decide (p.f0 ≤ 1114111))))) = true := by
          simp only [Bool.not_eq_true', Bool.or_eq_false_iff, Bool.and_eq_false_iff, decide_eq_false_iff_not]; omega
        rw [e, Bool.true_or, if_neg (by omega), if_neg h0]
        rfl
    · rw [if_neg h1]
      by_cases h00 : p.f0 = 0
      · rw [if_pos h00]
        by_cases h3 : p.f1 ≥ 1
        · rw [if_pos h3]
          by_cases h4 : p.f1 ≤ (m1.length : Int)
          · have e : (!((decide (p.f0 = 0) && (decide (1 ≤ p.f1) && decide (p.f1 ≤ (m1.length : Int)))) || (decide (p.f1 = 0) && (decide (0 ≤ p.f0) && decide (p.f0 ≤ 1114111))))) = false := by
              simp only [Bool.not_eq_false', Bool.or_eq_true, Bool.and_eq_true, decide_eq_true_eq]; left; exact ⟨h00, h3, h4⟩
            rw [e, Bool.false_or, if_pos h4]
          · have e : (!((decide (p.f0 = 0) && (decide (1 ≤ p.f1) && decide (p.f1 ≤ (m1.length : Int)))) || (decide (p.f1 = 0) && (decide (0 ≤ p.f0) && decide (p.f0 ≤ 1114111))))) = true := by
              simp only [Bool.not_eq_true', Bool.or_eq_false_iff, Bool.and_eq_false_iff, decide_eq_false_iff_not]; omega
            rw [e, Bool.true_or, if_neg h4]
            rfl
        · have e : (!((decide (p.f0 = 0) && (decide (1 ≤ p.f1) && decide (p.f1 ≤ (m1.length : Int)))) || (decide (p.f1 = 0) && (decide (0 ≤ p.f0) && decide (p.f0 ≤ 1114111))))) = true := by
            simp only [Bool.not_eq_true', Bool.or_eq_false_iff, Bool.and_eq_false_iff, decide_eq_false_iff_not]; omega
          rw [e, Bool.true_or, if_neg h3]
          rfl
      · have e : (!((decide (p.f0 = 0) && (decide (1 ≤ p.f1) && decide (p.f1 ≤ (m1.length : Int)))) || (decide (p.f1 = 0) && (decide (0 ≤ p.f0) && decide (p.f0 ≤ 1114111))))) = true := by
          simp only [Bool.not_eq_true', Bool.or_eq_false_iff, Bool.and_eq_false_iff, decide_eq_false_iff_not]; omega
        rw [e, Bool.true_or, if_neg h00]
        rfl
theorem plOne_ok (x : Ru) (k : Nat) (h : plFewU x) (hk : 33 ≤ k) : unicodetextref50_one.f k x.f0 x.f1 x.f2 x.f3 = some (oneS x) := by
  obtain ⟨h0, h1, h2, h3⟩ := h
  obtain ⟨k, rfl⟩ : ∃ j, k = j + 2 := ⟨k - 2, by omega⟩
  have hr0 := plRight_ok x.f0 (k + 1) h0 (by omega)
  have hr1 := plRight_ok x.f1 (k + 1) h1 (by omega)
  have hr2 := plRight_ok x.f2 (k + 1) h2 (by omega)
  have hp := plPieces_go x.f0 x.f1 x.f2 (by have := h1.1; omega) x.f3 [] k (by simp; omega) (by omega)
  have hj1 : ∀ b, unicodetextref50_one.j1 (k + 1) b x.f0 x.f1 x.f2 x.f3 = some (if b = true then 11 else if x.f3.any (pieceBad x.f1.length) then 1 else 0) := by
    intro b
    rw [unicodetextref50_one.j1]
    cases b with
    | true => rfl
    | false => rw [if_neg (by decide), if_neg (by decide)]; exact hp
  have hfin : unicodetextref50_one.j0 (k + 2) false x.f0 x.f1 x.f2 x.f3 = some (if (x.f0 ++ x.f1 ++ x.f2).any plBad then 11 else if x.f3.any (pieceBad x.f1.length) then 1 else 0) := by
    rw [unicodetextref50_one.j0, if_neg (by decide), hr0, hr1, hr2]
    simp only [Option.bind_some, hj1, List.any_append]
    cases x.f0.any plBad <;> cases x.f1.any plBad <;> cases x.f2.any plBad <;> rfl
  unfold unicodetextref50_one.f oneS
  have ht : unicodetextref50_one.j0 (k + 2) true x.f0 x.f1 x.f2 x.f3 = some 2 := by rw [unicodetextref50_one.j0, if_pos rfl]
  rw [ht]
  by_cases c1 : x.f1.length < 1
  · rw [if_pos (by omega), if_pos (by omega)]
  · rw [if_neg (by omega)]
    by_cases c2 : 8 < x.f1.length
    · rw [if_pos (by omega), if_pos (by omega)]
    · rw [if_neg (by omega)]
      by_cases c3 : 8 < x.f0.length
      · rw [if_pos (by omega), if_pos (by omega)]
      · rw [if_neg (by omega)]
        by_cases c4 : 8 < x.f2.length
        · rw [if_pos (by omega), if_pos (by omega)]
        · rw [if_neg (by omega)]
          by_cases c5 : 16 < x.f3.length
          · rw [decide_eq_true (by omega), ht, if_pos (by omega)]
          · rw [decide_eq_false (by omega), hfin, if_neg (show ¬ (x.f1.length < 1 ∨ 8 < x.f1.length ∨ 8 < x.f0.length ∨ 8 < x.f2.length ∨ 16 < x.f3.length) by omega)]
            rfl
theorem plCheck_go : ∀ (rest pre : List Ru) (k : Nat), (∀ x ∈ rest, plFewU x) → (pre ++ rest).length < 1000000000 → rest.length + 34 ≤ k →
    unicodetextref50_Check.l0 k (pre ++ rest) (pre.length : Int) = some (firstErr rest)
  | [], pre, k, h0, h1, h2 => by
    obtain ⟨k, rfl⟩ : ∃ j, k = j + 1 := ⟨k - 1, by omega⟩
    rw [unicodetextref50_Check.l0, if_neg (by simp)]
    rfl
  | x :: rest, pre, k, h0, h1, h2 => by
    obtain ⟨k, rfl⟩ : ∃ j, k = j + 1 := ⟨k - 1, by omega⟩
    have hp : pre.length < 1000000000 := by simp at h1; omega
    have ih := plCheck_go rest (pre ++ [x]) k (fun y hy => h0 y (List.mem_cons_of_mem _ hy)) (by simpa using h1) (by simp at h2; omega)
    have ex : (pre ++ [x]) ++ rest = pre ++ x :: rest := by simp
    have el : ((pre ++ [x]).length : Int) = ((pre.length + 1 : Nat) : Int) := by simp
    rw [ex, el] at ih
    rw [unicodetextref50_Check.l0, if_pos (by simp; omega), if_pos (by omega), rdU_mid, wrap_suc hp, plOne_ok x k (h0 x List.mem_cons_self) (by simp at h2; omega)]
    show (if oneS x = 0 then _ else _) = _
    rw [ih, firstErr]
    split <;> rfl
theorem plData_ok (l : List Ru) (k : Nat) (h : plFewL l) (hk : 42 ≤ k) : unicodetextref51_Data.f k l = some (dataS l) := by
  have hl := h.1
  have hc : unicodetextref50_Check.f k l = some (checkS l) := by
    unfold unicodetextref50_Check.f checkS
    rw [if_neg (by omega), if_neg (by omega)]
    exact plCheck_go l [] k h.2 (by simp; omega) (by omega)
  unfold unicodetextref51_Data.f dataS
  rw [hc]
  show (if checkS l = 0 then _ else _) = _
  split <;> rfl
theorem plData_few (l : List Ru) (h : plFewL l) : plFewL (dataS l) := by
  unfold dataS
  split
  · exact h
  · exact ⟨Nat.zero_le _, fun x hx => by cases hx⟩
end Go.Proofs.Ytnhagghhficdpaa.Q
end
section
namespace Go.Proofs.Ytnhagghhficdpaa.Q
open Go.RowKit Go.Proofs.YtnhagghhficdpaaW.PrintWords Go.Proofs.YtnhagghhficdpaaW.PrintLast Go.Proofs.YtnhagghhficdpaaW.PrintMore
set_option linter.unusedVariables false
theorem plSets_go : ∀ (d : Nat) (rest pre : List St) (k : Nat), pre.length + d = 20 → 2 * d + 2 ≤ k →
    ∃ b, unicodetextref50_sets.l0 k (pre ++ rest) (pre.length : Int) = some b ∧ (b = true → (pre ++ rest).length ≤ 10 ∧ ∀ s ∈ rest, s.f0.length ≤ 12)
  | d, [], pre, k, h1, h2 => by
    obtain ⟨k, rfl⟩ : ∃ j, k = j + 2 := ⟨k - 2, by omega⟩
    rw [unicodetextref50_sets.l0, if_neg (by simp), unicodetextref50_sets.j1, if_neg (by decide)]
    refine ⟨_, rfl, fun h => ⟨?_, fun s hs => by cases hs⟩⟩
    have := of_decide_eq_true h
    omega
  | 0, s :: rest, pre, k, h1, h2 => by
    obtain ⟨k, rfl⟩ : ∃ j, k = j + 2 := ⟨k - 2, by omega⟩
    rw [unicodetextref50_sets.l0, if_pos (by simp; omega), decide_eq_false (by omega), unicodetextref50_sets.j1, if_neg (by decide)]
    refine ⟨_, rfl, fun h => ?_⟩
    have := of_decide_eq_true h
    simp at this
    omega
  | d + 1, s :: rest, pre, k, h1, h2 => by
    obtain ⟨k, rfl⟩ : ∃ j, k = j + 2 := ⟨k - 2, by omega⟩
    obtain ⟨b, ih, hb⟩ := plSets_go d rest (pre ++ [s]) k (by simp; omega) (by omega)
    have ex : (pre ++ [s]) ++ rest = pre ++ s :: rest := by simp
    have el : ((pre ++ [s]).length : Int) = ((pre.length + 1 : Nat) : Int) := by simp
    rw [ex, el] at ih
    rw [ex] at hb
    rw [unicodetextref50_sets.l0, if_pos (by simp; omega), decide_eq_true (by omega), unicodetextref50_sets.j1, if_pos rfl, if_pos (by omega), if_pos (by simp; omega), rdS_mid, wrap_suc (by omega : pre.length < 1000000000), ih]
    show ∃ b_, (if decide ((s.f0.length : Int) ≤ 12) = true then _ else _) = _ ∧ _
    by_cases hs : s.f0.length ≤ 12
    · rw [decide_eq_true (by omega), if_pos rfl]
      exact ⟨b, rfl, fun h => ⟨(hb h).1, fun x hx => by
        rcases List.mem_cons.1 hx with rfl | hx
        · exact hs
        · exact (hb h).2 x hx⟩⟩
    · rw [decide_eq_false (by omega), if_neg (by decide)]
      exact ⟨false, rfl, fun h => by cases h⟩
theorem plSets_ok (l : List St) (k : Nat) (hk : 42 ≤ k) : ∃ b, unicodetextref50_sets.f k l = some b ∧ (b = true → plFewS l) := plSets_go 20 l [] k rfl (by omega)
theorem plSmall_go : ∀ (d : Nat) (rest pre : List Ru) (k : Nat), pre.length + d = 10 → 2 * d + 44 ≤ k →
    ∃ b, unicodetextref50_Small.l0 k (pre ++ rest) (pre.length : Int) = some b ∧ (b = true → (pre ++ rest).length ≤ 6 ∧ ∀ s ∈ rest, plFewU s)
  | d, [], pre, k, h1, h2 => by
    obtain ⟨k, rfl⟩ : ∃ j, k = j + 2 := ⟨k - 2, by omega⟩
    rw [unicodetextref50_Small.l0, if_neg (by simp), unicodetextref50_Small.j1, if_neg (by decide)]
    refine ⟨_, rfl, fun h => ⟨?_, fun s hs => by cases hs⟩⟩
    have := of_decide_eq_true h
    omega
  | 0, s :: rest, pre, k, h1, h2 => by
    obtain ⟨k, rfl⟩ : ∃ j, k = j + 2 := ⟨k - 2, by omega⟩
    rw [unicodetextref50_Small.l0, if_pos (by simp; omega), decide_eq_false (by omega), unicodetextref50_Small.j1, if_neg (by decide)]
    refine ⟨_, rfl, fun h => ?_⟩
    have := of_decide_eq_true h
    simp at this
    omega
  | d + 1, s :: rest, pre, k, h1, h2 => by
    obtain ⟨k, rfl⟩ : ∃ j, k = j + 2 := ⟨k - 2, by omega⟩
    obtain ⟨b, ih, hb⟩ := plSmall_go d rest (pre ++ [s]) k (by simp; omega) (by omega)
    have ex : (pre ++ [s]) ++ rest = pre ++ s :: rest := by simp
    have el : ((pre ++ [s]).length : Int) = ((pre.length + 1 : Nat) : Int) := by simp
    rw [ex, el] at ih
    rw [ex] at hb
    obtain ⟨b0, e0, g0⟩ := plSets_ok s.f0 k (by omega)
    obtain ⟨b1, e1, g1⟩ := plSets_ok s.f1 k (by omega)
    obtain ⟨b2, e2, g2⟩ := plSets_ok s.f2 k (by omega)
    rw [unicodetextref50_Small.l0, if_pos (by simp; omega), decide_eq_true (by omega), unicodetextref50_Small.j1, if_pos rfl, if_pos (by omega), if_pos (by simp; omega), rdU_mid, wrap_suc (by omega : pre.length < 1000000000), ih, e0, e1, e2]
    simp only [Option.bind_some]
    cases b0 with
    | false => exact ⟨false, rfl, fun h => by cases h⟩
    | true => cases b1 with
      | false => exact ⟨false, rfl, fun h => by cases h⟩
      | true => cases b2 with
        | false => exact ⟨false, rfl, fun h => by cases h⟩
        | true =>
          simp only [if_true]
          by_cases hs : (s.f3.length : Int) > 20
          · rw [if_pos hs]
            exact ⟨false, rfl, fun h => by cases h⟩
          · rw [if_neg hs]
            exact ⟨b, rfl, fun h => ⟨(hb h).1, fun x hx => by
              rcases List.mem_cons.1 hx with rfl | hx
              · exact ⟨g0 rfl, g1 rfl, g2 rfl, by omega⟩
              · exact (hb h).2 x hx⟩⟩
theorem plSmall_ok (l : List Ru) (k : Nat) (hk : 64 ≤ k) : ∃ b, unicodetextref50_Small.f k l = some b ∧ (b = true → plFewL l) := plSmall_go 10 l [] k rfl (by omega)
theorem plFew_ok (l : List Ru) (text : List Int) (k : Nat) (hk : 64 ≤ k) : ∃ b, unicodetextlaw51_few.f k l text = some b ∧ (b = true → plFewL l ∧ text.length ≤ 40) := by
  obtain ⟨b, e, h⟩ := plSmall_ok l k hk
  unfold unicodetextlaw51_few.f
  rw [e]
  cases b with
  | false => exact ⟨false, rfl, fun h => by cases h⟩
  | true => exact ⟨_, rfl, fun h2 => ⟨h rfl, by have := of_decide_eq_true h2; omega⟩⟩
theorem plOkSets {l : List St} (h : plFewS l) : l.all okSet = true := List.all_eq_true.2 fun s hs => decide_eq_true (h.2 s hs)
theorem plOkRules {l : List Ru} (h : plFewL l) : okRules l = true := by
  unfold okRules
  rw [Bool.and_eq_true, decide_eq_true_eq, List.all_eq_true]
  refine ⟨by have := h.1; omega, fun x hx => ?_⟩
  obtain ⟨h0, h1, h2, h3⟩ := h.2 x hx
  unfold okRule
  rw [plOkSets h0, plOkSets h1, plOkSets h2, decide_eq_true (by have := h0.1; omega), decide_eq_true (by have := h1.1; omega), decide_eq_true (by have := h2.1; omega), decide_eq_true (by omega)]
  rfl
theorem plInside_go (text : List Int) (a : Nat) (hT : text.length < 1000000000) : ∀ (rest pre : List St) (k : Nat), (∀ s ∈ rest, s.f0.length ≤ 12) → a + (pre ++ rest).length ≤ text.length → rest.length + 15 ≤ k →
    unicodetextref51_inside.l0 k (pre ++ rest) text (a : Int) (pre.length : Int) = some (insideS rest (text.drop (a + pre.length)))
  | [], pre, k, h0, h1, h2 => by
    obtain ⟨k, rfl⟩ : ∃ j, k = j + 1 := ⟨k - 1, by omega⟩
    rw [unicodetextref51_inside.l0, if_neg (by simp)]
    rfl
  | s :: rest, pre, k, h0, h1, h2 => by
    obtain ⟨k, rfl⟩ : ∃ j, k = j + 1 := ⟨k - 1, by omega⟩
    have hp : a + pre.length < text.length := by simp at h1; omega
    have ih := plInside_go text a hT rest (pre ++ [s]) k (fun y hy => h0 y (List.mem_cons_of_mem _ hy)) (by simpa using h1) (by simp at h2; omega)
    have ex : (pre ++ [s]) ++ rest = pre ++ s :: rest := by simp
    have el : ((pre ++ [s]).length : Int) = ((pre.length + 1 : Nat) : Int) := by simp
    have en : (pre ++ [s]).length = pre.length + 1 := by simp
    rw [ex, el, en] at ih
    have hw : wrap64 ((a : Int) + (pre.length : Int)) = ((a + pre.length : Nat) : Int) := by unfold wrap64; omega
    have h12 := h0 s List.mem_cons_self
    have hs : unicodetextref02_Has.f k s.f0 (rd text ((a + pre.length : Nat) : Int)) = some (hasS s (rd text ((a + pre.length : Nat) : Int))) :=
      has_go s.f0 [] _ k (by simp; omega) (by simp at h2; omega)
    rw [unicodetextref51_inside.l0, if_pos (by simp; omega), if_pos (by omega), rdS_mid, hw, if_pos (by omega), if_pos (by omega), hs, wrap_suc (by omega : pre.length < 1000000000), drop_rdI _ _ hp]
    show (if hasS s _ = true then _ else _) = _
    rw [ih, insideS]
    cases hasS s (rd text ((a + pre.length : Nat) : Int)) <;> rfl
theorem plInside_ok (sets : List St) (text : List Int) (i : Int) (k : Nat) (h : plFewS sets) (hT : text.length < 1000000000) (hi : -1000000000000 < i ∧ i < 1000000000000) (hk : 26 ≤ k) :
    unicodetextref51_inside.f k sets text i = some (coversS sets text i) := by
  have hS := h.1
  obtain ⟨k, rfl⟩ : ∃ j, k = j + 1 := ⟨k - 1, by omega⟩
  unfold unicodetextref51_inside.f coversS
  by_cases hn : i < 0
  · rw [if_pos hn, unicodetextref51_inside.j0, if_pos rfl, decide_eq_false (by omega)]
    rfl
  · have hw : wrap64 (i + (sets.length : Int)) = i + (sets.length : Int) := by unfold wrap64; omega
    rw [if_neg hn, hw, unicodetextref51_inside.j0, decide_eq_true (by omega : 0 ≤ i)]
    by_cases hl : i + (sets.length : Int) ≤ (text.length : Int)
    · rw [if_neg (by simp; omega), decide_eq_true hl]
      obtain ⟨a, rfl⟩ : ∃ a : Nat, i = (a : Int) := ⟨i.toNat, by omega⟩
      have := plInside_go text a hT sets [] k h.2 (by simpa using by omega) (by omega)
      rw [Int.toNat_natCast]
      exact this
    · rw [if_pos (by simp; omega), decide_eq_false hl]
      rfl
theorem plApplies_ok (x : Ru) (text : List Int) (i : Int) (k : Nat) (h : plFewU x) (hT : text.length < 1000000000) (hi : 0 ≤ i ∧ i < 1000000000) (hk : 26 ≤ k) :
    unicodetextref51_applies.f k x.f0 x.f1 x.f2 x.f3 text i = some (appliesS x text i) := by
  obtain ⟨h0, h1, h2, h3⟩ := h
  have l0 := h0.1
  have l1 := h1.1
  have l2 := h2.1
  have hw1 : wrap64 (i + (x.f1.length : Int)) = i + (x.f1.length : Int) := by unfold wrap64; omega
  have hw0 : wrap64 (i - (x.f0.length : Int)) = i - (x.f0.length : Int) := by unfold wrap64; omega
  unfold unicodetextref51_applies.f appliesS
  rw [hw1, hw0, plInside_ok x.f1 text i k h1 hT (by omega) hk, plInside_ok x.f2 text _ k h2 hT (by omega) hk, plInside_ok x.f0 text _ k h0 hT (by omega) hk]
  simp only [Option.bind_some]
  cases coversS x.f1 text i <;> cases coversS x.f2 text (i + (x.f1.length : Int)) <;> rfl
theorem plStep_go (text : List Int) (i : Int) (hT : text.length < 1000000000) (hi : 0 ≤ i ∧ i < 1000000000) : ∀ (rest pre : List Ru) (k : Nat), (∀ x ∈ rest, plFewU x) → (pre ++ rest).length < 1000000000 → rest.length + 27 ≤ k →
    unicodetextref51_step.l0 k (pre ++ rest) text i (pre.length : Int) = some (match rest.findIdx? (fun x => appliesS x text i) with | some j => (((pre.length + j : Nat) : Int), ((rest.getD j z34).f1.length : Int)) | none => (-1, 1))
  | [], pre, k, h0, h1, h2 => by
    obtain ⟨k, rfl⟩ : ∃ j, k = j + 1 := ⟨k - 1, by omega⟩
    rw [unicodetextref51_step.l0, if_neg (by simp)]
    rfl
  | x :: rest, pre, k, h0, h1, h2 => by
    obtain ⟨k, rfl⟩ : ∃ j, k = j + 1 := ⟨k - 1, by omega⟩
    have hp : pre.length < 1000000000 := by simp at h1; omega
    have ih := plStep_go text i hT hi rest (pre ++ [x]) k (fun y hy => h0 y (List.mem_cons_of_mem _ hy)) (by simpa using h1) (by simp at h2; omega)
    have ex : (pre ++ [x]) ++ rest = pre ++ x :: rest := by simp
    have el : ((pre ++ [x]).length : Int) = ((pre.length + 1 : Nat) : Int) := by simp
    have en : (pre ++ [x]).length = pre.length + 1 := by simp
    rw [ex, el, en] at ih
    rw [unicodetextref51_step.l0, if_pos (by simp; omega), if_pos (by omega), rdU_mid, wrap_suc hp, plApplies_ok x text i k (h0 x List.mem_cons_self) hT hi (by simp at h2; omega), List.findIdx?_cons]
    show (if appliesS x text i = true then _ else _) = _
    rw [ih]
    cases appliesS x text i with
    | true => rfl
    | false =>
      rw [if_neg (by decide)]
      cases rest.findIdx? (fun x => appliesS x text i) with
      | none => rfl
      | some j =>
        show some (((pre.length + 1 + j : Nat) : Int), _) = some (((pre.length + (j + 1) : Nat) : Int), _)
        rw [show pre.length + 1 + j = pre.length + (j + 1) by omega]
        rfl
theorem plStep_ok (l : List Ru) (text : List Int) (i : Int) (k : Nat) (h : plFewL l) (hT : text.length < 1000000000) (hk : 34 ≤ k) : unicodetextref51_step.f k l text i = some (stepS l text i) := by
  obtain ⟨k, rfl⟩ : ∃ j, k = j + 1 := ⟨k - 1, by omega⟩
  have hl := h.1
  unfold unicodetextref51_step.f stepS
  by_cases h0 : i < 0
  · rw [if_pos h0, if_pos (.inl h0), unicodetextref51_step.j0, if_pos rfl]
  · rw [if_neg h0]
    by_cases h1 : (text.length : Int) ≤ i
    · rw [decide_eq_true h1, if_pos (.inr h1), unicodetextref51_step.j0, if_pos rfl]
    · rw [decide_eq_false h1, if_neg (by omega), unicodetextref51_step.j0, if_neg (by decide)]
      have := plStep_go text i hT (by omega) l [] k h.2 (by simp; omega) (by omega)
      refine Eq.trans this ?_
      cases l.findIdx? (fun x => appliesS x text i) with
      | none => rfl
      | some j => show some (((0 + j : Nat) : Int), _) = _; rw [Nat.zero_add]
theorem plRefStep_ok (l : List Ru) (text : List Int) (i : Int) (k : Nat) (h : plFewL l) (hT : text.length < 1000000000) (hk : 42 ≤ k) : unicodetextref51_Step.f k l text i = some (stepS (dataS l) text i) := by
  unfold unicodetextref51_Step.f
  rw [plData_ok l k h hk]
  show (unicodetextref51_step.f k (dataS l) text i).bind _ = _
  rw [plStep_ok (dataS l) text i k (plData_few l h) hT (by omega)]
  rfl
theorem plCmp_go : ∀ (xs ys px py : List Int) (k : Nat), px.length = py.length → (px ++ xs).length < 1000000000 → 2 * xs.length + 2 ≤ k →
    ∃ c, unicodetextref01_Compare.l0 k (px ++ xs) (py ++ ys) (px.length : Int) = some c ∧ (c = 0 ↔ xs = ys)
  | [], [], px, py, k, h1, h2, h3 => by
    obtain ⟨k, rfl⟩ : ∃ j, k = j + 2 := ⟨k - 2, by omega⟩
    rw [unicodetextref01_Compare.l0, if_neg (by simp), unicodetextref01_Compare.j1, if_neg (by decide), if_neg (by simp [h1]), if_neg (by simp [h1])]
    exact ⟨0, rfl, by simp⟩
  | [], y :: ys, px, py, k, h1, h2, h3 => by
    obtain ⟨k, rfl⟩ : ∃ j, k = j + 2 := ⟨k - 2, by omega⟩
    rw [unicodetextref01_Compare.l0, if_neg (by simp), unicodetextref01_Compare.j1, if_neg (by decide), if_pos (by simp [h1]; omega)]
    exact ⟨-1, rfl, by simp⟩
  | x :: xs, [], px, py, k, h1, h2, h3 => by
    obtain ⟨k, rfl⟩ : ∃ j, k = j + 2 := ⟨k - 2, by omega⟩
    rw [unicodetextref01_Compare.l0, if_pos (by simp; omega), decide_eq_false (by simp [h1]), unicodetextref01_Compare.j1, if_neg (by decide), if_neg (by simp [h1]; omega), if_pos (by simp [h1]; omega)]
    exact ⟨1, rfl, by simp⟩
  | x :: xs, y :: ys, px, py, k, h1, h2, h3 => by
    obtain ⟨k, rfl⟩ : ∃ j, k = j + 2 := ⟨k - 2, by omega⟩
    have hp : px.length < 1000000000 := by simp at h2; omega
    obtain ⟨c, ih, hc⟩ := plCmp_go xs ys (px ++ [x]) (py ++ [y]) k (by simp [h1]) (by simpa using h2) (by simp at h3; omega)
    have ex : (px ++ [x]) ++ xs = px ++ x :: xs := by simp
    have ey : (py ++ [y]) ++ ys = py ++ y :: ys := by simp
    have el : ((px ++ [x]).length : Int) = ((px.length + 1 : Nat) : Int) := by simp
    rw [ex, ey, el] at ih
    have e1 : rd (py ++ y :: ys) (px.length : Int) = y := by rw [h1]; exact rd_mid _ _ _
    rw [unicodetextref01_Compare.l0, if_pos (by simp; omega), decide_eq_true (by simp [h1]; omega), unicodetextref01_Compare.j1, if_pos rfl, if_pos (by omega), if_pos (by simp; omega), if_pos (by simp [h1]; omega), rd_mid, e1, wrap_suc hp, ih]
    by_cases a : x < y
    · rw [if_pos a]
      exact ⟨-1, rfl, ⟨fun h => absurd h (by decide), fun h => by injection h with h; omega⟩⟩
    · rw [if_neg a]
      by_cases b : x > y
      · rw [if_pos b]
        exact ⟨1, rfl, ⟨fun h => absurd h (by decide), fun h => by injection h with h; omega⟩⟩
      · rw [if_neg b]
        obtain rfl : x = y := by omega
        exact ⟨c, rfl, by rw [hc]; simp⟩
theorem plEqual_ok (a b : List Int) (k : Nat) (h : a.length < 1000000000) (hk : 2 * a.length + 2 ≤ k) : unicodetextref01_Equal.f k a b = some (decide (a = b)) := by
  obtain ⟨c, e, hc⟩ := plCmp_go a b [] [] k rfl (by simpa using h) hk
  unfold unicodetextref01_Equal.f unicodetextref01_Compare.f
  refine (congrArg (fun o => Option.bind o _) e).trans ?_
  show some (c == 0) = _
  congr 1
  rw [Bool.eq_iff_iff]
  simp [hc]
def plRules : List Ru := [⟨[], [⟨[⟨97, 97⟩]⟩, ⟨[⟨98, 98⟩]⟩], [], [⟨120, 0⟩]⟩, ⟨[], [⟨[⟨97, 97⟩]⟩], [], [⟨121, 0⟩]⟩]
theorem plAlive_step : transduce_Step.f plRules [97, 97, 98] 1 = some (0, 2) := by kernel_rfl
theorem plAlive_apply : transduce_Apply.f plRules [97, 97, 98] = some [121, 120] := by kernel_rfl
theorem plAlive_ok (k : Nat) (hk : 20 ≤ k) : unicodetextlaw51_alive.f k = some true := by
  obtain ⟨k, rfl⟩ : ∃ j, k = j + 20 := ⟨k - 20, by omega⟩
  show (transduce_Step.f plRules [97, 97, 98] 1).bind (fun bt166 => (transduce_Apply.f plRules [97, 97, 98]).bind fun t171 => (unicodetextref01_Equal.f (k + 20) t171 [121, 120]).bind fun t177 => if t177 = true then (if bt166.1 = 0 then (some (bt166.2 == 2)) else (some false)) else (some false)) = some true
  rw [plAlive_step, plAlive_apply]
  simp only [Option.bind_some]
  rw [plEqual_ok _ _ _ (by decide) (by simp)]
  rfl
end Go.Proofs.Ytnhagghhficdpaa.Q
end
section
namespace Go.Proofs.Ytnhagghhficdpaa.Q
open Go.RowKit Go.Proofs.YtnhagghhficdpaaW.PrintWords Go.Proofs.YtnhagghhficdpaaW.PrintLast Go.Proofs.YtnhagghhficdpaaW.PrintMore
set_option linter.unusedVariables false
theorem plOkText {l : List Int} (h : wfT l) (hl : l.length < 100000000) : okText l = true := by
  unfold okText
  rw [Bool.and_eq_true, decide_eq_true_eq, List.all_eq_true]
  exact ⟨hl, h.2⟩
theorem transduceSteps_pure (l0 : List Ru) (l1 : List Int) (a2 : Int) (h0 : wfL l0) (h1 : wfT l1) (h2 : W64 a2) : ∃ k, unicodetextlaw51_TransduceSteps.f k l0 l1 a2 = some true := by
  refine ⟨100, ?_⟩
  obtain ⟨b, e, hb⟩ := plFew_ok l0 l1 100 (by decide)
  unfold unicodetextlaw51_TransduceSteps.f
  rw [e, plAlive_ok 100 (by decide)]
  cases b with
  | false => rfl
  | true =>
    obtain ⟨hl, ht⟩ := hb rfl
    have hs : transduce_Step.f l0 l1 a2 = some (stepS (dataS l0) l1 a2) := by
      unfold transduce_Step.f
      rw [if_pos ⟨plOkRules hl, plOkText h1 (by omega)⟩]
    simp only [Option.bind_some, if_true]
    rw [hs, plRefStep_ok l0 l1 a2 100 hl (by omega) (by decide)]
    simp
end Go.Proofs.Ytnhagghhficdpaa.Q
end
