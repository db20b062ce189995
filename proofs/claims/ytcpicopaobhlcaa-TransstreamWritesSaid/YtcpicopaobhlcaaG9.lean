/- Lemmas, printed and written for this claim: part 9. -/
import Derived.Test.YtcpicopaobhlcaaG2
import Derived.Test.YtcpicopaobhlcaaG5
import Derived.WalkKit
import Derived.IntWalk
import Derived.Test.YtcpicopaobhlcaaG7
import Derived.Test.YtcpicopaobhlcaaG8
import Derived.Test.YtcpicopaobhlcaaG6
import Derived.WalkSpells
import Derived.Deep.RegionHeld3
import Derived.Deep.RegionLaw
import Derived.Deep.LoopGhost
import Derived.Maps.Range
import Derived.Defers
import Derived.LaidEqlPtr
import Derived.Test.YtcpicopaobhlcaaG3
section
namespace Go.Proofs.Ytcpicopaobhlcaa.Q
open Go.RowKit Go.Proofs.YtcpicopaobhlcaaW.PrintWords Go.Proofs.YtcpicopaobhlcaaW.PrintLast Go.Proofs.YtcpicopaobhlcaaW.PrintMore
attribute [local go_sem] max2_int min2_int max_two min_two max_three min_three max_four min_four   -- for this text's walks alone
set_option linter.unusedVariables false
set_option linter.unusedSimpArgs false
def unicodetextref51_Reach.l0 : Nat → List (S41) → Int → Int → Int → Option (Int × Int)
  | 0, _, _, _, _ => none
  | k + 1, x4, x5, x6, x7 => if x7 < (x4.length : Int) then (if 0 ≤ x7 then (unicodetextref51_Reach.l0 k x4 (mx x5 (((rd_T41 x4 x7).f0).length : Int)) (mx x6 (wrap64 ((((rd_T41 x4 x7).f1).length : Int) + (((rd_T41 x4 x7).f2).length : Int)))) (wrap64 (x7 + 1))) else (none)) else (some (x5, x6))
def unicodetextref51_Reach.f (k : Nat) (l0 : List (S41)) : Option (Int × Int) := (unicodetextref51_Data.f k l0).bind fun t196 => (unicodetextref51_Reach.l0 k t196 0 0 0)
set_option maxHeartbeats 8000000 in
set_option maxRecDepth 100000 in
theorem unicodetextref51_Reach.calls (k : Nat) (A0 : Option Addr) (c0 : Nat) (l0 : List (S41)) (r1 : Int) (r2 : Int) (w : World) (hr0 : Kd.C k41 w A0 l0.length l0) (hc0 : l0.length ≤ c0) (h : unicodetextref51_Reach.f k l0 = some (r1, r2)) :
    Calls Try.prog 24 #[.slice A0 l0.length c0] w fun e w' => e = .returned (.tuple #[.int .i64 r1, .int .i64 r2]) ∧ Below w.heap.size w w' := by
  have HR0 := Aside0.mk hr0
  have HC0 := Aside0.mk hc0
  clear hr0 hc0
  have HB := Aside0.mk (Below.refl w.heap.size w)
  have H : ((unicodetextref51_Data.f k l0).bind fun t196 => (unicodetextref51_Reach.l0 k t196 0 0 0)) = some (r1, r2) := h
  clear h
  replace H := Option.bind_eq_some_iff.mp H
  obtain ⟨t196, A20, H⟩ := H
  replace H : (unicodetextref51_Reach.l0 k t196 0 0 0) = some (r1, r2) := H
  have A2 := Aside0.mk A20
  clear A20
  have H' := Aside0.mk H
  clear H
  go_enter Try.func24, Try.ntmps24
  go_wp2_with (first | (go_at_call 34; (with_reducible refine (unicodetextref51_Data.calls k (fun k_ => k_ < w.heap.size) _ _ l0 t196 _ ?side1 A2.out).mono ?_); (case side1 => exact Kd.V_mk HC0.out (Kd.F_below (Kd.C_F k41_heap HR0.out) (by repeat (first | (with_reducible first | exact HB.out | apply below_alloc | apply pw_below_drewN | apply below_drew1) | exact HB.out)))); rintro e w3 ⟨v197, rfl, ho0, hb⟩; have n0_ := Aside0.mk (Kd.V_lower (Kd.V_mono (ok' := fun k_ => True) ho0 (fun k_ hk_ => trivial)) (below_size (by repeat (first | (with_reducible first | exact HB.out | apply below_alloc | apply pw_below_drewN | apply below_drew1) | exact HB.out)))); have n1_ := Aside0.mk (below_step (by repeat (first | (with_reducible first | exact HB.out | apply below_alloc | apply pw_below_drewN | apply below_drew1) | exact HB.out)) hb); clear HB; have HO198 := n0_; have HB := n1_; clear n0_ n1_; (try clear hb); (try clear hb2); (try clear hk); (try clear hi); (try clear ho0)))
  repeat (go_quiet (first | (go_at_call 34; (with_reducible refine (unicodetextref51_Data.calls k (fun k_ => k_ < w.heap.size) _ _ l0 t196 _ ?side1 A2.out).mono ?_); (case side1 => exact Kd.V_mk HC0.out (Kd.F_below (Kd.C_F k41_heap HR0.out) (by repeat (first | (with_reducible first | exact HB.out | apply below_alloc | apply pw_below_drewN | apply below_drew1) | exact HB.out)))); rintro e w3 ⟨v197, rfl, ho0, hb⟩; have n0_ := Aside0.mk (Kd.V_lower (Kd.V_mono (ok' := fun k_ => True) ho0 (fun k_ hk_ => trivial)) (below_size (by repeat (first | (with_reducible first | exact HB.out | apply below_alloc | apply pw_below_drewN | apply below_drew1) | exact HB.out)))); have n1_ := Aside0.mk (below_step (by repeat (first | (with_reducible first | exact HB.out | apply below_alloc | apply pw_below_drewN | apply below_drew1) | exact HB.out)) hb); clear HB; have HO198 := n0_; have HB := n1_; clear n0_ n1_; (try clear hb); (try clear hb2); (try clear hk); (try clear hi); (try clear ho0))); try go_wp2_with (first | (go_at_call 34; (with_reducible refine (unicodetextref51_Data.calls k (fun k_ => k_ < w.heap.size) _ _ l0 t196 _ ?side1 A2.out).mono ?_); (case side1 => exact Kd.V_mk HC0.out (Kd.F_below (Kd.C_F k41_heap HR0.out) (by repeat (first | (with_reducible first | exact HB.out | apply below_alloc | apply pw_below_drewN | apply below_drew1) | exact HB.out)))); rintro e w3 ⟨v197, rfl, ho0, hb⟩; have n0_ := Aside0.mk (Kd.V_lower (Kd.V_mono (ok' := fun k_ => True) ho0 (fun k_ hk_ => trivial)) (below_size (by repeat (first | (with_reducible first | exact HB.out | apply below_alloc | apply pw_below_drewN | apply below_drew1) | exact HB.out)))); have n1_ := Aside0.mk (below_step (by repeat (first | (with_reducible first | exact HB.out | apply below_alloc | apply pw_below_drewN | apply below_drew1) | exact HB.out)) hb); clear HB; have HO198 := n0_; have HB := n1_; clear n0_ n1_; (try clear hb); (try clear hb2); (try clear hk); (try clear hi); (try clear ho0))))
  go_loopg [5, 6, 7] k (fun kq v5 v6 v7 w' => ∃ (x5_1 : Int) (x6_1 : Int) (x7_1 : Int), v5 = .int .i64 x5_1 ∧ v6 = .int .i64 x6_1 ∧ v7 = .int .i64 x7_1 ∧ Aside0 (unicodetextref51_Reach.l0 kq t196 x5_1 x6_1 x7_1 = some (r1, r2)) ∧ Aside0 (kq ≤ k) ∧ Aside0 (Kd.V k41 41 w' w.heap.size (fun _ => True) v197 t196) ∧ Aside0 (Below w.heap.size w w'))
  case atStart => exact ⟨(0), (0), (0), (by first | rfl | (simp; done) | (simp [*]; done)), (by first | rfl | (simp; done) | (simp [*]; done)), (by first | rfl | (simp; done) | (simp [*]; done)), H', ⟨Nat.le_refl _⟩, ⟨by (with_reducible repeat (first | apply Kd.V_alloc | apply Kd.V_drewN | apply Kd.V_drew)); exact HO198.out⟩, ⟨by repeat (first | (with_reducible first | exact HB.out | apply below_alloc | apply pw_below_drewN | apply below_drew1) | exact HB.out)⟩⟩
  case round =>
    clear H'
    try clear c2
    try clear p2
    obtain ⟨x5_1, x6_1, x7_1, rfl, rfl, rfl, HA, HK1, HO_4, HB⟩ := hrel
    cases gk with
    | zero => exact absurd HA.out (by simp [unicodetextref51_Reach.l0])
    | succ k1 =>
      have H := HA.out
      clear HA
      simp only [unicodetextref51_Reach.l0] at H
      by_cases c4 : x7_1 < (t196.length : Int)
      · rw [if_pos c4] at H
        have c4b0 : decide (x7_1 < (t196.length : Int)) = true := decide_eq_true c4
        clear c4
        by_cases c5 : 0 ≤ x7_1
        · rw [if_pos c5] at H
          have c5b0 : decide (0 ≤ x7_1) = true := decide_eq_true c5
          clear c5
          obtain ⟨ji6, hji6⟩ : ∃ j_ : Int, (mx x5_1 (((rd_T41 t196 x7_1).f0).length : Int)) = j_ := ⟨_, rfl⟩
          replace H : (unicodetextref51_Reach.l0 k1 t196 ji6 (mx x6_1 (wrap64 ((((rd_T41 t196 x7_1).f1).length : Int) + (((rd_T41 t196 x7_1).f2).length : Int)))) (wrap64 (x7_1 + 1))) = some (r1, r2) := by first | (rw [hji6] at H; exact H) | (simp only [hji6] at H ⊢; exact H)
          have hji6_ : (if x5_1 < (((rd_T41 t196 x7_1).f0).length : Int) then (((rd_T41 t196 x7_1).f0).length : Int) else x5_1) = ji6 := hji6
          obtain ⟨ji7, hji7⟩ : ∃ j_ : Int, (mx x6_1 (wrap64 ((((rd_T41 t196 x7_1).f1).length : Int) + (((rd_T41 t196 x7_1).f2).length : Int)))) = j_ := ⟨_, rfl⟩
          replace H : (unicodetextref51_Reach.l0 k1 t196 ji6 ji7 (wrap64 (x7_1 + 1))) = some (r1, r2) := by first | (rw [hji7] at H; exact H) | (simp only [hji7] at H ⊢; exact H)
          have hji7_ : (if x6_1 < (wrap64 ((((rd_T41 t196 x7_1).f1).length : Int) + (((rd_T41 t196 x7_1).f2).length : Int))) then (wrap64 ((((rd_T41 t196 x7_1).f1).length : Int) + (((rd_T41 t196 x7_1).f2).length : Int))) else x6_1) = ji7 := hji7
          have H' := Aside0.mk H
          clear H
          obtain ⟨Ao8, co8, eo8⟩ := Kd.V_slice HO_4.out
          subst eo8
          have p199 : 0 ≤ (x7_1 : Int) := of_decide_eq_true (by first | (with_reducible assumption) | assumption)
          have q199 : x7_1 < (t196.length : Int) := of_decide_eq_true (by first | (with_reducible assumption) | assumption)
          obtain ⟨ad199, A199_0, c199_0, A199_1, c199_1, A199_2, c199_2, A199_3, c199_3, e199, hx199_0, hx199_1, hx199_2, hx199_3, hl199_0, hi199_0, hl199_1, hi199_1, hl199_2, hi199_2, hl199_3, hi199_3⟩ := at_T41 (Kd.V_reads' HO_4.out).2.2 x7_1 p199 q199
          cases e199
          obtain ⟨ce199, hce199, hMe199, hcc199⟩ := Kd.V_get HO_4.out z41 x7_1 p199 (by first | exact q199 | exact of_decide_eq_true (by first | (with_reducible assumption) | assumption) | (have e_ := (Kd.V_reads' HO_4.out).1; omega))
          obtain ⟨ua199_0, uc199_0, ua199_1, uc199_1, ua199_2, uc199_2, ua199_3, uc199_3, rfl, ul199_0, ge199_0, ul199_1, ge199_1, ul199_2, ge199_2, ul199_3, ge199_3⟩ := k41_openF hMe199
          have hv199_0 := hcc199 0 _ rfl
          rw [Nat.add_zero] at hv199_0
          replace hv199_0 := Option.some.inj (hv199_0.symm.trans hx199_0)
          injection hv199_0 with hva_ hvn_ hvc_
          rw [hva_] at ge199_0
          rw [hvc_] at ul199_0
          have HL199_0 := Aside0.mk (show Kd.V k45 45 _ w.heap.size _ _ ((rd_T41 t196 x7_1).f0) from Kd.V_mk ul199_0 ge199_0)
          clear hva_ hvn_ hvc_ ge199_0 ul199_0
          have hv199_1 := hcc199 1 _ rfl
          rw [add_field _ _ 1 (by omega)] at hv199_1
          replace hv199_1 := Option.some.inj (hv199_1.symm.trans hx199_1)
          injection hv199_1 with hva_ hvn_ hvc_
          rw [hva_] at ge199_1
          rw [hvc_] at ul199_1
          have HL199_1 := Aside0.mk (show Kd.V k45 45 _ w.heap.size _ _ ((rd_T41 t196 x7_1).f1) from Kd.V_mk ul199_1 ge199_1)
          clear hva_ hvn_ hvc_ ge199_1 ul199_1
          have hv199_2 := hcc199 2 _ rfl
          rw [add_field _ _ 2 (by omega)] at hv199_2
          replace hv199_2 := Option.some.inj (hv199_2.symm.trans hx199_2)
          injection hv199_2 with hva_ hvn_ hvc_
          rw [hva_] at ge199_2
          rw [hvc_] at ul199_2
          have HL199_2 := Aside0.mk (show Kd.V k45 45 _ w.heap.size _ _ ((rd_T41 t196 x7_1).f2) from Kd.V_mk ul199_2 ge199_2)
          clear hva_ hvn_ hvc_ ge199_2 ul199_2
          have hv199_3 := hcc199 3 _ rfl
          rw [add_field _ _ 3 (by omega)] at hv199_3
          replace hv199_3 := Option.some.inj (hv199_3.symm.trans hx199_3)
          injection hv199_3 with hva_ hvn_ hvc_
          rw [hva_] at ge199_3
          rw [hvc_] at ul199_3
          have HL199_3 := Aside0.mk (show Kd.V k59 59 _ w.heap.size _ _ ((rd_T41 t196 x7_1).f3) from Kd.V_mk ul199_3 ge199_3)
          clear hva_ hvn_ hvc_ ge199_3 ul199_3
          clear hcc199 hce199
          have HR199_0 := Aside0.mk hi199_0
          have HC199_0 := Aside0.mk hl199_0
          clear hi199_0 hl199_0
          have HR199_1 := Aside0.mk hi199_1
          have HC199_1 := Aside0.mk hl199_1
          clear hi199_1 hl199_1
          have HR199_2 := Aside0.mk hi199_2
          have HC199_2 := Aside0.mk hl199_2
          clear hi199_2 hl199_2
          have HR199_3 := Aside0.mk hi199_3
          have HC199_3 := Aside0.mk hl199_3
          clear hi199_3 hl199_3
          replace p199 := eq_true p199
          replace q199 := eq_true q199
          have p200 : 0 ≤ (x7_1 : Int) := of_decide_eq_true (by first | (with_reducible assumption) | assumption)
          have q200 : x7_1 < (t196.length : Int) := of_decide_eq_true (by first | (with_reducible assumption) | assumption)
          obtain ⟨ad200, A200_0, c200_0, A200_1, c200_1, A200_2, c200_2, A200_3, c200_3, e200, hx200_0, hx200_1, hx200_2, hx200_3, hl200_0, hi200_0, hl200_1, hi200_1, hl200_2, hi200_2, hl200_3, hi200_3⟩ := at_T41 (Kd.V_reads' HO_4.out).2.2 x7_1 p200 q200
          obtain rfl : ad199 = ad200 := (by injection e200)
          obtain ⟨ce200, hce200, hMe200, hcc200⟩ := Kd.V_get HO_4.out z41 x7_1 p200 (by first | exact q200 | exact of_decide_eq_true (by first | (with_reducible assumption) | assumption) | (have e_ := (Kd.V_reads' HO_4.out).1; omega))
          obtain ⟨ua200_0, uc200_0, ua200_1, uc200_1, ua200_2, uc200_2, ua200_3, uc200_3, rfl, ul200_0, ge200_0, ul200_1, ge200_1, ul200_2, ge200_2, ul200_3, ge200_3⟩ := k41_openF hMe200
          have hv200_0 := hcc200 0 _ rfl
          rw [Nat.add_zero] at hv200_0
          replace hv200_0 := Option.some.inj (hv200_0.symm.trans hx200_0)
          injection hv200_0 with hva_ hvn_ hvc_
          rw [hva_] at ge200_0
          rw [hvc_] at ul200_0
          have HL200_0 := Aside0.mk (show Kd.V k45 45 _ w.heap.size _ _ ((rd_T41 t196 x7_1).f0) from Kd.V_mk ul200_0 ge200_0)
          clear hva_ hvn_ hvc_ ge200_0 ul200_0
          have hv200_1 := hcc200 1 _ rfl
          rw [add_field _ _ 1 (by omega)] at hv200_1
          replace hv200_1 := Option.some.inj (hv200_1.symm.trans hx200_1)
          injection hv200_1 with hva_ hvn_ hvc_
          rw [hva_] at ge200_1
          rw [hvc_] at ul200_1
          have HL200_1 := Aside0.mk (show Kd.V k45 45 _ w.heap.size _ _ ((rd_T41 t196 x7_1).f1) from Kd.V_mk ul200_1 ge200_1)
          clear hva_ hvn_ hvc_ ge200_1 ul200_1
          have hv200_2 := hcc200 2 _ rfl
          rw [add_field _ _ 2 (by omega)] at hv200_2
          replace hv200_2 := Option.some.inj (hv200_2.symm.trans hx200_2)
          injection hv200_2 with hva_ hvn_ hvc_
          rw [hva_] at ge200_2
          rw [hvc_] at ul200_2
          have HL200_2 := Aside0.mk (show Kd.V k45 45 _ w.heap.size _ _ ((rd_T41 t196 x7_1).f2) from Kd.V_mk ul200_2 ge200_2)
          clear hva_ hvn_ hvc_ ge200_2 ul200_2
          have hv200_3 := hcc200 3 _ rfl
          rw [add_field _ _ 3 (by omega)] at hv200_3
          replace hv200_3 := Option.some.inj (hv200_3.symm.trans hx200_3)
          injection hv200_3 with hva_ hvn_ hvc_
          rw [hva_] at ge200_3
          rw [hvc_] at ul200_3
          have HL200_3 := Aside0.mk (show Kd.V k59 59 _ w.heap.size _ _ ((rd_T41 t196 x7_1).f3) from Kd.V_mk ul200_3 ge200_3)
          clear hva_ hvn_ hvc_ ge200_3 ul200_3
          clear hcc200 hce200
          have HR200_0 := Aside0.mk hi200_0
          have HC200_0 := Aside0.mk hl200_0
          clear hi200_0 hl200_0
          have HR200_1 := Aside0.mk hi200_1
          have HC200_1 := Aside0.mk hl200_1
          clear hi200_1 hl200_1
          have HR200_2 := Aside0.mk hi200_2
          have HC200_2 := Aside0.mk hl200_2
          clear hi200_2 hl200_2
          have HR200_3 := Aside0.mk hi200_3
          have HC200_3 := Aside0.mk hl200_3
          clear hi200_3 hl200_3
          replace p200 := eq_true p200
          replace q200 := eq_true q200
          have ea_ := Option.some.inj (hx199_0.symm.trans hx200_0)
          injection ea_ with ea_ en_ ec_
          subst ea_
          subst ec_
          clear en_
          have ea_ := Option.some.inj (hx199_1.symm.trans hx200_1)
          injection ea_ with ea_ en_ ec_
          subst ea_
          subst ec_
          clear en_
          have ea_ := Option.some.inj (hx199_2.symm.trans hx200_2)
          injection ea_ with ea_ en_ ec_
          subst ea_
          subst ec_
          clear en_
          have ea_ := Option.some.inj (hx199_3.symm.trans hx200_3)
          injection ea_ with ea_ en_ ec_
          subst ea_
          subst ec_
          clear en_
          have p201 : 0 ≤ (x7_1 : Int) := of_decide_eq_true (by first | (with_reducible assumption) | assumption)
          have q201 : x7_1 < (t196.length : Int) := of_decide_eq_true (by first | (with_reducible assumption) | assumption)
          obtain ⟨ad201, A201_0, c201_0, A201_1, c201_1, A201_2, c201_2, A201_3, c201_3, e201, hx201_0, hx201_1, hx201_2, hx201_3, hl201_0, hi201_0, hl201_1, hi201_1, hl201_2, hi201_2, hl201_3, hi201_3⟩ := at_T41 (Kd.V_reads' HO_4.out).2.2 x7_1 p201 q201
          obtain rfl : ad199 = ad201 := (by injection e201)
          obtain ⟨ce201, hce201, hMe201, hcc201⟩ := Kd.V_get HO_4.out z41 x7_1 p201 (by first | exact q201 | exact of_decide_eq_true (by first | (with_reducible assumption) | assumption) | (have e_ := (Kd.V_reads' HO_4.out).1; omega))
          obtain ⟨ua201_0, uc201_0, ua201_1, uc201_1, ua201_2, uc201_2, ua201_3, uc201_3, rfl, ul201_0, ge201_0, ul201_1, ge201_1, ul201_2, ge201_2, ul201_3, ge201_3⟩ := k41_openF hMe201
          have hv201_0 := hcc201 0 _ rfl
          rw [Nat.add_zero] at hv201_0
          replace hv201_0 := Option.some.inj (hv201_0.symm.trans hx201_0)
          injection hv201_0 with hva_ hvn_ hvc_
          rw [hva_] at ge201_0
          rw [hvc_] at ul201_0
          have HL201_0 := Aside0.mk (show Kd.V k45 45 _ w.heap.size _ _ ((rd_T41 t196 x7_1).f0) from Kd.V_mk ul201_0 ge201_0)
          clear hva_ hvn_ hvc_ ge201_0 ul201_0
          have hv201_1 := hcc201 1 _ rfl
          rw [add_field _ _ 1 (by omega)] at hv201_1
          replace hv201_1 := Option.some.inj (hv201_1.symm.trans hx201_1)
          injection hv201_1 with hva_ hvn_ hvc_
          rw [hva_] at ge201_1
          rw [hvc_] at ul201_1
          have HL201_1 := Aside0.mk (show Kd.V k45 45 _ w.heap.size _ _ ((rd_T41 t196 x7_1).f1) from Kd.V_mk ul201_1 ge201_1)
          clear hva_ hvn_ hvc_ ge201_1 ul201_1
          have hv201_2 := hcc201 2 _ rfl
          rw [add_field _ _ 2 (by omega)] at hv201_2
          replace hv201_2 := Option.some.inj (hv201_2.symm.trans hx201_2)
          injection hv201_2 with hva_ hvn_ hvc_
          rw [hva_] at ge201_2
          rw [hvc_] at ul201_2
          have HL201_2 := Aside0.mk (show Kd.V k45 45 _ w.heap.size _ _ ((rd_T41 t196 x7_1).f2) from Kd.V_mk ul201_2 ge201_2)
          clear hva_ hvn_ hvc_ ge201_2 ul201_2
          have hv201_3 := hcc201 3 _ rfl
          rw [add_field _ _ 3 (by omega)] at hv201_3
          replace hv201_3 := Option.some.inj (hv201_3.symm.trans hx201_3)
          injection hv201_3 with hva_ hvn_ hvc_
          rw [hva_] at ge201_3
          rw [hvc_] at ul201_3
          have HL201_3 := Aside0.mk (show Kd.V k59 59 _ w.heap.size _ _ ((rd_T41 t196 x7_1).f3) from Kd.V_mk ul201_3 ge201_3)
          clear hva_ hvn_ hvc_ ge201_3 ul201_3
          clear hcc201 hce201
          have HR201_0 := Aside0.mk hi201_0
          have HC201_0 := Aside0.mk hl201_0
          clear hi201_0 hl201_0
          have HR201_1 := Aside0.mk hi201_1
          have HC201_1 := Aside0.mk hl201_1
          clear hi201_1 hl201_1
          have HR201_2 := Aside0.mk hi201_2
          have HC201_2 := Aside0.mk hl201_2
          clear hi201_2 hl201_2
          have HR201_3 := Aside0.mk hi201_3
          have HC201_3 := Aside0.mk hl201_3
          clear hi201_3 hl201_3
          replace p201 := eq_true p201
          replace q201 := eq_true q201
          have ea_ := Option.some.inj (hx199_0.symm.trans hx201_0)
          injection ea_ with ea_ en_ ec_
          subst ea_
          subst ec_
          clear en_
          have ea_ := Option.some.inj (hx199_1.symm.trans hx201_1)
          injection ea_ with ea_ en_ ec_
          subst ea_
          subst ec_
          clear en_
          have ea_ := Option.some.inj (hx199_2.symm.trans hx201_2)
          injection ea_ with ea_ en_ ec_
          subst ea_
          subst ec_
          clear en_
          have ea_ := Option.some.inj (hx199_3.symm.trans hx201_3)
          injection ea_ with ea_ en_ ec_
          subst ea_
          subst ec_
          clear en_
          go_wp2
          repeat (go_quiet (fail); try go_wp2)
          go_roundg k1
          case measure => have := HK1.out; omega
          case rel => exact ⟨(ji6), (ji7), (wrap64 (x7_1 + 1)), (by first | rfl | (simp; done) | (simp only [← hji6] <;> (first | rfl | simp)) | (simp [*]; done)), (by first | rfl | (simp; done) | (simp only [← hji7] <;> (first | rfl | simp)) | (simp [*]; done)), (by first | rfl | (simp; done) | (simp [*]; done)), H', ⟨by have := HK1.out; omega⟩, ⟨by (with_reducible repeat (first | apply Kd.V_alloc | apply Kd.V_drewN | apply Kd.V_drew)); exact HO_4.out⟩, ⟨by repeat (first | (with_reducible first | exact HB.out | apply below_alloc | apply pw_below_drewN | apply below_drew1) | exact HB.out)⟩⟩
        · rw [if_neg c5] at H
          exact absurd H (by simp)
      · rw [if_neg c4] at H
        have c4b0 : decide (x7_1 < (t196.length : Int)) = false := decide_eq_false c4
        clear c4
        simp only [Option.some.injEq, Prod.mk.injEq] at H
        obtain ⟨rfl, rfl⟩ := H
        obtain ⟨Ao9, co9, eo9⟩ := Kd.V_slice HO_4.out
        subst eo9
        go_wp2
        repeat (go_quiet (fail); try go_wp2)
        go_ret2
        exact ⟨by first | rfl | (simp [errW_none, errW_some] <;> rfl) | (simp [*, errW_none, errW_some] <;> rfl), by repeat (first | (with_reducible first | exact HB.out | apply below_alloc | apply pw_below_drewN | apply below_drew1) | exact HB.out)⟩
def unicodetextlaw52_few.l0 : Nat → List (List Int) → Int → Option (Bool)
  | 0, _, _ => none
  | k + 1, x0, x3 => if x3 < (x0.length : Int) then (if 0 ≤ x3 then (if ((rd_L10 x0 x3).length : Int) > 30 then (some false) else (unicodetextlaw52_few.l0 k x0 (wrap64 (x3 + 1)))) else (none)) else (some true)
def unicodetextlaw52_few.f (k : Nat) (l0 : List (List Int)) : Option (Bool) := if (l0.length : Int) > 8 then (some false) else (unicodetextlaw52_few.l0 k l0 0)
set_option maxHeartbeats 8000000 in
set_option maxRecDepth 100000 in
theorem unicodetextlaw52_few.calls (k : Nat) (A0 : Option Addr) (c0 : Nat) (l0 : List (List Int)) (r : Bool) (w : World) (hr0 : Kd.C (Kd.slice 3 (Kd.int .i64)) w A0 l0.length l0) (hc0 : l0.length ≤ c0) (h : unicodetextlaw52_few.f k l0 = some r) :
    Calls Try.prog 11 #[.slice A0 l0.length c0] w fun e w' => e = .returned (.bool r) ∧ Drawn0 w w' := by
  have HR0 := Aside0.mk hr0
  have HC0 := Aside0.mk hc0
  clear hr0 hc0
  have H : (if (l0.length : Int) > 8 then (some false) else (unicodetextlaw52_few.l0 k l0 0)) = some r := h
  clear h
  by_cases c2 : (l0.length : Int) > 8
  · rw [if_pos c2] at H
    have c2b0 : decide (8 < (l0.length : Int)) = true := decide_eq_true c2
    have c2b1 : decide (8 < l0.length) = true := decide_eq_true (by omega)
    clear c2
    obtain rfl := Option.some.inj H
    go_enter Try.func11, Try.ntmps11
    go_wp2
    go_ret
    exact ⟨by first | rfl | (simp; done) | (simp [*]; done), by repeat (first | exact Drawn0.refl _ | apply Drawn0.step)⟩
  · rw [if_neg c2] at H
    have c2b0 : decide (8 < (l0.length : Int)) = false := decide_eq_false c2
    have c2b1 : decide (8 < l0.length) = false := decide_eq_false (by omega)
    clear c2
    have H' := Aside0.mk H
    clear H
    go_enter Try.func11, Try.ntmps11
    go_wp2
    go_loopg [3] k (fun kq v3 w' => ∃ (x3_1 : Int), v3 = .int .i64 x3_1 ∧ Aside0 (unicodetextlaw52_few.l0 kq l0 x3_1 = some r) ∧ Aside0 (kq ≤ k) ∧ Drawn0 w w')
    case atStart => exact ⟨(0), (by first | rfl | (simp; done) | (simp [*]; done)), H', ⟨Nat.le_refl _⟩, by repeat (first | exact Drawn0.refl _ | apply Drawn0.step)⟩
    case round =>
      clear H'
      try clear c1
      try clear c2
      try clear c2b0
      try clear c2b1
      try clear p2
      obtain ⟨x3_1, rfl, HA, HK1, ⟨m1, rfl⟩⟩ := hrel
      cases gk with
      | zero => exact absurd HA.out (by simp [unicodetextlaw52_few.l0])
      | succ k1 =>
        have H := HA.out
        clear HA
        simp only [unicodetextlaw52_few.l0] at H
        by_cases c3 : x3_1 < (l0.length : Int)
        · rw [if_pos c3] at H
          have c3b0 : decide (x3_1 < (l0.length : Int)) = true := decide_eq_true c3
          clear c3
          by_cases c4 : 0 ≤ x3_1
          · rw [if_pos c4] at H
            have c4b0 : decide (0 ≤ x3_1) = true := decide_eq_true c4
            clear c4
            by_cases c5 : ((rd_L10 l0 x3_1).length : Int) > 30
            · rw [if_pos c5] at H
              have c5b0 : decide (30 < ((rd_L10 l0 x3_1).length : Int)) = true := decide_eq_true c5
              have c5b1 : decide (30 < (rd_L10 l0 x3_1).length) = true := decide_eq_true (by omega)
              clear c5
              obtain rfl := Option.some.inj H
              have p202 : 0 ≤ (x3_1 : Int) := of_decide_eq_true (by first | (with_reducible assumption) | assumption)
              have q202 : x3_1 < (l0.length : Int) := of_decide_eq_true (by first | (with_reducible assumption) | assumption)
              obtain ⟨ad202, A202_0, c202_0, e202, hx202_0, hl202_0, hi202_0⟩ := at_L10 HR0.out x3_1 p202 q202
              cases e202
              have HR202_0 := Aside0.mk hi202_0
              have HC202_0 := Aside0.mk hl202_0
              clear hi202_0 hl202_0
              replace p202 := eq_true p202
              replace q202 := eq_true q202
              go_wp2
              go_ret
              exact ⟨by first | rfl | (simp; done) | (simp [*]; done), by repeat (first | exact Drawn0.refl _ | apply Drawn0.step)⟩
            · rw [if_neg c5] at H
              have c5b0 : decide (30 < ((rd_L10 l0 x3_1).length : Int)) = false := decide_eq_false c5
              have c5b1 : decide (30 < (rd_L10 l0 x3_1).length) = false := decide_eq_false (by omega)
              clear c5
              have H' := Aside0.mk H
              clear H
              have p202 : 0 ≤ (x3_1 : Int) := of_decide_eq_true (by first | (with_reducible assumption) | assumption)
              have q202 : x3_1 < (l0.length : Int) := of_decide_eq_true (by first | (with_reducible assumption) | assumption)
              obtain ⟨ad202, A202_0, c202_0, e202, hx202_0, hl202_0, hi202_0⟩ := at_L10 HR0.out x3_1 p202 q202
              cases e202
              have HR202_0 := Aside0.mk hi202_0
              have HC202_0 := Aside0.mk hl202_0
              clear hi202_0 hl202_0
              replace p202 := eq_true p202
              replace q202 := eq_true q202
              go_wp2
              go_roundg k1
              case measure => have := HK1.out; omega
              case rel => exact ⟨(wrap64 (x3_1 + 1)), (by first | rfl | (simp; done) | (simp [*]; done)), H', ⟨by have := HK1.out; omega⟩, by repeat (first | exact Drawn0.refl _ | apply Drawn0.step)⟩
          · rw [if_neg c4] at H
            exact absurd H (by simp)
        · rw [if_neg c3] at H
          have c3b0 : decide (x3_1 < (l0.length : Int)) = false := decide_eq_false c3
          clear c3
          obtain rfl := Option.some.inj H
          go_wp2
          go_ret
          exact ⟨by first | rfl | (simp; done) | (simp [*]; done), by repeat (first | exact Drawn0.refl _ | apply Drawn0.step)⟩
end Go.Proofs.Ytcpicopaobhlcaa.Q
end
section
namespace Go.Proofs.Ytcpicopaobhlcaa.Q
open Go.RowKit Go.Maps Go.Proofs.YtcpicopaobhlcaaW.PrintWords Go.Proofs.YtcpicopaobhlcaaW.PrintLast Go.Proofs.YtcpicopaobhlcaaW.PrintMore
set_option linter.unusedVariables false
def okText (l : List Int) : Bool := decide (l.length < 100000000) && l.all fun c => (Lit.int .i64 c).wf
theorem firstErr_ok : ∀ l : List Ru, firstErr l = 0 → ∀ x ∈ l, oneS x = 0
  | [], _, x, h => by cases h
  | y :: l, h, x, hx => by
    rw [firstErr] at h
    split at h
    · rename_i h0
      rcases List.mem_cons.1 hx with rfl | hx
      · exact h0
      · exact firstErr_ok l h x hx
    · rename_i h0; exact absurd h h0
theorem oneS_ok (x : Ru) (h : oneS x = 0) : 1 ≤ x.f1.length ∧ x.f1.length ≤ 8 ∧ x.f0.length ≤ 8 ∧ x.f2.length ≤ 8 ∧ x.f3.length ≤ 16 := by
  unfold oneS at h
  split at h
  · cases h
  · omega
theorem data_ok (l : List Ru) (h : okRules l = true) : (dataS l).length < 100000000 ∧ ∀ x ∈ dataS l, 1 ≤ x.f1.length ∧ (∀ s ∈ x.f0, s.f0.length < 1000) ∧ (∀ s ∈ x.f1, s.f0.length < 1000) ∧ (∀ s ∈ x.f2, s.f0.length < 1000) ∧ x.f0.length < 100000000 ∧ x.f1.length < 100000000 ∧ x.f2.length < 100000000 := by
  unfold okRules at h
  rw [Bool.and_eq_true, decide_eq_true_eq, List.all_eq_true] at h
  unfold dataS
  split
  · rename_i hc
    refine ⟨h.1, fun x hx => ?_⟩
    have h1 : oneS x = 0 := by
      unfold checkS at hc
      split at hc
      · cases hc
      · exact firstErr_ok l hc x hx
    have h2 := oneS_ok x h1
    have h3 := h.2 x hx
    simp only [okRule, Bool.and_eq_true, List.all_eq_true, okSet, decide_eq_true_eq] at h3
    refine ⟨h2.1, fun s hs => ?_, fun s hs => ?_, fun s hs => ?_, by omega, by omega, by omega⟩
    · have := h3.2.1 s hs; omega
    · have := h3.2.2.1 s hs; omega
    · have := h3.2.2.2 s hs; omega
  · exact ⟨by simp, fun x hx => by cases hx⟩
theorem oneS_pieces (x : Ru) (h : oneS x = 0) : ∀ p ∈ x.f3, p.f1 ≤ (x.f1.length : Int) := by
  unfold oneS at h
  split at h
  · cases h
  · split at h
    · cases h
    · split at h
      · cases h
      · rename_i h3
        intro p hp
        have h4 : pieceBad x.f1.length p = false := by
          cases hb : pieceBad x.f1.length p with
          | false => rfl
          | true => exact absurd (List.any_eq_true.2 ⟨p, hp, hb⟩) h3
        unfold pieceBad at h4
        simp only [Bool.not_eq_false', Bool.or_eq_true, Bool.and_eq_true, decide_eq_true_eq] at h4
        omega
theorem data_one (l : List Ru) : ∀ x ∈ dataS l, oneS x = 0 := by
  unfold dataS
  split
  · rename_i hc
    intro x hx
    unfold checkS at hc
    split at hc
    · cases hc
    · exact firstErr_ok l hc x hx
  · intro x hx; cases hx
def transduce_Step.f (l0 : List Ru) (l1 : List Int) (a2 : Int) : Option (Int × Int) := if okRules l0 = true ∧ okText l1 = true then some (stepS (dataS l0) l1 a2) else none
def transduce_Reach.f (l0 : List Ru) : Option (Int × Int) := if okRules l0 = true then some (reachS (dataS l0)) else none
set_option maxHeartbeats 4000000 in
set_option maxRecDepth 100000 in
theorem transduce_Step.calls (A0 : Option Addr) (c0 : Nat) (l0 : List (S41)) (A1 : Option Addr) (c1 : Nat) (l1 : List Int) (a2 : Int) (r1 : Int) (r2 : Int) (w : World) (hr0 : Kd.C k41 w A0 l0.length l0) (hc0 : l0.length ≤ c0) (hr1 : Kd.C (Kd.int .i64) w A1 l1.length l1) (hc1 : l1.length ≤ c1) (h : transduce_Step.f l0 l1 a2 = some (r1, r2)) :
    Calls Try.prog 55 #[.slice A0 l0.length c0, .slice A1 l1.length c1, .int .i64 a2] w fun e w' => e = .returned (.tuple #[.int .i64 r1, .int .i64 r2]) ∧ Below w.heap.size w w' := by
  have hn : (okRules l0 = true ∧ okText l1 = true) ∧ stepS (dataS l0) l1 a2 = (r1, r2) := by
    unfold transduce_Step.f at h
    split at h
    · rename_i hl; exact ⟨hl, Option.some.inj h⟩
    · cases h
  obtain ⟨⟨hok, htx⟩, hres⟩ := hn
  unfold okText at htx
  rw [Bool.and_eq_true, decide_eq_true_eq, List.all_eq_true] at htx
  have HOK := Aside0.mk hok
  have HTX := Aside0.mk htx
  have HDO := Aside0.mk (data_ok l0 hok)
  have HRES := Aside0.mk hres
  have HR := Aside0.mk hr0
  have HC := Aside0.mk hc0
  have HT := Aside0.mk hr1
  have HC1 := Aside0.mk hc1
  clear hok htx hres hr0 hc0 hr1 hc1 h
  go_enter Try.func55, Try.ntmps55
  go_wp2_with (first | (go_at_call 42; (with_reducible refine (open_calls A0 c0 l0 _ HOK.out HR.out HC.out).mono ?_); rintro e w1 ⟨bm, mb, A, cA, rfl, hM, hCR, hcA, hmb, hbm, hne, hb⟩; have HM := Aside0.mk hM; have HCR := Aside0.mk hCR; have HCA := Aside0.mk hcA; have HMB := Aside0.mk hmb; have HB := Aside0.mk hb; clear hM hCR hcA hmb hbm hne hb) | (go_at_call 60; (with_reducible refine (step_calls w w1 bm mb A cA (dataS l0) 0 A1 c1 l1 a2 none (fun _ h => by cases h) (HM.out none) HB.out HMB.out HCR.out HCA.out HDO.out.1 HDO.out.2 (by decide) HT.out HC1.out HTX.out.1 HTX.out.2).mono ?_); rintro e w2 ⟨rfl, hM2, hb2, hk2⟩; have HB2 := Aside0.mk hb2; clear hM2 hb2 hk2))
  go_ret2
  exact ⟨by rw [HRES.out]; rfl, HB2.out⟩
attribute [local go_sem] max2_int max_two
set_option maxHeartbeats 4000000 in
set_option maxRecDepth 100000 in
theorem transduce_Reach.calls (A0 : Option Addr) (c0 : Nat) (l0 : List (S41)) (r1 : Int) (r2 : Int) (w : World) (hr0 : Kd.C k41 w A0 l0.length l0) (hc0 : l0.length ≤ c0) (h : transduce_Reach.f l0 = some (r1, r2)) :
    Calls Try.prog 27 #[.slice A0 l0.length c0] w fun e w' => e = .returned (.tuple #[.int .i64 r1, .int .i64 r2]) ∧ Below w.heap.size w w' := by
  have hn : okRules l0 = true ∧ reachS (dataS l0) = (r1, r2) := by
    unfold transduce_Reach.f at h
    split at h
    · rename_i hl; exact ⟨hl, Option.some.inj h⟩
    · cases h
  have HOK := Aside0.mk hn.1
  have HRES := Aside0.mk hn.2
  have HDO := Aside0.mk (data_ok l0 hn.1)
  have HR := Aside0.mk hr0
  have HC := Aside0.mk hc0
  clear hn hr0 hc0 h
  go_enter Try.func27, Try.ntmps27
  go_upto_region 2 with (fail)
  generalize hl : dataS l0 = l at HRES HDO
  have HLL := Aside0.mk hl
  clear hl
  go_wp2_with (go_at_call 42; (with_reducible refine (open_calls A0 c0 l0 _ HOK.out HR.out HC.out).mono ?_); rintro e w1 ⟨bm, mb, A, cA, rfl, hM, hCR, hcA, hmb, hbm, hne, hb⟩; rw [HLL.out] at hM hCR hcA; have hcl : w1.cell? ⟨bm, 0, none⟩ = some (.slice A l.length cA) := (blk_cell (hM none).blk 0).trans rfl; have HCR := Aside0.mk hCR; have HB := Aside0.mk hb; clear hM hCR hcA hmb hbm hne hb)
  go_loopw [4, 5, 14] (fun bv av i wr => ∃ k : Nat, bv = .int .i64 (reachS (l.take k)).1 ∧ av = .int .i64 (reachS (l.take k)).2 ∧ i = .int .i64 k ∧ Aside0 (k ≤ l.length) ∧ Aside0 (Below w.heap.size w wr)) (fun _ _ i _ => l.length - (intOf i).toNat)
  case atStart => exact ⟨0, rfl, rfl, rfl, ⟨Nat.zero_le _⟩, HB⟩
  case round =>
    clear HB
    obtain ⟨k, rfl, rfl, rfl, HK, HB⟩ := hrel
    by_cases hlt : k < l.length
    · have hRw := Kd.C_below HCR.out HB.out
      obtain ⟨ad, B0, d0, B1, d1, B2, d2, B3, d3, e, x0, x1, x2, x3, y0, z0, y1, z1, y2, z2, y3, z3⟩ := at_T41 hRw (k : Int) (by omega) (by omega)
      cases e
      rw [Int.toNat_natCast] at x0 x1 x2 x3
      have hst : l.take (k + 1) = l.take k ++ [rd_T41 l (k : Int)] := by
        unfold rd_T41
        rw [Int.toNat_natCast, List.getD_eq_getElem?_getD, List.take_add_one, List.getElem?_eq_getElem hlt]
        rfl
      have hmem : rd_T41 l (k : Int) ∈ l := by unfold rd_T41; rw [Int.toNat_natCast, List.getD_eq_getElem?_getD, List.getElem?_eq_getElem hlt]; exact List.getElem_mem hlt
      obtain ⟨q1, q2, q3, q4, q5, q6, q7⟩ := HDO.out.2 _ hmem
      clear hRw y0 z0 y1 z1 y2 z2 y3 z3 hmem q1 q2 q3 q4
      have hrs : reachS (l.take (k + 1)) = (max (reachS (l.take k)).1 ((rd_T41 l (k : Int)).f0.length : Int), max (reachS (l.take k)).2 (((rd_T41 l (k : Int)).f1.length : Int) + (rd_T41 l (k : Int)).f2.length)) := by
        rw [hst]; unfold reachS; rw [List.foldl_append, List.foldl_append]; rfl
      have HRS := Aside0.mk hrs
      clear hst hrs
      generalize rd_T41 l (k : Int) = x at *
      generalize (reachS (l.take k)).1 = m1 at *
      generalize (reachS (l.take k)).2 = m2 at *
      have hp : (0 ≤ (k : Int)) = True := eq_true (by omega)
      have hw : wrap64 ((k : Int) + 1) = (k : Int) + 1 := by have := HDO.out.1; unfold wrap64; omega
      have hw2 : wrap64 ((x.f1.length : Int) + (x.f2.length : Int)) = (x.f1.length : Int) + (x.f2.length : Int) := by unfold wrap64; omega
      have hw3 : IntKind.i64.wrap ((x.f1.length : Int) + (x.f2.length : Int)) = (x.f1.length : Int) + (x.f2.length : Int) := by rw [IntWalk.i64_in _ (by omega)]
      have X0 : (wr.alloc (.cells #[.slice B0 x.f0.length d0, .slice B1 x.f1.length d1, .slice B2 x.f2.length d2, .slice B3 x.f3.length d3] 41)).cell? ⟨wr.heap.size, 0, none⟩ = some (.slice B0 x.f0.length d0) := (blk_cell (heap_alloc_new wr (.cells #[.slice B0 x.f0.length d0, .slice B1 x.f1.length d1, .slice B2 x.f2.length d2, .slice B3 x.f3.length d3] 41)) 0).trans rfl
      have X1 : (wr.alloc (.cells #[.slice B0 x.f0.length d0, .slice B1 x.f1.length d1, .slice B2 x.f2.length d2, .slice B3 x.f3.length d3] 41)).cell? ⟨wr.heap.size, 1, none⟩ = some (.slice B1 x.f1.length d1) := (blk_cell (heap_alloc_new wr (.cells #[.slice B0 x.f0.length d0, .slice B1 x.f1.length d1, .slice B2 x.f2.length d2, .slice B3 x.f3.length d3] 41)) 1).trans rfl
      have X2 : (wr.alloc (.cells #[.slice B0 x.f0.length d0, .slice B1 x.f1.length d1, .slice B2 x.f2.length d2, .slice B3 x.f3.length d3] 41)).cell? ⟨wr.heap.size, 2, none⟩ = some (.slice B2 x.f2.length d2) := (blk_cell (heap_alloc_new wr (.cells #[.slice B0 x.f0.length d0, .slice B1 x.f1.length d1, .slice B2 x.f2.length d2, .slice B3 x.f3.length d3] 41)) 2).trans rfl
      clear q5 q6 q7
      go_wp2
      go_quiet (fail)
      go_wp2
      go_roundw
      case rel => exact ⟨k + 1, by rw [HRS.out]; exact congrArg (Value.int .i64) (by split <;> omega), by rw [HRS.out]; exact congrArg (Value.int .i64) (by split <;> omega), by rw [hw]; rfl, ⟨hlt⟩, ⟨pw_below_drewN (below_alloc HB.out _) _⟩⟩
      case measure => rw [hw]; simp only [intOf]; omega
    · obtain rfl : k = l.length := by have := HK.out; omega
      rw [List.take_length, HRES.out]
      go_wp2
      go_ret2
      exact ⟨rfl, HB.out⟩
end Go.Proofs.Ytcpicopaobhlcaa.Q
end
section
namespace Go.Proofs.Ytcpicopaobhlcaa.Q
open Go.RowKit Go.Proofs.YtcpicopaobhlcaaW.PrintWords Go.Proofs.YtcpicopaobhlcaaW.PrintLast Go.Proofs.YtcpicopaobhlcaaW.PrintMore
set_option linter.unusedVariables false
theorem plMx (a b : Int) : mx a b = max a b := by unfold mx; omega
theorem plReach_go : ∀ (rest pre : List Ru) (a b : Int) (k : Nat), (∀ x ∈ rest, plFewU x) → (pre ++ rest).length < 1000000000 → rest.length + 1 ≤ k →
    unicodetextref51_Reach.l0 k (pre ++ rest) a b (pre.length : Int) = some (rest.foldl (fun m x => max m (x.f0.length : Int)) a, rest.foldl (fun m x => max m ((x.f1.length : Int) + x.f2.length)) b)
  | [], pre, a, b, k, h0, h1, h2 => by
    obtain ⟨k, rfl⟩ : ∃ j, k = j + 1 := ⟨k - 1, by omega⟩
    rw [unicodetextref51_Reach.l0, if_neg (by simp)]
    rfl
  | x :: rest, pre, a, b, k, h0, h1, h2 => by
    obtain ⟨k, rfl⟩ : ∃ j, k = j + 1 := ⟨k - 1, by omega⟩
    have hp : pre.length < 1000000000 := by simp at h1; omega
    obtain ⟨g0, g1, g2, _⟩ := h0 x List.mem_cons_self
    have hw : wrap64 ((x.f1.length : Int) + (x.f2.length : Int)) = (x.f1.length : Int) + x.f2.length := by have := g1.1; have := g2.1; unfold wrap64; omega
    have ih := plReach_go rest (pre ++ [x]) (max a (x.f0.length : Int)) (max b ((x.f1.length : Int) + x.f2.length)) k (fun y hy => h0 y (List.mem_cons_of_mem _ hy)) (by simpa using h1) (by simp at h2; omega)
    have ex : (pre ++ [x]) ++ rest = pre ++ x :: rest := by simp
    have el : ((pre ++ [x]).length : Int) = ((pre.length + 1 : Nat) : Int) := by simp
    rw [ex, el] at ih
    rw [unicodetextref51_Reach.l0, if_pos (by simp; omega), if_pos (by omega), rdU_mid, wrap_suc hp, hw, plMx, plMx, ih]
    rfl
theorem plReach_ok (l : List Ru) (k : Nat) (h : plFewL l) (hk : 270 ≤ k) : unicodetextref51_Reach.f k l = some (reachS (dataS l)) := by
  have hd := plData_few l h
  unfold unicodetextref51_Reach.f
  rw [plData_ok l k h hk]
  exact plReach_go (dataS l) [] 0 0 k hd.2 (by have := hd.1; simp; omega) (by have := hd.1; omega)
theorem plReachT (l : List Ru) (h : plFewL l) : transduce_Reach.f l = some (reachS (dataS l)) := by
  unfold transduce_Reach.f
  rw [if_pos (plOkRules h)]
theorem plInside_take : ∀ (l : List St) (t : List Int) (n : Nat), l.length ≤ n → insideS l t = insideS l (t.take n)
  | [], t, n, h => rfl
  | s :: l, [], n, h => by rw [List.take_nil]
  | s :: l, c :: t, 0, h => by simp at h
  | s :: l, c :: t, n + 1, h => by
    rw [List.take_succ_cons, insideS, insideS, plInside_take l t n (by simpa using h)]
theorem plCovers_win (l : List St) (text : List Int) (lo hi : Nat) (i : Int) (h : hi ≤ text.length) (h0 : lo ≤ hi) (h1 : (0 ≤ i ↔ (lo : Int) ≤ i)) (h2 : (i + l.length ≤ (text.length : Int) ↔ i + l.length ≤ (hi : Int))) :
    coversS l ((text.take hi).drop lo) (i - lo) = coversS l text i := by
  have hlen : ((text.take hi).drop lo).length = hi - lo := by rw [List.length_drop, List.length_take]; omega
  unfold coversS
  rw [hlen]
  by_cases ha : 0 ≤ i
  · have ha' := h1.1 ha
    rw [decide_eq_true ha, decide_eq_true (by omega : 0 ≤ i - (lo : Int))]
    by_cases hb : i + l.length ≤ (text.length : Int)
    · have hb' := h2.1 hb
      rw [decide_eq_true hb, decide_eq_true (by omega : i - (lo : Int) + l.length ≤ ((hi - lo : Nat) : Int))]
      simp only [Bool.true_and]
      obtain ⟨a, rfl⟩ : ∃ a : Nat, i = (a : Int) := ⟨i.toNat, by omega⟩
      rw [show (a : Int) - (lo : Int) = ((a - lo : Nat) : Int) by omega, Int.toNat_natCast, Int.toNat_natCast, List.drop_drop, show lo + (a - lo) = a by omega]
      rw [plInside_take l (text.drop a) l.length (Nat.le_refl _), plInside_take l ((text.take hi).drop a) l.length (Nat.le_refl _)]
      congr 1
      rw [List.drop_take, List.take_take, Nat.min_eq_left (by omega)]
    · rw [decide_eq_false hb, decide_eq_false (by omega : ¬ i - (lo : Int) + l.length ≤ ((hi - lo : Nat) : Int))]
      simp
  · rw [decide_eq_false ha, decide_eq_false (by omega : ¬ 0 ≤ i - (lo : Int))]
    simp
theorem plFindIdx_congr {p q : Ru → Bool} : ∀ (l : List Ru), (∀ x ∈ l, p x = q x) → l.findIdx? p = l.findIdx? q
  | [], h => rfl
  | x :: l, h => by
    rw [List.findIdx?_cons, List.findIdx?_cons, h x List.mem_cons_self, plFindIdx_congr l (fun y hy => h y (List.mem_cons_of_mem _ hy))]
theorem plFold_ge (f : Ru → Int) : ∀ (l : List Ru) (a : Int), a ≤ l.foldl (fun m x => max m (f x)) a ∧ ∀ x ∈ l, f x ≤ l.foldl (fun m x => max m (f x)) a
  | [], a => ⟨Int.le_refl _, fun x hx => by cases hx⟩
  | y :: l, a => by
    obtain ⟨h1, h2⟩ := plFold_ge f l (max a (f y))
    rw [List.foldl_cons]
    refine ⟨by omega, fun x hx => ?_⟩
    rcases List.mem_cons.1 hx with rfl | hx
    · omega
    · exact h2 x hx
theorem plFold_le (f : Ru → Int) (B : Int) : ∀ (l : List Ru) (a : Int), a ≤ B → (∀ x ∈ l, f x ≤ B) → l.foldl (fun m x => max m (f x)) a ≤ B
  | [], a, h, _ => h
  | y :: l, a, h, h2 => by
    rw [List.foldl_cons]
    have := h2 y List.mem_cons_self
    exact plFold_le f B l _ (by omega) (fun x hx => h2 x (List.mem_cons_of_mem _ hx))
theorem plReach_bounds (l : List Ru) (h : plFewL l) : (0 ≤ (reachS l).1 ∧ (reachS l).1 ≤ 1000) ∧ (0 ≤ (reachS l).2 ∧ (reachS l).2 ≤ 1000) ∧ ∀ x ∈ l, (x.f0.length : Int) ≤ (reachS l).1 ∧ (x.f1.length : Int) + x.f2.length ≤ (reachS l).2 := by
  have a := plFold_ge (fun x => (x.f0.length : Int)) l 0
  have b := plFold_ge (fun x => (x.f1.length : Int) + x.f2.length) l 0
  have c := plFold_le (fun x => (x.f0.length : Int)) 1000 l 0 (by decide) (fun x hx => by have := (h.2 x hx).1.1; omega)
  have d := plFold_le (fun x => (x.f1.length : Int) + x.f2.length) 1000 l 0 (by decide) (fun x hx => by have := (h.2 x hx).2.1.1; have := (h.2 x hx).2.2.1.1; omega)
  exact ⟨⟨a.1, c⟩, ⟨b.1, d⟩, fun x hx => ⟨a.2 x hx, b.2 x hx⟩⟩
theorem plWin (l : List Ru) (text : List Int) (a lo hi : Nat) (b f : Int) (hr : ∀ x ∈ l, (x.f0.length : Int) ≤ b ∧ (x.f1.length : Int) + x.f2.length ≤ f) (ha : a < hi) (hhi : hi ≤ text.length) (hlo : lo ≤ a) (h1 : lo = 0 ∨ (lo : Int) + b ≤ a) (h2 : hi = text.length ∨ (a : Int) + f ≤ hi) :
    stepS l ((text.take hi).drop lo) ((a - lo : Nat) : Int) = stepS l text a := by
  have hlen : ((text.take hi).drop lo).length = hi - lo := by rw [List.length_drop, List.length_take]; omega
  have e : ((a - lo : Nat) : Int) = (a : Int) - lo := by omega
  rw [e]
  have hx : l.findIdx? (fun x => appliesS x ((text.take hi).drop lo) ((a : Int) - lo)) = l.findIdx? (fun x => appliesS x text a) := by
    refine plFindIdx_congr l fun x hx => ?_
    obtain ⟨r1, r2⟩ := hr x hx
    unfold appliesS
    rw [plCovers_win x.f1 text lo hi a (by omega) (by omega) (by omega) (by omega)]
    rw [show (a : Int) - lo + x.f1.length = ((a : Int) + x.f1.length) - lo by omega, plCovers_win x.f2 text lo hi _ (by omega) (by omega) (by omega) (by omega)]
    rw [show (a : Int) - lo - x.f0.length = ((a : Int) - x.f0.length) - lo by omega, plCovers_win x.f0 text lo hi _ (by omega) (by omega) (by omega) (by omega)]
  unfold stepS
  rw [hlen, if_neg (by omega), if_neg (by omega), hx]
end Go.Proofs.Ytcpicopaobhlcaa.Q
end
section
namespace Go.Proofs.Ytcpicopaobhlcaa.Q
open Go.RowKit Go.Proofs.YtcpicopaobhlcaaW.PrintWords Go.Proofs.YtcpicopaobhlcaaW.PrintLast Go.Proofs.YtcpicopaobhlcaaW.PrintMore
set_option linter.unusedVariables false
theorem spGetD_drop (T : List Int) (d k : Nat) : (T.drop d).getD k 0 = T.getD (d + k) 0 := by
  rw [List.getD_eq_getElem?_getD, List.getD_eq_getElem?_getD, List.getElem?_drop]
theorem spWr_suf (l : List Ru) (T : List Int) (a d : Nat) (i : Int) (hd : d ≤ a) : writtenS l (T.drop d) ((a - d : Nat) : Int) i = writtenS l T (a : Int) i := by
  unfold writtenS
  split
  · rw [Int.toNat_natCast, Int.toNat_natCast, spGetD_drop, show d + (a - d) = a by omega]
  · apply List.map_congr_left
    intro p hp
    split
    · obtain ⟨q, hq⟩ : ∃ q : Nat, p.f1 = (q : Int) + 1 := ⟨(p.f1 - 1).toNat, by omega⟩
      rw [show ((a - d : Nat) : Int) + (p.f1 - 1) = ((a - d + q : Nat) : Int) by omega, show (a : Int) + (p.f1 - 1) = ((a + q : Nat) : Int) by omega, Int.toNat_natCast, Int.toNat_natCast, spGetD_drop, show d + (a - d + q) = a + q by omega]
    · rfl
theorem spGetD_app (p q : List Int) (k : Nat) (h : k < p.length) : (p ++ q).getD k 0 = p.getD k 0 := by
  rw [List.getD_eq_getElem?_getD, List.getD_eq_getElem?_getD, List.getElem?_append_left h]
theorem spWr_pre (l : List Ru) (p q : List Int) (a n : Nat) (i : Int) (ha : a + n ≤ p.length) (hl : ∀ x ∈ l, ∀ p ∈ x.f3, p.f1 ≤ (x.f1.length : Int))
    (hc : i = -1 ∧ n = 1 ∨ ∃ j : Nat, i = (j : Int) ∧ j < l.length ∧ n = (l.getD j z41).f1.length) : writtenS l (p ++ q) (a : Int) i = writtenS l p (a : Int) i := by
  rcases hc with ⟨rfl, rfl⟩ | ⟨j, rfl, hj, hnj⟩
  · unfold writtenS
    rw [if_pos (by decide), if_pos (by decide), Int.toNat_natCast, spGetD_app _ _ _ (by omega)]
  · have hm : l.getD j z41 ∈ l := by
      rw [List.getD_eq_getElem?_getD, List.getElem?_eq_getElem hj]; exact List.getElem_mem hj
    have h2 := hl _ hm
    unfold writtenS
    rw [if_neg (by omega), if_neg (by omega), Int.toNat_natCast]
    apply List.map_congr_left
    intro x hx
    have h3 := h2 x hx
    split
    · obtain ⟨k, hk⟩ : ∃ k : Nat, x.f1 = (k : Int) + 1 := ⟨(x.f1 - 1).toNat, by omega⟩
      rw [show (a : Int) + (x.f1 - 1) = ((a + k : Nat) : Int) by omega, Int.toNat_natCast, spGetD_app _ _ _ (by omega)]
    · rfl
theorem spRun_suf (l : List Ru) (T : List Int) (least d : Nat) (b f : Int) (h1 : ∀ x ∈ l, 1 ≤ x.f1.length) (hl : 1 ≤ least) (hr : ∀ x ∈ l, (x.f0.length : Int) ≤ b ∧ (x.f1.length : Int) + x.f2.length ≤ f) (a : Nat) (hd : d ≤ a) (hb : d = 0 ∨ (d : Int) + b ≤ a) :
    spRun l (T.drop d) least (a - d) = ((spRun l T least a).1, (spRun l T least a).2 - d) := by
  refine spRun_ind l T least h1 hl (fun a r => d ≤ a → (d = 0 ∨ (d : Int) + b ≤ a) → spRun l (T.drop d) least (a - d) = (r.1, r.2 - d)) (fun a h h2 _ => ?_) (fun a n r h hs hn hn2 hc hr' hP h2 h3 => ?_) _ a (Nat.le_refl _) hd hb
  · exact spRun_stop l (T.drop d) least (a - d) (by rw [List.length_drop]; omega)
  · have hw := plWin l T a d T.length b f hr (by omega) (Nat.le_refl _) h2 h3 (.inl rfl)
    rw [List.take_length] at hw
    have hlen : (T.drop d).length = T.length - d := List.length_drop
    rw [spRun_step l (T.drop d) least h1 hl (a - d) n (by omega) (by rw [hw, hs]) hn, hw, spWr_suf l T a d _ h2, show a - d + n = a + n - d by omega, hP (by omega) (by omega)]
theorem spRun_app (l : List Ru) (p q : List Int) (m least : Nat) (b f : Int) (h1 : ∀ x ∈ l, 1 ≤ x.f1.length) (hl : 1 ≤ m) (hm : m ≤ least) (hr : ∀ x ∈ l, (x.f0.length : Int) ≤ b ∧ (x.f1.length : Int) + x.f2.length ≤ f) (hf : f ≤ (least : Int))
    (hp : ∀ x ∈ l, ∀ p ∈ x.f3, p.f1 ≤ (x.f1.length : Int)) (a : Nat) :
    spRun l (p ++ q) m a = ((spRun l p least a).1 ++ (spRun l (p ++ q) m (spRun l p least a).2).1, (spRun l (p ++ q) m (spRun l p least a).2).2) := by
  refine spRun_ind l p least h1 (by omega) (fun a r => spRun l (p ++ q) m a = (r.1 ++ (spRun l (p ++ q) m r.2).1, (spRun l (p ++ q) m r.2).2)) (fun a h => by simp) (fun a n r h hs hn hn2 hc hr' hP => ?_) _ a (Nat.le_refl _)
  have hw := plWin l (p ++ q) a 0 p.length b f hr (by omega) (by simp) (Nat.zero_le _) (.inl rfl) (.inr (by omega))
  rw [List.take_left, List.drop_zero, Nat.sub_zero] at hw
  rw [spRun_step l (p ++ q) m h1 hl a n (by rw [List.length_append]; omega) (by rw [← hw, hs]) hn, ← hw, spWr_pre l p q a n _ hn2 hp hc, hP, List.append_assoc]
end Go.Proofs.Ytcpicopaobhlcaa.Q
end
section
namespace Go.Proofs.Ytcpicopaobhlcaa.Q
open Go.RowKit Go.Proofs.YtcpicopaobhlcaaW.PrintWords Go.Proofs.YtcpicopaobhlcaaW.PrintLast Go.Proofs.YtcpicopaobhlcaaW.PrintMore
set_option linter.unusedVariables false
/-- What is asked of the rules of a stream: be, ah its two numbers. -/
structure SpOk (l : List Ru) (be ah : Nat) : Prop where
  one : ∀ x ∈ l, 1 ≤ x.f1.length
  ahp : 1 ≤ ah
  far : ∀ x ∈ l, (x.f0.length : Int) ≤ (be : Int) ∧ (x.f1.length : Int) + x.f2.length ≤ (ah : Int)
  pcs : ∀ x ∈ l, x.f3.length ≤ 16 ∧ ∀ p ∈ x.f3, p.f1 ≤ (x.f1.length : Int)
/-- What Write hands back, and the state behind it: the text that is kept, and the position in it. -/
def spWrite (l : List Ru) (be ah : Nat) (s : List Int × Nat) (text : List Int) : List Int × (List Int × Nat) :=
  ((spRun l (s.1 ++ text) ah s.2).1, ((s.1 ++ text).drop ((spRun l (s.1 ++ text) ah s.2).2 - be), (spRun l (s.1 ++ text) ah s.2).2 - ((spRun l (s.1 ++ text) ah s.2).2 - be)))
def SpRel (be : Nat) (T : List Int) (a : Nat) (s : List Int × Nat) : Prop := ∃ d, s.1 = T.drop d ∧ s.2 = a - d ∧ d ≤ a ∧ a ≤ T.length ∧ (d = 0 ∨ d + be ≤ a)
theorem SpRel.start (be : Nat) : SpRel be [] 0 ([], 0) := ⟨0, rfl, rfl, Nat.le_refl _, Nat.le_refl _, .inl rfl⟩
theorem SpRel.pend {be : Nat} {T : List Int} {a : Nat} {s : List Int × Nat} (h : SpRel be T a s) : s.1.drop s.2 = T.drop a := by
  obtain ⟨d, h1, h2, h3, h4, h5⟩ := h
  rw [h1, h2, List.drop_drop, show d + (a - d) = a by omega]
theorem SpRel.run {l : List Ru} {be ah : Nat} (ok : SpOk l be ah) {T : List Int} {a : Nat} {s : List Int × Nat} (h : SpRel be T a s) (m : Nat) (hm : 1 ≤ m) (text : List Int) : (spRun l (s.1 ++ text) m s.2).1 = (spRun l (T ++ text) m a).1 := by
  obtain ⟨d, h1, h2, h3, h4, h5⟩ := h
  have e : s.1 ++ text = (T ++ text).drop d := by rw [h1, List.drop_append_of_le_length (by omega)]
  rw [e, h2, spRun_suf l (T ++ text) m d be ah ok.one hm ok.far a h3 (by omega)]
theorem SpRel.write {l : List Ru} {be ah : Nat} (ok : SpOk l be ah) {T : List Int} {a : Nat} {s : List Int × Nat} (h : SpRel be T a s) (text : List Int) :
    (spWrite l be ah s text).1 = (spRun l (T ++ text) ah a).1 ∧ SpRel be (T ++ text) (spRun l (T ++ text) ah a).2 (spWrite l be ah s text).2 := by
  refine ⟨h.run ok ah ok.ahp text, ?_⟩
  obtain ⟨d, h1, h2, h3, h4, h5⟩ := h
  have e : s.1 ++ text = (T ++ text).drop d := by rw [h1, List.drop_append_of_le_length (by omega)]
  have hs := spRun_suf l (T ++ text) ah d be ah ok.one ok.ahp ok.far a h3 (by omega)
  obtain ⟨q1, q2, q3⟩ := spRun_end l (T ++ text) ah ok.one ok.ahp a (by rw [List.length_append]; omega)
  unfold spWrite
  rw [e, h2, hs]
  generalize (spRun l (T ++ text) ah a).2 = a' at *
  refine ⟨d + (a' - d - be), ?_, ?_, by omega, q3, by omega⟩
  · show ((T ++ text).drop d).drop (a' - d - be) = _
    rw [List.drop_drop]
  · show a' - d - (a' - d - be) = _
    omega
/-- What was written so far, as the beginning of what the whole writes. -/
def SpOut (l : List Ru) (m : Nat) (T : List Int) (a : Nat) (out : List Int) : Prop := ∀ q, spRun l (T ++ q) m 0 = (out ++ (spRun l (T ++ q) m a).1, (spRun l (T ++ q) m a).2)
theorem SpOut.start (l : List Ru) (m : Nat) : SpOut l m [] 0 [] := fun q => by simp
theorem SpOut.write {l : List Ru} {be ah m : Nat} (ok : SpOk l be ah) (hm : 1 ≤ m) (hma : m ≤ ah) {T : List Int} {a : Nat} {out : List Int} (h : SpOut l m T a out) (text : List Int) : SpOut l m (T ++ text) (spRun l (T ++ text) ah a).2 (out ++ (spRun l (T ++ text) ah a).1) := by
  intro q
  have h1 := h (text ++ q)
  rw [← List.append_assoc] at h1
  rw [h1, spRun_app l (T ++ text) q m ah be ah ok.one hm hma ok.far (Int.le_refl _) (fun x hx => (ok.pcs x hx).2) a]
  simp only [List.append_assoc]
theorem SpOut.all {l : List Ru} {be ah : Nat} (ok : SpOk l be ah) {T : List Int} {a : Nat} {out : List Int} (h : SpOut l ah T a out) (hs : T.length < a + ah) : spRun l T ah 0 = (out, a) := by
  have h1 := h []
  rw [List.append_nil, spRun_stop l T ah a hs, List.append_nil] at h1
  exact h1
end Go.Proofs.Ytcpicopaobhlcaa.Q
end
section
namespace Go.Proofs.Ytcpicopaobhlcaa.Q
open Go.RowKit Go.Proofs.YtcpicopaobhlcaaW.PrintWords Go.Proofs.YtcpicopaobhlcaaW.PrintLast Go.Proofs.YtcpicopaobhlcaaW.PrintMore
set_option linter.unusedVariables false
def spBe (l : List Ru) : Nat := (reachS l).1.toNat
def spAh (l : List Ru) : Nat := (max 1 (reachS l).2).toNat
theorem spOk (l : List Ru) (hf : plFewL l) (hd : dataS l = l) : SpOk l (spBe l) (spAh l) := by
  obtain ⟨⟨b1, b2⟩, ⟨f1, f2⟩, hr⟩ := plReach_bounds l hf
  refine ⟨fun x hx => (oneS_ok x (data_one l x (by rw [hd]; exact hx))).1, by unfold spAh; omega, fun x hx => ?_, fun x hx => ?_⟩
  · obtain ⟨q1, q2⟩ := hr x hx
    unfold spBe spAh
    omega
  · have := data_one l x (by rw [hd]; exact hx)
    exact ⟨(oneS_ok x this).2.2.2.2, oneS_pieces x this⟩
theorem spLens_few (l : List Ru) (hf : plFewL l) : ∀ x ∈ l, spLens x := by
  intro x hx
  obtain ⟨h0, h1, h2, h3⟩ := hf.2 x hx
  exact ⟨⟨by have := h0.1; omega, fun s hs => by have := h0.2 s hs; omega⟩, ⟨by have := h1.1; omega, fun s hs => by have := h1.2 s hs; omega⟩, ⟨by have := h2.1; omega, fun s hs => by have := h2.2 s hs; omega⟩, by omega⟩
attribute [local go_sem] max2_int max_two
set_option maxHeartbeats 4000000 in
set_option maxRecDepth 100000 in
theorem sNew_bad (A0 : Option Addr) (c0 : Nat) (l : List Ru) (w : World) (hf : plFewL l) (hr : Kd.C k41 w A0 l.length l) (hc : l.length ≤ c0) (hd : checkS l ≠ 0) :
    Calls Try.prog 13 #[.slice A0 l.length c0] w fun e w' => e = .returned (.tuple #[.pointer none, .int .i64 (checkS l)]) ∧ Below w.heap.size w w' := by
  have HR := Aside0.mk hr
  have HC := Aside0.mk hc
  have HCK := Aside0.mk (check_ok l (plOkRules hf))
  have hq : (checkS l != 0) = true := by simpa using hd
  have hq2 : (!decide (checkS l = 0)) = true := by simpa using hd
  have hq3 : decide (checkS l = 0) = false := decide_eq_false hd
  have hq4 : (checkS l == 0) = false := by simpa using hd
  clear hr hc hd hf
  generalize checkS l = e0 at *
  go_enter Try.func13, Try.ntmps13
  go_wp2_with (go_at_call 26; (with_reducible refine (transrule_Check.calls (l.length + 1) A0 c0 l e0 _ HR.out HC.out HCK.out).mono ?_); rintro e w1 ⟨rfl, hb⟩; have HB := Aside0.mk hb; clear hb)
  go_ret2
  exact ⟨rfl, HB.out⟩
set_option maxHeartbeats 4000000 in
set_option maxRecDepth 100000 in
theorem sNew_calls (A0 : Option Addr) (c0 : Nat) (l : List Ru) (w : World) (hf : plFewL l) (hr : Kd.C k41 w A0 l.length l) (hc : l.length ≤ c0) (hd : checkS l = 0) :
    Calls Try.prog 13 #[.slice A0 l.length c0] w fun e w' => ∃ b, e = .returned (.tuple #[.pointer (some ⟨b, 0, none⟩), .int .i64 0]) ∧ Strm w' b (fun k => w.heap.size ≤ k ∧ k ≠ b) [] 0 l (spBe l) (spAh l) ∧ w.heap.size ≤ b ∧ Below w.heap.size w w' := by
  have HR := Aside0.mk hr
  have HC := Aside0.mk hc
  have hck := check_ok l (plOkRules hf)
  rw [hd] at hck
  have HCK := Aside0.mk hck
  have hde : dataS l = l := by unfold dataS; rw [if_pos hd]
  obtain ⟨⟨b1, b2⟩, ⟨f1, f2⟩, _⟩ := plReach_bounds l hf
  have hre : transduce_Reach.f l = some ((spBe l : Int), (reachS l).2) := by
    rw [plReachT l hf, hde]
    unfold spBe
    rw [show ((reachS l).1.toNat : Int) = (reachS l).1 by omega]
  have hmx : (if (1 : Int) < (reachS l).2 then (reachS l).2 else 1) = (spAh l : Int) := by unfold spAh; split <;> omega
  have HRE := Aside0.mk hre
  have HMX := Aside0.mk hmx
  have HLN := Aside0.mk (show l.length < 1000000 by have := hf.1; omega)
  have HLS := Aside0.mk (spLens_few l hf)
  clear hr hc hd hck hde b1 b2 f1 f2 hre hmx hf
  generalize (reachS l).2 = ahead at *
  have hu1 := Try.underlying53
  go_enter Try.func13, Try.ntmps13
  by_cases h1 : (1 : Int) < ahead
  · have HAH : Aside0 (ahead = (spAh l : Int)) := ⟨by have := HMX.out; rwa [if_pos h1] at this⟩
    go_wp2_with (first | (go_at_call 26; (with_reducible refine (transrule_Check.calls (l.length + 1) A0 c0 l 0 _ HR.out HC.out HCK.out).mono ?_); rintro e w1 ⟨rfl, hb⟩; have HB := Aside0.mk hb; clear hb) | (go_at_call 27; (with_reducible refine (transduce_Reach.calls A0 c0 l (spBe l) ahead _ (Kd.C_below HR.out HB.out) HC.out HRE.out).mono ?_); rintro e w2 ⟨rfl, hb⟩; have HB2 := Aside0.mk (below_step HB.out hb); clear hb) | (go_at_call 28; (with_reducible refine (spClone_calls A0 c0 l _ (Kd.C_below HR.out HB2.out) HC.out HLN.out HLS.out).mono ?_); rintro e w3 ⟨v3, rfl, hv3, hb⟩; obtain ⟨A3, c3, rfl⟩ := Kd.R_slice hv3; have HV3 := Aside0.mk hv3; have HB3 := Aside0.mk hb; clear hb hv3))
    go_ret2
    have hbk := heap_alloc_new w3 (.cells #[.slice none 0 0, .int .i64 0, .slice A3 l.length c3, .int .i64 (spBe l), .int .i64 ahead] 53)
    refine ⟨w3.heap.size, rfl, ⟨none, 0, A3, c3, ?_, Nat.le_refl _, Kd.F_nil _ _ _, (Kd.R_reads' HV3.out).2.1, Kd.F_mono (Kd.F_alloc (Kd.R_F (Kd.R_bound HV3.out)) _) (fun k hk => ⟨Nat.le_trans HB2.out.size hk.2.1, by have := hk.2.2.1; omega⟩)⟩, Nat.le_trans HB2.out.size HB3.out.size, below_alloc (below_step HB2.out HB3.out) _⟩
    unfold StrmB
    rw [← HAH.out]
    exact hbk
  · have HAH : Aside0 ((1 : Int) = (spAh l : Int)) := ⟨by have := HMX.out; rwa [if_neg h1] at this⟩
    go_wp2_with (first | (go_at_call 26; (with_reducible refine (transrule_Check.calls (l.length + 1) A0 c0 l 0 _ HR.out HC.out HCK.out).mono ?_); rintro e w1 ⟨rfl, hb⟩; have HB := Aside0.mk hb; clear hb) | (go_at_call 27; (with_reducible refine (transduce_Reach.calls A0 c0 l (spBe l) ahead _ (Kd.C_below HR.out HB.out) HC.out HRE.out).mono ?_); rintro e w2 ⟨rfl, hb⟩; have HB2 := Aside0.mk (below_step HB.out hb); clear hb) | (go_at_call 28; (with_reducible refine (spClone_calls A0 c0 l _ (Kd.C_below HR.out HB2.out) HC.out HLN.out HLS.out).mono ?_); rintro e w3 ⟨v3, rfl, hv3, hb⟩; obtain ⟨A3, c3, rfl⟩ := Kd.R_slice hv3; have HV3 := Aside0.mk hv3; have HB3 := Aside0.mk hb; clear hb hv3))
    go_ret2
    have hbk := heap_alloc_new w3 (.cells #[.slice none 0 0, .int .i64 0, .slice A3 l.length c3, .int .i64 (spBe l), .int .i64 1] 53)
    refine ⟨w3.heap.size, rfl, ⟨none, 0, A3, c3, ?_, Nat.le_refl _, Kd.F_nil _ _ _, (Kd.R_reads' HV3.out).2.1, Kd.F_mono (Kd.F_alloc (Kd.R_F (Kd.R_bound HV3.out)) _) (fun k hk => ⟨Nat.le_trans HB2.out.size hk.2.1, by have := hk.2.2.1; omega⟩)⟩, Nat.le_trans HB2.out.size HB3.out.size, below_alloc (below_step HB2.out HB3.out) _⟩
    unfold StrmB
    rw [← HAH.out]
    exact hbk
end Go.Proofs.Ytcpicopaobhlcaa.Q
end
section
namespace Go.Proofs.Ytcpicopaobhlcaa.Q
open Go.RowKit Go.Proofs.YtcpicopaobhlcaaW.PrintWords Go.Proofs.YtcpicopaobhlcaaW.PrintLast Go.Proofs.YtcpicopaobhlcaaW.PrintMore
set_option linter.unusedVariables false
def pieceV (cov : List Int) (p : Pc) : Int := if 0 < p.f1 then rd cov (p.f1 - 1) else p.f0
def resV (l : List Ru) (i : Int) (cov : List Int) : List Int := if i < 0 then cov else (rd_T41 l i).f3.map (pieceV cov)
theorem cov_len (text : List Int) (a n : Nat) (h : a + n ≤ text.length) : ((text.take (a + n)).drop a).length = n := by
  rw [List.length_drop, List.length_take]; omega
theorem cov_getD (text : List Int) (a n k : Nat) (hk : k < n) : ((text.take (a + n)).drop a).getD k 0 = text.getD (a + k) 0 := by
  rw [List.getD_eq_getElem?_getD, List.getD_eq_getElem?_getD, List.getElem?_drop, List.getElem?_take, if_pos (by omega)]
theorem resV_written (l : List Ru) (text : List Int) (a n : Nat) (i : Int) (hn : 1 ≤ n) (ha : a + n ≤ text.length) (hl : ∀ x ∈ l, x.f3.length ≤ 16 ∧ ∀ p ∈ x.f3, p.f1 ≤ (x.f1.length : Int))
    (hc : i = -1 ∧ n = 1 ∨ ∃ j : Nat, i = (j : Int) ∧ j < l.length ∧ n = (l.getD j z41).f1.length) :
    resV l i ((text.take (a + n)).drop a) = writtenS l text (a : Int) i ∧ (writtenS l text (a : Int) i).length ≤ 16 * n := by
  rcases hc with ⟨rfl, rfl⟩ | ⟨j, rfl, hj, hnj⟩
  · unfold resV writtenS
    rw [if_pos (by decide), if_pos (by decide)]
    refine ⟨?_, by simp⟩
    apply List.ext_getElem
    · rw [cov_len _ _ _ ha]; rfl
    · intro k h1 h2
      simp only [List.length_cons, List.length_nil, Nat.zero_add, Nat.lt_one_iff] at h2
      subst h2
      have := cov_getD text a 1 0 (by omega)
      rw [List.getD_eq_getElem?_getD, List.getElem?_eq_getElem h1] at this
      simpa using this
  · have hm : l.getD j z41 ∈ l := by
      rw [List.getD_eq_getElem?_getD, List.getElem?_eq_getElem hj]; exact List.getElem_mem hj
    have h2 := hl _ hm
    unfold resV writtenS
    rw [if_neg (by omega), if_neg (by omega)]
    have e : rd_T41 l (j : Int) = l.getD j z41 := by
      unfold rd_T41
      rw [Int.toNat_natCast]
    rw [e, Int.toNat_natCast]
    refine ⟨?_, by rw [List.length_map]; omega⟩
    apply List.map_congr_left
    intro p hp
    have h3 := h2.2 p hp
    unfold pieceV
    by_cases h0 : 0 < p.f1
    · rw [if_pos h0, if_pos h0]
      obtain ⟨q, hq⟩ : ∃ q : Nat, p.f1 = (q : Int) + 1 := ⟨(p.f1 - 1).toNat, by omega⟩
      rw [hq, show (q : Int) + 1 - 1 = (q : Int) by omega, show (a : Int) + (q : Int) = ((a + q : Nat) : Int) by omega]
      unfold rd
      rw [Int.toNat_natCast, Int.toNat_natCast]
      exact cov_getD text a n q (by omega)
    · rw [if_neg h0, if_neg h0]
set_option maxHeartbeats 4000000 in
set_option maxRecDepth 100000 in
theorem sStep_calls (b : Nat) (ok : Nat → Prop) (t : List Int) (a : Nat) (l : List Ru) (be ah n : Nat) (w : World) (hS : Strm w b ok t a l be ah) (hok : ¬ ok b) (hnew : ∀ k, w.heap.size ≤ k → ok k) (ht : t.length < 10000000) (ha : a < t.length) (htx : okText t = true)
    (hrl : okRules l = true) (hd : dataS l = l) (hs : (stepS l t (a : Int)).2 = (n : Int)) (hn1 : 1 ≤ n) (hn2 : a + n ≤ t.length)
    (hpc : ∀ x ∈ l, x.f3.length ≤ 16 ∧ ∀ p ∈ x.f3, p.f1 ≤ (x.f1.length : Int)) (hcase : (stepS l t (a : Int)).1 = -1 ∧ n = 1 ∨ ∃ j : Nat, (stepS l t (a : Int)).1 = (j : Int) ∧ j < l.length ∧ n = (l.getD j z41).f1.length) :
    Calls Try.prog 46 #[.pointer (some ⟨b, 0, none⟩)] w fun e w' => ∃ A' c', e = .returned (.slice A' (writtenS l t (a : Int) (stepS l t (a : Int)).1).length c') ∧ (writtenS l t (a : Int) (stepS l t (a : Int)).1).length ≤ c' ∧ Kd.F (Kd.int .i64) w' ok A' (writtenS l t (a : Int) (stepS l t (a : Int)).1).length (writtenS l t (a : Int) (stepS l t (a : Int)).1) ∧ Strm w' b ok t (a + n) l be ah ∧ w.grownBy w' (some b) := by
  obtain ⟨At, ct, Al, cl, hB, h2, h3, h4, h5⟩ := hS
  obtain ⟨i, hi⟩ : ∃ i, i = (stepS l t (a : Int)).1 := ⟨_, rfl⟩
  have hpair : stepS l t (a : Int) = (i, (n : Int)) := by rw [hi, ← hs]
  have hsf : transduce_Step.f l t (a : Int) = some (i, (n : Int)) := by
    unfold transduce_Step.f
    rw [if_pos ⟨hrl, htx⟩, hd, hpair]
  rw [← hi] at hcase ⊢
  have c0 := hB.c0
  have c1 := hB.c1
  have c2 := hB.c2
  have HBK := Aside0.mk hB
  have H3 := Aside0.mk h3
  have H5 := Aside0.mk h5
  have H2 := Aside0.mk h2
  have H4 := Aside0.mk h4
  have HSF := Aside0.mk hsf
  have HNEW := Aside0.mk hnew
  have HPC := Aside0.mk hpc
  have HCS := Aside0.mk hcase
  have HN := Aside0.mk (And.intro ha hn2)
  have HTL := Aside0.mk ht
  have HOKB : Aside0 (∀ k, ok k → k ≠ b) := ⟨fun k hk e => hok (e ▸ hk)⟩
  have HBX := Aside0.mk (Below.refl w.heap.size w)
  clear hB h3 h5 h2 h4 hsf hnew hpc hcase hs hd hrl htx hi hpair hok ht ha hn2
  go_enter Try.func46, Try.ntmps46
  go_wp2
  go_region_held3 (fun w' => w'.cell? ⟨b, 0, none⟩ = some (.slice At t.length ct) ∧ w'.cell? ⟨b, 1, none⟩ = some (.int .i64 a) ∧ w'.cell? ⟨b, 2, none⟩ = some (.slice Al l.length cl)) (first | go_keep | (go_split_ands; refine ⟨?_, ?_, ?_⟩; (refine pw_cell_below hb ?_; assumption); (refine pw_cell_below hb ?_; assumption); (refine pw_cell_below hb ?_; assumption)))
    (first | (go_at_call 55; (with_reducible refine (transduce_Step.calls Al cl l At ct t (a : Int) i (n : Int) _ ?s1 H4.out ?s2 H2.out HSF.out).mono ?_); (case s1 => exact Kd.C_below (Kd.F_now H5.out) (by repeat (first | (with_reducible first | exact HBX.out | apply below_alloc | apply pw_below_drewN | apply below_drew1) | exact HBX.out))); (case s2 => exact Kd.C_below (Kd.F_now H3.out) (by repeat (first | (with_reducible first | exact HBX.out | apply below_alloc | apply pw_below_drewN | apply below_drew1) | exact HBX.out))); rintro e w1 ⟨rfl, hb⟩; have HB1 := Aside0.mk (below_step (by repeat (first | (with_reducible first | exact HBX.out | apply below_alloc | apply pw_below_drewN | apply below_drew1) | exact HBX.out)) hb)))
  have HBK1 := Aside0.mk (HBK.out.below HB1.out)
  have d0 := HBK1.out.c0
  have d1 := HBK1.out.c1
  have d2 := HBK1.out.c2
  have f1 := HBK1.out.fz 1
  clear c0 c1 c2 hb
  have HF3 := Aside0.mk (Kd.F_below H3.out HB1.out)
  have HF5 := Aside0.mk (Kd.F_below H5.out HB1.out)
  have HCV := Kd.F_mid (lo := a) (hi := a + n) HF3.out (by omega) HN.out.2 H2.out
  rw [cov_len _ _ _ HN.out.2, if_neg (by have := H2.out; have := HN.out.1; omega), show a * (Kd.int .i64).sz = a from Nat.mul_one a] at HCV
  obtain ⟨ad, e, _⟩ := Kd.at_int (Kd.F_now HF3.out) (a : Int) (by omega) (by have := HN.out.1; omega)
  cases e
  have HCV := Aside0.mk HCV
  have hw : wrap64 ((a : Int) + (n : Int)) = (a : Int) + (n : Int) := by have := HTL.out; have := HN.out.2; unfold wrap64; omega
  have hx1 : (ct = a) = False := eq_false (by have := H2.out; have := HN.out.1; omega)
  have hx2 : (0 ≤ (a : Int) + (n : Int)) = True := eq_true (by omega)
  have hx3 : ((a : Int) + (n : Int) ≤ (ct : Int)) = True := eq_true (by have := H2.out; have := HN.out.2; omega)
  have hx4 : ((a : Int) ≤ (a : Int) + (n : Int)) = True := eq_true (by omega)
  have hx5 : a + n - a = n := by omega
  rcases HCS.out with ⟨rfl, hn1'⟩ | ⟨j, rfl, hj, hnj⟩
  · have HWE := Aside0.mk (resV_written l t a n (-1) (by omega) HN.out.2 HPC.out (.inl ⟨rfl, hn1'⟩)).1
    clear hn1 hn1'
    go_wp2
    go_quiet (fail)
    go_wp2
    go_ret
    have hWc : writtenS l t (a : Int) (-1) = (t.take (a + n)).drop a := by rw [← HWE.out]; exact if_pos (by decide)
    rw [hWc, cov_len _ _ _ HN.out.2]
    refine ⟨some (ad.add a), ct - a, ?_, by have := H2.out; have := HN.out.2; omega, Kd.F_far (Kd.F_drewN HCV.out nq) HOKB.out _, ⟨some ad, ct, Al, cl, (HBK1.out.below (pw_below_drewN (Below.refl _ _) nq)).set1 _, H2.out, Kd.F_far (Kd.F_drewN HF3.out nq) HOKB.out _, H4.out, Kd.F_far (Kd.F_drewN HF5.out nq) HOKB.out _⟩, (grown_of_below (pw_below_drewN HB1.out nq) _).trans (gbSet _ _ _ _)⟩
    show Ending.returned (Value.slice (some (ad.add a)) (a + n - a) (ct - a)) = _
    rw [hx5]
  · have hm : l.getD j z41 ∈ l := by
      rw [List.getD_eq_getElem?_getD, List.getElem?_eq_getElem hj]; exact List.getElem_mem hj
    have hpj := HPC.out _ hm
    have e : rd_T41 l (j : Int) = l.getD j z41 := by
      unfold rd_T41
      rw [Int.toNat_natCast]
    rw [← e] at hpj hnj
    have HWE := Aside0.mk (resV_written l t a n (j : Int) hn1 HN.out.2 HPC.out (.inr ⟨j, rfl, hj, by rw [hnj, e]⟩)).1
    have hWc : writtenS l t (a : Int) (j : Int) = (rd_T41 l (j : Int)).f3.map (pieceV ((t.take (a + n)).drop a)) := by rw [← HWE.out]; exact if_neg (by omega)
    have HWC := Aside0.mk hWc
    have HL3 : Aside0 ((rd_T41 l (j : Int)).f3.length < 1000000) := ⟨by omega⟩
    have HP : Aside0 (∀ p ∈ (rd_T41 l (j : Int)).f3, p.f1 ≤ (n : Int)) := ⟨by rw [hnj]; exact hpj.2⟩
    have HJ := Aside0.mk hj
    clear hpj hnj hm e hWc hj hn1
    go_wp2
    go_quiet (fail)
    go_upto_region 4 with (fail)
    obtain ⟨w2, hw2⟩ : ∃ w2, w2 = (w1.drewN nq).setCell ⟨b, 1, none⟩ (.int .i64 ((a : Int) + (n : Int))) := ⟨_, rfl⟩
    rw [← hw2, hx5]
    simp only [hw]
    have hB2 : StrmB w2 b (some ad) t.length ct ((a : Int) + (n : Int)) Al l.length cl be ah := by rw [hw2]; exact (HBK1.out.below (pw_below_drewN (Below.refl _ _) nq)).set1 _
    have hF3 : Kd.F (Kd.int .i64) w2 ok (some ad) t.length t := by rw [hw2]; exact Kd.F_far (Kd.F_drewN HF3.out nq) HOKB.out _
    have hF5 : Kd.F k41 w2 ok Al l.length l := by rw [hw2]; exact Kd.F_far (Kd.F_drewN HF5.out nq) HOKB.out _
    have hCV : Kd.F (Kd.int .i64) w2 ok (some (ad.add a)) n ((t.take (a + n)).drop a) := by rw [hw2]; exact Kd.F_far (Kd.F_drewN HCV.out nq) HOKB.out _
    have hg2 : w.grownBy w2 (some b) := by rw [hw2]; exact (grown_of_below (pw_below_drewN HB1.out nq) _).trans (gbSet _ _ _ _)
    have HBK2 := Aside0.mk hB2
    have G3 := Aside0.mk hF3
    have G5 := Aside0.mk hF5
    have GC := Aside0.mk (Kd.F_now hCV)
    have GG := Aside0.mk hg2
    clear HBK1 d0 d1 d2 f1 HF3 HF5 HCV hB2 hF3 hF5 hCV hg2 hw2
    have q2 := HBK2.out.c2
    obtain ⟨adr, D0, g0, D1, g1, D2, g2, D3, g3, er, y0, y1, y2, y3, u0, v0, u1, v1, u2, v2, u3, v3⟩ := at_T41 (Kd.F_now G5.out) (j : Int) (by omega) (by have := HJ.out; omega)
    cases er
    rw [Int.toNat_natCast] at y0 y1 y2 y3
    have H3P := Aside0.mk v3
    clear y0 y1 y2 u0 v0 u1 v1 u2 v2 u3 v3
    have hp3 : (0 ≤ (j : Int)) = True := eq_true (by omega)
    have hp4 : ((j : Int) < (l.length : Int)) = True := eq_true (by have := HJ.out; omega)
    have hq5 : decide ((j : Int) < 0) = false := decide_eq_false (by omega)
    generalize rd_T41 l (j : Int) = x at *
    generalize hcov : (t.take (a + n)).drop a = cov at *
    have HCL : Aside0 (cov.length = n) := ⟨by rw [← hcov]; exact cov_len _ _ _ HN.out.2⟩
    clear hcov
    go_wp2
    go_loopw [6, 67] (fun lv j wr => ∃ k : Nat, j = .int .i64 k ∧ Aside0 (k ≤ x.f3.length) ∧ Aside0 (Kd.R (Kd.int .i64) 3 wr w2.heap.size (fun _ => True) lv ((x.f3.take k).map (pieceV cov))) ∧ Aside0 (Below w2.heap.size w2 wr)) (fun _ j _ => x.f3.length - (intOf j).toNat)
    case atStart => exact ⟨0, rfl, ⟨Nat.zero_le _⟩, ⟨Kd.R_nil _ _ _ _ _⟩, ⟨Below.refl _ _⟩⟩
    case round =>
      obtain ⟨k, rfl, HK, HO, HB⟩ := hrel
      by_cases hlt : k < x.f3.length
      · obtain ⟨adp, e, hy0, hy1⟩ := at_T59 H3P.out (k : Int) (by omega) (by omega)
        cases e
        rw [Int.toNat_natCast] at hy0 hy1
        have hc0 := (HB.out.cell (World.block_lt_of_cell? w2 _ hy0)).trans hy0
        have hc1 := (HB.out.cell (World.block_lt_of_cell? w2 _ hy1)).trans hy1
        have hmem : rd_T59 x.f3 (k : Int) ∈ x.f3 := by unfold rd_T59; rw [Int.toNat_natCast, List.getD_eq_getElem?_getD, List.getElem?_eq_getElem hlt]; exact List.getElem_mem hlt
        have hst : (x.f3.take (k + 1)).map (pieceV cov) = (x.f3.take k).map (pieceV cov) ++ [pieceV cov (rd_T59 x.f3 (k : Int))] := by
          unfold rd_T59
          rw [Int.toNat_natCast, List.getD_eq_getElem?_getD, List.take_add_one, List.getElem?_eq_getElem hlt, List.map_append]
          rfl
        have hpl := HP.out _ hmem
        have HST := Aside0.mk hst
        clear hy0 hy1 hst hmem
        generalize rd_T59 x.f3 (k : Int) = p at *
        have hp1 : (0 ≤ (k : Int)) = True := eq_true (by omega)
        have hw : wrap64 ((k : Int) + 1) = (k : Int) + 1 := by have := HL3.out; unfold wrap64; omega
        have HLN : Aside0 (((x.f3.take k).map (pieceV cov)).length < 1000000) := ⟨by rw [List.length_map, List.length_take]; have := HL3.out; omega⟩
        by_cases hg : 0 < p.f1
        · obtain ⟨adc, e2, hz⟩ := Kd.at_int (Kd.C_below GC.out HB.out) (p.f1 - 1) (by omega) (by have := HCL.out; omega)
          cases e2
          rw [show (p.f1 - 1).toNat = p.f1.toNat - 1 by omega] at hz
          have hdg : decide (p.f1 > 0) = true := decide_eq_true hg
          have hpv : pieceV cov p = rd cov (p.f1 - 1) := by unfold pieceV; rw [if_pos hg]
          have hwp : wrap64 (p.f1 - 1) = p.f1 - 1 := by have := HTL.out; have := HN.out.2; unfold wrap64; omega
          have hq1 : (0 ≤ p.f1 - 1) = True := eq_true (by omega)
          have hq3 : (1 ≤ p.f1) = True := eq_true (by omega)
          have hq4 : (p.f1 < 1) = False := eq_false (by omega)
          have hq2 : (p.f1 - 1 < (n : Int)) = True := eq_true (by omega)
          have hzb := pw_cell_below (below_alloc (Below.refl _ wr) (.cells #[.int .i64 p.f0, .int .i64 p.f1] 59)) hz
          rw [hpv] at HST
          clear hpv hg hz
          generalize rd cov (p.f1 - 1) = q at *
          go_wp2_with (at_builtin; refine Kd.R_append (Kd.int .i64) (w0 := w2) w2.heap.size rfl (.tmp 74) (.tmp 81) 31 3 (.int .i64 0) 8 rfl Try.underlying31 info3 rfl (by decide) (by omega) _ ((x.f3.take k).map (pieceV cov)) q [.int .i64 q] (fun _ => True) (fun _ => False) rfl (by first | (go_simp; done) | (go_simp; rfl)) ?aP (fun _ hk => hk.elim) ?aF ?aO ?aB ?aS ?aL ?_; (case aP => exact rfl); (case aB => exact (by repeat (first | (with_reducible first | exact HB.out | apply below_alloc | apply pw_below_drewN | apply below_drew1) | exact HB.out))); (case aF => exact (fun _ _ => trivial)); (case aO => exact (by (with_reducible repeat (first | apply Kd.R_alloc | apply Kd.R_drewN | apply Kd.R_drew)); exact HO.out)); (case aS => exact (below_size (by repeat (first | (with_reducible first | exact HB.out | apply below_alloc | apply pw_below_drewN | apply below_drew1) | exact HB.out)))); (case aL => have h1_ := HLN.out; omega); intro v3 w4 ho hb hg hat; have HB4 := Aside0.mk hb; have HO4 := Aside0.mk ho; clear ho hb hg hat)
          go_roundw
          case rel => exact ⟨k + 1, by rw [hw]; rfl, ⟨hlt⟩, ⟨by rw [HST.out]; exact HO4.out⟩, HB4⟩
          case measure => rw [hw]; simp only [intOf]; omega
        · have hdg : decide (p.f1 > 0) = false := decide_eq_false hg
          have hpv : pieceV cov p = p.f0 := by unfold pieceV; rw [if_neg hg]
          rw [hpv] at HST
          clear hpv hg
          go_wp2_with (at_builtin; refine Kd.R_append (Kd.int .i64) (w0 := w2) w2.heap.size rfl (.tmp 83) (.tmp 86) 31 3 (.int .i64 0) 8 rfl Try.underlying31 info3 rfl (by decide) (by omega) _ ((x.f3.take k).map (pieceV cov)) p.f0 [.int .i64 p.f0] (fun _ => True) (fun _ => False) rfl (by first | (go_simp; done) | (go_simp; rfl)) ?aP (fun _ hk => hk.elim) ?aF ?aO ?aB ?aS ?aL ?_; (case aP => exact rfl); (case aB => exact (by repeat (first | (with_reducible first | exact HB.out | apply below_alloc | apply pw_below_drewN | apply below_drew1) | exact HB.out))); (case aF => exact (fun _ _ => trivial)); (case aO => exact (by (with_reducible repeat (first | apply Kd.R_alloc | apply Kd.R_drewN | apply Kd.R_drew)); exact HO.out)); (case aS => exact (below_size (by repeat (first | (with_reducible first | exact HB.out | apply below_alloc | apply pw_below_drewN | apply below_drew1) | exact HB.out)))); (case aL => have h1_ := HLN.out; omega); intro v3 w4 ho hb hg hat; have HB4 := Aside0.mk hb; have HO4 := Aside0.mk ho; clear ho hb hg hat)
          go_roundw
          case rel => exact ⟨k + 1, by rw [hw]; rfl, ⟨hlt⟩, ⟨by rw [HST.out]; exact HO4.out⟩, HB4⟩
          case measure => rw [hw]; simp only [intOf]; omega
      · obtain rfl : k = x.f3.length := by have := HK.out; omega
        rw [List.take_length] at HO
        go_wp2
        go_ret
        rw [HWC.out]
        obtain ⟨A6, c6, rfl⟩ := Kd.R_slice HO.out
        refine ⟨A6, c6, rfl, (Kd.R_reads' HO.out).2.1, Kd.F_mono (Kd.R_F (Kd.R_bound HO.out)) (fun k hk => HNEW.out k (Nat.le_trans GG.out.size hk.2.1)), ?_, gbBelow GG.out HB.out⟩
        exact Strm.below ⟨some ad, ct, _, cl, HBK2.out, H2.out, G3.out, H4.out, G5.out⟩ HB.out
end Go.Proofs.Ytcpicopaobhlcaa.Q
end
section
namespace Go.Proofs.Ytcpicopaobhlcaa.Q
open Go.RowKit Go.Proofs.YtcpicopaobhlcaaW.PrintWords Go.Proofs.YtcpicopaobhlcaaW.PrintLast Go.Proofs.YtcpicopaobhlcaaW.PrintMore
set_option linter.unusedVariables false
theorem Strm.after {w w1 : World} {b : Nat} {ok : Nat → Prop} {t : List Int} {a : Nat} {l : List Ru} {be ah : Nat} {v v1 : Value} (h : Strm w b (fun k => ok k ∧ some k ≠ v.ownBlock) t a l be ah) (hg : w.grownBy w1 v.ownBlock) (hat : v1.ownBlock = v.ownBlock ∨ ∃ c, v1.ownBlock = some c ∧ w.heap.size ≤ c) (hb : some b ≠ v.ownBlock) : Strm w1 b (fun k => ok k ∧ some k ≠ v1.ownBlock) t a l be ah := by
  obtain ⟨At, ct, Al, cl, h1, h2, h3, h4, h5⟩ := h
  exact ⟨At, ct, Al, cl, blk_grown h1 hg hb, h2, Kd.F_after h3 hg hat, h4, Kd.F_after h5 hg hat⟩
/-- A row of whole numbers of the call's own is not the stream's block. -/
theorem Strm.notrow {w : World} {b : Nat} {ok ok' : Nat → Prop} {t : List Int} {a : Nat} {l : List Ru} {be ah : Nat} (h : Strm w b ok t a l be ah) {base : Nat} {v : Value} {xs : List Int} (hr : Kd.R (Kd.int .i64) 3 w base ok' v xs) : some b ≠ v.ownBlock := fun e => by
  obtain ⟨At, ct, Al, cl, h1, _⟩ := h
  obtain ⟨cells, hc⟩ := Kd.R_typed hr b e.symm
  rw [show w.heap[b]? = _ from h1] at hc
  injection hc with hc
  injection hc with _ hc2
  exact absurd hc2 (by decide)
theorem rowKeep {w w' : World} {b base : Nat} {ok : Nat → Prop} {v : Value} {xs : List Int} (hr : Kd.R (Kd.int .i64) 3 w base ok v xs) (hg : w.grownBy w' (some b)) (hb : some b ≠ v.ownBlock) : Kd.R (Kd.int .i64) 3 w' base (fun _ => True) v xs :=
  Kd.R_mono (Kd.R_step (Kd.R_tight rfl hr) (fun k hk hlt => hg.block k hlt (fun e => hb (by rw [← e, hk])))) (fun _ _ => trivial)
set_option maxHeartbeats 4000000 in
set_option maxRecDepth 100000 in
theorem sRun_calls (b : Nat) (ok : Nat → Prop) (t : List Int) (a : Nat) (l : List Ru) (be ah least : Nat) (w : World) (hS : Strm w b ok t a l be ah) (hok : ¬ ok b) (hnew : ∀ k, w.heap.size ≤ k → ok k) (ht : t.length < 10000000) (ha : a ≤ t.length) (htx : okText t = true)
    (hrl : okRules l = true) (hd : dataS l = l) (hsp : SpOk l be ah) (hl : 1 ≤ least) (hl2 : least < 1000000) (hbe : be < 1000000) :
    Calls Try.prog 31 #[.pointer (some ⟨b, 0, none⟩), .int .i64 least] w fun e w' => ∃ v, e = .returned v ∧ Kd.R (Kd.int .i64) 3 w' w.heap.size (fun _ => True) v (spRun l t least a).1 ∧ Strm w' b ok (t.drop ((spRun l t least a).2 - be)) ((spRun l t least a).2 - ((spRun l t least a).2 - be)) l be ah ∧ w.grownBy w' (some b) := by
  have HS := Aside0.mk hS
  have HOK := Aside0.mk hok
  have HNEW := Aside0.mk hnew
  have HTL := Aside0.mk ht
  have HA := Aside0.mk ha
  have HTX := Aside0.mk htx
  have HRL := Aside0.mk hrl
  have HD := Aside0.mk hd
  have HSP := Aside0.mk hsp
  have HLE := Aside0.mk (And.intro hl hl2)
  have HBE := Aside0.mk hbe
  clear hS hok hnew ht ha htx hrl hd hsp hl hl2 hbe
  go_enter Try.func31, Try.ntmps31
  go_upto_region 2 with (fail)
  go_loopg [5] (t.length + 1) (fun kq ov wr => ∃ (c : Nat) (out : List Int), Aside0 (c ≤ t.length ∧ t.length + 1 ≤ c + kq) ∧ Aside0 (spRun l t least a = (out ++ (spRun l t least c).1, (spRun l t least c).2) ∧ out.length ≤ 16 * c) ∧ Aside0 (Kd.R (Kd.int .i64) 3 wr w.heap.size (fun _ => True) ov out) ∧ Aside0 (Strm wr b (fun k => ok k ∧ some k ≠ ov.ownBlock) t c l be ah) ∧ Aside0 (w.grownBy wr (some b)))
  case atStart => exact ⟨a, [], ⟨HA.out, by omega⟩, ⟨by simp, Nat.zero_le _⟩, ⟨Kd.R_nil _ _ _ _ _⟩, ⟨HS.out.mono (fun k hk => ⟨hk, by simp [Value.ownBlock]⟩)⟩, ⟨World.grownBy.refl _ _⟩⟩
  case round =>
    obtain ⟨c, out, HK, HEQ, HO, HS2, HG⟩ := hrel
    have hnb := HS2.out.notrow HO.out
    obtain ⟨At, ct, Al, cl, hB, _⟩ := HS2.out
    have HBK := Aside0.mk hB
    have q3 := hB.c3
    clear hB
    by_cases hc : c + least ≤ t.length
    · cases gk with
      | zero => have := HK.out; have := HLE.out; omega
      | succ k1 =>
        have hcl : c < t.length := by have := HLE.out; omega
        obtain ⟨n, hs, hn1, hn2, hcase⟩ := stepS_bounds l t c hcl HSP.out.one
        have hst := spRun_step l t least HSP.out.one HLE.out.1 c n hc hs hn1
        have hwl : (writtenS l t (c : Int) (stepS l t (c : Int)).1).length ≤ 16 * n := (resV_written l t c n _ hn1 hn2 HSP.out.pcs hcase).2
        have hd1 : decide ((t.length : Int) - (c : Int) ≥ (least : Int)) = true := decide_eq_true (by omega)
        have hlt := Kd.R_lt HO.out
        have HSC := Aside0.mk (sStep_calls b (fun k => ok k ∧ some k ≠ u5.ownBlock) t c l be ah n)
        have HSCF := Aside0.mk (And.intro hcl (And.intro hs (And.intro hn1 (And.intro hn2 hcase))))
        have HST := Aside0.mk hst
        have HWL := Aside0.mk hwl
        have HN := Aside0.mk (And.intro hn1 hn2)
        have HNB := Aside0.mk hnb
        have HLT := Aside0.mk hlt
        clear hst hs hcase hwl hc hlt hnb hn1 hn2 hcl
        generalize writtenS l t (c : Int) (stepS l t (c : Int)).1 = wl at *
        go_wp2_with (first | (go_at_call 45; (with_reducible refine (sRest_calls b At t.length ct (c : Int) Al l.length cl be ah _ HBK.out (by have := HTL.out; omega) (by have := HTL.out; have := HN.out; omega)).mono ?_); rintro e w2 ⟨rfl, hb⟩; have HB2 := Aside0.mk hb; clear hb) | (go_at_call 46; (with_reducible refine (HSC.out _ (HS2.out.below HB2.out) (fun h => absurd h.1 HOK.out) (fun k hk => ⟨HNEW.out k (Nat.le_trans HG.out.size (Nat.le_trans HB2.out.size hk)), fun e => by have := HLT.out k e.symm; have := HB2.out.size; omega⟩) HTL.out HSCF.out.1 HTX.out HRL.out HD.out HSCF.out.2.1 HSCF.out.2.2.1 HSCF.out.2.2.2.1 HSP.out.pcs HSCF.out.2.2.2.2).mono ?_); rintro e w3 ⟨A3, c3, rfl, h3a, h3b, h3s, h3g⟩; have HF3 := Aside0.mk h3b; have HS3 := Aside0.mk h3s; have HG3 := Aside0.mk h3g; have HO3 := Aside0.mk (rowKeep (Kd.R_below HO.out HB2.out) h3g HNB.out); clear h3a h3b h3s h3g) | (at_builtin; refine Kd.R_append_rows (Kd.int .i64) (w0 := w3) w.heap.size rfl (.tmp 12) (.tmp 14) 31 3 (.int .i64 0) 8 rfl Try.underlying31 info3 rfl (by decide) (by omega) u5 out wl _ _ _ (fun _ => True) (fun _ => False) rfl rfl ?aO ?aR (fun _ _ h => h) (fun _ h => h.elim) ?aF ?aB ?aS ?aL ?_; (case aR => exact Kd.F_now HF3.out); (case aB => exact Below.refl _ _); (case aF => exact (fun _ _ => trivial)); (case aO => exact HO3.out); (case aS => exact Nat.le_trans HG.out.size (Nat.le_trans HB2.out.size HG3.out.size)); (case aL => have h1_ := HEQ.out.2; have h2_ := HWL.out; have h3_ := HTL.out; have h4_ := HK.out; have h5_ := HN.out; omega); intro v4 w4 ho hb hg hat; have HO4 := Aside0.mk ho; have HB4 := Aside0.mk hb; have HG4 := Aside0.mk hg; have HAT := Aside0.mk hat; clear ho hb hg hat))
        go_roundg k1
        case measure => omega
        case rel => exact ⟨c + n, out ++ wl, ⟨HN.out.2, by have := HK.out; have := HN.out; omega⟩, ⟨by rw [HEQ.out.1, HST.out, List.append_assoc], by rw [List.length_append]; have := HEQ.out.2; have := HWL.out; omega⟩, HO4, ⟨HS3.out.after HG4.out HAT.out HNB.out⟩, ⟨World.grownBy.andThen ((gbBelow HG.out HB2.out).trans HG3.out) HG4.out (fun k hk => .inl (Kd.R_base HO.out k hk))⟩⟩
    · have hst := spRun_stop l t least c (by omega)
      have hfin : spRun l t least a = (out, c) := by rw [HEQ.out.1, hst, List.append_nil]
      have hd1 : decide ((t.length : Int) - (c : Int) ≥ (least : Int)) = false := decide_eq_false (by omega)
      have HF := Aside0.mk hfin
      have HNB := Aside0.mk hnb
      clear hst hfin hc hnb
      go_wp2_with (go_at_call 45; (with_reducible refine (sRest_calls b At t.length ct (c : Int) Al l.length cl be ah _ HBK.out (by have := HTL.out; omega) (by have := HTL.out; have := HK.out; omega)).mono ?_); rintro e w2 ⟨rfl, hb⟩; have p3 := pw_cell_below hb q3; clear q3; have HB2 := Aside0.mk hb; clear hb)
      go_region_held3 (fun w' => w'.cell? ⟨b, 3, none⟩ = some (.int .i64 be)) (first | go_keep | (obtain ⟨_, _, _, _, hB5, _⟩ := hS5; exact hB5.c3))
        (first | (go_at_call 47; (with_reducible refine (sKeep_calls b (fun k => ok k ∧ some k ≠ u5.ownBlock) t c l be ah be _ (HS2.out.below ?s1) (fun h => absurd h.1 HOK.out) HK.out.1 (by have := HTL.out; omega) (by have := HBE.out; omega)).mono ?_); (case s1 => exact (by repeat (first | (with_reducible first | exact HB2.out | apply below_alloc | apply pw_below_drewN | apply below_drew1) | exact HB2.out))); rintro e w5 ⟨rfl, hS5, hg5⟩; have HB5 := Aside0.mk (show wr.grownBy _ (some b) from grown_of_below (by repeat (first | (with_reducible first | exact HB2.out | apply below_alloc | apply pw_below_drewN | apply below_drew1) | exact HB2.out)) _); have HS5 := Aside0.mk hS5; have HG5 := Aside0.mk hg5))
      clear hS5 hg5
      go_wp2
      go_ret
      rw [HF.out]
      exact ⟨u5, rfl, rowKeep (Kd.R_below HO.out (below_drew1 HB2.out)) HG5.out HNB.out, HS5.out.mono (fun k h => h.1), (gbBelow HG.out (below_drew1 HB2.out)).trans HG5.out⟩
end Go.Proofs.Ytcpicopaobhlcaa.Q
end
section
namespace Go.Proofs.Ytcpicopaobhlcaa.Q
open Go.RowKit Go.Proofs.YtcpicopaobhlcaaW.PrintWords Go.Proofs.YtcpicopaobhlcaaW.PrintLast Go.Proofs.YtcpicopaobhlcaaW.PrintMore
set_option linter.unusedVariables false
set_option maxHeartbeats 2000000 in
set_option maxRecDepth 100000 in
theorem sWrite_calls (b : Nat) (ok : Nat → Prop) (t : List Int) (a : Nat) (l : List Ru) (be ah : Nat) (A1 : Option Addr) (c1 : Nat) (text : List Int) (w : World) (hS : Strm w b ok t a l be ah) (hok : ¬ ok b) (hnew : ∀ k, w.heap.size ≤ k → ok k) (ht : t.length + text.length < 10000000) (ha : a ≤ t.length) (htx : okText (t ++ text) = true)
    (hrl : okRules l = true) (hd : dataS l = l) (hsp : SpOk l be ah) (hah : ah < 1000000) (hbe : be < 1000000) (hT : Kd.C (Kd.int .i64) w A1 text.length text) (hc1 : text.length ≤ c1) :
    Calls Try.prog 14 #[.pointer (some ⟨b, 0, none⟩), .slice A1 text.length c1] w fun e w' => ∃ v, e = .returned (.tuple #[v, .int .i64 0]) ∧ Kd.R (Kd.int .i64) 3 w' w.heap.size (fun _ => True) v (spWrite l be ah (t, a) text).1 ∧ Strm w' b ok (spWrite l be ah (t, a) text).2.1 (spWrite l be ah (t, a) text).2.2 l be ah ∧ w.grownBy w' (some b) := by
  have hpos := hsp.ahp
  have HS := Aside0.mk hS
  obtain ⟨At, ct, Al, cl, hB, _⟩ := hS
  have HBK := Aside0.mk hB
  clear hB
  have HOK := Aside0.mk hok
  have HNEW := Aside0.mk hnew
  have HTL := Aside0.mk ht
  have HA := Aside0.mk ha
  have HTX := Aside0.mk htx
  have HRL := Aside0.mk hrl
  have HD := Aside0.mk hd
  have HSP := Aside0.mk hsp
  have HAH := Aside0.mk hah
  have HBE := Aside0.mk hbe
  have HT := Aside0.mk hT
  have HC1 := Aside0.mk hc1
  have hdp : decide ((ah : Int) > 0) = true := decide_eq_true (by omega)
  have hdq : decide (0 < ah) = true := decide_eq_true hpos
  clear hok hnew ht ha htx hrl hd hsp hah hbe hT hc1 hpos
  go_enter Try.func14, Try.ntmps14
  go_wp2_with (first | (go_at_call 29; (with_reducible refine (sOpen_calls b At t.length ct (a : Int) Al l.length cl be ah _ HBK.out).mono ?_); rintro e w2 ⟨rfl, hb⟩; have HB2 := Aside0.mk hb; clear hb) | (go_at_call 30; (with_reducible refine (sAdd_calls b ok t a l be ah A1 c1 text _ (HS.out.below HB2.out) HOK.out (fun k hk => HNEW.out k (Nat.le_trans HB2.out.size hk)) (by have := HTL.out; omega) (Kd.C_below HT.out HB2.out) HC1.out).mono ?_); rintro e w3 ⟨rfl, hs3, hg3⟩; obtain ⟨A3, c3, A4, c4, hB3, _⟩ := id hs3; have p4 := hB3.c4; have HS3 := Aside0.mk hs3; have HG3 := Aside0.mk hg3; clear hs3 hg3 hB3) | (go_at_call 31; (with_reducible refine (sRun_calls b ok (t ++ text) a l be ah ah _ HS3.out HOK.out (fun k hk => HNEW.out k (Nat.le_trans HB2.out.size (Nat.le_trans HG3.out.size hk))) (by rw [List.length_append]; exact HTL.out) (by rw [List.length_append]; have := HA.out; omega) HTX.out HRL.out HD.out HSP.out HSP.out.ahp HAH.out HBE.out).mono ?_); rintro e w4 ⟨v4, rfl, hv4, hs4, hg4⟩; have HV4 := Aside0.mk hv4; have HS4 := Aside0.mk hs4; have HG4 := Aside0.mk hg4; clear hv4 hs4 hg4))
  go_ret2
  have hsz : w.heap.size ≤ w3.heap.size := Nat.le_trans HB2.out.size HG3.out.size
  exact ⟨v4, rfl, Kd.R_lower HV4.out hsz, HS4.out, (gbBelow (World.grownBy.refl _ _) HB2.out).trans (HG3.out.trans HG4.out)⟩
/-- A stream that is closed. -/
def StrmZ (w : World) (b : Nat) : Prop := StrmB w b none 0 0 0 none 0 0 0 0 ∨ ∃ At ct Al nl cl be, ∃ a : Int, ∃ nt, StrmB w b At nt ct a Al nl cl be 0
theorem StrmZ.any {w : World} {b : Nat} (h : StrmZ w b) : ∃ At ct Al nl cl be, ∃ a : Int, ∃ nt, StrmB w b At nt ct a Al nl cl be 0 := by
  rcases h with h | h
  · exact ⟨_, _, _, _, _, _, _, _, h⟩
  · exact h
theorem StrmZ.below {w w' : World} {b : Nat} (h : StrmZ w b) (hb : Below w.heap.size w w') : StrmZ w' b := by
  rcases h with h | ⟨_, _, _, _, _, _, _, _, h⟩
  · exact .inl (h.below hb)
  · exact .inr ⟨_, _, _, _, _, _, _, _, h.below hb⟩
set_option maxHeartbeats 2000000 in
theorem sWrite_closed (b : Nat) (v : Value) (w : World) (hS : StrmZ w b) :
    Calls Try.prog 14 #[.pointer (some ⟨b, 0, none⟩), v] w fun e w' => e = .returned (.tuple #[.slice none 0 0, .int .i64 15]) ∧ Below w.heap.size w w' := by
  obtain ⟨At, ct, Al, nl, cl, be, a, nt, hB⟩ := hS.any
  have HBK := Aside0.mk hB
  clear hB
  go_enter Try.func14, Try.ntmps14
  go_wp2_with (go_at_call 29; (with_reducible refine (sOpen_calls b At nt ct a Al nl cl be 0 _ HBK.out).mono ?_); rintro e w2 ⟨rfl, hb⟩; have HB2 := Aside0.mk hb; clear hb)
  go_ret2
  exact ⟨rfl, HB2.out⟩
set_option maxHeartbeats 2000000 in
theorem sPend_closed (b : Nat) (w : World) (hS : StrmZ w b) :
    Calls Try.prog 20 #[.pointer (some ⟨b, 0, none⟩)] w fun e w' => e = .returned (.slice none 0 0) ∧ Below w.heap.size w w' := by
  obtain ⟨At, ct, Al, nl, cl, be, a, nt, hB⟩ := hS.any
  have HBK := Aside0.mk hB
  clear hB
  go_enter Try.func20, Try.ntmps20
  go_wp2_with (go_at_call 29; (with_reducible refine (sOpen_calls b At nt ct a Al nl cl be 0 _ HBK.out).mono ?_); rintro e w2 ⟨rfl, hb⟩; have HB2 := Aside0.mk hb; clear hb)
  go_ret
  exact ⟨rfl, HB2.out⟩
set_option maxHeartbeats 2000000 in
set_option maxRecDepth 100000 in
theorem sPend_calls (b : Nat) (ok : Nat → Prop) (t : List Int) (a : Nat) (l : List Ru) (be ah : Nat) (w : World) (hS : Strm w b ok t a l be ah) (hah : 0 < ah) (ht : t.length < 10000000) (ha : a ≤ t.length) :
    Calls Try.prog 20 #[.pointer (some ⟨b, 0, none⟩)] w fun e w' => ∃ v, e = .returned v ∧ Kd.R (Kd.int .i64) 3 w' w.heap.size (fun _ => True) v (t.drop a) ∧ Below w.heap.size w w' := by
  obtain ⟨At, ct, Al, cl, hB, h2, h3, h4, h5⟩ := hS
  have HBK := Aside0.mk hB
  have H3 := Aside0.mk h3
  have H2 := Aside0.mk h2
  have c0 := hB.c0
  have c1 := hB.c1
  have hdq : decide (0 < ah) = true := decide_eq_true hah
  have hx1 : (0 ≤ (a : Int)) = True := eq_true (by omega)
  have hx2 : ((a : Int) ≤ (t.length : Int)) = True := eq_true (by omega)
  have hlen : (t.drop a).length = t.length - a := List.length_drop
  have HCL : Aside0 (slices_Clone_int_int.f (t.drop a) = some (t.drop a)) := ⟨by unfold slices_Clone_int_int.f; rw [if_pos (by rw [hlen]; omega)]⟩
  have hF := Kd.F_cut (m := a) h3 ha h2
  rw [show a * (Kd.int .i64).sz = a from Nat.mul_one _] at hF
  have HLC : Aside0 ((t.drop a).length ≤ ct - a) := ⟨by rw [hlen]; omega⟩
  clear hB h3 h4 h5 h2 hah ht ha
  by_cases hct : ct = a
  · rw [if_pos hct] at hF
    rw [hct, Nat.sub_self] at HLC
    have HF := Aside0.mk hF
    have HCC := Aside0.mk (slices_Clone_int_int.calls At 0 (t.drop a) (t.drop a))
    rw [hlen] at HCC HF HLC
    have hctT : (ct = a) = True := eq_true hct
    have hcta : ct - a = 0 := by omega
    clear hF hct
    go_enter Try.func20, Try.ntmps20
    go_wp2_with (go_at_call 29; (with_reducible refine (sOpen_calls b At t.length ct (a : Int) Al l.length cl be ah _ HBK.out).mono ?_); rintro e w2 ⟨rfl, hb⟩; have d0 := pw_cell_below hb c0; have d1 := pw_cell_below hb c1; clear c0 c1; have HB2 := Aside0.mk hb; clear hb)
    go_region_held3 (fun w' => w'.cell? ⟨b, 0, none⟩ = some (.slice At t.length ct) ∧ w'.cell? ⟨b, 1, none⟩ = some (.int .i64 a)) (first | go_keep | (go_split_ands; refine ⟨?_, ?_⟩; (refine pw_cell_below hb ?_; assumption); (refine pw_cell_below hb ?_; assumption)))
      (first | (go_at_call 39; (with_reducible refine (HCC.out _ ?s1 HLC.out HCL.out).mono ?_); (case s1 => exact Kd.C_below (Kd.F_now HF.out) (by repeat (first | (with_reducible first | exact HB2.out | apply below_alloc | apply pw_below_drewN | apply below_drew1) | exact HB2.out))); rintro e w3 ⟨v3, rfl, hv3, hb⟩; have HV3 := Aside0.mk hv3; have HB3 := Aside0.mk (below_step (by repeat (first | (with_reducible first | exact HB2.out | apply below_alloc | apply pw_below_drewN | apply below_drew1) | exact HB2.out)) hb); have HSZ := Aside0.mk (below_size (by repeat (first | (with_reducible first | exact HB2.out | apply below_alloc | apply pw_below_drewN | apply below_drew1) | exact HB2.out)))))
    clear hb hv3
    go_wp2
    go_ret
    exact ⟨v3, rfl, Kd.R_lower HV3.out HSZ.out, HB3.out⟩
  · rw [if_neg hct] at hF
    have HF := Aside0.mk hF
    have HCC := Aside0.mk (slices_Clone_int_int.calls (At.map (·.add a)) (ct - a) (t.drop a) (t.drop a))
    rw [hlen] at HCC HF HLC
    have hctF : (ct = a) = False := eq_false hct
    clear hF hct
    go_enter Try.func20, Try.ntmps20
    go_wp2_with (go_at_call 29; (with_reducible refine (sOpen_calls b At t.length ct (a : Int) Al l.length cl be ah _ HBK.out).mono ?_); rintro e w2 ⟨rfl, hb⟩; have d0 := pw_cell_below hb c0; have d1 := pw_cell_below hb c1; clear c0 c1; have HB2 := Aside0.mk hb; clear hb)
    go_region_held3 (fun w' => w'.cell? ⟨b, 0, none⟩ = some (.slice At t.length ct) ∧ w'.cell? ⟨b, 1, none⟩ = some (.int .i64 a)) (first | go_keep | (go_split_ands; refine ⟨?_, ?_⟩; (refine pw_cell_below hb ?_; assumption); (refine pw_cell_below hb ?_; assumption)))
      (first | (go_at_call 39; (with_reducible refine (HCC.out _ ?s1 HLC.out HCL.out).mono ?_); (case s1 => exact Kd.C_below (Kd.F_now HF.out) (by repeat (first | (with_reducible first | exact HB2.out | apply below_alloc | apply pw_below_drewN | apply below_drew1) | exact HB2.out))); rintro e w3 ⟨v3, rfl, hv3, hb⟩; have HV3 := Aside0.mk hv3; have HB3 := Aside0.mk (below_step (by repeat (first | (with_reducible first | exact HB2.out | apply below_alloc | apply pw_below_drewN | apply below_drew1) | exact HB2.out)) hb); have HSZ := Aside0.mk (below_size (by repeat (first | (with_reducible first | exact HB2.out | apply below_alloc | apply pw_below_drewN | apply below_drew1) | exact HB2.out)))))
    clear hb hv3
    go_wp2
    go_ret
    exact ⟨v3, rfl, Kd.R_lower HV3.out HSZ.out, HB3.out⟩
end Go.Proofs.Ytcpicopaobhlcaa.Q
end
section
namespace Go.Proofs.Ytcpicopaobhlcaa.Q
open Go.RowKit Go.Proofs.YtcpicopaobhlcaaW.PrintWords Go.Proofs.YtcpicopaobhlcaaW.PrintLast Go.Proofs.YtcpicopaobhlcaaW.PrintMore
set_option linter.unusedVariables false
set_option maxHeartbeats 2000000 in
theorem sClose_deferred (b : Nat) (At : Option Addr) (nt ct : Nat) (a : Int) (Al : Option Addr) (nl cl : Nat) (be ah : Int) (u : FrameMode) (w : World) (hB : StrmB w b At nt ct a Al nl cl be ah) :
    CallsD Try.prog 32 #[.pointer (some ⟨b, 0, none⟩)] u w fun e u' w' => u' = u ∧ (e = .returned (.tuple #[]) ∧ StrmB w' b none 0 0 0 Al nl cl be 0 ∧ w.grownBy w' (some b)) := by
  have c0 := hB.c0
  have c1 := hB.c1
  have c4 := hB.c4
  have f0 := hB.fz 0
  have f1 := hB.fz 1
  have f4 := hB.fz 4
  have HBK := Aside0.mk hB
  clear hB
  have hu1 := Try.underlying51
  go_enter_d Try.func32, Try.ntmps32
  go_wp2
  go_end0
  exact ⟨rfl, ((HBK.out.set4 0).set0 none 0 0).set1 0, (gbSet _ _ _ _).trans ((gbSet _ _ _ _).trans (gbSet _ _ _ _))⟩
theorem sRun1_calls (b : Nat) (ok : Nat → Prop) (t : List Int) (a : Nat) (l : List Ru) (be ah : Nat) (w : World) (hS : Strm w b ok t a l be ah) (hok : ¬ ok b) (hnew : ∀ k, w.heap.size ≤ k → ok k) (ht : t.length < 10000000) (ha : a ≤ t.length) (htx : okText t = true)
    (hrl : okRules l = true) (hd : dataS l = l) (hsp : SpOk l be ah) (hbe : be < 1000000) :
    Calls Try.prog 31 #[.pointer (some ⟨b, 0, none⟩), .int .i64 1] w fun e w' => ∃ v, e = .returned v ∧ Kd.R (Kd.int .i64) 3 w' w.heap.size (fun _ => True) v (spRun l t 1 a).1 ∧ Strm w' b ok (t.drop ((spRun l t 1 a).2 - be)) ((spRun l t 1 a).2 - ((spRun l t 1 a).2 - be)) l be ah ∧ w.grownBy w' (some b) :=
  sRun_calls b ok t a l be ah 1 w hS hok hnew ht ha htx hrl hd hsp (Nat.le_refl _) (by decide) hbe
set_option maxHeartbeats 2000000 in
set_option maxRecDepth 100000 in
theorem sClose_calls (b : Nat) (ok : Nat → Prop) (t : List Int) (a : Nat) (l : List Ru) (be ah : Nat) (w : World) (hS : Strm w b ok t a l be ah) (hok : ¬ ok b) (hnew : ∀ k, w.heap.size ≤ k → ok k) (ht : t.length < 10000000) (ha : a ≤ t.length) (htx : okText t = true)
    (hrl : okRules l = true) (hd : dataS l = l) (hsp : SpOk l be ah) (hbe : be < 1000000) :
    Calls Try.prog 15 #[.pointer (some ⟨b, 0, none⟩)] w fun e w' => ∃ v, e = .returned (.tuple #[v, .int .i64 0]) ∧ Kd.R (Kd.int .i64) 3 w' w.heap.size (fun _ => True) v (spRun l t 1 a).1 ∧ StrmZ w' b ∧ w.grownBy w' (some b) := by
  have HS := Aside0.mk hS
  obtain ⟨At, ct, Al, cl, hB, _⟩ := hS
  have HBK := Aside0.mk hB
  have hdq : decide (0 < ah) = true := decide_eq_true hsp.ahp
  have HOK := Aside0.mk hok
  have HNEW := Aside0.mk hnew
  have HTL := Aside0.mk ht
  have HA := Aside0.mk ha
  have HTX := Aside0.mk htx
  have HRL := Aside0.mk hrl
  have HD := Aside0.mk hd
  have HSP := Aside0.mk hsp
  have HBE := Aside0.mk hbe
  clear hok hnew ht ha htx hrl hd hsp hbe hB
  go_enter_defers Try.func15, Try.ntmps15
  go_wp2_with (first | (go_at_call 29; (with_reducible refine (sOpen_calls b At t.length ct (a : Int) Al l.length cl be ah _ HBK.out).mono ?_); rintro e w2 ⟨rfl, hb⟩; have HB2 := Aside0.mk hb; clear hb) | (go_at_call 31; (with_reducible refine (sRun1_calls b ok t a l be ah _ (HS.out.below HB2.out) HOK.out (fun k hk => HNEW.out k (Nat.le_trans HB2.out.size hk)) HTL.out HA.out HTX.out HRL.out HD.out HSP.out HBE.out).mono ?_); rintro e w4 ⟨v4, rfl, hv4, hs4, hg4⟩; have HV4 := Aside0.mk hv4; have HS4 := Aside0.mk hs4; have HG4 := Aside0.mk hg4; clear hv4 hs4 hg4))
  obtain ⟨A5, c5, A6, c6, hB5, _⟩ := id HS4.out
  refine leaves_cons (f := 32) (args := #[.pointer (some ⟨b, 0, none⟩)]) (by simp) (by simp [go_sem]) ?_
  refine (sClose_deferred b _ _ _ _ _ _ _ _ _ .returning _ hB5).mono ?_
  rintro e u' w'' ⟨rfl, rfl, hz, hg⟩
  exact ⟨_, results_tmp2 rfl _ _ _, v4, rfl, rowKeep (Kd.R_lower HV4.out HB2.out.size) hg (HS4.out.notrow HV4.out), .inr ⟨_, _, _, _, _, _, _, _, hz⟩, (gbBelow (World.grownBy.refl _ _) HB2.out).trans (HG4.out.trans hg)⟩
set_option maxHeartbeats 2000000 in
theorem sClose_closed (b : Nat) (w : World) (hS : StrmZ w b) :
    Calls Try.prog 15 #[.pointer (some ⟨b, 0, none⟩)] w fun e w' => e = .returned (.tuple #[.slice none 0 0, .int .i64 15]) ∧ Below w.heap.size w w' := by
  obtain ⟨At, ct, Al, nl, cl, be, a, nt, hB⟩ := hS.any
  have HBK := Aside0.mk hB
  clear hB
  go_enter_defers Try.func15, Try.ntmps15
  go_wp2_with (go_at_call 29; (with_reducible refine (sOpen_calls b At nt ct a Al nl cl be 0 _ HBK.out).mono ?_); rintro e w2 ⟨rfl, hb⟩; have HB2 := Aside0.mk hb; clear hb)
  exact ⟨_, results_tmp2 rfl _ _ _, rfl, HB2.out⟩
end Go.Proofs.Ytcpicopaobhlcaa.Q
end
section
namespace Go.Proofs.Ytcpicopaobhlcaa.Q
open Go.RowKit Go.Proofs.YtcpicopaobhlcaaW.PrintWords Go.Proofs.YtcpicopaobhlcaaW.PrintLast Go.Proofs.YtcpicopaobhlcaaW.PrintMore
set_option linter.unusedVariables false
def spLenB (x : Ru) : Bool := decide (x.f0.length ≤ 20) && (decide (x.f1.length ≤ 20) && (decide (x.f2.length ≤ 20) && decide (x.f3.length ≤ 20)))
def spRuleB (x : Ru) : Bool := spLenB x && (x.f0 ++ x.f1 ++ x.f2).all okSet
def spSmallB (l : List Ru) : Bool := decide (l.length ≤ 220) && l.all spRuleB
theorem spSmall_few (l : List Ru) (h : spSmallB l = true) : plFewL l := by
  unfold spSmallB at h
  rw [Bool.and_eq_true, decide_eq_true_eq, List.all_eq_true] at h
  refine ⟨h.1, fun x hx => ?_⟩
  have h2 := h.2 x hx
  unfold spRuleB spLenB at h2
  simp only [Bool.and_eq_true, decide_eq_true_eq, List.all_append, List.all_eq_true, okSet] at h2
  obtain ⟨⟨a0, a1, a2, a3⟩, ⟨b0, b1⟩, b2⟩ := h2
  exact ⟨⟨a0, b0⟩, ⟨a1, b1⟩, ⟨a2, b2⟩, a3⟩
theorem spAll_false {l : List Ru} {x : Ru} (hx : x ∈ l) (h : spRuleB x = false) : spSmallB l = false := by
  unfold spSmallB
  rw [Bool.and_eq_false_iff]
  right
  rw [List.all_eq_false]
  exact ⟨x, hx, by rw [h]; decide⟩
theorem spOwnNew {v1 : Value} {n : Nat} (hat : v1.ownBlock = (.slice none 0 0 : Value).ownBlock ∨ ∃ b, v1.ownBlock = some b ∧ n ≤ b) : ∀ k, v1.ownBlock = some k → n ≤ k := by
  intro k hk
  rcases hat with h | ⟨b, h, hb⟩
  · rw [h] at hk; simp [Value.ownBlock] at hk
  · rw [h] at hk; injection hk with hk; omega
theorem spOwnStep {v1 v2 : Value} {n m : Nat} (h1 : ∀ k, v1.ownBlock = some k → n ≤ k) (hnm : n ≤ m) (hat : v2.ownBlock = v1.ownBlock ∨ ∃ b, v2.ownBlock = some b ∧ m ≤ b) : ∀ k, v2.ownBlock = some k → n ≤ k := by
  intro k hk
  rcases hat with h | ⟨b, h, hb⟩
  · rw [h] at hk; exact h1 k hk
  · rw [h] at hk; injection hk with hk; omega
theorem spKeepG {W w9 : World} {g i n : Nat} {v : Value} {u : Option Nat} (hg : W.grownBy w9 u) (hlt : ∀ k, u = some k → n ≤ k) (hn : g < n) (h : W.cell? ⟨g, i, none⟩ = some v) : w9.cell? ⟨g, i, none⟩ = some v :=
  (World.cell?_of_block (hg.block g (World.block_lt_of_cell? _ _ h) (fun e => by have := hlt _ e.symm; omega))).trans h
set_option maxHeartbeats 8000000 in
set_option maxRecDepth 100000 in
theorem sSmall_calls (A0 : Option Addr) (c0 : Nat) (l : List Ru) (w : World) (hr : Kd.C k41 w A0 l.length l) (hc : l.length ≤ c0) :
    Calls Try.prog 10 #[.slice A0 l.length c0] w fun e w' => e = .returned (.bool (spSmallB l)) ∧ Below w.heap.size w w' := by
  have HR := Aside0.mk hr
  have HC := Aside0.mk hc
  clear hr hc
  by_cases hl : (l.length : Int) > 220
  · have hd : decide ((l.length : Int) > 220) = true := decide_eq_true hl
    have hres : spSmallB l = false := by unfold spSmallB; rw [decide_eq_false (by omega)]; rfl
    rw [hres]
    clear hres hl
    go_enter Try.func10, Try.ntmps10
    go_wp2
    go_ret
    exact ⟨rfl, Below.refl _ _⟩
  · have hd : decide ((l.length : Int) > 220) = false := decide_eq_false hl
    have HL := Aside0.mk (show l.length ≤ 220 by omega)
    clear hl
    go_enter Try.func10, Try.ntmps10
    go_wp2
    go_loopw [3] (fun i wr => ∃ k : Nat, i = .int .i64 k ∧ Aside0 (k ≤ l.length) ∧ Aside0 (∀ x ∈ l.take k, spRuleB x = true) ∧ Aside0 (Below w.heap.size w wr)) (fun i _ => l.length - (intOf i).toNat)
    case atStart => exact ⟨0, rfl, ⟨Nat.zero_le _⟩, ⟨fun x hx => by simp at hx⟩, ⟨Below.refl _ _⟩⟩
    case round =>
      obtain ⟨k, rfl, HK, HOLD, HB⟩ := hrel
      by_cases hlt : k < l.length
      · obtain ⟨ad, B0, d0, B1, d1, B2, d2, B3, d3, e, x0, x1, x2, x3, y0, z0, y1, z1, y2, z2, y3, z3⟩ := at_T41 (Kd.C_below HR.out HB.out) (k : Int) (by omega) (by omega)
        cases e
        rw [Int.toNat_natCast] at x0 x1 x2 x3
        have hmem : rd_T41 l (k : Int) ∈ l := by unfold rd_T41; rw [Int.toNat_natCast, List.getD_eq_getElem?_getD, List.getElem?_eq_getElem hlt]; exact List.getElem_mem hlt
        have hst : l.take (k + 1) = l.take k ++ [rd_T41 l (k : Int)] := by
          unfold rd_T41
          rw [Int.toNat_natCast, List.getD_eq_getElem?_getD, List.take_add_one, List.getElem?_eq_getElem hlt]
          rfl
        have HST := Aside0.mk hst
        have HMEM := Aside0.mk hmem
        have Z0 := Aside0.mk z0
        have Z1 := Aside0.mk z1
        have Z2 := Aside0.mk z2
        clear hst hmem y0 z0 y1 z1 y2 z2 y3 z3
        generalize rd_T41 l (k : Int) = x at *
        have hp1 : (0 ≤ (k : Int)) = True := eq_true (by omega)
        have hp2 : ((k : Int) < (l.length : Int)) = True := eq_true (by omega)
        have hdl : decide ((k : Int) < (l.length : Int)) = true := decide_eq_true (by omega)
        have hw : wrap64 ((k : Int) + 1) = (k : Int) + 1 := by have := HL.out; unfold wrap64; omega
        have hbk := heap_alloc_new wr (.cells #[.slice B0 x.f0.length d0, .slice B1 x.f1.length d1, .slice B2 x.f2.length d2, .slice B3 x.f3.length d3] 41)
        have X0 : (wr.alloc (.cells #[.slice B0 x.f0.length d0, .slice B1 x.f1.length d1, .slice B2 x.f2.length d2, .slice B3 x.f3.length d3] 41)).cell? ⟨wr.heap.size, 0, none⟩ = some (.slice B0 x.f0.length d0) := (blk_cell hbk 0).trans rfl
        have X1 : (wr.alloc (.cells #[.slice B0 x.f0.length d0, .slice B1 x.f1.length d1, .slice B2 x.f2.length d2, .slice B3 x.f3.length d3] 41)).cell? ⟨wr.heap.size, 1, none⟩ = some (.slice B1 x.f1.length d1) := (blk_cell hbk 1).trans rfl
        have X2 : (wr.alloc (.cells #[.slice B0 x.f0.length d0, .slice B1 x.f1.length d1, .slice B2 x.f2.length d2, .slice B3 x.f3.length d3] 41)).cell? ⟨wr.heap.size, 2, none⟩ = some (.slice B2 x.f2.length d2) := (blk_cell hbk 2).trans rfl
        have X3 : (wr.alloc (.cells #[.slice B0 x.f0.length d0, .slice B1 x.f1.length d1, .slice B2 x.f2.length d2, .slice B3 x.f3.length d3] 41)).cell? ⟨wr.heap.size, 3, none⟩ = some (.slice B3 x.f3.length d3) := (blk_cell hbk 3).trans rfl
        have HWA := Aside0.mk (below_alloc (Below.refl wr.heap.size wr) (.cells #[.slice B0 x.f0.length d0, .slice B1 x.f1.length d1, .slice B2 x.f2.length d2, .slice B3 x.f3.length d3] 41))
        generalize hW : wr.alloc (.cells #[.slice B0 x.f0.length d0, .slice B1 x.f1.length d1, .slice B2 x.f2.length d2, .slice B3 x.f3.length d3] 41) = W at X0 X1 X2 X3 HWA
        clear hbk
        by_cases hlen : spLenB x = true
        · have hq := hlen
          unfold spLenB at hq
          simp only [Bool.and_eq_true, decide_eq_true_eq] at hq
          have e0 : decide ((x.f0.length : Int) > 20) = false := decide_eq_false (by omega)
          have e1 : decide ((x.f1.length : Int) > 20) = false := decide_eq_false (by omega)
          have e2 : decide ((x.f2.length : Int) > 20) = false := decide_eq_false (by omega)
          have e3 : decide ((x.f3.length : Int) > 20) = false := decide_eq_false (by omega)
          have HQ := Aside0.mk hq
          have HLT0 := Aside0.mk hlt
          have HLEN := Aside0.mk hlen
          clear hq hlen hlt
          go_upto_region 10 with (fail)
          have HB0 := Aside0.mk (Kd.C_F k45_heap (Kd.C_below Z0.out HWA.out))
          have HB1 := Aside0.mk (Kd.C_F k45_heap (Kd.C_below Z1.out HWA.out))
          have HB2 := Aside0.mk (Kd.C_F k45_heap (Kd.C_below Z2.out HWA.out))
          obtain ⟨al, hal⟩ : ∃ al, al = [] ++ x.f0 ++ x.f1 ++ x.f2 := ⟨_, rfl⟩
          have HALL := Aside0.mk hal
          clear hal
          have HN0 := Aside0.mk (Kd.N_nil k45 45 W W.heap.size (fun _ => True))
          go_upto_region 13 with (first | (at_builtin; refine Kd.N_append_rows k45 (w0 := W) W.heap.size rfl (.tmp 42) (.tmp 44) 38 45 (.agg #[.slice none 0 0]) 24 rfl Try.underlying38 spInfoS rfl (by decide) (by omega) (.slice none 0 0) [] x.f0 B0 _ _ (fun _ => True) (fun k_ => k_ < W.heap.size) rfl rfl HN0.out HB0.out (fun _ _ => ⟨trivial, by simp [Value.ownBlock]⟩) (fun _ _ => trivial) (Below.refl _ _) (Nat.le_refl _) (by have := HQ.out; simp; omega) ?_; intro v1 w1 ho hb hg hat; have HN1 := Aside0.mk ho; have HW1 := Aside0.mk hb; have HF1 := Aside0.mk (Kd.F_below HB1.out hb); have HF2 := Aside0.mk (Kd.F_below HB2.out hb); have HA1 := Aside0.mk (spOwnNew hat); have X1a := pw_cell_below hb X1; have X2a := pw_cell_below hb X2; clear X0 X1 X2 X3 ho hb hg hat) | (at_builtin; refine Kd.N_append_rows k45 (w0 := W) W.heap.size rfl (.tmp 46) (.tmp 48) 38 45 (.agg #[.slice none 0 0]) 24 rfl Try.underlying38 spInfoS rfl (by decide) (by omega) _ ([] ++ x.f0) x.f1 B1 _ _ (fun _ => True) (fun k_ => k_ < W.heap.size) rfl rfl HN1.out HF1.out (fun k_ hk => ⟨trivial, fun e => by have := HA1.out k_ e.symm; omega⟩) (fun _ _ => trivial) HW1.out HW1.out.size (by have := HQ.out; simp; omega) ?_; intro v2 w2 ho hb hg hat; have HN2 := Aside0.mk ho; have HW2 := Aside0.mk hb; have HG2 := Aside0.mk (Kd.F_grown HF2.out hg (fun k_ hk e => by have := HA1.out k_ e.symm; omega)); have HA2 := Aside0.mk (spOwnStep HA1.out HW1.out.size hat); have X2b := spKeepG hg HA1.out (show wr.heap.size < W.heap.size by rw [← hW, World.size_alloc]; omega) X2a; clear X1a X2a ho hb hg hat) | (at_builtin; refine Kd.N_append_rows k45 (w0 := W) W.heap.size rfl (.tmp 50) (.tmp 52) 38 45 (.agg #[.slice none 0 0]) 24 rfl Try.underlying38 spInfoS rfl (by decide) (by omega) _ ([] ++ x.f0 ++ x.f1) x.f2 B2 _ _ (fun _ => True) (fun k_ => k_ < W.heap.size) rfl rfl HN2.out HG2.out (fun k_ hk => ⟨trivial, fun e => by have := HA2.out k_ e.symm; omega⟩) (fun _ _ => trivial) HW2.out HW2.out.size (by have := HQ.out; simp; omega) ?_; intro v3 w3 ho hb hg hat; rw [← HALL.out] at ho; obtain ⟨A3, c3, rfl⟩ := Kd.N_slice ho; have HN3 := Aside0.mk ho; have HW3 := Aside0.mk hb; clear X2b ho hb hg hat))
          have HAC := Aside0.mk (Kd.N_reads' HN3.out)
          have HAL : Aside0 (al.length < 1000) := ⟨by have := HQ.out; rw [HALL.out]; simp only [List.length_append, List.length_nil]; omega⟩
          have HBW := Aside0.mk (below_step (below_step HB.out HWA.out) HW3.out)
          go_wp2
          go_loopw [6] (fun j wj => ∃ m : Nat, j = .int .i64 m ∧ Aside0 (m ≤ al.length) ∧ Aside0 (∀ s ∈ al.take m, okSet s = true) ∧ Aside0 (Below w3.heap.size w3 wj)) (fun j _ => al.length - (intOf j).toNat)
          case atStart => exact ⟨0, rfl, ⟨Nat.zero_le _⟩, ⟨fun x hx => by simp at hx⟩, ⟨Below.refl _ _⟩⟩
          case round =>
            obtain ⟨m, rfl, HKM, HOM, HBJ⟩ := hrel
            by_cases hlm : m < al.length
            · obtain ⟨ada, E0, h0, ea, p0, q0, r0⟩ := at_T45 (Kd.C_below HAC.out.2.2 HBJ.out) (m : Int) (by omega) (by omega)
              cases ea
              rw [Int.toNat_natCast] at p0
              have hmm : rd_T45 al (m : Int) ∈ al := by unfold rd_T45; rw [Int.toNat_natCast, List.getD_eq_getElem?_getD, List.getElem?_eq_getElem hlm]; exact List.getElem_mem hlm
              have hsm : al.take (m + 1) = al.take m ++ [rd_T45 al (m : Int)] := by
                unfold rd_T45
                rw [Int.toNat_natCast, List.getD_eq_getElem?_getD, List.take_add_one, List.getElem?_eq_getElem hlm]
                rfl
              have HSM := Aside0.mk hsm
              have HMM := Aside0.mk hmm
              clear hsm hmm q0 r0
              generalize rd_T45 al (m : Int) = y at *
              have hm1 : (0 ≤ (m : Int)) = True := eq_true (by omega)
              have hm2 : ((m : Int) < (al.length : Int)) = True := eq_true (by omega)
              have hdm : decide ((m : Int) < (al.length : Int)) = true := decide_eq_true (by omega)
              have hwm : wrap64 ((m : Int) + 1) = (m : Int) + 1 := by have := HAL.out; unfold wrap64; omega
              by_cases hy : (y.f0.length : Int) > 12
              · have hy1 : decide ((y.f0.length : Int) > 12) = true := decide_eq_true hy
                have hrl : spRuleB x = false := by
                  unfold spRuleB
                  rw [Bool.and_eq_false_iff]
                  right
                  rw [List.all_eq_false]
                  refine ⟨y, ?_, ?_⟩
                  · have := HMM.out
                    rw [HALL.out, List.nil_append] at this
                    exact this
                  · unfold okSet
                    rw [decide_eq_false (by omega)]
                    decide
                have HRES := Aside0.mk (spAll_false HMEM.out hrl)
                clear hy hrl hlm
                go_wp2
                go_ret
                exact ⟨by rw [HRES.out]; rfl, below_step HBW.out HBJ.out⟩
              · have hy1 : decide ((y.f0.length : Int) > 12) = false := decide_eq_false hy
                have HY := Aside0.mk (show okSet y = true by unfold okSet; rw [decide_eq_true (by omega)])
                have HLM := Aside0.mk hlm
                clear hy hlm
                go_wp2
                go_roundw
                case rel => exact ⟨m + 1, by rw [hwm]; rfl, ⟨HLM.out⟩, ⟨fun z hz => by
                  rw [HSM.out, List.mem_append, List.mem_singleton] at hz
                  rcases hz with hz | rfl
                  · exact HOM.out z hz
                  · exact HY.out⟩, HBJ⟩
                case measure => rw [hwm]; simp only [intOf]; have := HLM.out; omega
            · obtain rfl : m = al.length := by have := HKM.out; omega
              rw [List.take_length] at HOM
              have hdm : decide ((al.length : Int) < (al.length : Int)) = false := decide_eq_false (by omega)
              have HRX : Aside0 (spRuleB x = true) := ⟨by
                unfold spRuleB
                rw [HLEN.out, Bool.true_and, List.all_eq_true]
                intro z hz
                refine HOM.out z ?_
                rw [HALL.out, List.nil_append]
                exact hz⟩
              clear hlm
              go_wp2
              go_roundw
              case rel => exact ⟨k + 1, by rw [hw]; rfl, ⟨HLT0.out⟩, ⟨fun z hz => by
                rw [HST.out, List.mem_append, List.mem_singleton] at hz
                rcases hz with hz | rfl
                · exact HOLD.out z hz
                · exact HRX.out⟩, ⟨below_step HBW.out HBJ.out⟩⟩
              case measure => rw [hw]; simp only [intOf]; have := HLT0.out; omega
        · have hrl : spRuleB x = false := by
            unfold spRuleB
            rw [Bool.eq_false_iff.2 hlen]
            rfl
          have HRES := Aside0.mk (spAll_false HMEM.out hrl)
          unfold spLenB at hlen
          simp only [Bool.and_eq_true, decide_eq_true_eq] at hlen
          by_cases a0 : (x.f0.length : Int) > 20
          · have e0 : decide ((x.f0.length : Int) > 20) = true := decide_eq_true a0
            clear hlen a0 hlt
            go_wp2
            go_ret
            exact ⟨by rw [HRES.out]; rfl, below_step HB.out HWA.out⟩
          · have e0 : decide ((x.f0.length : Int) > 20) = false := decide_eq_false a0
            by_cases a1 : (x.f1.length : Int) > 20
            · have e1 : decide ((x.f1.length : Int) > 20) = true := decide_eq_true a1
              clear hlen a0 a1 hlt
              go_wp2
              go_ret
              exact ⟨by rw [HRES.out]; rfl, below_step HB.out HWA.out⟩
            · have e1 : decide ((x.f1.length : Int) > 20) = false := decide_eq_false a1
              by_cases a2 : (x.f2.length : Int) > 20
              · have e2 : decide ((x.f2.length : Int) > 20) = true := decide_eq_true a2
                clear hlen a0 a1 a2 hlt
                go_wp2
                go_ret
                exact ⟨by rw [HRES.out]; rfl, below_step HB.out HWA.out⟩
              · have e2 : decide ((x.f2.length : Int) > 20) = false := decide_eq_false a2
                have e3 : decide ((x.f3.length : Int) > 20) = true := decide_eq_true (by omega)
                clear hlen a0 a1 a2 hlt
                go_wp2
                go_ret
                exact ⟨by rw [HRES.out]; rfl, below_step HB.out HWA.out⟩
      · obtain rfl : k = l.length := by have := HK.out; omega
        rw [List.take_length] at HOLD
        have hres : spSmallB l = true := by unfold spSmallB; rw [decide_eq_true (by have := HL.out; omega), List.all_eq_true.2 HOLD.out]; rfl
        have HRES := Aside0.mk hres
        have hdl : decide ((l.length : Int) < (l.length : Int)) = false := decide_eq_false (by omega)
        clear hres
        go_wp2
        go_ret
        exact ⟨by rw [HRES.out]; rfl, HB.out⟩
end Go.Proofs.Ytcpicopaobhlcaa.Q
end
section
namespace Go.Proofs.Ytcpicopaobhlcaa.Q
open Go.RowKit Go.Proofs.YtcpicopaobhlcaaW.PrintWords Go.Proofs.YtcpicopaobhlcaaW.PrintLast Go.Proofs.YtcpicopaobhlcaaW.PrintMore
set_option linter.unusedVariables false
theorem belowGrown {w w1 w2 : World} {b : Nat} (h : Below w.heap.size w w1) (g : w1.grownBy w2 (some b)) (hb : w.heap.size ≤ b) : Below w.heap.size w w2 :=
  ⟨g.os.trans h.os, g.tape.trans h.tape, g.output.trans h.output, Nat.le_trans h.size g.size, fun k hk => (g.block k (Nat.lt_of_lt_of_le hk h.size) (fun e => by injection e with e; omega)).trans (h.block k hk)⟩
theorem rowOf {α : Type} {d : Kd α} {W : World} {g t : Nat} {cells : Array Value} {xs : List α} (hb : W.heap[g]? = some (.cells cells t (0, 0))) (hr : Reps (d.K W) d.sz xs cells.toList) (hl : xs.length ≤ 1000000) : Kd.C d W (some ⟨g, 0, none⟩) xs.length xs := by
  refine ⟨rfl, by omega, fun _ => ⟨_, rfl, fun j p hj => ?_⟩⟩
  have hk := hr.2 j p hj
  refine ⟨_, d.K_len hk, hk, fun i u hu => ?_⟩
  rw [List.getElem?_take] at hu
  split at hu
  · rw [List.getElem?_drop] at hu
    have h2 := blk_cell hb (j * d.sz + i)
    rw [← Array.getElem?_toList, hu] at h2
    have e : ((⟨g, 0, none⟩ : Addr).add (j * d.sz + i)) = ⟨g, j * d.sz + i, none⟩ := by
      unfold Addr.add
      split
      · rename_i h0; rw [h0]
      · simp
    rw [e]
    exact h2
  · cases hu
theorem spOne {w : World} {base : Nat} {ok : Nat → Prop} {v : Value} {c : Int} (h : Kd.R (Kd.int .i64) 3 w base ok v [c]) : ∃ A cc, v = .slice A 1 cc ∧ 1 ≤ cc ∧ Kd.C (Kd.int .i64) w A 1 [c] := by
  obtain ⟨A, cc, rfl⟩ := Kd.R_slice h
  exact ⟨A, cc, rfl, (Kd.R_reads' h).2.1, (Kd.R_reads' h).2.2⟩
theorem spNil {w : World} {base : Nat} {ok : Nat → Prop} {v : Value} (h : Kd.R (Kd.int .i64) 3 w base ok v []) : ∃ A cc, v = .slice A 0 cc := by
  obtain ⟨A, cc, rfl⟩ := Kd.R_slice h
  exact ⟨A, cc, rfl⟩
def spRules : List Ru := [⟨[], [⟨[⟨97, 97⟩]⟩, ⟨[⟨98, 98⟩]⟩], [], [⟨120, 0⟩]⟩]
theorem spRules_few : plFewL spRules := spSmall_few spRules (by kernel_rfl)
theorem spRules_check : checkS spRules = 0 := by kernel_rfl
theorem spRules_data : dataS spRules = spRules := by unfold dataS; rw [if_pos spRules_check]
theorem spRules_be : spBe spRules = 0 := by kernel_rfl
theorem spRules_ah : spAh spRules = 2 := by kernel_rfl
theorem spW_1 : spWrite spRules 0 2 ([], 0) [97] = ([], ([97], 0)) := by kernel_rfl
theorem spW_2 : spWrite spRules 0 2 ([97], 0) [99] = ([97], ([99], 0)) := by kernel_rfl
theorem spW_3 : (spRun spRules [99] 1 0).1 = [99] := by kernel_rfl
theorem awRow (w2 : World) (A1 : Option Addr) (c1 : Nat) (A2 : Option Addr) (c2 : Nat) (h1 : Kd.C k69 w2 A1 1 [⟨97, 97⟩]) (g1 : 1 ≤ c1) (h2 : Kd.C k69 w2 A2 1 [⟨98, 98⟩]) (g2 : 1 ≤ c2) :
    Kd.C k41 (((w2.alloc (.cells #[.slice A1 1 c1, .slice A2 1 c2] 45)).alloc (.cells #[.int .i64 120, .int .i64 0] 59)).alloc (.cells #[.slice none 0 0, .slice (some ⟨w2.heap.size, 0, none⟩) 2 2, .slice none 0 0, .slice (some ⟨w2.heap.size + 1, 0, none⟩) 1 1] 41)) (some ⟨w2.heap.size + 1 + 1, 0, none⟩) 1 spRules := by
  obtain ⟨W1, hW1⟩ : ∃ W1, W1 = w2.alloc (.cells #[.slice A1 1 c1, .slice A2 1 c2] 45) := ⟨_, rfl⟩
  obtain ⟨W2, hW2⟩ : ∃ W2, W2 = W1.alloc (.cells #[.int .i64 120, .int .i64 0] 59) := ⟨_, rfl⟩
  obtain ⟨W3, hW3⟩ : ∃ W3, W3 = W2.alloc (.cells #[.slice none 0 0, .slice (some ⟨w2.heap.size, 0, none⟩) 2 2, .slice none 0 0, .slice (some ⟨w2.heap.size + 1, 0, none⟩) 1 1] 41) := ⟨_, rfl⟩
  rw [← hW1, ← hW2, ← hW3]
  have s1 : W1.heap.size = w2.heap.size + 1 := by rw [hW1, World.size_alloc]
  have s2 : W2.heap.size = w2.heap.size + 1 + 1 := by rw [hW2, World.size_alloc, s1]
  have b1 : Below w2.heap.size w2 W1 := by rw [hW1]; exact below_alloc (Below.refl _ _) _
  have b2 : Below W1.heap.size W1 W2 := by rw [hW2]; exact below_alloc (Below.refl _ _) _
  have b3 : Below W2.heap.size W2 W3 := by rw [hW3]; exact below_alloc (Below.refl _ _) _
  have k1 : W1.heap[w2.heap.size]? = some (.cells #[.slice A1 1 c1, .slice A2 1 c2] 45 (0, 0)) := by rw [hW1]; exact heap_alloc_new _ _
  have k2 : W2.heap[w2.heap.size + 1]? = some (.cells #[.int .i64 120, .int .i64 0] 59 (0, 0)) := by rw [hW2, ← s1]; exact heap_alloc_new _ _
  have k3 : W3.heap[w2.heap.size + 1 + 1]? = some (.cells #[.slice none 0 0, .slice (some ⟨w2.heap.size, 0, none⟩) 2 2, .slice none 0 0, .slice (some ⟨w2.heap.size + 1, 0, none⟩) 1 1] 41 (0, 0)) := by rw [hW3, ← s2]; exact heap_alloc_new _ _
  have h1' := Kd.C_below (Kd.C_below (Kd.C_below h1 b1) b2) b3
  have h2' := Kd.C_below (Kd.C_below (Kd.C_below h2 b1) b2) b3
  have r1 : Kd.C k45 W3 (some ⟨w2.heap.size, 0, none⟩) 2 [⟨[⟨97, 97⟩]⟩, ⟨[⟨98, 98⟩]⟩] :=
    rowOf (blk_below (blk_below k1 b2) b3) (Reps.one (k45_mk W3 ⟨[⟨97, 97⟩]⟩ g1 h1') (Reps.one (k45_mk W3 ⟨[⟨98, 98⟩]⟩ g2 h2') (Reps.none _ _))) (by decide)
  have r2 : Kd.C k59 W3 (some ⟨w2.heap.size + 1, 0, none⟩) 1 [⟨120, 0⟩] :=
    rowOf (blk_below k2 b3) (Reps.c2 (k59_mk W3 ⟨120, 0⟩) (Reps.none _ _)) (by decide)
  exact rowOf k3 (Reps.c4 (k41_mk W3 ⟨[], [⟨[⟨97, 97⟩]⟩, ⟨[⟨98, 98⟩]⟩], [], [⟨120, 0⟩]⟩ (Nat.le_refl _) (Kd.C_nil _ _) (Nat.le_refl 2) r1 (Nat.le_refl _) (Kd.C_nil _ _) (Nat.le_refl 1) r2) (Reps.none _ _)) (by decide)
/-- New at the example's rules. -/
theorem awNew (A : Option Addr) (w : World) (hr : Kd.C k41 w A 1 spRules) :
    Calls Try.prog 13 #[.slice A 1 1] w fun e w' => ∃ b, e = .returned (.tuple #[.pointer (some ⟨b, 0, none⟩), .int .i64 0]) ∧ Strm w' b (fun k => w.heap.size ≤ k ∧ k ≠ b) [] 0 spRules 0 2 ∧ w.heap.size ≤ b ∧ Below w.heap.size w w' := by
  have h := sNew_calls A 1 spRules w spRules_few hr (Nat.le_refl _) spRules_check
  rw [spRules_be, spRules_ah] at h
  exact h
theorem awSp : SpOk spRules 0 2 := by
  have h := spOk spRules spRules_few spRules_data
  rwa [spRules_be, spRules_ah] at h
theorem awWrite (b : Nat) (ok : Nat → Prop) (t : List Int) (a : Nat) (c : Int) (A1 : Option Addr) (c1 : Nat) (out : List Int) (t2 : List Int) (a2 : Nat) (w : World) (hS : Strm w b ok t a spRules 0 2) (hok : ¬ ok b) (hnew : ∀ k, w.heap.size ≤ k → ok k) (ht : t.length < 1000) (ha : a ≤ t.length) (htx : okText (t ++ [c]) = true)
    (hT : Kd.C (Kd.int .i64) w A1 1 [c]) (hc1 : 1 ≤ c1) (he : spWrite spRules 0 2 (t, a) [c] = (out, (t2, a2))) :
    Calls Try.prog 14 #[.pointer (some ⟨b, 0, none⟩), .slice A1 1 c1] w fun e w' => ∃ v, e = .returned (.tuple #[v, .int .i64 0]) ∧ Kd.R (Kd.int .i64) 3 w' w.heap.size (fun _ => True) v out ∧ Strm w' b ok t2 a2 spRules 0 2 ∧ w.grownBy w' (some b) := by
  have h := sWrite_calls b ok t a spRules 0 2 A1 c1 [c] w hS hok hnew (by simp; omega) ha htx (plOkRules spRules_few) spRules_data awSp (by decide) (by decide) hT hc1
  rw [he] at h
  exact h
theorem awText (w : World) (c : Int) : Kd.C (Kd.int .i64) (w.alloc (.cells #[.int .i64 c] 3)) (some ⟨w.heap.size, 0, none⟩) 1 [c] :=
  rowOf (d := Kd.int .i64) (cells := #[.int .i64 c]) (heap_alloc_new w _) (Reps.one (R := (Kd.int .i64).K _) rfl (Reps.none _ _)) (Nat.le_of_ble_eq_true rfl)
theorem awWrite1 (b : Nat) (w : World) (hS : Strm w b (fun k => k ≠ b) [] 0 spRules 0 2) :
    Calls Try.prog 14 #[.pointer (some ⟨b, 0, none⟩), .slice (some ⟨w.heap.size, 0, none⟩) 1 1] (w.alloc (.cells #[.int .i64 97] 3)) fun e w' => (∃ A c, e = .returned (.tuple #[.slice A 0 c, .int .i64 0])) ∧ Strm w' b (fun k => k ≠ b) [97] 0 spRules 0 2 ∧ w.grownBy w' (some b) := by
  have hA : Below w.heap.size w (w.alloc (.cells #[.int .i64 97] 3)) := below_alloc (Below.refl _ _) _
  have hlt := hS.lt
  refine (awWrite b (fun k => k ≠ b) [] 0 97 (some ⟨w.heap.size, 0, none⟩) 1 [] [97] 0 _ (hS.below hA) (by simp) (fun k hk e => by rw [World.size_alloc] at hk; omega) (by decide) (by decide) (by kernel_rfl) (awText w 97) (Nat.le_refl _) spW_1).mono ?_
  rintro e w' ⟨v, rfl, hv, hs, hg⟩
  obtain ⟨A, c, rfl⟩ := spNil hv
  exact ⟨⟨A, c, rfl⟩, hs, (grown_of_below hA _).trans hg⟩
theorem awWrite2 (b : Nat) (w : World) (hS : Strm w b (fun k => k ≠ b) [97] 0 spRules 0 2) :
    Calls Try.prog 14 #[.pointer (some ⟨b, 0, none⟩), .slice (some ⟨w.heap.size, 0, none⟩) 1 1] (w.alloc (.cells #[.int .i64 99] 3)) fun e w' => (∃ A c, e = .returned (.tuple #[.slice A 1 c, .int .i64 0]) ∧ Kd.R (Kd.int .i64) 3 w' w.heap.size (fun _ => True) (.slice A 1 c) [97]) ∧ Strm w' b (fun k => k ≠ b) [99] 0 spRules 0 2 ∧ w.grownBy w' (some b) := by
  have hA : Below w.heap.size w (w.alloc (.cells #[.int .i64 99] 3)) := below_alloc (Below.refl _ _) _
  have hlt := hS.lt
  refine (awWrite b (fun k => k ≠ b) [97] 0 99 (some ⟨w.heap.size, 0, none⟩) 1 [97] [99] 0 _ (hS.below hA) (by simp) (fun k hk e => by rw [World.size_alloc] at hk; omega) (by decide) (by decide) (by kernel_rfl) (awText w 99) (Nat.le_refl _) spW_2).mono ?_
  rintro e w' ⟨v, rfl, hv, hs, hg⟩
  obtain ⟨A, c, rfl, _⟩ := spOne hv
  exact ⟨⟨A, c, rfl, Kd.R_lower hv hA.size⟩, hs, (grown_of_below hA _).trans hg⟩
theorem awClose (b : Nat) (w : World) (hS : Strm w b (fun k => k ≠ b) [99] 0 spRules 0 2) :
    Calls Try.prog 15 #[.pointer (some ⟨b, 0, none⟩)] w fun e w' => (∃ A c, e = .returned (.tuple #[.slice A 1 c, .int .i64 0]) ∧ Kd.R (Kd.int .i64) 3 w' w.heap.size (fun _ => True) (.slice A 1 c) [99]) ∧ StrmZ w' b ∧ w.grownBy w' (some b) := by
  have hlt := hS.lt
  refine (sClose_calls b (fun k => k ≠ b) [99] 0 spRules 0 2 w hS (by simp) (fun k hk e => by omega) (by decide) (by decide) (by kernel_rfl) (plOkRules spRules_few) spRules_data awSp (by decide)).mono ?_
  rintro e w' ⟨v, rfl, hv, hz, hg⟩
  rw [spW_3] at hv
  obtain ⟨A, c, rfl, _⟩ := spOne hv
  exact ⟨⟨A, c, rfl, hv⟩, hz, hg⟩
theorem awEq (A0 : Option Addr) (c0 : Nat) (A1 : Option Addr) (c1 : Nat) (c : Int) (w : World) (h0 : Kd.C (Kd.int .i64) w A0 1 [c]) (g0 : 1 ≤ c0) (h1 : Kd.C (Kd.int .i64) w A1 1 [c]) (g1 : 1 ≤ c1) :
    Calls Try.prog 16 #[.slice A0 1 c0, .slice A1 1 c1] w fun e w' => e = .returned (.bool true) ∧ Drawn0 w w' :=
  unicodetextref01_Equal.calls 10 A0 c0 [c] A1 c1 [c] true w h0 g0 h1 g1 (by rw [plEqual_ok _ _ _ (by simp) (by simp)]; simp)
set_option maxHeartbeats 8000000 in
set_option maxRecDepth 100000 in
theorem awake_calls (w : World) : Calls Try.prog 12 #[] w fun e w' => e = .returned (.bool true) ∧ Below w.heap.size w w' := by
  have hu1 := Try.underlying59
  have hu2 := Try.underlying41
  go_enter Try.func12, Try.ntmps12
  go_upto_region 2 with (first | (go_at_call 25; (with_reducible refine (unicodetextlaw52_one.calls 97 [⟨97, 97⟩] _ rfl).mono ?_); rintro e w1 ⟨v1, rfl, hv1, hb⟩; obtain ⟨A1, c1, rfl⟩ := Kd.R_slice hv1; have HV1 := Aside0.mk hv1; have HB1 := Aside0.mk hb; clear hv1 hb) | (go_at_call 25; (with_reducible refine (unicodetextlaw52_one.calls 98 [⟨98, 98⟩] _ rfl).mono ?_); rintro e w2 ⟨v2, rfl, hv2, hb⟩; obtain ⟨A2, c2, rfl⟩ := Kd.R_slice hv2; have HV2 := Aside0.mk hv2; have HV1b := Aside0.mk (Kd.R_below HV1.out hb); have HB2 := Aside0.mk (below_step HB1.out hb); clear hv2 hb) | (go_at_call 13; refine (awNew _ _ (awRow w2 A1 c1 A2 c2 (Kd.R_reads' HV1b.out).2.2 (Kd.R_reads' HV1b.out).2.1 (Kd.R_reads' HV2.out).2.2 (Kd.R_reads' HV2.out).2.1)).mono ?_; rintro e w3 ⟨b, rfl, hs3, hlb, hb⟩; have HS3 := Aside0.mk (hs3.mono (fun k hk => hk.2)); have HLB := Aside0.mk (show w.heap.size ≤ b by have := HB2.out.size; simp only [World.size_alloc] at hlb; omega); have HB3 := Aside0.mk (below_step (below_alloc (below_alloc (below_alloc HB2.out _) _) _) hb); clear hs3 hlb hb))
  have hlt := HS3.out.lt
  go_wp2_with (first | (go_at_call 14; (with_reducible refine (awWrite1 b _ HS3.out).mono ?_); rintro e w4 ⟨⟨A4, c4, rfl⟩, hs4, hg4⟩; have HS4 := Aside0.mk hs4; have HG4 := Aside0.mk hg4; clear hs4 hg4) | (go_at_call 14; (with_reducible refine (awWrite2 b _ HS4.out).mono ?_); rintro e w5 ⟨⟨A5, c5, rfl, hv5⟩, hs5, hg5⟩; have HV5 := Aside0.mk hv5; have HS5 := Aside0.mk hs5; have HG5 := Aside0.mk hg5; clear hs5 hg5 hv5) | (go_at_call 15; (with_reducible refine (awClose b _ HS5.out).mono ?_); rintro e w6 ⟨⟨A6, c6, rfl, hv6⟩, hz6, hg6⟩; have HV6 := Aside0.mk hv6; have HZ6 := Aside0.mk hz6; have HG6 := Aside0.mk hg6; clear hv6 hz6 hg6) | (go_at_call 14; (with_reducible refine (sWrite_closed b _ _ HZ6.out).mono ?_); rintro e w7 ⟨rfl, hb7⟩; have HR5 := Aside0.mk (Kd.R_below (rowKeep HV5.out HG6.out (HS5.out.notrow HV5.out)) hb7); have HR6 := Aside0.mk (Kd.R_below HV6.out hb7); have HB7 := Aside0.mk hb7; clear hb7) | (go_at_call 16; (with_reducible refine (awEq A5 c5 _ 1 97 _ (Kd.C_below (Kd.R_reads' HR5.out).2.2 (below_alloc (Below.refl _ _) _)) (Kd.R_reads' HR5.out).2.1 (awText w7 97) (Nat.le_refl _)).mono ?_); rintro e w8 ⟨rfl, hd8⟩; have HB8 := Aside0.mk (below_step (below_alloc (Below.refl w7.heap.size w7) _) hd8.below); clear hd8) | (go_at_call 16; (with_reducible refine (awEq A6 c6 _ 1 99 _ (Kd.C_below (Kd.R_reads' HR6.out).2.2 (below_alloc HB8.out _)) (Kd.R_reads' HR6.out).2.1 (awText w8 99) (Nat.le_refl _)).mono ?_); rintro e w9 ⟨rfl, hd9⟩; have HB9 := Aside0.mk (below_step (below_alloc (HB8.out) _) hd9.below); clear hd9))
  go_ret
  refine ⟨rfl, ?_⟩
  exact below_step (belowGrown (below_step (belowGrown (belowGrown (belowGrown HB3.out HG4.out HLB.out) HG5.out HLB.out) HG6.out HLB.out) HB7.out) (World.grownBy.refl _ _) HLB.out) HB9.out
end Go.Proofs.Ytcpicopaobhlcaa.Q
end
