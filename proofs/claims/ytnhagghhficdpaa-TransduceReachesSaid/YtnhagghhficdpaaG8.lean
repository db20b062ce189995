/- Lemmas, printed and written for this claim: part 8. -/
import Derived.Test.YtnhagghhficdpaaG2
import Derived.Test.YtnhagghhficdpaaG5
import Derived.Test.YtnhagghhficdpaaG7
import Derived.WalkKit
import Derived.Test.YtnhagghhficdpaaG6
import Derived.Test.YtnhagghhficdpaaG4
import Derived.Test.YtnhagghhficdpaaG3
section
namespace Go.Proofs.Ytnhagghhficdpaa.Q
open Go.RowKit Go.Proofs.YtnhagghhficdpaaW.PrintWords Go.Proofs.YtnhagghhficdpaaW.PrintLast Go.Proofs.YtnhagghhficdpaaW.PrintMore
attribute [local go_sem] max2_int min2_int max_two min_two max_three min_three max_four min_four   -- for this text's walks alone
set_option linter.unusedVariables false
set_option linter.unusedSimpArgs false
def unicodetextref51_Reach.l0 : Nat → List (S34) → Int → Int → Int → Option (Int × Int)
  | 0, _, _, _, _ => none
  | k + 1, x4, x5, x6, x7 => if x7 < (x4.length : Int) then (if 0 ≤ x7 then (unicodetextref51_Reach.l0 k x4 (mx x5 (((rd_T34 x4 x7).f0).length : Int)) (mx x6 (wrap64 ((((rd_T34 x4 x7).f1).length : Int) + (((rd_T34 x4 x7).f2).length : Int)))) (wrap64 (x7 + 1))) else (none)) else (some (x5, x6))
def unicodetextref51_Reach.f (k : Nat) (l0 : List (S34)) : Option (Int × Int) := (unicodetextref51_Data.f k l0).bind fun t298 => (unicodetextref51_Reach.l0 k t298 0 0 0)
set_option maxHeartbeats 8000000 in
set_option maxRecDepth 100000 in
theorem unicodetextref51_Reach.calls (k : Nat) (A0 : Option Addr) (c0 : Nat) (l0 : List (S34)) (r1 : Int) (r2 : Int) (w : World) (hr0 : Kd.C k34 w A0 l0.length l0) (hc0 : l0.length ≤ c0) (h : unicodetextref51_Reach.f k l0 = some (r1, r2)) :
    Calls Try.prog 21 #[.slice A0 l0.length c0] w fun e w' => e = .returned (.tuple #[.int .i64 r1, .int .i64 r2]) ∧ Below w.heap.size w w' := by
  have HR0 := Aside0.mk hr0
  have HC0 := Aside0.mk hc0
  clear hr0 hc0
  have HB := Aside0.mk (Below.refl w.heap.size w)
  have H : ((unicodetextref51_Data.f k l0).bind fun t298 => (unicodetextref51_Reach.l0 k t298 0 0 0)) = some (r1, r2) := h
  clear h
  replace H := Option.bind_eq_some_iff.mp H
  obtain ⟨t298, A20, H⟩ := H
  replace H : (unicodetextref51_Reach.l0 k t298 0 0 0) = some (r1, r2) := H
  have A2 := Aside0.mk A20
  clear A20
  have H' := Aside0.mk H
  clear H
  go_enter Try.func21, Try.ntmps21
  go_wp2_with (first | (go_at_call 24; (with_reducible refine (unicodetextref51_Data.calls k (fun k_ => k_ < w.heap.size) _ _ l0 t298 _ ?side1 A2.out).mono ?_); (case side1 => exact Kd.V_mk HC0.out (Kd.F_below (Kd.C_F k34_heap HR0.out) (by repeat (first | (with_reducible first | exact HB.out | apply below_alloc | apply pw_below_drewN | apply below_drew1) | exact HB.out)))); rintro e w3 ⟨v299, rfl, ho0, hb⟩; have n0_ := Aside0.mk (Kd.V_lower (Kd.V_mono (ok' := fun k_ => True) ho0 (fun k_ hk_ => trivial)) (below_size (by repeat (first | (with_reducible first | exact HB.out | apply below_alloc | apply pw_below_drewN | apply below_drew1) | exact HB.out)))); have n1_ := Aside0.mk (below_step (by repeat (first | (with_reducible first | exact HB.out | apply below_alloc | apply pw_below_drewN | apply below_drew1) | exact HB.out)) hb); clear HB; have HO300 := n0_; have HB := n1_; clear n0_ n1_; (try clear hb); (try clear hb2); (try clear hk); (try clear hi); (try clear ho0)))
  repeat (go_quiet (first | (go_at_call 24; (with_reducible refine (unicodetextref51_Data.calls k (fun k_ => k_ < w.heap.size) _ _ l0 t298 _ ?side1 A2.out).mono ?_); (case side1 => exact Kd.V_mk HC0.out (Kd.F_below (Kd.C_F k34_heap HR0.out) (by repeat (first | (with_reducible first | exact HB.out | apply below_alloc | apply pw_below_drewN | apply below_drew1) | exact HB.out)))); rintro e w3 ⟨v299, rfl, ho0, hb⟩; have n0_ := Aside0.mk (Kd.V_lower (Kd.V_mono (ok' := fun k_ => True) ho0 (fun k_ hk_ => trivial)) (below_size (by repeat (first | (with_reducible first | exact HB.out | apply below_alloc | apply pw_below_drewN | apply below_drew1) | exact HB.out)))); have n1_ := Aside0.mk (below_step (by repeat (first | (with_reducible first | exact HB.out | apply below_alloc | apply pw_below_drewN | apply below_drew1) | exact HB.out)) hb); clear HB; have HO300 := n0_; have HB := n1_; clear n0_ n1_; (try clear hb); (try clear hb2); (try clear hk); (try clear hi); (try clear ho0))); try go_wp2_with (first | (go_at_call 24; (with_reducible refine (unicodetextref51_Data.calls k (fun k_ => k_ < w.heap.size) _ _ l0 t298 _ ?side1 A2.out).mono ?_); (case side1 => exact Kd.V_mk HC0.out (Kd.F_below (Kd.C_F k34_heap HR0.out) (by repeat (first | (with_reducible first | exact HB.out | apply below_alloc | apply pw_below_drewN | apply below_drew1) | exact HB.out)))); rintro e w3 ⟨v299, rfl, ho0, hb⟩; have n0_ := Aside0.mk (Kd.V_lower (Kd.V_mono (ok' := fun k_ => True) ho0 (fun k_ hk_ => trivial)) (below_size (by repeat (first | (with_reducible first | exact HB.out | apply below_alloc | apply pw_below_drewN | apply below_drew1) | exact HB.out)))); have n1_ := Aside0.mk (below_step (by repeat (first | (with_reducible first | exact HB.out | apply below_alloc | apply pw_below_drewN | apply below_drew1) | exact HB.out)) hb); clear HB; have HO300 := n0_; have HB := n1_; clear n0_ n1_; (try clear hb); (try clear hb2); (try clear hk); (try clear hi); (try clear ho0))))
  go_loopg [5, 6, 7] k (fun kq v5 v6 v7 w' => ∃ (x5_1 : Int) (x6_1 : Int) (x7_1 : Int), v5 = .int .i64 x5_1 ∧ v6 = .int .i64 x6_1 ∧ v7 = .int .i64 x7_1 ∧ Aside0 (unicodetextref51_Reach.l0 kq t298 x5_1 x6_1 x7_1 = some (r1, r2)) ∧ Aside0 (kq ≤ k) ∧ Aside0 (Kd.V k34 34 w' w.heap.size (fun _ => True) v299 t298) ∧ Aside0 (Below w.heap.size w w'))
  case atStart => exact ⟨(0), (0), (0), (by first | rfl | (simp; done) | (simp [*]; done)), (by first | rfl | (simp; done) | (simp [*]; done)), (by first | rfl | (simp; done) | (simp [*]; done)), H', ⟨Nat.le_refl _⟩, ⟨by (with_reducible repeat (first | apply Kd.V_alloc | apply Kd.V_drewN | apply Kd.V_drew)); exact HO300.out⟩, ⟨by repeat (first | (with_reducible first | exact HB.out | apply below_alloc | apply pw_below_drewN | apply below_drew1) | exact HB.out)⟩⟩
  case round =>
    clear H'
    try clear c2
    try clear p2
    obtain ⟨x5_1, x6_1, x7_1, rfl, rfl, rfl, HA, HK1, HO_4, HB⟩ := hrel
    cases gk with
    | zero => exact absurd HA.out (by simp [unicodetextref51_Reach.l0])
    | succ k1 =>
      have H := HA.out
      clear HA
      simp only [unicodetextref51_Reach.l0] at H
      by_cases c4 : x7_1 < (t298.length : Int)
      · rw [if_pos c4] at H
        have c4b0 : decide (x7_1 < (t298.length : Int)) = true := decide_eq_true c4
        clear c4
        by_cases c5 : 0 ≤ x7_1
        · rw [if_pos c5] at H
          have c5b0 : decide (0 ≤ x7_1) = true := decide_eq_true c5
          clear c5
          obtain ⟨ji6, hji6⟩ : ∃ j_ : Int, (mx x5_1 (((rd_T34 t298 x7_1).f0).length : Int)) = j_ := ⟨_, rfl⟩
          replace H : (unicodetextref51_Reach.l0 k1 t298 ji6 (mx x6_1 (wrap64 ((((rd_T34 t298 x7_1).f1).length : Int) + (((rd_T34 t298 x7_1).f2).length : Int)))) (wrap64 (x7_1 + 1))) = some (r1, r2) := by first | (rw [hji6] at H; exact H) | (simp only [hji6] at H ⊢; exact H)
          have hji6_ : (if x5_1 < (((rd_T34 t298 x7_1).f0).length : Int) then (((rd_T34 t298 x7_1).f0).length : Int) else x5_1) = ji6 := hji6
          obtain ⟨ji7, hji7⟩ : ∃ j_ : Int, (mx x6_1 (wrap64 ((((rd_T34 t298 x7_1).f1).length : Int) + (((rd_T34 t298 x7_1).f2).length : Int)))) = j_ := ⟨_, rfl⟩
          replace H : (unicodetextref51_Reach.l0 k1 t298 ji6 ji7 (wrap64 (x7_1 + 1))) = some (r1, r2) := by first | (rw [hji7] at H; exact H) | (simp only [hji7] at H ⊢; exact H)
          have hji7_ : (if x6_1 < (wrap64 ((((rd_T34 t298 x7_1).f1).length : Int) + (((rd_T34 t298 x7_1).f2).length : Int))) then (wrap64 ((((rd_T34 t298 x7_1).f1).length : Int) + (((rd_T34 t298 x7_1).f2).length : Int))) else x6_1) = ji7 := hji7
          have H' := Aside0.mk H
          clear H
          obtain ⟨Ao8, co8, eo8⟩ := Kd.V_slice HO_4.out
          subst eo8
          have p301 : 0 ≤ (x7_1 : Int) := of_decide_eq_true (by first | (with_reducible assumption) | assumption)
          have q301 : x7_1 < (t298.length : Int) := of_decide_eq_true (by first | (with_reducible assumption) | assumption)
          obtain ⟨ad301, A301_0, c301_0, A301_1, c301_1, A301_2, c301_2, A301_3, c301_3, e301, hx301_0, hx301_1, hx301_2, hx301_3, hl301_0, hi301_0, hl301_1, hi301_1, hl301_2, hi301_2, hl301_3, hi301_3⟩ := at_T34 (Kd.V_reads' HO_4.out).2.2 x7_1 p301 q301
          cases e301
          obtain ⟨ce301, hce301, hMe301, hcc301⟩ := Kd.V_get HO_4.out z34 x7_1 p301 (by first | exact q301 | exact of_decide_eq_true (by first | (with_reducible assumption) | assumption) | (have e_ := (Kd.V_reads' HO_4.out).1; omega))
          obtain ⟨ua301_0, uc301_0, ua301_1, uc301_1, ua301_2, uc301_2, ua301_3, uc301_3, rfl, ul301_0, ge301_0, ul301_1, ge301_1, ul301_2, ge301_2, ul301_3, ge301_3⟩ := k34_openF hMe301
          have hv301_0 := hcc301 0 _ rfl
          rw [Nat.add_zero] at hv301_0
          replace hv301_0 := Option.some.inj (hv301_0.symm.trans hx301_0)
          injection hv301_0 with hva_ hvn_ hvc_
          rw [hva_] at ge301_0
          rw [hvc_] at ul301_0
          have HL301_0 := Aside0.mk (show Kd.V k38 38 _ w.heap.size _ _ ((rd_T34 t298 x7_1).f0) from Kd.V_mk ul301_0 ge301_0)
          clear hva_ hvn_ hvc_ ge301_0 ul301_0
          have hv301_1 := hcc301 1 _ rfl
          rw [add_field _ _ 1 (by omega)] at hv301_1
          replace hv301_1 := Option.some.inj (hv301_1.symm.trans hx301_1)
          injection hv301_1 with hva_ hvn_ hvc_
          rw [hva_] at ge301_1
          rw [hvc_] at ul301_1
          have HL301_1 := Aside0.mk (show Kd.V k38 38 _ w.heap.size _ _ ((rd_T34 t298 x7_1).f1) from Kd.V_mk ul301_1 ge301_1)
          clear hva_ hvn_ hvc_ ge301_1 ul301_1
          have hv301_2 := hcc301 2 _ rfl
          rw [add_field _ _ 2 (by omega)] at hv301_2
          replace hv301_2 := Option.some.inj (hv301_2.symm.trans hx301_2)
          injection hv301_2 with hva_ hvn_ hvc_
          rw [hva_] at ge301_2
          rw [hvc_] at ul301_2
          have HL301_2 := Aside0.mk (show Kd.V k38 38 _ w.heap.size _ _ ((rd_T34 t298 x7_1).f2) from Kd.V_mk ul301_2 ge301_2)
          clear hva_ hvn_ hvc_ ge301_2 ul301_2
          have hv301_3 := hcc301 3 _ rfl
          rw [add_field _ _ 3 (by omega)] at hv301_3
          replace hv301_3 := Option.some.inj (hv301_3.symm.trans hx301_3)
          injection hv301_3 with hva_ hvn_ hvc_
          rw [hva_] at ge301_3
          rw [hvc_] at ul301_3
          have HL301_3 := Aside0.mk (show Kd.V k51 51 _ w.heap.size _ _ ((rd_T34 t298 x7_1).f3) from Kd.V_mk ul301_3 ge301_3)
          clear hva_ hvn_ hvc_ ge301_3 ul301_3
          clear hcc301 hce301
          have HR301_0 := Aside0.mk hi301_0
          have HC301_0 := Aside0.mk hl301_0
          clear hi301_0 hl301_0
          have HR301_1 := Aside0.mk hi301_1
          have HC301_1 := Aside0.mk hl301_1
          clear hi301_1 hl301_1
          have HR301_2 := Aside0.mk hi301_2
          have HC301_2 := Aside0.mk hl301_2
          clear hi301_2 hl301_2
          have HR301_3 := Aside0.mk hi301_3
          have HC301_3 := Aside0.mk hl301_3
          clear hi301_3 hl301_3
          replace p301 := eq_true p301
          replace q301 := eq_true q301
          have p302 : 0 ≤ (x7_1 : Int) := of_decide_eq_true (by first | (with_reducible assumption) | assumption)
          have q302 : x7_1 < (t298.length : Int) := of_decide_eq_true (by first | (with_reducible assumption) | assumption)
          obtain ⟨ad302, A302_0, c302_0, A302_1, c302_1, A302_2, c302_2, A302_3, c302_3, e302, hx302_0, hx302_1, hx302_2, hx302_3, hl302_0, hi302_0, hl302_1, hi302_1, hl302_2, hi302_2, hl302_3, hi302_3⟩ := at_T34 (Kd.V_reads' HO_4.out).2.2 x7_1 p302 q302
          obtain rfl : ad301 = ad302 := (by injection e302)
          obtain ⟨ce302, hce302, hMe302, hcc302⟩ := Kd.V_get HO_4.out z34 x7_1 p302 (by first | exact q302 | exact of_decide_eq_true (by first | (with_reducible assumption) | assumption) | (have e_ := (Kd.V_reads' HO_4.out).1; omega))
          obtain ⟨ua302_0, uc302_0, ua302_1, uc302_1, ua302_2, uc302_2, ua302_3, uc302_3, rfl, ul302_0, ge302_0, ul302_1, ge302_1, ul302_2, ge302_2, ul302_3, ge302_3⟩ := k34_openF hMe302
          have hv302_0 := hcc302 0 _ rfl
          rw [Nat.add_zero] at hv302_0
          replace hv302_0 := Option.some.inj (hv302_0.symm.trans hx302_0)
          injection hv302_0 with hva_ hvn_ hvc_
          rw [hva_] at ge302_0
          rw [hvc_] at ul302_0
          have HL302_0 := Aside0.mk (show Kd.V k38 38 _ w.heap.size _ _ ((rd_T34 t298 x7_1).f0) from Kd.V_mk ul302_0 ge302_0)
          clear hva_ hvn_ hvc_ ge302_0 ul302_0
          have hv302_1 := hcc302 1 _ rfl
          rw [add_field _ _ 1 (by omega)] at hv302_1
          replace hv302_1 := Option.some.inj (hv302_1.symm.trans hx302_1)
          injection hv302_1 with hva_ hvn_ hvc_
          rw [hva_] at ge302_1
          rw [hvc_] at ul302_1
          have HL302_1 := Aside0.mk (show Kd.V k38 38 _ w.heap.size _ _ ((rd_T34 t298 x7_1).f1) from Kd.V_mk ul302_1 ge302_1)
          clear hva_ hvn_ hvc_ ge302_1 ul302_1
          have hv302_2 := hcc302 2 _ rfl
          rw [add_field _ _ 2 (by omega)] at hv302_2
          replace hv302_2 := Option.some.inj (hv302_2.symm.trans hx302_2)
          injection hv302_2 with hva_ hvn_ hvc_
          rw [hva_] at ge302_2
          rw [hvc_] at ul302_2
          have HL302_2 := Aside0.mk (show Kd.V k38 38 _ w.heap.size _ _ ((rd_T34 t298 x7_1).f2) from Kd.V_mk ul302_2 ge302_2)
          clear hva_ hvn_ hvc_ ge302_2 ul302_2
          have hv302_3 := hcc302 3 _ rfl
          rw [add_field _ _ 3 (by omega)] at hv302_3
          replace hv302_3 := Option.some.inj (hv302_3.symm.trans hx302_3)
          injection hv302_3 with hva_ hvn_ hvc_
          rw [hva_] at ge302_3
          rw [hvc_] at ul302_3
          have HL302_3 := Aside0.mk (show Kd.V k51 51 _ w.heap.size _ _ ((rd_T34 t298 x7_1).f3) from Kd.V_mk ul302_3 ge302_3)
          clear hva_ hvn_ hvc_ ge302_3 ul302_3
          clear hcc302 hce302
          have HR302_0 := Aside0.mk hi302_0
          have HC302_0 := Aside0.mk hl302_0
          clear hi302_0 hl302_0
          have HR302_1 := Aside0.mk hi302_1
          have HC302_1 := Aside0.mk hl302_1
          clear hi302_1 hl302_1
          have HR302_2 := Aside0.mk hi302_2
          have HC302_2 := Aside0.mk hl302_2
          clear hi302_2 hl302_2
          have HR302_3 := Aside0.mk hi302_3
          have HC302_3 := Aside0.mk hl302_3
          clear hi302_3 hl302_3
          replace p302 := eq_true p302
          replace q302 := eq_true q302
          have ea_ := Option.some.inj (hx301_0.symm.trans hx302_0)
          injection ea_ with ea_ en_ ec_
          subst ea_
          subst ec_
          clear en_
          have ea_ := Option.some.inj (hx301_1.symm.trans hx302_1)
          injection ea_ with ea_ en_ ec_
          subst ea_
          subst ec_
          clear en_
          have ea_ := Option.some.inj (hx301_2.symm.trans hx302_2)
          injection ea_ with ea_ en_ ec_
          subst ea_
          subst ec_
          clear en_
          have ea_ := Option.some.inj (hx301_3.symm.trans hx302_3)
          injection ea_ with ea_ en_ ec_
          subst ea_
          subst ec_
          clear en_
          have p303 : 0 ≤ (x7_1 : Int) := of_decide_eq_true (by first | (with_reducible assumption) | assumption)
          have q303 : x7_1 < (t298.length : Int) := of_decide_eq_true (by first | (with_reducible assumption) | assumption)
          obtain ⟨ad303, A303_0, c303_0, A303_1, c303_1, A303_2, c303_2, A303_3, c303_3, e303, hx303_0, hx303_1, hx303_2, hx303_3, hl303_0, hi303_0, hl303_1, hi303_1, hl303_2, hi303_2, hl303_3, hi303_3⟩ := at_T34 (Kd.V_reads' HO_4.out).2.2 x7_1 p303 q303
          obtain rfl : ad301 = ad303 := (by injection e303)
          obtain ⟨ce303, hce303, hMe303, hcc303⟩ := Kd.V_get HO_4.out z34 x7_1 p303 (by first | exact q303 | exact of_decide_eq_true (by first | (with_reducible assumption) | assumption) | (have e_ := (Kd.V_reads' HO_4.out).1; omega))
          obtain ⟨ua303_0, uc303_0, ua303_1, uc303_1, ua303_2, uc303_2, ua303_3, uc303_3, rfl, ul303_0, ge303_0, ul303_1, ge303_1, ul303_2, ge303_2, ul303_3, ge303_3⟩ := k34_openF hMe303
          have hv303_0 := hcc303 0 _ rfl
          rw [Nat.add_zero] at hv303_0
          replace hv303_0 := Option.some.inj (hv303_0.symm.trans hx303_0)
          injection hv303_0 with hva_ hvn_ hvc_
          rw [hva_] at ge303_0
          rw [hvc_] at ul303_0
          have HL303_0 := Aside0.mk (show Kd.V k38 38 _ w.heap.size _ _ ((rd_T34 t298 x7_1).f0) from Kd.V_mk ul303_0 ge303_0)
          clear hva_ hvn_ hvc_ ge303_0 ul303_0
          have hv303_1 := hcc303 1 _ rfl
          rw [add_field _ _ 1 (by omega)] at hv303_1
          replace hv303_1 := Option.some.inj (hv303_1.symm.trans hx303_1)
          injection hv303_1 with hva_ hvn_ hvc_
          rw [hva_] at ge303_1
          rw [hvc_] at ul303_1
          have HL303_1 := Aside0.mk (show Kd.V k38 38 _ w.heap.size _ _ ((rd_T34 t298 x7_1).f1) from Kd.V_mk ul303_1 ge303_1)
          clear hva_ hvn_ hvc_ ge303_1 ul303_1
          have hv303_2 := hcc303 2 _ rfl
          rw [add_field _ _ 2 (by omega)] at hv303_2
          replace hv303_2 := Option.some.inj (hv303_2.symm.trans hx303_2)
          injection hv303_2 with hva_ hvn_ hvc_
          rw [hva_] at ge303_2
          rw [hvc_] at ul303_2
          have HL303_2 := Aside0.mk (show Kd.V k38 38 _ w.heap.size _ _ ((rd_T34 t298 x7_1).f2) from Kd.V_mk ul303_2 ge303_2)
          clear hva_ hvn_ hvc_ ge303_2 ul303_2
          have hv303_3 := hcc303 3 _ rfl
          rw [add_field _ _ 3 (by omega)] at hv303_3
          replace hv303_3 := Option.some.inj (hv303_3.symm.trans hx303_3)
          injection hv303_3 with hva_ hvn_ hvc_
          rw [hva_] at ge303_3
          rw [hvc_] at ul303_3
          have HL303_3 := Aside0.mk (show Kd.V k51 51 _ w.heap.size _ _ ((rd_T34 t298 x7_1).f3) from Kd.V_mk ul303_3 ge303_3)
          clear hva_ hvn_ hvc_ ge303_3 ul303_3
          clear hcc303 hce303
          have HR303_0 := Aside0.mk hi303_0
          have HC303_0 := Aside0.mk hl303_0
          clear hi303_0 hl303_0
          have HR303_1 := Aside0.mk hi303_1
          have HC303_1 := Aside0.mk hl303_1
          clear hi303_1 hl303_1
          have HR303_2 := Aside0.mk hi303_2
          have HC303_2 := Aside0.mk hl303_2
          clear hi303_2 hl303_2
          have HR303_3 := Aside0.mk hi303_3
          have HC303_3 := Aside0.mk hl303_3
          clear hi303_3 hl303_3
          replace p303 := eq_true p303
          replace q303 := eq_true q303
          have ea_ := Option.some.inj (hx301_0.symm.trans hx303_0)
          injection ea_ with ea_ en_ ec_
          subst ea_
          subst ec_
          clear en_
          have ea_ := Option.some.inj (hx301_1.symm.trans hx303_1)
          injection ea_ with ea_ en_ ec_
          subst ea_
          subst ec_
          clear en_
          have ea_ := Option.some.inj (hx301_2.symm.trans hx303_2)
          injection ea_ with ea_ en_ ec_
          subst ea_
          subst ec_
          clear en_
          have ea_ := Option.some.inj (hx301_3.symm.trans hx303_3)
          injection ea_ with ea_ en_ ec_
          subst ea_
          subst ec_
          clear en_
          go_wp2
          repeat (go_quiet (fail); try go_wp2)
          go_roundg k1
          case measure => have := HK1.out; omega
          case rel => exact ⟨(ji6), (ji7), (wrap64 (x7_1 + 1)), (by first | rfl | (simp; done) | (simp only [← hji6] <;> (first | rfl | simp)) | (simp [*]; done)), (by first | rfl | (simp; done) | (simp only [← hji7] <;> (first | rfl | simp)) | (simp [*]; done)), (by first | rfl | (simp; done) | (simp [*]; done)), H', ⟨by have := HK1.out; omega⟩, ⟨by (with_reducible repeat (first | apply Kd.V_alloc | apply Kd.V_drewN | apply Kd.V_drew)); exact HO_4.out⟩, ⟨by repeat (first | (with_reducible first | exact HB.out | apply below_alloc | apply pw_below_drewN | apply below_drew1) | exact HB.out)⟩⟩
        · rw [if_neg c5] at H
          exact absurd H (by simp)
      · rw [if_neg c4] at H
        have c4b0 : decide (x7_1 < (t298.length : Int)) = false := decide_eq_false c4
        clear c4
        simp only [Option.some.injEq, Prod.mk.injEq] at H
        obtain ⟨rfl, rfl⟩ := H
        obtain ⟨Ao9, co9, eo9⟩ := Kd.V_slice HO_4.out
        subst eo9
        go_wp2
        repeat (go_quiet (fail); try go_wp2)
        go_ret2
        exact ⟨by first | rfl | (simp [errW_none, errW_some] <;> rfl) | (simp [*, errW_none, errW_some] <;> rfl), by repeat (first | (with_reducible first | exact HB.out | apply below_alloc | apply pw_below_drewN | apply below_drew1) | exact HB.out)⟩
def unicodetextlaw51_TransduceReaches.f (k : Nat) (l0 : List (S34)) : Option (Bool) := (unicodetextref50_Small.f k l0).bind fun t304 => (if t304 = true then ((transduce_Reach.f l0).bind fun bt305 => ((unicodetextref51_Reach.f k l0).bind fun bt307 => (if bt305.1 = bt307.1 then (if bt305.2 = bt307.2 then ((unicodetextlaw51_alive.f k).bind fun t309 => (some t309)) else (some false)) else (some false)))) else ((unicodetextlaw51_alive.f k).bind fun t310 => (some t310)))
set_option maxHeartbeats 8000000 in
set_option maxRecDepth 100000 in
theorem unicodetextlaw51_TransduceReaches.calls (k : Nat) (A0 : Option Addr) (c0 : Nat) (l0 : List (S34)) (r : Bool) (w : World) (hr0 : Kd.C k34 w A0 l0.length l0) (hc0 : l0.length ≤ c0) (h : unicodetextlaw51_TransduceReaches.f k l0 = some r) :
    Calls Try.prog 6 #[.slice A0 l0.length c0] w fun e w' => e = .returned (.bool r) ∧ Below w.heap.size w w' := by
  have HR0 := Aside0.mk hr0
  have HC0 := Aside0.mk hc0
  clear hr0 hc0
  have HB := Aside0.mk (Below.refl w.heap.size w)
  have H : ((unicodetextref50_Small.f k l0).bind fun t304 => (if t304 = true then ((transduce_Reach.f l0).bind fun bt305 => ((unicodetextref51_Reach.f k l0).bind fun bt307 => (if bt305.1 = bt307.1 then (if bt305.2 = bt307.2 then ((unicodetextlaw51_alive.f k).bind fun t309 => (some t309)) else (some false)) else (some false)))) else ((unicodetextlaw51_alive.f k).bind fun t310 => (some t310)))) = some r := h
  clear h
  replace H := Option.bind_eq_some_iff.mp H
  obtain ⟨t304, A20, H⟩ := H
  replace H : (if t304 = true then ((transduce_Reach.f l0).bind fun bt305 => ((unicodetextref51_Reach.f k l0).bind fun bt307 => (if bt305.1 = bt307.1 then (if bt305.2 = bt307.2 then ((unicodetextlaw51_alive.f k).bind fun t309 => (some t309)) else (some false)) else (some false)))) else ((unicodetextlaw51_alive.f k).bind fun t310 => (some t310))) = some r := H
  have A2 := Aside0.mk A20
  clear A20
  by_cases c3 : t304 = true
  · subst c3
    have H1 : ((transduce_Reach.f l0).bind fun bt305 => ((unicodetextref51_Reach.f k l0).bind fun bt307 => (if bt305.1 = bt307.1 then (if bt305.2 = bt307.2 then ((unicodetextlaw51_alive.f k).bind fun t309 => (some t309)) else (some false)) else (some false)))) = some r := by rw [if_pos rfl] at H; exact H
    clear H
    have H := H1
    clear H1
    replace H := Option.bind_eq_some_iff.mp H
    obtain ⟨⟨t305, t306⟩, A40, H⟩ := H
    replace H : ((unicodetextref51_Reach.f k l0).bind fun bt307 => (if t305 = bt307.1 then (if t306 = bt307.2 then ((unicodetextlaw51_alive.f k).bind fun t309 => (some t309)) else (some false)) else (some false))) = some r := H
    have A4 := Aside0.mk A40
    clear A40
    replace H := Option.bind_eq_some_iff.mp H
    obtain ⟨⟨t307, t308⟩, A50, H⟩ := H
    replace H : (if t305 = t307 then (if t306 = t308 then ((unicodetextlaw51_alive.f k).bind fun t309 => (some t309)) else (some false)) else (some false)) = some r := H
    have A5 := Aside0.mk A50
    clear A50
    by_cases c6 : t305 = t307
    · rw [if_pos c6] at H
      have c6b0 : (t305 == t307) = true := beq_iff_eq.mpr c6
      have c6b1 : (t305 != t307) = false := bne_eq_false_iff_eq.mpr c6
      clear c6
      by_cases c7 : t306 = t308
      · rw [if_pos c7] at H
        have c7b0 : (t306 == t308) = true := beq_iff_eq.mpr c7
        have c7b1 : (t306 != t308) = false := bne_eq_false_iff_eq.mpr c7
        clear c7
        replace H := Option.bind_eq_some_iff.mp H
        obtain ⟨t309, A80, H⟩ := H
        replace H : (some t309) = some r := H
        have A8 := Aside0.mk A80
        clear A80
        obtain rfl := Option.some.inj H
        go_enter Try.func6, Try.ntmps6
        go_wp2_with (first | ((with_reducible refine gate_callee (f := 19) rfl ?_); refine goesL_ (some 8) rfl rfl Try.func19 (by kernel_rfl) rfl #[.slice A0 l0.length c0] rfl (by (try simp only [List.map_toArray, List.map_cons, List.map_nil]); first | done | rfl | (simp only [List.length_drop, List.length_take]; rfl)) ?_; (with_reducible refine (unicodetextref50_Small.calls k _ _ l0 true _ ?side1 ?side2 A2.out).mono ?_); (case side1 => repeat (first | exact HR0.out | (with_reducible refine Kd.C_alloc ?_ _) | (with_reducible refine Kd.C_drewN ?_ _) | (with_reducible refine Kd.C_drew ?_))); (case side2 => exact HC0.out); rintro e w9 ⟨rfl, hb⟩; refine ⟨_, rfl, ?_⟩; have n0_ := Aside0.mk (below_step (by repeat (first | (with_reducible first | exact HB.out | apply below_alloc | apply pw_below_drewN | apply below_drew1) | exact HB.out)) hb); clear HB; have HB := n0_; clear n0_; (try clear hb); (try clear hb2); (try clear hk); (try clear hi)) | ((with_reducible refine gate_callee (f := 20) rfl ?_); refine goesL_ (some 13) rfl rfl Try.func20 (by kernel_rfl) rfl #[.slice A0 l0.length c0] rfl (by (try simp only [List.map_toArray, List.map_cons, List.map_nil]); first | done | rfl | (simp only [List.length_drop, List.length_take]; rfl)) ?_; (with_reducible refine (transduce_Reach.calls _ _ l0 t305 t306 _ ?side1 ?side2 A4.out).mono ?_); (case side1 => repeat (first | exact (Kd.C_below HR0.out HB.out) | (with_reducible refine Kd.C_alloc ?_ _) | (with_reducible refine Kd.C_drewN ?_ _) | (with_reducible refine Kd.C_drew ?_))); (case side2 => exact HC0.out); rintro e w10 ⟨rfl, hb⟩; refine ⟨_, rfl, ?_⟩; have n0_ := Aside0.mk (below_step (by repeat (first | (with_reducible first | exact HB.out | apply below_alloc | apply pw_below_drewN | apply below_drew1) | exact HB.out)) hb); clear HB; have HB := n0_; clear n0_; (try clear hb); (try clear hb2); (try clear hk); (try clear hi)) | ((with_reducible refine gate_callee (f := 21) rfl ?_); refine goesL_ (some 18) rfl rfl Try.func21 (by kernel_rfl) rfl #[.slice A0 l0.length c0] rfl (by (try simp only [List.map_toArray, List.map_cons, List.map_nil]); first | done | rfl | (simp only [List.length_drop, List.length_take]; rfl)) ?_; (with_reducible refine (unicodetextref51_Reach.calls k _ _ l0 t307 t308 _ ?side1 ?side2 A5.out).mono ?_); (case side1 => repeat (first | exact (Kd.C_below HR0.out HB.out) | (with_reducible refine Kd.C_alloc ?_ _) | (with_reducible refine Kd.C_drewN ?_ _) | (with_reducible refine Kd.C_drew ?_))); (case side2 => exact HC0.out); rintro e w11 ⟨rfl, hb⟩; refine ⟨_, rfl, ?_⟩; have n0_ := Aside0.mk (below_step (by repeat (first | (with_reducible first | exact HB.out | apply below_alloc | apply pw_below_drewN | apply below_drew1) | exact HB.out)) hb); clear HB; have HB := n0_; clear n0_; (try clear hb); (try clear hb2); (try clear hk); (try clear hi)) | (go_at_call 12; (with_reducible refine (unicodetextlaw51_alive.calls k  t309 _ A8.out).mono ?_); rintro e w12 ⟨rfl, hb⟩; have n0_ := Aside0.mk (below_step (by repeat (first | (with_reducible first | exact HB.out | apply below_alloc | apply pw_below_drewN | apply below_drew1) | exact HB.out)) hb); clear HB; have HB := n0_; clear n0_; (try clear hb); (try clear hb2); (try clear hk); (try clear hi)))
        go_ret
        exact ⟨by first | rfl | (simp [errW_none, errW_some] <;> rfl) | (simp [*, errW_none, errW_some] <;> rfl), by repeat (first | (with_reducible first | exact HB.out | apply below_alloc | apply pw_below_drewN | apply below_drew1) | exact HB.out)⟩
      · rw [if_neg c7] at H
        have c7b0 : (t306 == t308) = false := beq_eq_false_iff_ne.mpr c7
        have c7b1 : (t306 != t308) = true := bne_iff_ne.mpr c7
        obtain rfl := Option.some.inj H
        go_enter Try.func6, Try.ntmps6
        go_wp2_with (first | ((with_reducible refine gate_callee (f := 19) rfl ?_); refine goesL_ (some 8) rfl rfl Try.func19 (by kernel_rfl) rfl #[.slice A0 l0.length c0] rfl (by (try simp only [List.map_toArray, List.map_cons, List.map_nil]); first | done | rfl | (simp only [List.length_drop, List.length_take]; rfl)) ?_; (with_reducible refine (unicodetextref50_Small.calls k _ _ l0 true _ ?side1 ?side2 A2.out).mono ?_); (case side1 => repeat (first | exact HR0.out | (with_reducible refine Kd.C_alloc ?_ _) | (with_reducible refine Kd.C_drewN ?_ _) | (with_reducible refine Kd.C_drew ?_))); (case side2 => exact HC0.out); rintro e w13 ⟨rfl, hb⟩; refine ⟨_, rfl, ?_⟩; have n0_ := Aside0.mk (below_step (by repeat (first | (with_reducible first | exact HB.out | apply below_alloc | apply pw_below_drewN | apply below_drew1) | exact HB.out)) hb); clear HB; have HB := n0_; clear n0_; (try clear hb); (try clear hb2); (try clear hk); (try clear hi)) | ((with_reducible refine gate_callee (f := 20) rfl ?_); refine goesL_ (some 13) rfl rfl Try.func20 (by kernel_rfl) rfl #[.slice A0 l0.length c0] rfl (by (try simp only [List.map_toArray, List.map_cons, List.map_nil]); first | done | rfl | (simp only [List.length_drop, List.length_take]; rfl)) ?_; (with_reducible refine (transduce_Reach.calls _ _ l0 t305 t306 _ ?side1 ?side2 A4.out).mono ?_); (case side1 => repeat (first | exact (Kd.C_below HR0.out HB.out) | (with_reducible refine Kd.C_alloc ?_ _) | (with_reducible refine Kd.C_drewN ?_ _) | (with_reducible refine Kd.C_drew ?_))); (case side2 => exact HC0.out); rintro e w14 ⟨rfl, hb⟩; refine ⟨_, rfl, ?_⟩; have n0_ := Aside0.mk (below_step (by repeat (first | (with_reducible first | exact HB.out | apply below_alloc | apply pw_below_drewN | apply below_drew1) | exact HB.out)) hb); clear HB; have HB := n0_; clear n0_; (try clear hb); (try clear hb2); (try clear hk); (try clear hi)) | ((with_reducible refine gate_callee (f := 21) rfl ?_); refine goesL_ (some 18) rfl rfl Try.func21 (by kernel_rfl) rfl #[.slice A0 l0.length c0] rfl (by (try simp only [List.map_toArray, List.map_cons, List.map_nil]); first | done | rfl | (simp only [List.length_drop, List.length_take]; rfl)) ?_; (with_reducible refine (unicodetextref51_Reach.calls k _ _ l0 t307 t308 _ ?side1 ?side2 A5.out).mono ?_); (case side1 => repeat (first | exact (Kd.C_below HR0.out HB.out) | (with_reducible refine Kd.C_alloc ?_ _) | (with_reducible refine Kd.C_drewN ?_ _) | (with_reducible refine Kd.C_drew ?_))); (case side2 => exact HC0.out); rintro e w15 ⟨rfl, hb⟩; refine ⟨_, rfl, ?_⟩; have n0_ := Aside0.mk (below_step (by repeat (first | (with_reducible first | exact HB.out | apply below_alloc | apply pw_below_drewN | apply below_drew1) | exact HB.out)) hb); clear HB; have HB := n0_; clear n0_; (try clear hb); (try clear hb2); (try clear hk); (try clear hi)))
        go_ret
        exact ⟨by first | rfl | (simp [errW_none, errW_some] <;> rfl) | (simp [*, errW_none, errW_some] <;> rfl), by repeat (first | (with_reducible first | exact HB.out | apply below_alloc | apply pw_below_drewN | apply below_drew1) | exact HB.out)⟩
    · rw [if_neg c6] at H
      have c6b0 : (t305 == t307) = false := beq_eq_false_iff_ne.mpr c6
      have c6b1 : (t305 != t307) = true := bne_iff_ne.mpr c6
      obtain rfl := Option.some.inj H
      go_enter Try.func6, Try.ntmps6
      go_wp2_with (first | ((with_reducible refine gate_callee (f := 19) rfl ?_); refine goesL_ (some 8) rfl rfl Try.func19 (by kernel_rfl) rfl #[.slice A0 l0.length c0] rfl (by (try simp only [List.map_toArray, List.map_cons, List.map_nil]); first | done | rfl | (simp only [List.length_drop, List.length_take]; rfl)) ?_; (with_reducible refine (unicodetextref50_Small.calls k _ _ l0 true _ ?side1 ?side2 A2.out).mono ?_); (case side1 => repeat (first | exact HR0.out | (with_reducible refine Kd.C_alloc ?_ _) | (with_reducible refine Kd.C_drewN ?_ _) | (with_reducible refine Kd.C_drew ?_))); (case side2 => exact HC0.out); rintro e w16 ⟨rfl, hb⟩; refine ⟨_, rfl, ?_⟩; have n0_ := Aside0.mk (below_step (by repeat (first | (with_reducible first | exact HB.out | apply below_alloc | apply pw_below_drewN | apply below_drew1) | exact HB.out)) hb); clear HB; have HB := n0_; clear n0_; (try clear hb); (try clear hb2); (try clear hk); (try clear hi)) | ((with_reducible refine gate_callee (f := 20) rfl ?_); refine goesL_ (some 13) rfl rfl Try.func20 (by kernel_rfl) rfl #[.slice A0 l0.length c0] rfl (by (try simp only [List.map_toArray, List.map_cons, List.map_nil]); first | done | rfl | (simp only [List.length_drop, List.length_take]; rfl)) ?_; (with_reducible refine (transduce_Reach.calls _ _ l0 t305 t306 _ ?side1 ?side2 A4.out).mono ?_); (case side1 => repeat (first | exact (Kd.C_below HR0.out HB.out) | (with_reducible refine Kd.C_alloc ?_ _) | (with_reducible refine Kd.C_drewN ?_ _) | (with_reducible refine Kd.C_drew ?_))); (case side2 => exact HC0.out); rintro e w17 ⟨rfl, hb⟩; refine ⟨_, rfl, ?_⟩; have n0_ := Aside0.mk (below_step (by repeat (first | (with_reducible first | exact HB.out | apply below_alloc | apply pw_below_drewN | apply below_drew1) | exact HB.out)) hb); clear HB; have HB := n0_; clear n0_; (try clear hb); (try clear hb2); (try clear hk); (try clear hi)) | ((with_reducible refine gate_callee (f := 21) rfl ?_); refine goesL_ (some 18) rfl rfl Try.func21 (by kernel_rfl) rfl #[.slice A0 l0.length c0] rfl (by (try simp only [List.map_toArray, List.map_cons, List.map_nil]); first | done | rfl | (simp only [List.length_drop, List.length_take]; rfl)) ?_; (with_reducible refine (unicodetextref51_Reach.calls k _ _ l0 t307 t308 _ ?side1 ?side2 A5.out).mono ?_); (case side1 => repeat (first | exact (Kd.C_below HR0.out HB.out) | (with_reducible refine Kd.C_alloc ?_ _) | (with_reducible refine Kd.C_drewN ?_ _) | (with_reducible refine Kd.C_drew ?_))); (case side2 => exact HC0.out); rintro e w18 ⟨rfl, hb⟩; refine ⟨_, rfl, ?_⟩; have n0_ := Aside0.mk (below_step (by repeat (first | (with_reducible first | exact HB.out | apply below_alloc | apply pw_below_drewN | apply below_drew1) | exact HB.out)) hb); clear HB; have HB := n0_; clear n0_; (try clear hb); (try clear hb2); (try clear hk); (try clear hi)))
      go_ret
      exact ⟨by first | rfl | (simp [errW_none, errW_some] <;> rfl) | (simp [*, errW_none, errW_some] <;> rfl), by repeat (first | (with_reducible first | exact HB.out | apply below_alloc | apply pw_below_drewN | apply below_drew1) | exact HB.out)⟩
  · replace c3 := Bool.eq_false_iff.mpr c3
    subst c3
    have H1 : ((unicodetextlaw51_alive.f k).bind fun t310 => (some t310)) = some r := by rw [if_neg (show ¬ (false = true) by decide)] at H; exact H
    clear H
    have H := H1
    clear H1
    replace H := Option.bind_eq_some_iff.mp H
    obtain ⟨t310, A190, H⟩ := H
    replace H : (some t310) = some r := H
    have A19 := Aside0.mk A190
    clear A190
    obtain rfl := Option.some.inj H
    go_enter Try.func6, Try.ntmps6
    go_wp2_with (first | ((with_reducible refine gate_callee (f := 19) rfl ?_); refine goesL_ (some 8) rfl rfl Try.func19 (by kernel_rfl) rfl #[.slice A0 l0.length c0] rfl (by (try simp only [List.map_toArray, List.map_cons, List.map_nil]); first | done | rfl | (simp only [List.length_drop, List.length_take]; rfl)) ?_; (with_reducible refine (unicodetextref50_Small.calls k _ _ l0 false _ ?side1 ?side2 A2.out).mono ?_); (case side1 => repeat (first | exact HR0.out | (with_reducible refine Kd.C_alloc ?_ _) | (with_reducible refine Kd.C_drewN ?_ _) | (with_reducible refine Kd.C_drew ?_))); (case side2 => exact HC0.out); rintro e w20 ⟨rfl, hb⟩; refine ⟨_, rfl, ?_⟩; have n0_ := Aside0.mk (below_step (by repeat (first | (with_reducible first | exact HB.out | apply below_alloc | apply pw_below_drewN | apply below_drew1) | exact HB.out)) hb); clear HB; have HB := n0_; clear n0_; (try clear hb); (try clear hb2); (try clear hk); (try clear hi)) | ((with_reducible refine gate_callee (f := 12) rfl ?_); refine goesL_ (some 10) rfl rfl Try.func12 (by kernel_rfl) rfl #[] rfl (by (try simp only [List.map_toArray, List.map_cons, List.map_nil]); first | done | rfl | (simp only [List.length_drop, List.length_take]; rfl)) ?_; (with_reducible refine (unicodetextlaw51_alive.calls k  t310 _ A19.out).mono ?_); rintro e w21 ⟨rfl, hb⟩; refine ⟨_, rfl, ?_⟩; have n0_ := Aside0.mk (below_step (by repeat (first | (with_reducible first | exact HB.out | apply below_alloc | apply pw_below_drewN | apply below_drew1) | exact HB.out)) hb); clear HB; have HB := n0_; clear n0_; (try clear hb); (try clear hb2); (try clear hk); (try clear hi)))
    go_ret
    exact ⟨by first | rfl | (simp [errW_none, errW_some] <;> rfl) | (simp [*, errW_none, errW_some] <;> rfl), by repeat (first | (with_reducible first | exact HB.out | apply below_alloc | apply pw_below_drewN | apply below_drew1) | exact HB.out)⟩
end Go.Proofs.Ytnhagghhficdpaa.Q
end
section
namespace Go.Proofs.Ytnhagghhficdpaa.Q
open Go.RowKit Go.Proofs.YtnhagghhficdpaaW.PrintWords Go.Proofs.YtnhagghhficdpaaW.PrintLast Go.Proofs.YtnhagghhficdpaaW.PrintMore
set_option linter.unusedVariables false
def plFewS (l : List St) : Prop := l.length ≤ 10 ∧ ∀ s ∈ l, s.f0.length ≤ 12
def plFewU (x : Ru) : Prop := plFewS x.f0 ∧ plFewS x.f1 ∧ plFewS x.f2 ∧ x.f3.length ≤ 20
def plFewL (l : List Ru) : Prop := l.length ≤ 6 ∧ ∀ x ∈ l, plFewU x
theorem plRdP_mid (pre : List Pc) (x : Pc) (rest : List Pc) : rd_T51 (pre ++ x :: rest) (pre.length : Int) = x := by
  unfold rd_T51
  rw [Int.toNat_natCast, List.getD_eq_getElem?_getD, List.getElem?_append_right (Nat.le_refl _), Nat.sub_self]
  rfl
theorem plSame_go : ∀ (xs ys px py : List Rg) (k : Nat), px.length = py.length → xs.length = ys.length → (px ++ xs).length < 1000000000 → xs.length + 1 ≤ k →
    unicodetextref02_Same.l0 k (px.length : Int) (px ++ xs) (py ++ ys) = some (decide (xs.map toP = ys.map toP))
  | [], [], px, py, k, h1, h2, h3, h4 => by
    obtain ⟨k, rfl⟩ : ∃ j, k = j + 1 := ⟨k - 1, by omega⟩
    rw [unicodetextref02_Same.l0, if_neg (by simp)]
    rfl
  | x :: xs, y :: ys, px, py, k, h1, h2, h3, h4 => by
    obtain ⟨k, rfl⟩ : ∃ j, k = j + 1 := ⟨k - 1, by omega⟩
    have hp : px.length < 1000000000 := by simp at h3; omega
    have ih := plSame_go xs ys (px ++ [x]) (py ++ [y]) k (by simp [h1]) (by simpa using h2) (by simpa using h3) (by simp at h4; omega)
    have ex : (px ++ [x]) ++ xs = px ++ x :: xs := by simp
    have ey : (py ++ [y]) ++ ys = py ++ y :: ys := by simp
    have el : ((px ++ [x]).length : Int) = ((px.length + 1 : Nat) : Int) := by simp
    rw [ex, ey, el] at ih
    have e1 : rd_T59 (py ++ y :: ys) (px.length : Int) = y := by rw [h1]; exact rdG_mid _ _ _
    rw [unicodetextref02_Same.l0, if_pos (by simp; omega), if_pos (by omega), if_pos (by simp at h2 ⊢; omega), rdG_mid, e1, wrap_suc hp]
    rw [ih]
    by_cases ha : x.f0 = y.f0
    · by_cases hb : x.f1 = y.f1
      · rw [if_neg (by simp [ha, hb])]
        simp [toP, ha, hb]
      · rw [if_pos (by simp [hb])]
        simp [toP, hb]
    · rw [if_pos (by simp [ha])]
      simp [toP, ha]
  | [], _ :: _, _, _, _, _, h2, _, _ => by simp at h2
  | _ :: _, [], _, _, _, _, h2, _, _ => by simp at h2
theorem plComb_make (l : List Rg) : combS l [] 1 = CpM.make (l.map toP) := by
  rw [← CpM.rmake_eq]
  unfold combS CpM.rmake cutsAB
  congr 1
  funext c
  unfold keepAB keepsB CpM.hasB
  simp
theorem plValid_ok (s : St) (k : Nat) (h : s.f0.length ≤ 1000) (hk : s.f0.length + 1 ≤ k) : unicodetextref02_Valid.f k s.f0 = some (validS s) := by
  have hm : unicodetextref02_Make.f s.f0 = some (mkRS s.f0) := by
    unfold unicodetextref02_Make.f unicodetextref02_combine.f
    rw [if_pos (by simp; omega), plComb_make]
    rfl
  unfold unicodetextref02_Valid.f
  rw [hm]
  show (unicodetextref02_Same.f k s.f0 (mkRS s.f0)).bind _ = _
  unfold unicodetextref02_Same.f validS
  have e : (mkRS s.f0).map toP = CpM.make (s.f0.map toP) := toP_ofP _
  by_cases hl : s.f0.length = (mkRS s.f0).length
  · rw [if_pos (by omega)]
    have := plSame_go s.f0 (mkRS s.f0) [] [] k rfl hl (by simp; omega) hk
    rw [List.nil_append, List.nil_append, e] at this
    rw [show ((0 : Int)) = (([] : List Rg).length : Int) from rfl, this]
    rfl
  · rw [if_neg (by omega), decide_eq_false]
    · rfl
    · intro hh
      rw [← e] at hh
      exact hl (by simpa using congrArg List.length hh)
def plBad (s : St) : Bool := !validS s || decide (s.f0.length = 0)
theorem plRight_go : ∀ (rest pre : List St) (k : Nat), (∀ s ∈ rest, s.f0.length ≤ 12) → (pre ++ rest).length < 1000000000 → rest.length + 15 ≤ k →
    unicodetextref50_right.l0 k (pre ++ rest) (pre.length : Int) = some (!(rest.any plBad))
  | [], pre, k, h0, h1, h2 => by
    obtain ⟨k, rfl⟩ : ∃ j, k = j + 1 := ⟨k - 1, by omega⟩
    rw [unicodetextref50_right.l0, if_neg (by simp)]
    rfl
  | s :: rest, pre, k, h0, h1, h2 => by
    obtain ⟨k, rfl⟩ : ∃ j, k = j + 1 := ⟨k - 1, by omega⟩
    have hp : pre.length < 1000000000 := by simp at h1; omega
    have ih := plRight_go rest (pre ++ [s]) k (fun y hy => h0 y (List.mem_cons_of_mem _ hy)) (by simpa using h1) (by simp at h2; omega)
    have ex : (pre ++ [s]) ++ rest = pre ++ s :: rest := by simp
    have el : ((pre ++ [s]).length : Int) = ((pre.length + 1 : Nat) : Int) := by simp
    rw [ex, el] at ih
    have hs := h0 s List.mem_cons_self
    rw [unicodetextref50_right.l0, if_pos (by simp; omega), if_pos (by omega), rdS_mid, wrap_suc hp, ih, plValid_ok s k (by omega) (by simp at h2; omega), List.any_cons]
    show (if validS s = true then _ else _) = _
    unfold plBad
    cases hv : validS s with
    | false => rfl
    | true =>
      rw [if_pos rfl]
      by_cases hl : s.f0.length = 0
      · rw [if_pos (by omega), decide_eq_true hl]; rfl
      · rw [if_neg (by omega), decide_eq_false hl]; rfl
theorem plRight_ok (l : List St) (k : Nat) (h : plFewS l) (hk : 30 ≤ k) : unicodetextref50_right.f k l = some (!(l.any plBad)) :=
  plRight_go l [] k h.2 (by have := h.1; simp; omega) (by have := h.1; omega)
theorem plPieces_go (m0 m1 m2 : List St) (hm : m1.length < 1000000000) : ∀ (rest pre : List Pc) (k : Nat), (pre ++ rest).length < 1000000000 → rest.length + 1 ≤ k →
    unicodetextref50_one.l0 k (pre.length : Int) m0 m1 m2 (pre ++ rest) = some (if rest.any (pieceBad m1.length) then 1 else 0)
  | [], pre, k, h1, h2 => by
    obtain ⟨k, rfl⟩ : ∃ j, k = j + 1 := ⟨k - 1, by omega⟩
    rw [unicodetextref50_one.l0, if_neg (by simp)]
    rfl
  | p :: rest, pre, k, h1, h2 => by
    obtain ⟨k, rfl⟩ : ∃ j, k = j + 1 := ⟨k - 1, by omega⟩
    have hp : pre.length < 1000000000 := by simp at h1; omega
    have ih := plPieces_go m0 m1 m2 hm rest (pre ++ [p]) k (by simpa using h1) (by simp at h2; omega)
    have ex : (pre ++ [p]) ++ rest = pre ++ p :: rest := by simp
    have el : ((pre ++ [p]).length : Int) = ((pre.length + 1 : Nat) : Int) := by simp
    rw [ex, el] at ih
    rw [unicodetextref50_one.l0, if_pos (by simp; omega), if_pos (by omega), plRdP_mid, wrap_suc hp, ih, List.any_cons, valid_eq]
    generalize (rest.any (pieceBad m1.length)) = b
    have hd : ∀ P : Prop, [Decidable P] → (decide P = true) = P := fun P _ => by simp
    unfold pieceBad
    simp only [Option.bind_some, hd]
    by_cases h1 : p.f1 = 0
    · rw [if_pos h1]
      by_cases h0 : 0 ≤ p.f0 ∧ p.f0 ≤ 1114111
      · have e : (!((decide (p.f0 = 0) && (decide (1 ≤ p.f1) && decide (p.f1 ≤ (m1.length : Int)))) || (decide (p.f1 = 0) && (decide (0 ≤ p.f0) && decide (p.f0 ≤ 1114111))))) = false := by
          simp only [Bool.not_eq_false', Bool.or_eq_true, Bool.and_eq_true, decide_eq_true_eq]; right; exact ⟨h1, h0⟩
        rw [e, Bool.false_or]
        by_cases h00 : p.f0 = 0
        · rw [if_pos h00, if_neg (by omega), if_pos h0]
        · rw [if_neg h00, if_pos h0]
      · have e : (!((decide (p.f0 = 0) && (decide (1 ≤ p.f1) && decide (p.f1 ≤ (m1.length : Int)))) || (decide (p.f1 = 0) && (decide (0 ≤ p.f0) && decide (p.f0 ≤ 1114111))))) = true := by
          simp only [Bool.not_eq_true', Bool.or_eq_false_iff, Bool.and_eq_false_iff, decide_eq_false_iff_not]; omega
        rw [e, Bool.true_or, if_neg (by omega), if_neg h0]
        rfl
    · rw [if_neg h1]
      by_cases h00 : p.f0 = 0
      · rw [if_pos h00]
        by_cases h3 : p.f1 ≥ 1
        · rw [if_pos h3]
          by_cases h4 : p.f1 ≤ (m1.length : Int)
          · have e : (!((decide (p.f0 = 0) && (decide (1 ≤ p.f1) && decide (p.f1 ≤ (m1.length : Int)))) || (decide (p.f1 = 0) && (decide (0 ≤ p.f0) && decide (p.f0 ≤ 1114111))))) = false := by
              simp only [Bool.not_eq_false', Bool.or_eq_true, Bool.and_eq_true, decide_eq_true_eq]; left; exact ⟨h00, h3, h4⟩
            rw [e, Bool.false_or, if_pos h4]
          · have e : (!((decide (p.f0 = 0) && (decide (1 ≤ p.f1) && decide (p.f1 ≤ (m1.length : Int)))) || (decide (p.f1 = 0) && (decide (0 ≤ p.f0) && decide (p.f0 ≤ 1114111))))) = true := by
              simp only [Bool.not_eq_true', Bool.or_eq_false_iff, Bool.and_eq_false_iff, decide_eq_false_iff_not]; omega
            rw [e, Bool.true_or, if_neg h4]
            rfl
        · have e : (!((decide (p.f0 = 0) && (decide (1 ≤ p.f1) && decide (p.f1 ≤ (m1.length : Int)))) || (decide (p.f1 = 0) && (decide (0 ≤ p.f0) && decide (p.f0 ≤ 1114111))))) = true := by
            simp only [Bool.not_eq_true', Bool.or_eq_false_iff, Bool.and_eq_false_iff, decide_eq_false_iff_not]; omega
          rw [e, Bool.true_or, if_neg h3]
          rfl
      · have e : (!((decide (p.f0 = 0) && (decide (1 ≤ p.f1) && decide (p.f1 ≤ (m1.length : Int)))) || (decide (p.f1 = 0) && (decide (0 ≤ p.f0) && decide (p.f0 ≤ 1114111))))) = true := by
          simp only [Bool.not_eq_true', Bool.or_eq_false_iff, Bool.and_eq_false_iff, decide_eq_false_iff_not]; omega
        rw [e, Bool.true_or, if_neg h00]
        rfl
theorem plOne_ok (x : Ru) (k : Nat) (h : plFewU x) (hk : 33 ≤ k) : unicodetextref50_one.f k x.f0 x.f1 x.f2 x.f3 = some (oneS x) := by
  obtain ⟨h0, h1, h2, h3⟩ := h
  obtain ⟨k, rfl⟩ : ∃ j, k = j + 2 := ⟨k - 2, by omega⟩
  have hr0 := plRight_ok x.f0 (k + 1) h0 (by omega)
  have hr1 := plRight_ok x.f1 (k + 1) h1 (by omega)
  have hr2 := plRight_ok x.f2 (k + 1) h2 (by omega)
  have hp := plPieces_go x.f0 x.f1 x.f2 (by have := h1.1; omega) x.f3 [] k (by simp; omega) (by omega)
  have hj1 : ∀ b, unicodetextref50_one.j1 (k + 1) b x.f0 x.f1 x.f2 x.f3 = some (if b = true then 11 else if x.f3.any (pieceBad x.f1.length) then 1 else 0) := by
    intro b
    rw [unicodetextref50_one.j1]
    cases b with
    | true => rfl
    | false => rw [if_neg (by decide), if_neg (by decide)]; exact hp
  have hfin : unicodetextref50_one.j0 (k + 2) false x.f0 x.f1 x.f2 x.f3 = some (if (x.f0 ++ x.f1 ++ x.f2).any plBad then 11 else if x.f3.any (pieceBad x.f1.length) then 1 else 0) := by
    rw [unicodetextref50_one.j0, if_neg (by decide), hr0, hr1, hr2]
    simp only [Option.bind_some, hj1, List.any_append]
    cases x.f0.any plBad <;> cases x.f1.any plBad <;> cases x.f2.any plBad <;> rfl
  unfold unicodetextref50_one.f oneS
  have ht : unicodetextref50_one.j0 (k + 2) true x.f0 x.f1 x.f2 x.f3 = some 2 := by rw [unicodetextref50_one.j0, if_pos rfl]
  rw [ht]
  by_cases c1 : x.f1.length < 1
  · rw [if_pos (by omega), if_pos (by omega)]
  · rw [if_neg (by omega)]
    by_cases c2 : 8 < x.f1.length
    · rw [if_pos (by omega), if_pos (by omega)]
    · rw [if_neg (by omega)]
      by_cases c3 : 8 < x.f0.length
      · rw [if_pos (by omega), if_pos (by omega)]
      · rw [if_neg (by omega)]
        by_cases c4 : 8 < x.f2.length
        · rw [if_pos (by omega), if_pos (by omega)]
        · rw [if_neg (by omega)]
          by_cases c5 : 16 < x.f3.length
          · rw [decide_eq_true (by omega), ht, if_pos (by omega)]
          · rw [decide_eq_false (by omega), hfin, if_neg (show ¬ (x.f1.length < 1 ∨ 8 < x.f1.length ∨ 8 < x.f0.length ∨ 8 < x.f2.length ∨ 16 < x.f3.length) by omega)]
            rfl
theorem plCheck_go : ∀ (rest pre : List Ru) (k : Nat), (∀ x ∈ rest, plFewU x) → (pre ++ rest).length < 1000000000 → rest.length + 34 ≤ k →
    unicodetextref50_Check.l0 k (pre ++ rest) (pre.length : Int) = some (firstErr rest)
  | [], pre, k, h0, h1, h2 => by
    obtain ⟨k, rfl⟩ : ∃ j, k = j + 1 := ⟨k - 1, by omega⟩
    rw [unicodetextref50_Check.l0, if_neg (by simp)]
    rfl
  | x :: rest, pre, k, h0, h1, h2 => by
    obtain ⟨k, rfl⟩ : ∃ j, k = j + 1 := ⟨k - 1, by omega⟩
    have hp : pre.length < 1000000000 := by simp at h1; omega
    have ih := plCheck_go rest (pre ++ [x]) k (fun y hy => h0 y (List.mem_cons_of_mem _ hy)) (by simpa using h1) (by simp at h2; omega)
    have ex : (pre ++ [x]) ++ rest = pre ++ x :: rest := by simp
    have el : ((pre ++ [x]).length : Int) = ((pre.length + 1 : Nat) : Int) := by simp
    rw [ex, el] at ih
    rw [unicodetextref50_Check.l0, if_pos (by simp; omega), if_pos (by omega), rdU_mid, wrap_suc hp, plOne_ok x k (h0 x List.mem_cons_self) (by simp at h2; omega)]
    show (if oneS x = 0 then _ else _) = _
    rw [ih, firstErr]
    split <;> rfl
theorem plData_ok (l : List Ru) (k : Nat) (h : plFewL l) (hk : 42 ≤ k) : unicodetextref51_Data.f k l = some (dataS l) := by
  have hl := h.1
  have hc : unicodetextref50_Check.f k l = some (checkS l) := by
    unfold unicodetextref50_Check.f checkS
    rw [if_neg (by omega), if_neg (by omega)]
    exact plCheck_go l [] k h.2 (by simp; omega) (by omega)
  unfold unicodetextref51_Data.f dataS
  rw [hc]
  show (if checkS l = 0 then _ else _) = _
  split <;> rfl
theorem plData_few (l : List Ru) (h : plFewL l) : plFewL (dataS l) := by
  unfold dataS
  split
  · exact h
  · exact ⟨Nat.zero_le _, fun x hx => by cases hx⟩
end Go.Proofs.Ytnhagghhficdpaa.Q
end
section
namespace Go.Proofs.Ytnhagghhficdpaa.Q
open Go.RowKit Go.Proofs.YtnhagghhficdpaaW.PrintWords Go.Proofs.YtnhagghhficdpaaW.PrintLast Go.Proofs.YtnhagghhficdpaaW.PrintMore
attribute [local go_sem] max2_int min2_int max_two min_two max_three min_three max_four min_four   -- for this text's walks alone
set_option linter.unusedVariables false
set_option linter.unusedSimpArgs false
mutual
def unicodetextref51_inside.j0 : Nat → List (S38) → List Int → Int → Bool → Option (Bool)
  | 0, _, _, _, _ => none
  | k + 1, x0, x1, x2, x18 => if x18 = true then (some false) else (unicodetextref51_inside.l0 k x0 x1 x2 0)
def unicodetextref51_inside.l0 : Nat → List (S38) → List Int → Int → Int → Option (Bool)
  | 0, _, _, _, _ => none
  | k + 1, x0, x1, x2, x7 => if x7 < (x0.length : Int) then (if 0 ≤ x7 then (if 0 ≤ (wrap64 (x2 + x7)) then (if (wrap64 (x2 + x7)) < (x1.length : Int) then ((unicodetextref02_Has.f k ((rd_T38 x0 x7).f0) (rd x1 (wrap64 (x2 + x7)))).bind fun t229 => (if t229 = true then (unicodetextref51_inside.l0 k x0 x1 x2 (wrap64 (x7 + 1))) else (some false))) else (none)) else (none)) else (none)) else (some true)
end
def unicodetextref51_inside.f (k : Nat) (l0 : List (S38)) (l1 : List Int) (a2 : Int) : Option (Bool) := if a2 < 0 then (unicodetextref51_inside.j0 k l0 l1 a2 true) else (unicodetextref51_inside.j0 k l0 l1 a2 (decide ((wrap64 (a2 + (l0.length : Int))) > (l1.length : Int))))
def unicodetextref51_inside.T6 : Bool × List (List Nat × List Nat) := (true, [([], []), ([], []), ([0, 1], [0, 1]), ([2], [2]), ([], []), ([], []), ([], []), ([5, 6], [5, 6]), ([4, 7], [4, 7]), ([8], [8]), ([3, 9], [3, 9]), ([10], [10])])
def unicodetextref51_inside.B6 : List Nat := [0, 0, 3, 7, 0, 0, 0, 96, 240, 496, 1023, 2047]
end Go.Proofs.Ytnhagghhficdpaa.Q
end
section
namespace Go.Proofs.Ytnhagghhficdpaa.Q
open Go.RowKit Go.Proofs.YtnhagghhficdpaaW.PrintWords Go.Proofs.YtnhagghhficdpaaW.PrintLast Go.Proofs.YtnhagghhficdpaaW.PrintMore
attribute [local go_sem] max2_int min2_int max_two min_two max_three min_three max_four min_four   -- for this text's walks alone
set_option linter.unusedVariables false
set_option linter.unusedSimpArgs false
def unicodetextref51_applies.f (k : Nat) (l0_0 : List (S38)) (l0_1 : List (S38)) (l0_2 : List (S38)) (l0_3 : List (S51)) (l1 : List Int) (a2 : Int) : Option (Bool) := (unicodetextref51_inside.f k l0_1 l1 a2).bind fun t231 => (if t231 = true then ((unicodetextref51_inside.f k l0_2 l1 (wrap64 (a2 + (l0_1.length : Int)))).bind fun t232 => (if t232 = true then ((unicodetextref51_inside.f k l0_0 l1 (wrap64 (a2 - (l0_0.length : Int)))).bind fun t233 => (some t233)) else (some false))) else (some false))
mutual
def unicodetextref51_step.j0 : Nat → List (S34) → List Int → Int → Bool → Option (Int × Int)
  | 0, _, _, _, _ => none
  | k + 1, x0, x1, x2, x16 => if x16 = true then (some ((-1), 0)) else (unicodetextref51_step.l0 k x0 x1 x2 0)
def unicodetextref51_step.l0 : Nat → List (S34) → List Int → Int → Int → Option (Int × Int)
  | 0, _, _, _, _ => none
  | k + 1, x0, x1, x2, x8 => if x8 < (x0.length : Int) then (if 0 ≤ x8 then ((unicodetextref51_applies.f k ((rd_T34 x0 x8).f0) ((rd_T34 x0 x8).f1) ((rd_T34 x0 x8).f2) ((rd_T34 x0 x8).f3) x1 x2).bind fun t235 => (if t235 = true then (some (x8, (((rd_T34 x0 x8).f1).length : Int))) else (unicodetextref51_step.l0 k x0 x1 x2 (wrap64 (x8 + 1))))) else (none)) else (some ((-1), 1))
end
def unicodetextref51_step.f (k : Nat) (l0 : List (S34)) (l1 : List Int) (a2 : Int) : Option (Int × Int) := if a2 < 0 then (unicodetextref51_step.j0 k l0 l1 a2 true) else (unicodetextref51_step.j0 k l0 l1 a2 (decide (a2 ≥ (l1.length : Int))))
def unicodetextref51_Step.f (k : Nat) (l0 : List (S34)) (l1 : List Int) (a2 : Int) : Option (Int × Int) := (unicodetextref51_Data.f k l0).bind fun t237 => ((unicodetextref51_step.f k t237 l1 a2).bind fun bt240 => (some (bt240.1, bt240.2)))
end Go.Proofs.Ytnhagghhficdpaa.Q
end
section
namespace Go.Proofs.Ytnhagghhficdpaa.Q
open Go.RowKit Go.Proofs.YtnhagghhficdpaaW.PrintWords Go.Proofs.YtnhagghhficdpaaW.PrintLast Go.Proofs.YtnhagghhficdpaaW.PrintMore
set_option linter.unusedVariables false
theorem plSets_go : ∀ (d : Nat) (rest pre : List St) (k : Nat), pre.length + d = 20 → 2 * d + 2 ≤ k →
    ∃ b, unicodetextref50_sets.l0 k (pre ++ rest) (pre.length : Int) = some b ∧ (b = true → (pre ++ rest).length ≤ 10 ∧ ∀ s ∈ rest, s.f0.length ≤ 12)
  | d, [], pre, k, h1, h2 => by
    obtain ⟨k, rfl⟩ : ∃ j, k = j + 2 := ⟨k - 2, by omega⟩
    rw [unicodetextref50_sets.l0, if_neg (by simp), unicodetextref50_sets.j1, if_neg (by decide)]
    refine ⟨_, rfl, fun h => ⟨?_, fun s hs => by cases hs⟩⟩
    have := of_decide_eq_true h
    omega
  | 0, s :: rest, pre, k, h1, h2 => by
    obtain ⟨k, rfl⟩ : ∃ j, k = j + 2 := ⟨k - 2, by omega⟩
    rw [unicodetextref50_sets.l0, if_pos (by simp; omega), decide_eq_false (by omega), unicodetextref50_sets.j1, if_neg (by decide)]
    refine ⟨_, rfl, fun h => ?_⟩
    have := of_decide_eq_true h
    simp at this
    omega
  | d + 1, s :: rest, pre, k, h1, h2 => by
    obtain ⟨k, rfl⟩ : ∃ j, k = j + 2 := ⟨k - 2, by omega⟩
    obtain ⟨b, ih, hb⟩ := plSets_go d rest (pre ++ [s]) k (by simp; omega) (by omega)
    have ex : (pre ++ [s]) ++ rest = pre ++ s :: rest := by simp
    have el : ((pre ++ [s]).length : Int) = ((pre.length + 1 : Nat) : Int) := by simp
    rw [ex, el] at ih
    rw [ex] at hb
    rw [unicodetextref50_sets.l0, if_pos (by simp; omega), decide_eq_true (by omega), unicodetextref50_sets.j1, if_pos rfl, if_pos (by omega), if_pos (by simp; omega), rdS_mid, wrap_suc (by omega : pre.length < 1000000000), ih]
    show ∃ b_, (if decide ((s.f0.length : Int) ≤ 12) = true then _ else _) = _ ∧ _
    by_cases hs : s.f0.length ≤ 12
    · rw [decide_eq_true (by omega), if_pos rfl]
      exact ⟨b, rfl, fun h => ⟨(hb h).1, fun x hx => by
        rcases List.mem_cons.1 hx with rfl | hx
        · exact hs
        · exact (hb h).2 x hx⟩⟩
    · rw [decide_eq_false (by omega), if_neg (by decide)]
      exact ⟨false, rfl, fun h => by cases h⟩
theorem plSets_ok (l : List St) (k : Nat) (hk : 42 ≤ k) : ∃ b, unicodetextref50_sets.f k l = some b ∧ (b = true → plFewS l) := plSets_go 20 l [] k rfl (by omega)
theorem plSmall_go : ∀ (d : Nat) (rest pre : List Ru) (k : Nat), pre.length + d = 10 → 2 * d + 44 ≤ k →
    ∃ b, unicodetextref50_Small.l0 k (pre ++ rest) (pre.length : Int) = some b ∧ (b = true → (pre ++ rest).length ≤ 6 ∧ ∀ s ∈ rest, plFewU s)
  | d, [], pre, k, h1, h2 => by
    obtain ⟨k, rfl⟩ : ∃ j, k = j + 2 := ⟨k - 2, by omega⟩
    rw [unicodetextref50_Small.l0, if_neg (by simp), unicodetextref50_Small.j1, if_neg (by decide)]
    refine ⟨_, rfl, fun h => ⟨?_, fun s hs => by cases hs⟩⟩
    have := of_decide_eq_true h
    omega
  | 0, s :: rest, pre, k, h1, h2 => by
    obtain ⟨k, rfl⟩ : ∃ j, k = j + 2 := ⟨k - 2, by omega⟩
    rw [unicodetextref50_Small.l0, if_pos (by simp; omega), decide_eq_false (by omega), unicodetextref50_Small.j1, if_neg (by decide)]
    refine ⟨_, rfl, fun h => ?_⟩
    have := of_decide_eq_true h
    simp at this
    omega
  | d + 1, s :: rest, pre, k, h1, h2 => by
    obtain ⟨k, rfl⟩ : ∃ j, k = j + 2 := ⟨k - 2, by omega⟩
    obtain ⟨b, ih, hb⟩ := plSmall_go d rest (pre ++ [s]) k (by simp; omega) (by omega)
    have ex : (pre ++ [s]) ++ rest = pre ++ s :: rest := by simp
    have el : ((pre ++ [s]).length : Int) = ((pre.length + 1 : Nat) : Int) := by simp
    rw [ex, el] at ih
    rw [ex] at hb
    obtain ⟨b0, e0, g0⟩ := plSets_ok s.f0 k (by omega)
    obtain ⟨b1, e1, g1⟩ := plSets_ok s.f1 k (by omega)
    obtain ⟨b2, e2, g2⟩ := plSets_ok s.f2 k (by omega)
    rw [unicodetextref50_Small.l0, if_pos (by simp; omega), decide_eq_true (by omega), unicodetextref50_Small.j1, if_pos rfl, if_pos (by omega), if_pos (by simp; omega), rdU_mid, wrap_suc (by omega : pre.length < 1000000000), ih, e0, e1, e2]
    simp only [Option.bind_some]
    cases b0 with
    | false => exact ⟨false, rfl, fun h => by cases h⟩
    | true => cases b1 with
      | false => exact ⟨false, rfl, fun h => by cases h⟩
      | true => cases b2 with
        | false => exact ⟨false, rfl, fun h => by cases h⟩
        | true =>
          simp only [if_true]
          by_cases hs : (s.f3.length : Int) > 20
          · rw [if_pos hs]
            exact ⟨false, rfl, fun h => by cases h⟩
          · rw [if_neg hs]
            exact ⟨b, rfl, fun h => ⟨(hb h).1, fun x hx => by
              rcases List.mem_cons.1 hx with rfl | hx
              · exact ⟨g0 rfl, g1 rfl, g2 rfl, by omega⟩
              · exact (hb h).2 x hx⟩⟩
theorem plSmall_ok (l : List Ru) (k : Nat) (hk : 64 ≤ k) : ∃ b, unicodetextref50_Small.f k l = some b ∧ (b = true → plFewL l) := plSmall_go 10 l [] k rfl (by omega)
theorem plOkSets {l : List St} (h : plFewS l) : l.all okSet = true := List.all_eq_true.2 fun s hs => decide_eq_true (h.2 s hs)
theorem plOkRules {l : List Ru} (h : plFewL l) : okRules l = true := by
  unfold okRules
  rw [Bool.and_eq_true, decide_eq_true_eq, List.all_eq_true]
  refine ⟨by have := h.1; omega, fun x hx => ?_⟩
  obtain ⟨h0, h1, h2, h3⟩ := h.2 x hx
  unfold okRule
  rw [plOkSets h0, plOkSets h1, plOkSets h2, decide_eq_true (by have := h0.1; omega), decide_eq_true (by have := h1.1; omega), decide_eq_true (by have := h2.1; omega), decide_eq_true (by omega)]
  rfl
theorem plCmp_go : ∀ (xs ys px py : List Int) (k : Nat), px.length = py.length → (px ++ xs).length < 1000000000 → 2 * xs.length + 2 ≤ k →
    ∃ c, unicodetextref01_Compare.l0 k (px ++ xs) (py ++ ys) (px.length : Int) = some c ∧ (c = 0 ↔ xs = ys)
  | [], [], px, py, k, h1, h2, h3 => by
    obtain ⟨k, rfl⟩ : ∃ j, k = j + 2 := ⟨k - 2, by omega⟩
    rw [unicodetextref01_Compare.l0, if_neg (by simp), unicodetextref01_Compare.j1, if_neg (by decide), if_neg (by simp [h1]), if_neg (by simp [h1])]
    exact ⟨0, rfl, by simp⟩
  | [], y :: ys, px, py, k, h1, h2, h3 => by
    obtain ⟨k, rfl⟩ : ∃ j, k = j + 2 := ⟨k - 2, by omega⟩
    rw [unicodetextref01_Compare.l0, if_neg (by simp), unicodetextref01_Compare.j1, if_neg (by decide), if_pos (by simp [h1]; omega)]
    exact ⟨-1, rfl, by simp⟩
  | x :: xs, [], px, py, k, h1, h2, h3 => by
    obtain ⟨k, rfl⟩ : ∃ j, k = j + 2 := ⟨k - 2, by omega⟩
    rw [unicodetextref01_Compare.l0, if_pos (by simp; omega), decide_eq_false (by simp [h1]), unicodetextref01_Compare.j1, if_neg (by decide), if_neg (by simp [h1]; omega), if_pos (by simp [h1]; omega)]
    exact ⟨1, rfl, by simp⟩
  | x :: xs, y :: ys, px, py, k, h1, h2, h3 => by
    obtain ⟨k, rfl⟩ : ∃ j, k = j + 2 := ⟨k - 2, by omega⟩
    have hp : px.length < 1000000000 := by simp at h2; omega
    obtain ⟨c, ih, hc⟩ := plCmp_go xs ys (px ++ [x]) (py ++ [y]) k (by simp [h1]) (by simpa using h2) (by simp at h3; omega)
    have ex : (px ++ [x]) ++ xs = px ++ x :: xs := by simp
    have ey : (py ++ [y]) ++ ys = py ++ y :: ys := by simp
    have el : ((px ++ [x]).length : Int) = ((px.length + 1 : Nat) : Int) := by simp
    rw [ex, ey, el] at ih
    have e1 : rd (py ++ y :: ys) (px.length : Int) = y := by rw [h1]; exact rd_mid _ _ _
    rw [unicodetextref01_Compare.l0, if_pos (by simp; omega), decide_eq_true (by simp [h1]; omega), unicodetextref01_Compare.j1, if_pos rfl, if_pos (by omega), if_pos (by simp; omega), if_pos (by simp [h1]; omega), rd_mid, e1, wrap_suc hp, ih]
    by_cases a : x < y
    · rw [if_pos a]
      exact ⟨-1, rfl, ⟨fun h => absurd h (by decide), fun h => by injection h with h; omega⟩⟩
    · rw [if_neg a]
      by_cases b : x > y
      · rw [if_pos b]
        exact ⟨1, rfl, ⟨fun h => absurd h (by decide), fun h => by injection h with h; omega⟩⟩
      · rw [if_neg b]
        obtain rfl : x = y := by omega
        exact ⟨c, rfl, by rw [hc]; simp⟩
theorem plEqual_ok (a b : List Int) (k : Nat) (h : a.length < 1000000000) (hk : 2 * a.length + 2 ≤ k) : unicodetextref01_Equal.f k a b = some (decide (a = b)) := by
  obtain ⟨c, e, hc⟩ := plCmp_go a b [] [] k rfl (by simpa using h) hk
  unfold unicodetextref01_Equal.f unicodetextref01_Compare.f
  refine (congrArg (fun o => Option.bind o _) e).trans ?_
  show some (c == 0) = _
  congr 1
  rw [Bool.eq_iff_iff]
  simp [hc]
def plRules : List Ru := [⟨[], [⟨[⟨97, 97⟩]⟩, ⟨[⟨98, 98⟩]⟩], [], [⟨120, 0⟩]⟩, ⟨[], [⟨[⟨97, 97⟩]⟩], [], [⟨121, 0⟩]⟩]
theorem plAlive_step : transduce_Step.f plRules [97, 97, 98] 1 = some (0, 2) := by kernel_rfl
theorem plAlive_apply : transduce_Apply.f plRules [97, 97, 98] = some [121, 120] := by kernel_rfl
theorem plAlive_ok (k : Nat) (hk : 20 ≤ k) : unicodetextlaw51_alive.f k = some true := by
  obtain ⟨k, rfl⟩ : ∃ j, k = j + 20 := ⟨k - 20, by omega⟩
  show (transduce_Step.f plRules [97, 97, 98] 1).bind (fun bt166 => (transduce_Apply.f plRules [97, 97, 98]).bind fun t171 => (unicodetextref01_Equal.f (k + 20) t171 [121, 120]).bind fun t177 => if t177 = true then (if bt166.1 = 0 then (some (bt166.2 == 2)) else (some false)) else (some false)) = some true
  rw [plAlive_step, plAlive_apply]
  simp only [Option.bind_some]
  rw [plEqual_ok _ _ _ (by decide) (by simp)]
  rfl
end Go.Proofs.Ytnhagghhficdpaa.Q
end
section
namespace Go.Proofs.Ytnhagghhficdpaa.Q
open Go.RowKit Go.Proofs.YtnhagghhficdpaaW.PrintWords Go.Proofs.YtnhagghhficdpaaW.PrintLast Go.Proofs.YtnhagghhficdpaaW.PrintMore
attribute [local go_sem] max2_int min2_int max_two min_two max_three min_three max_four min_four   -- for this text's walks alone
set_option linter.unusedVariables false
set_option linter.unusedSimpArgs false
def unicodetextlaw51_TransduceSteps.f (k : Nat) (l0 : List (S34)) (l1 : List Int) (a2 : Int) : Option (Bool) := (unicodetextlaw51_few.f k l0 l1).bind fun t242 => (if t242 = true then ((transduce_Step.f l0 l1 a2).bind fun bt243 => ((unicodetextref51_Step.f k l0 l1 a2).bind fun bt245 => (if bt243.1 = bt245.1 then (if bt243.2 = bt245.2 then ((unicodetextlaw51_alive.f k).bind fun t247 => (some t247)) else (some false)) else (some false)))) else ((unicodetextlaw51_alive.f k).bind fun t248 => (some t248)))
end Go.Proofs.Ytnhagghhficdpaa.Q
end
section
namespace Go.Proofs.Ytnhagghhficdpaa.Q
open Go.RowKit Go.Proofs.YtnhagghhficdpaaW.PrintWords Go.Proofs.YtnhagghhficdpaaW.PrintLast Go.Proofs.YtnhagghhficdpaaW.PrintMore
set_option linter.unusedVariables false
end Go.Proofs.Ytnhagghhficdpaa.Q
end
section
namespace Go.Proofs.Ytnhagghhficdpaa.Q
open Go.RowKit Go.Proofs.YtnhagghhficdpaaW.PrintWords Go.Proofs.YtnhagghhficdpaaW.PrintLast Go.Proofs.YtnhagghhficdpaaW.PrintMore
attribute [local go_sem] max2_int min2_int max_two min_two max_three min_three max_four min_four   -- for this text's walks alone
set_option linter.unusedVariables false
set_option linter.unusedSimpArgs false
mutual
def unicodetextlaw51_TransduceWindows.j0 : Nat → List (S34) → List Int → Int → Bool → Option (Bool)
  | 0, _, _, _, _ => none
  | k + 1, x0, x1, x2, x28 => if x28 = true then ((unicodetextlaw51_alive.f k).bind fun t312 => (some t312)) else ((transduce_Reach.f x0).bind fun bt313 => (if bt313.1 < 0 then (unicodetextlaw51_TransduceWindows.j1 k x0 x1 x2 bt313.1 bt313.2 true) else (if bt313.2 < 0 then (unicodetextlaw51_TransduceWindows.j1 k x0 x1 x2 bt313.1 bt313.2 true) else (if bt313.1 > 1000 then (unicodetextlaw51_TransduceWindows.j1 k x0 x1 x2 bt313.1 bt313.2 true) else (unicodetextlaw51_TransduceWindows.j1 k x0 x1 x2 bt313.1 bt313.2 (decide (bt313.2 > 1000)))))))
def unicodetextlaw51_TransduceWindows.j1 : Nat → List (S34) → List Int → Int → Int → Int → Bool → Option (Bool)
  | 0, _, _, _, _, _, _ => none
  | k + 1, x0, x1, x2, x7, x8, x48 => if x48 = true then (some false) else ((transduce_Step.f x0 x1 x2).bind fun bt315 => (if 0 ≤ (mx 0 (wrap64 (x2 - x7))) then (if (mx 0 (wrap64 (x2 - x7))) ≤ (mn (x1.length : Int) (wrap64 (x2 + (mx 1 x8)))) then (if (mn (x1.length : Int) (wrap64 (x2 + (mx 1 x8)))) ≤ (x1.length : Int) then ((transduce_Step.f x0 ((x1.take ((mn (x1.length : Int) (wrap64 (x2 + (mx 1 x8)))) : Int).toNat).drop ((mx 0 (wrap64 (x2 - x7))) : Int).toNat) (wrap64 (x2 - (mx 0 (wrap64 (x2 - x7)))))).bind fun bt318 => (if bt315.1 = bt318.1 then (if bt315.2 = bt318.2 then ((unicodetextlaw51_alive.f k).bind fun t320 => (some t320)) else (some false)) else (some false))) else (none)) else (none)) else (none)))
end
def unicodetextlaw51_TransduceWindows.f (k : Nat) (l0 : List (S34)) (l1 : List Int) (a2 : Int) : Option (Bool) := (unicodetextlaw51_few.f k l0 l1).bind fun t311 => (if t311 = true then (if a2 < 0 then (unicodetextlaw51_TransduceWindows.j0 k l0 l1 a2 true) else (unicodetextlaw51_TransduceWindows.j0 k l0 l1 a2 (decide (a2 ≥ (l1.length : Int))))) else (unicodetextlaw51_TransduceWindows.j0 k l0 l1 a2 true))
end Go.Proofs.Ytnhagghhficdpaa.Q
end
section
namespace Go.Proofs.Ytnhagghhficdpaa.Q
open Go.RowKit Go.Proofs.YtnhagghhficdpaaW.PrintWords Go.Proofs.YtnhagghhficdpaaW.PrintLast Go.Proofs.YtnhagghhficdpaaW.PrintMore
set_option linter.unusedVariables false
theorem plMx (a b : Int) : mx a b = max a b := by unfold mx; omega
theorem plReach_go : ∀ (rest pre : List Ru) (a b : Int) (k : Nat), (∀ x ∈ rest, plFewU x) → (pre ++ rest).length < 1000000000 → rest.length + 1 ≤ k →
    unicodetextref51_Reach.l0 k (pre ++ rest) a b (pre.length : Int) = some (rest.foldl (fun m x => max m (x.f0.length : Int)) a, rest.foldl (fun m x => max m ((x.f1.length : Int) + x.f2.length)) b)
  | [], pre, a, b, k, h0, h1, h2 => by
    obtain ⟨k, rfl⟩ : ∃ j, k = j + 1 := ⟨k - 1, by omega⟩
    rw [unicodetextref51_Reach.l0, if_neg (by simp)]
    rfl
  | x :: rest, pre, a, b, k, h0, h1, h2 => by
    obtain ⟨k, rfl⟩ : ∃ j, k = j + 1 := ⟨k - 1, by omega⟩
    have hp : pre.length < 1000000000 := by simp at h1; omega
    obtain ⟨g0, g1, g2, _⟩ := h0 x List.mem_cons_self
    have hw : wrap64 ((x.f1.length : Int) + (x.f2.length : Int)) = (x.f1.length : Int) + x.f2.length := by have := g1.1; have := g2.1; unfold wrap64; omega
    have ih := plReach_go rest (pre ++ [x]) (max a (x.f0.length : Int)) (max b ((x.f1.length : Int) + x.f2.length)) k (fun y hy => h0 y (List.mem_cons_of_mem _ hy)) (by simpa using h1) (by simp at h2; omega)
    have ex : (pre ++ [x]) ++ rest = pre ++ x :: rest := by simp
    have el : ((pre ++ [x]).length : Int) = ((pre.length + 1 : Nat) : Int) := by simp
    rw [ex, el] at ih
    rw [unicodetextref51_Reach.l0, if_pos (by simp; omega), if_pos (by omega), rdU_mid, wrap_suc hp, hw, plMx, plMx, ih]
    rfl
theorem plReach_ok (l : List Ru) (k : Nat) (h : plFewL l) (hk : 42 ≤ k) : unicodetextref51_Reach.f k l = some (reachS (dataS l)) := by
  have hd := plData_few l h
  unfold unicodetextref51_Reach.f
  rw [plData_ok l k h hk]
  exact plReach_go (dataS l) [] 0 0 k hd.2 (by have := hd.1; simp; omega) (by have := hd.1; omega)
theorem plReachT (l : List Ru) (h : plFewL l) : transduce_Reach.f l = some (reachS (dataS l)) := by
  unfold transduce_Reach.f
  rw [if_pos (plOkRules h)]
theorem transduceReaches_pure (l0 : List Ru) (h0 : wfL l0) : ∃ k, unicodetextlaw51_TransduceReaches.f k l0 = some true := by
  refine ⟨100, ?_⟩
  obtain ⟨b, e, hb⟩ := plSmall_ok l0 100 (by decide)
  unfold unicodetextlaw51_TransduceReaches.f
  rw [e, plAlive_ok 100 (by decide)]
  cases b with
  | false => rfl
  | true =>
    have hl := hb rfl
    simp only [Option.bind_some, if_true]
    rw [plReachT l0 hl, plReach_ok l0 100 hl (by decide)]
    simp
end Go.Proofs.Ytnhagghhficdpaa.Q
end
