/- Lemmas, printed and written for this claim: part 10. -/
import Derived.Test.YthnkmcfhpjmihaaG2
import Derived.WalkKit
import Derived.Test.YthnkmcfhpjmihaaG4
import Derived.Test.YthnkmcfhpjmihaaG9
import Derived.Test.YthnkmcfhpjmihaaG3
import Derived.Test.YthnkmcfhpjmihaaG7
import Derived.Test.YthnkmcfhpjmihaaG6
import Derived.Test.YthnkmcfhpjmihaaG8
import Derived.Test.YthnkmcfhpjmihaaG5
section
namespace Go.Proofs.Ythnkmcfhpjmihaa.Q
open Go.RowKit Go.Proofs.YthnkmcfhpjmihaaW.PrintWords Go.Proofs.YthnkmcfhpjmihaaW.PrintLast Go.Proofs.YthnkmcfhpjmihaaW.PrintMore
attribute [local go_sem] max2_int min2_int max_two min_two max_three min_three max_four min_four   -- for this text's walks alone
set_option linter.unusedVariables false
set_option linter.unusedSimpArgs false
mutual
def unicodetextref11_Small.l0 : Nat → List (S43) → Int → Option (Bool)
  | 0, _, _ => none
  | k + 1, x0, x3 => if x3 < (x0.length : Int) then (unicodetextref11_Small.j1 k x0 x3 (decide (x3 < 30))) else (unicodetextref11_Small.j1 k x0 x3 false)
def unicodetextref11_Small.j1 : Nat → List (S43) → Int → Bool → Option (Bool)
  | 0, _, _, _ => none
  | k + 1, x0, x3, x11 => if x11 = true then (if 0 ≤ x3 then (if x3 < (x0.length : Int) then (if (((rd_T43 x0 x3).f1).length : Int) > 65 then (some false) else (if (((rd_T43 x0 x3).f2).size : Int) > 40 then (some false) else (unicodetextref11_Small.l0 k x0 (wrap64 (x3 + 1))))) else (none)) else (none)) else (some (decide ((x0.length : Int) ≤ 20)))
end
def unicodetextref11_Small.f (k : Nat) (l0 : List (S43)) : Option (Bool) := unicodetextref11_Small.l0 k l0 0
set_option maxHeartbeats 8000000 in
set_option maxRecDepth 100000 in
theorem unicodetextref11_Small.calls (k : Nat) (A0 : Option Addr) (c0 : Nat) (l0 : List (S43)) (r : Bool) (w : World) (hr0 : Kd.C k43 w A0 l0.length l0) (hc0 : l0.length ≤ c0) (h : unicodetextref11_Small.f k l0 = some r) :
    Calls Try.prog 41 #[.slice A0 l0.length c0] w fun e w' => e = .returned (.bool r) ∧ Drawn0 w w' := by
  have HR0 := Aside0.mk hr0
  have HC0 := Aside0.mk hc0
  clear hr0 hc0
  have H : (unicodetextref11_Small.l0 k l0 0) = some r := h
  clear h
  have H' := Aside0.mk H
  clear H
  go_enter Try.func41, Try.ntmps41
  go_wp2
  go_loopg [3] k (fun kq v3 w' => ∃ (x3_1 : Int), v3 = .int .i64 x3_1 ∧ Aside0 (unicodetextref11_Small.l0 kq l0 x3_1 = some r) ∧ Aside0 (kq ≤ k) ∧ Drawn0 w w')
  case atStart => exact ⟨(0), (by first | rfl | (simp; done) | (simp [*]; done)), H', ⟨Nat.le_refl _⟩, by repeat (first | exact Drawn0.refl _ | apply Drawn0.step)⟩
  case round =>
    clear H'
    obtain ⟨x3_1, rfl, HA, HK1, ⟨m1, rfl⟩⟩ := hrel
    cases gk with
    | zero => exact absurd HA.out (by simp [unicodetextref11_Small.l0])
    | succ k1 =>
      have H := HA.out
      clear HA
      simp only [unicodetextref11_Small.l0] at H
      have HC2 := Aside0.mk H
      clear H
      go_upto_region 2 with (fail)
      go_cut [11] (fun v11 wc => ∃ (kq : Nat) (x11_1 : Bool), v11 = .bool x11_1 ∧ Aside0 (unicodetextref11_Small.j1 kq l0 x3_1 x11_1 = some r) ∧ Aside0 (kq ≤ k1) ∧ Drawn0 w wc)
      case first =>
        have H := HC2.out
        clear HC2
        by_cases c3 : x3_1 < (l0.length : Int)
        · rw [if_pos c3] at H
          have c3b0 : decide (x3_1 < (l0.length : Int)) = true := decide_eq_true c3
          clear c3
          (first | rw [c3b0] | (simp only [i64_w, i32_w]; rw [c3b0]) | skip)
          have H' := Aside0.mk H
          clear H
          go_wp2
          go_meet
          case rel => exact ⟨_, (decide (x3_1 < 30)), (by first | rfl | (simp; done) | (simp [*]; done)), H', ⟨by have := HK1.out; first | omega | exact Nat.le_refl _⟩, by repeat (first | exact Drawn0.refl _ | apply Drawn0.step)⟩
        · rw [if_neg c3] at H
          have c3b0 : decide (x3_1 < (l0.length : Int)) = false := decide_eq_false c3
          clear c3
          (first | rw [c3b0] | (simp only [i64_w, i32_w]; rw [c3b0]) | skip)
          have H' := Aside0.mk H
          clear H
          go_wp2
          go_meet
          case rel => exact ⟨_, (false), (by first | rfl | (simp; done) | (simp [*]; done)), H', ⟨by have := HK1.out; first | omega | exact Nat.le_refl _⟩, by repeat (first | exact Drawn0.refl _ | apply Drawn0.step)⟩
      case rest =>
        clear HC2
        try clear p2
        try clear c3
        try clear c3b0
        obtain ⟨kq, x11_1, rfl, HA, HJ1, ⟨mc1, rfl⟩⟩ := hcut
        cases kq with
        | zero => exact absurd HA.out (by simp [unicodetextref11_Small.j1])
        | succ kj1 =>
          have H := HA.out
          clear HA
          simp only [unicodetextref11_Small.j1] at H
          by_cases c4 : x11_1 = true
          · subst c4
            have H1 : (if 0 ≤ x3_1 then (if x3_1 < (l0.length : Int) then (if (((rd_T43 l0 x3_1).f1).length : Int) > 65 then (some false) else (if (((rd_T43 l0 x3_1).f2).size : Int) > 40 then (some false) else (unicodetextref11_Small.l0 kj1 l0 (wrap64 (x3_1 + 1))))) else (none)) else (none)) = some r := by rw [if_pos rfl] at H; exact H
            clear H
            have H := H1
            clear H1
            by_cases c5 : 0 ≤ x3_1
            · rw [if_pos c5] at H
              have c5b0 : decide (0 ≤ x3_1) = true := decide_eq_true c5
              clear c5
              by_cases c6 : x3_1 < (l0.length : Int)
              · rw [if_pos c6] at H
                have c6b0 : decide (x3_1 < (l0.length : Int)) = true := decide_eq_true c6
                clear c6
                by_cases c7 : (((rd_T43 l0 x3_1).f1).length : Int) > 65
                · rw [if_pos c7] at H
                  have c7b0 : decide (65 < (((rd_T43 l0 x3_1).f1).length : Int)) = true := decide_eq_true c7
                  have c7b1 : decide (65 < ((rd_T43 l0 x3_1).f1).length) = true := decide_eq_true (by omega)
                  clear c7
                  obtain rfl := Option.some.inj H
                  have p101 : 0 ≤ (x3_1 : Int) := of_decide_eq_true (by first | (with_reducible assumption) | assumption)
                  have q101 : x3_1 < (l0.length : Int) := of_decide_eq_true (by first | (with_reducible assumption) | assumption)
                  obtain ⟨ad101, A101_1, c101_1, e101, hx101_0, hx101_1, hx101_2, hl101_1, hi101_1⟩ := at_T43 HR0.out x3_1 p101 q101
                  cases e101
                  have HR101_1 := Aside0.mk hi101_1
                  have HC101_1 := Aside0.mk hl101_1
                  clear hi101_1 hl101_1
                  replace p101 := eq_true p101
                  replace q101 := eq_true q101
                  go_wp2
                  go_ret
                  exact ⟨by first | rfl | (simp; done) | (simp [*]; done), by repeat (first | exact Drawn0.refl _ | apply Drawn0.step)⟩
                · rw [if_neg c7] at H
                  have c7b0 : decide (65 < (((rd_T43 l0 x3_1).f1).length : Int)) = false := decide_eq_false c7
                  have c7b1 : decide (65 < ((rd_T43 l0 x3_1).f1).length) = false := decide_eq_false (by omega)
                  clear c7
                  by_cases c8 : (((rd_T43 l0 x3_1).f2).size : Int) > 40
                  · rw [if_pos c8] at H
                    have c8b0 : decide (40 < (((rd_T43 l0 x3_1).f2).size : Int)) = true := decide_eq_true c8
                    have c8b1 : decide (40 < ((rd_T43 l0 x3_1).f2).size) = true := decide_eq_true (by omega)
                    clear c8
                    obtain rfl := Option.some.inj H
                    have p101 : 0 ≤ (x3_1 : Int) := of_decide_eq_true (by first | (with_reducible assumption) | assumption)
                    have q101 : x3_1 < (l0.length : Int) := of_decide_eq_true (by first | (with_reducible assumption) | assumption)
                    obtain ⟨ad101, A101_1, c101_1, e101, hx101_0, hx101_1, hx101_2, hl101_1, hi101_1⟩ := at_T43 HR0.out x3_1 p101 q101
                    cases e101
                    have HR101_1 := Aside0.mk hi101_1
                    have HC101_1 := Aside0.mk hl101_1
                    clear hi101_1 hl101_1
                    replace p101 := eq_true p101
                    replace q101 := eq_true q101
                    have p102 : 0 ≤ (x3_1 : Int) := of_decide_eq_true (by first | (with_reducible assumption) | assumption)
                    have q102 : x3_1 < (l0.length : Int) := of_decide_eq_true (by first | (with_reducible assumption) | assumption)
                    obtain ⟨ad102, A102_1, c102_1, e102, hx102_0, hx102_1, hx102_2, hl102_1, hi102_1⟩ := at_T43 HR0.out x3_1 p102 q102
                    obtain rfl : ad101 = ad102 := (by injection e102)
                    have HR102_1 := Aside0.mk hi102_1
                    have HC102_1 := Aside0.mk hl102_1
                    clear hi102_1 hl102_1
                    replace p102 := eq_true p102
                    replace q102 := eq_true q102
                    have ea_ := Option.some.inj (hx101_1.symm.trans hx102_1)
                    injection ea_ with ea_ en_ ec_
                    subst ea_
                    subst ec_
                    clear en_
                    go_wp2
                    go_ret
                    exact ⟨by first | rfl | (simp; done) | (simp [*]; done), by repeat (first | exact Drawn0.refl _ | apply Drawn0.step)⟩
                  · rw [if_neg c8] at H
                    have c8b0 : decide (40 < (((rd_T43 l0 x3_1).f2).size : Int)) = false := decide_eq_false c8
                    have c8b1 : decide (40 < ((rd_T43 l0 x3_1).f2).size) = false := decide_eq_false (by omega)
                    clear c8
                    have H' := Aside0.mk H
                    clear H
                    have p101 : 0 ≤ (x3_1 : Int) := of_decide_eq_true (by first | (with_reducible assumption) | assumption)
                    have q101 : x3_1 < (l0.length : Int) := of_decide_eq_true (by first | (with_reducible assumption) | assumption)
                    obtain ⟨ad101, A101_1, c101_1, e101, hx101_0, hx101_1, hx101_2, hl101_1, hi101_1⟩ := at_T43 HR0.out x3_1 p101 q101
                    cases e101
                    have HR101_1 := Aside0.mk hi101_1
                    have HC101_1 := Aside0.mk hl101_1
                    clear hi101_1 hl101_1
                    replace p101 := eq_true p101
                    replace q101 := eq_true q101
                    have p102 : 0 ≤ (x3_1 : Int) := of_decide_eq_true (by first | (with_reducible assumption) | assumption)
                    have q102 : x3_1 < (l0.length : Int) := of_decide_eq_true (by first | (with_reducible assumption) | assumption)
                    obtain ⟨ad102, A102_1, c102_1, e102, hx102_0, hx102_1, hx102_2, hl102_1, hi102_1⟩ := at_T43 HR0.out x3_1 p102 q102
                    obtain rfl : ad101 = ad102 := (by injection e102)
                    have HR102_1 := Aside0.mk hi102_1
                    have HC102_1 := Aside0.mk hl102_1
                    clear hi102_1 hl102_1
                    replace p102 := eq_true p102
                    replace q102 := eq_true q102
                    have ea_ := Option.some.inj (hx101_1.symm.trans hx102_1)
                    injection ea_ with ea_ en_ ec_
                    subst ea_
                    subst ec_
                    clear en_
                    go_wp2
                    go_roundg kj1
                    case measure => have := HK1.out; have := HJ1.out; omega
                    case rel => exact ⟨(wrap64 (x3_1 + 1)), (by first | rfl | (simp; done) | (simp [*]; done)), H', ⟨by have := HK1.out; have := HJ1.out; omega⟩, by repeat (first | exact Drawn0.refl _ | apply Drawn0.step)⟩
              · rw [if_neg c6] at H
                exact absurd H (by simp)
            · rw [if_neg c5] at H
              exact absurd H (by simp)
          · replace c4 := Bool.eq_false_iff.mpr c4
            subst c4
            have H1 : (some (decide ((l0.length : Int) ≤ 20))) = some r := by rw [if_neg (show ¬ (false = true) by decide)] at H; exact H
            clear H
            have H := H1
            clear H1
            obtain rfl := Option.some.inj H
            go_wp2
            go_ret
            exact ⟨by first | rfl | (simp; done) | (simp [*]; done), by repeat (first | exact Drawn0.refl _ | apply Drawn0.step)⟩
def unicodetextref02_Small.f (l0_0 : List (S33)) : Option (Bool) := some (decide ((l0_0.length : Int) ≤ 12))
set_option maxHeartbeats 8000000 in
set_option maxRecDepth 100000 in
theorem unicodetextref02_Small.calls (A0_0 : Option Addr) (c0_0 : Nat) (l0_0 : List (S33)) (r : Bool) (w : World) (hr0_0 : Kd.C k33 w A0_0 l0_0.length l0_0) (hc0_0 : l0_0.length ≤ c0_0) (h : unicodetextref02_Small.f l0_0 = some r) :
    Calls Try.prog 42 #[.agg #[.slice A0_0 l0_0.length c0_0]] w fun e w' => e = .returned (.bool r) ∧ Below w.heap.size w w' := by
  have hu25 := Try.underlying25
  have HR0_0 := Aside0.mk hr0_0
  have HC0_0 := Aside0.mk hc0_0
  clear hr0_0 hc0_0
  have HB := Aside0.mk (Below.refl w.heap.size w)
  have H : (some (decide ((l0_0.length : Int) ≤ 12))) = some r := h
  clear h
  obtain rfl := Option.some.inj H
  go_enter Try.func42, Try.ntmps42
  go_wp2_with (first | ((with_reducible refine gate_dst (N := 1) rfl ?_); refine box_event ?hg (N := 1) ?hd (cs := #[.slice A0_0 l0_0.length c0_0]) (t := 25) ?hr ?_; (case hd => rfl); (case hg => rfl); (case hr => first | (go_simp; done) | (go_simp; rfl)); intro gb103 hg w2 hbox hb; have n0_ := Aside0.mk (below_step (by repeat (first | (with_reducible first | exact HB.out | apply below_alloc | apply pw_below_drewN | apply below_drew1) | exact HB.out)) hb); have n1_ := Aside0.mk (hbox); have n2_ := Aside0.mk ((by rw [hg]; exact (below_size (by repeat (first | (with_reducible first | exact HB.out | apply below_alloc | apply pw_below_drewN | apply below_drew1) | exact HB.out))) : w.heap.size ≤ gb103)); have n3_ := Aside0.mk ((by rw [hg]; exact (below_size (by repeat (first | (with_reducible first | exact HB.out | apply below_alloc | apply pw_below_drewN | apply below_drew1) | exact HB.out))) : w.heap.size ≤ gb103)); clear HB; have HB := n0_; have BK103 := n1_; have GW103 := n2_; have GE103 := n3_; clear n0_ n1_ n2_ n3_; clear hb hbox hg; have hcz3_0 : w2.cell? ⟨gb103, 0, none⟩ = some (.slice A0_0 l0_0.length c0_0) := (blk_cell BK103.out 0).trans rfl; have hfz3_0 := blk_frozen BK103.out 0))
  go_ret
  exact ⟨by first | rfl | (simp [errW_none, errW_some] <;> rfl) | (simp [*, errW_none, errW_some] <;> rfl), by repeat (first | (with_reducible first | exact HB.out | apply below_alloc | apply pw_below_drewN | apply below_drew1 | refine below_set ?_ GE103.out) | exact HB.out)⟩
def unicodetextref37_Small.f (k : Nat) (l0_0 : List (S43)) (l0_1 : List (S43)) (l0_2 : List (S43)) (l0_3 : List (S43)) (l0_4 : List (S33)) (l0_5 : List (S33)) : Option (Bool) := (unicodetextref11_Small.f k l0_0).bind fun t105 => (if t105 = true then ((unicodetextref11_Small.f k l0_1).bind fun t106 => (if t106 = true then ((unicodetextref11_Small.f k l0_2).bind fun t107 => (if t107 = true then ((unicodetextref11_Small.f k l0_3).bind fun t108 => (if t108 = true then ((unicodetextref02_Small.f l0_4).bind fun t109 => (if t109 = true then ((unicodetextref02_Small.f l0_5).bind fun t110 => (some t110)) else (some false))) else (some false))) else (some false))) else (some false))) else (some false))
set_option maxHeartbeats 8000000 in
set_option maxRecDepth 100000 in
theorem unicodetextref37_Small.calls (k : Nat) (A0_0 : Option Addr) (c0_0 : Nat) (l0_0 : List (S43)) (A0_1 : Option Addr) (c0_1 : Nat) (l0_1 : List (S43)) (A0_2 : Option Addr) (c0_2 : Nat) (l0_2 : List (S43)) (A0_3 : Option Addr) (c0_3 : Nat) (l0_3 : List (S43)) (A0_4 : Option Addr) (c0_4 : Nat) (l0_4 : List (S33)) (A0_5 : Option Addr) (c0_5 : Nat) (l0_5 : List (S33)) (r : Bool) (w : World) (hr0_0 : Kd.C k43 w A0_0 l0_0.length l0_0) (hc0_0 : l0_0.length ≤ c0_0) (hr0_1 : Kd.C k43 w A0_1 l0_1.length l0_1) (hc0_1 : l0_1.length ≤ c0_1) (hr0_2 : Kd.C k43 w A0_2 l0_2.length l0_2) (hc0_2 : l0_2.length ≤ c0_2) (hr0_3 : Kd.C k43 w A0_3 l0_3.length l0_3) (hc0_3 : l0_3.length ≤ c0_3) (hr0_4 : Kd.C k33 w A0_4 l0_4.length l0_4) (hc0_4 : l0_4.length ≤ c0_4) (hr0_5 : Kd.C k33 w A0_5 l0_5.length l0_5) (hc0_5 : l0_5.length ≤ c0_5) (h : unicodetextref37_Small.f k l0_0 l0_1 l0_2 l0_3 l0_4 l0_5 = some r) :
    Calls Try.prog 20 #[.agg #[.slice A0_0 l0_0.length c0_0, .slice A0_1 l0_1.length c0_1, .slice A0_2 l0_2.length c0_2, .slice A0_3 l0_3.length c0_3, .slice A0_4 l0_4.length c0_4, .slice A0_5 l0_5.length c0_5]] w fun e w' => e = .returned (.bool r) ∧ Below w.heap.size w w' := by
  have hu27 := Try.underlying27
  have hu25 := Try.underlying25
  have HR0_0 := Aside0.mk hr0_0
  have HC0_0 := Aside0.mk hc0_0
  clear hr0_0 hc0_0
  have HR0_1 := Aside0.mk hr0_1
  have HC0_1 := Aside0.mk hc0_1
  clear hr0_1 hc0_1
  have HR0_2 := Aside0.mk hr0_2
  have HC0_2 := Aside0.mk hc0_2
  clear hr0_2 hc0_2
  have HR0_3 := Aside0.mk hr0_3
  have HC0_3 := Aside0.mk hc0_3
  clear hr0_3 hc0_3
  have HR0_4 := Aside0.mk hr0_4
  have HC0_4 := Aside0.mk hc0_4
  clear hr0_4 hc0_4
  have HR0_5 := Aside0.mk hr0_5
  have HC0_5 := Aside0.mk hc0_5
  clear hr0_5 hc0_5
  have HB := Aside0.mk (Below.refl w.heap.size w)
  have H : ((unicodetextref11_Small.f k l0_0).bind fun t105 => (if t105 = true then ((unicodetextref11_Small.f k l0_1).bind fun t106 => (if t106 = true then ((unicodetextref11_Small.f k l0_2).bind fun t107 => (if t107 = true then ((unicodetextref11_Small.f k l0_3).bind fun t108 => (if t108 = true then ((unicodetextref02_Small.f l0_4).bind fun t109 => (if t109 = true then ((unicodetextref02_Small.f l0_5).bind fun t110 => (some t110)) else (some false))) else (some false))) else (some false))) else (some false))) else (some false))) = some r := h
  clear h
  replace H := Option.bind_eq_some_iff.mp H
  obtain ⟨t105, A20, H⟩ := H
  replace H : (if t105 = true then ((unicodetextref11_Small.f k l0_1).bind fun t106 => (if t106 = true then ((unicodetextref11_Small.f k l0_2).bind fun t107 => (if t107 = true then ((unicodetextref11_Small.f k l0_3).bind fun t108 => (if t108 = true then ((unicodetextref02_Small.f l0_4).bind fun t109 => (if t109 = true then ((unicodetextref02_Small.f l0_5).bind fun t110 => (some t110)) else (some false))) else (some false))) else (some false))) else (some false))) else (some false)) = some r := H
  have A2 := Aside0.mk A20
  clear A20
  by_cases c3 : t105 = true
  · subst c3
    have H1 : ((unicodetextref11_Small.f k l0_1).bind fun t106 => (if t106 = true then ((unicodetextref11_Small.f k l0_2).bind fun t107 => (if t107 = true then ((unicodetextref11_Small.f k l0_3).bind fun t108 => (if t108 = true then ((unicodetextref02_Small.f l0_4).bind fun t109 => (if t109 = true then ((unicodetextref02_Small.f l0_5).bind fun t110 => (some t110)) else (some false))) else (some false))) else (some false))) else (some false))) = some r := by rw [if_pos rfl] at H; exact H
    clear H
    have H := H1
    clear H1
    replace H := Option.bind_eq_some_iff.mp H
    obtain ⟨t106, A40, H⟩ := H
    replace H : (if t106 = true then ((unicodetextref11_Small.f k l0_2).bind fun t107 => (if t107 = true then ((unicodetextref11_Small.f k l0_3).bind fun t108 => (if t108 = true then ((unicodetextref02_Small.f l0_4).bind fun t109 => (if t109 = true then ((unicodetextref02_Small.f l0_5).bind fun t110 => (some t110)) else (some false))) else (some false))) else (some false))) else (some false)) = some r := H
    have A4 := Aside0.mk A40
    clear A40
    by_cases c5 : t106 = true
    · subst c5
      have H1 : ((unicodetextref11_Small.f k l0_2).bind fun t107 => (if t107 = true then ((unicodetextref11_Small.f k l0_3).bind fun t108 => (if t108 = true then ((unicodetextref02_Small.f l0_4).bind fun t109 => (if t109 = true then ((unicodetextref02_Small.f l0_5).bind fun t110 => (some t110)) else (some false))) else (some false))) else (some false))) = some r := by rw [if_pos rfl] at H; exact H
      clear H
      have H := H1
      clear H1
      replace H := Option.bind_eq_some_iff.mp H
      obtain ⟨t107, A60, H⟩ := H
      replace H : (if t107 = true then ((unicodetextref11_Small.f k l0_3).bind fun t108 => (if t108 = true then ((unicodetextref02_Small.f l0_4).bind fun t109 => (if t109 = true then ((unicodetextref02_Small.f l0_5).bind fun t110 => (some t110)) else (some false))) else (some false))) else (some false)) = some r := H
      have A6 := Aside0.mk A60
      clear A60
      by_cases c7 : t107 = true
      · subst c7
        have H1 : ((unicodetextref11_Small.f k l0_3).bind fun t108 => (if t108 = true then ((unicodetextref02_Small.f l0_4).bind fun t109 => (if t109 = true then ((unicodetextref02_Small.f l0_5).bind fun t110 => (some t110)) else (some false))) else (some false))) = some r := by rw [if_pos rfl] at H; exact H
        clear H
        have H := H1
        clear H1
        replace H := Option.bind_eq_some_iff.mp H
        obtain ⟨t108, A80, H⟩ := H
        replace H : (if t108 = true then ((unicodetextref02_Small.f l0_4).bind fun t109 => (if t109 = true then ((unicodetextref02_Small.f l0_5).bind fun t110 => (some t110)) else (some false))) else (some false)) = some r := H
        have A8 := Aside0.mk A80
        clear A80
        by_cases c9 : t108 = true
        · subst c9
          have H1 : ((unicodetextref02_Small.f l0_4).bind fun t109 => (if t109 = true then ((unicodetextref02_Small.f l0_5).bind fun t110 => (some t110)) else (some false))) = some r := by rw [if_pos rfl] at H; exact H
          clear H
          have H := H1
          clear H1
          replace H := Option.bind_eq_some_iff.mp H
          obtain ⟨t109, A100, H⟩ := H
          replace H : (if t109 = true then ((unicodetextref02_Small.f l0_5).bind fun t110 => (some t110)) else (some false)) = some r := H
          have A10 := Aside0.mk A100
          clear A100
          by_cases c11 : t109 = true
          · subst c11
            have H1 : ((unicodetextref02_Small.f l0_5).bind fun t110 => (some t110)) = some r := by rw [if_pos rfl] at H; exact H
            clear H
            have H := H1
            clear H1
            replace H := Option.bind_eq_some_iff.mp H
            obtain ⟨t110, A120, H⟩ := H
            replace H : (some t110) = some r := H
            have A12 := Aside0.mk A120
            clear A120
            obtain rfl := Option.some.inj H
            go_enter Try.func20, Try.ntmps20
            go_wp2_with (first | ((with_reducible refine gate_dst (N := 1) rfl ?_); refine box_event ?hg (N := 1) ?hd (cs := #[.slice A0_0 l0_0.length c0_0, .slice A0_1 l0_1.length c0_1, .slice A0_2 l0_2.length c0_2, .slice A0_3 l0_3.length c0_3, .slice A0_4 l0_4.length c0_4, .slice A0_5 l0_5.length c0_5]) (t := 27) ?hr ?_; (case hd => rfl); (case hg => rfl); (case hr => first | (go_simp; done) | (go_simp; rfl)); intro gb104 hg w13 hbox hb; have n0_ := Aside0.mk (below_step (by repeat (first | (with_reducible first | exact HB.out | apply below_alloc | apply pw_below_drewN | apply below_drew1) | exact HB.out)) hb); have n1_ := Aside0.mk (hbox); have n2_ := Aside0.mk ((by rw [hg]; exact (below_size (by repeat (first | (with_reducible first | exact HB.out | apply below_alloc | apply pw_below_drewN | apply below_drew1) | exact HB.out))) : w.heap.size ≤ gb104)); have n3_ := Aside0.mk ((by rw [hg]; exact (below_size (by repeat (first | (with_reducible first | exact HB.out | apply below_alloc | apply pw_below_drewN | apply below_drew1) | exact HB.out))) : w.heap.size ≤ gb104)); clear HB; have HB := n0_; have BK104 := n1_; have GW104 := n2_; have GE104 := n3_; clear n0_ n1_ n2_ n3_; clear hb hbox hg; have hcz14_0 : w13.cell? ⟨gb104, 0, none⟩ = some (.slice A0_0 l0_0.length c0_0) := (blk_cell BK104.out 0).trans rfl; have hcz14_1 : w13.cell? ⟨gb104, 1, none⟩ = some (.slice A0_1 l0_1.length c0_1) := (blk_cell BK104.out 1).trans rfl; have hcz14_2 : w13.cell? ⟨gb104, 2, none⟩ = some (.slice A0_2 l0_2.length c0_2) := (blk_cell BK104.out 2).trans rfl; have hcz14_3 : w13.cell? ⟨gb104, 3, none⟩ = some (.slice A0_3 l0_3.length c0_3) := (blk_cell BK104.out 3).trans rfl; have hcz14_4 : w13.cell? ⟨gb104, 4, none⟩ = some (.slice A0_4 l0_4.length c0_4) := (blk_cell BK104.out 4).trans rfl; have hcz14_5 : w13.cell? ⟨gb104, 5, none⟩ = some (.slice A0_5 l0_5.length c0_5) := (blk_cell BK104.out 5).trans rfl; have hfz14_0 := blk_frozen BK104.out 0; have hfz14_1 := blk_frozen BK104.out 1; have hfz14_2 := blk_frozen BK104.out 2; have hfz14_3 := blk_frozen BK104.out 3; have hfz14_4 := blk_frozen BK104.out 4; have hfz14_5 := blk_frozen BK104.out 5) | ((with_reducible refine gate_callee (f := 41) rfl ?_); refine goesL_ (some 5) rfl rfl Try.func41 (by kernel_rfl) rfl #[.slice A0_0 l0_0.length c0_0] rfl (by (try simp only [List.map_toArray, List.map_cons, List.map_nil]); first | done | rfl | (simp only [List.length_drop, List.length_take]; rfl)) ?_; (with_reducible refine (unicodetextref11_Small.calls k _ _ l0_0 true _ ?side1 ?side2 A2.out).mono ?_); (case side1 => repeat (first | exact (Kd.C_below HR0_0.out HB.out) | (with_reducible refine Kd.C_alloc ?_ _) | (with_reducible refine Kd.C_drewN ?_ _) | (with_reducible refine Kd.C_drew ?_))); (case side2 => exact HC0_0.out); rintro e w' ⟨rfl, ⟨nd, rfl⟩⟩; refine ⟨_, rfl, ?_⟩) | (go_at_call 41; (with_reducible refine (unicodetextref11_Small.calls k _ _ l0_1 true _ ?side1 ?side2 A4.out).mono ?_); (case side1 => repeat (first | exact (Kd.C_below HR0_1.out (by repeat (first | (with_reducible first | exact HB.out | apply below_alloc | apply pw_below_drewN | apply below_drew1 | refine below_set ?_ GE104.out) | exact HB.out))) | (with_reducible refine Kd.C_alloc ?_ _) | (with_reducible refine Kd.C_drewN ?_ _) | (with_reducible refine Kd.C_drew ?_))); (case side2 => exact HC0_1.out); rintro e w' ⟨rfl, ⟨nd, rfl⟩⟩) | (go_at_call 41; (with_reducible refine (unicodetextref11_Small.calls k _ _ l0_2 true _ ?side1 ?side2 A6.out).mono ?_); (case side1 => repeat (first | exact (Kd.C_below HR0_2.out (by repeat (first | (with_reducible first | exact HB.out | apply below_alloc | apply pw_below_drewN | apply below_drew1 | refine below_set ?_ GE104.out) | exact HB.out))) | (with_reducible refine Kd.C_alloc ?_ _) | (with_reducible refine Kd.C_drewN ?_ _) | (with_reducible refine Kd.C_drew ?_))); (case side2 => exact HC0_2.out); rintro e w' ⟨rfl, ⟨nd, rfl⟩⟩) | (go_at_call 41; (with_reducible refine (unicodetextref11_Small.calls k _ _ l0_3 true _ ?side1 ?side2 A8.out).mono ?_); (case side1 => repeat (first | exact (Kd.C_below HR0_3.out (by repeat (first | (with_reducible first | exact HB.out | apply below_alloc | apply pw_below_drewN | apply below_drew1 | refine below_set ?_ GE104.out) | exact HB.out))) | (with_reducible refine Kd.C_alloc ?_ _) | (with_reducible refine Kd.C_drewN ?_ _) | (with_reducible refine Kd.C_drew ?_))); (case side2 => exact HC0_3.out); rintro e w' ⟨rfl, ⟨nd, rfl⟩⟩) | (go_at_call 42; (with_reducible refine (unicodetextref02_Small.calls _ _ l0_4 true _ ?side1 ?side2 A10.out).mono ?_); (case side1 => repeat (first | exact (Kd.C_below HR0_4.out (by repeat (first | (with_reducible first | exact HB.out | apply below_alloc | apply pw_below_drewN | apply below_drew1 | refine below_set ?_ GE104.out) | exact HB.out))) | (with_reducible refine Kd.C_alloc ?_ _) | (with_reducible refine Kd.C_drewN ?_ _) | (with_reducible refine Kd.C_drew ?_))); (case side2 => exact HC0_4.out); rintro e w15 ⟨rfl, hb⟩; have n0_ := Aside0.mk (blk_below (g := gb104) (o := .cells #[.slice A0_0 l0_0.length c0_0, .slice A0_1 l0_1.length c0_1, .slice A0_2 l0_2.length c0_2, .slice A0_3 l0_3.length c0_3, .slice A0_4 l0_4.length c0_4, .slice A0_5 l0_5.length c0_5] 27 (0, 0)) (by (with_reducible repeat (first | refine blk_drewN ?_ _ | refine blk_drew ?_ | refine blk_alloc ?_ _)); exact BK104.out) hb); have n1_ := Aside0.mk (below_step (by repeat (first | (with_reducible first | exact HB.out | apply below_alloc | apply pw_below_drewN | apply below_drew1 | refine below_set ?_ GE104.out) | exact HB.out)) hb); clear BK104; clear HB; have BK104 := n0_; have HB := n1_; clear n0_ n1_; (try clear hb); (try clear hb2); (try clear hk); (try clear hi); have hcz16_0 : w15.cell? ⟨gb104, 0, none⟩ = some (.slice A0_0 l0_0.length c0_0) := (blk_cell BK104.out 0).trans rfl; have hcz16_1 : w15.cell? ⟨gb104, 1, none⟩ = some (.slice A0_1 l0_1.length c0_1) := (blk_cell BK104.out 1).trans rfl; have hcz16_2 : w15.cell? ⟨gb104, 2, none⟩ = some (.slice A0_2 l0_2.length c0_2) := (blk_cell BK104.out 2).trans rfl; have hcz16_3 : w15.cell? ⟨gb104, 3, none⟩ = some (.slice A0_3 l0_3.length c0_3) := (blk_cell BK104.out 3).trans rfl; have hcz16_4 : w15.cell? ⟨gb104, 4, none⟩ = some (.slice A0_4 l0_4.length c0_4) := (blk_cell BK104.out 4).trans rfl; have hcz16_5 : w15.cell? ⟨gb104, 5, none⟩ = some (.slice A0_5 l0_5.length c0_5) := (blk_cell BK104.out 5).trans rfl; have hfz16_0 := blk_frozen BK104.out 0; have hfz16_1 := blk_frozen BK104.out 1; have hfz16_2 := blk_frozen BK104.out 2; have hfz16_3 := blk_frozen BK104.out 3; have hfz16_4 := blk_frozen BK104.out 4; have hfz16_5 := blk_frozen BK104.out 5) | (go_at_call 42; (with_reducible refine (unicodetextref02_Small.calls _ _ l0_5 t110 _ ?side1 ?side2 A12.out).mono ?_); (case side1 => repeat (first | exact (Kd.C_below HR0_5.out HB.out) | (with_reducible refine Kd.C_alloc ?_ _) | (with_reducible refine Kd.C_drewN ?_ _) | (with_reducible refine Kd.C_drew ?_))); (case side2 => exact HC0_5.out); rintro e w17 ⟨rfl, hb⟩; have n0_ := Aside0.mk (blk_below (g := gb104) (o := .cells #[.slice A0_0 l0_0.length c0_0, .slice A0_1 l0_1.length c0_1, .slice A0_2 l0_2.length c0_2, .slice A0_3 l0_3.length c0_3, .slice A0_4 l0_4.length c0_4, .slice A0_5 l0_5.length c0_5] 27 (0, 0)) (by (with_reducible repeat (first | refine blk_drewN ?_ _ | refine blk_drew ?_ | refine blk_alloc ?_ _)); exact BK104.out) hb); have n1_ := Aside0.mk (below_step (by repeat (first | (with_reducible first | exact HB.out | apply below_alloc | apply pw_below_drewN | apply below_drew1 | refine below_set ?_ GE104.out) | exact HB.out)) hb); clear BK104; clear HB; have BK104 := n0_; have HB := n1_; clear n0_ n1_; (try clear hb); (try clear hb2); (try clear hk); (try clear hi)))
            go_ret
            exact ⟨by first | rfl | (simp [errW_none, errW_some] <;> rfl) | (simp [*, errW_none, errW_some] <;> rfl), by repeat (first | (with_reducible first | exact HB.out | apply below_alloc | apply pw_below_drewN | apply below_drew1 | refine below_set ?_ GE104.out) | exact HB.out)⟩
          · replace c11 := Bool.eq_false_iff.mpr c11
            subst c11
            have H1 : (some false) = some r := by rw [if_neg (show ¬ (false = true) by decide)] at H; exact H
            clear H
            have H := H1
            clear H1
            obtain rfl := Option.some.inj H
            go_enter Try.func20, Try.ntmps20
            go_wp2_with (first | ((with_reducible refine gate_dst (N := 1) rfl ?_); refine box_event ?hg (N := 1) ?hd (cs := #[.slice A0_0 l0_0.length c0_0, .slice A0_1 l0_1.length c0_1, .slice A0_2 l0_2.length c0_2, .slice A0_3 l0_3.length c0_3, .slice A0_4 l0_4.length c0_4, .slice A0_5 l0_5.length c0_5]) (t := 27) ?hr ?_; (case hd => rfl); (case hg => rfl); (case hr => first | (go_simp; done) | (go_simp; rfl)); intro gb104 hg w18 hbox hb; have n0_ := Aside0.mk (below_step (by repeat (first | (with_reducible first | exact HB.out | apply below_alloc | apply pw_below_drewN | apply below_drew1) | exact HB.out)) hb); have n1_ := Aside0.mk (hbox); have n2_ := Aside0.mk ((by rw [hg]; exact (below_size (by repeat (first | (with_reducible first | exact HB.out | apply below_alloc | apply pw_below_drewN | apply below_drew1) | exact HB.out))) : w.heap.size ≤ gb104)); have n3_ := Aside0.mk ((by rw [hg]; exact (below_size (by repeat (first | (with_reducible first | exact HB.out | apply below_alloc | apply pw_below_drewN | apply below_drew1) | exact HB.out))) : w.heap.size ≤ gb104)); clear HB; have HB := n0_; have BK104 := n1_; have GW104 := n2_; have GE104 := n3_; clear n0_ n1_ n2_ n3_; clear hb hbox hg; have hcz19_0 : w18.cell? ⟨gb104, 0, none⟩ = some (.slice A0_0 l0_0.length c0_0) := (blk_cell BK104.out 0).trans rfl; have hcz19_1 : w18.cell? ⟨gb104, 1, none⟩ = some (.slice A0_1 l0_1.length c0_1) := (blk_cell BK104.out 1).trans rfl; have hcz19_2 : w18.cell? ⟨gb104, 2, none⟩ = some (.slice A0_2 l0_2.length c0_2) := (blk_cell BK104.out 2).trans rfl; have hcz19_3 : w18.cell? ⟨gb104, 3, none⟩ = some (.slice A0_3 l0_3.length c0_3) := (blk_cell BK104.out 3).trans rfl; have hcz19_4 : w18.cell? ⟨gb104, 4, none⟩ = some (.slice A0_4 l0_4.length c0_4) := (blk_cell BK104.out 4).trans rfl; have hcz19_5 : w18.cell? ⟨gb104, 5, none⟩ = some (.slice A0_5 l0_5.length c0_5) := (blk_cell BK104.out 5).trans rfl; have hfz19_0 := blk_frozen BK104.out 0; have hfz19_1 := blk_frozen BK104.out 1; have hfz19_2 := blk_frozen BK104.out 2; have hfz19_3 := blk_frozen BK104.out 3; have hfz19_4 := blk_frozen BK104.out 4; have hfz19_5 := blk_frozen BK104.out 5) | ((with_reducible refine gate_callee (f := 41) rfl ?_); refine goesL_ (some 5) rfl rfl Try.func41 (by kernel_rfl) rfl #[.slice A0_0 l0_0.length c0_0] rfl (by (try simp only [List.map_toArray, List.map_cons, List.map_nil]); first | done | rfl | (simp only [List.length_drop, List.length_take]; rfl)) ?_; (with_reducible refine (unicodetextref11_Small.calls k _ _ l0_0 true _ ?side1 ?side2 A2.out).mono ?_); (case side1 => repeat (first | exact (Kd.C_below HR0_0.out HB.out) | (with_reducible refine Kd.C_alloc ?_ _) | (with_reducible refine Kd.C_drewN ?_ _) | (with_reducible refine Kd.C_drew ?_))); (case side2 => exact HC0_0.out); rintro e w' ⟨rfl, ⟨nd, rfl⟩⟩; refine ⟨_, rfl, ?_⟩) | (go_at_call 41; (with_reducible refine (unicodetextref11_Small.calls k _ _ l0_1 true _ ?side1 ?side2 A4.out).mono ?_); (case side1 => repeat (first | exact (Kd.C_below HR0_1.out (by repeat (first | (with_reducible first | exact HB.out | apply below_alloc | apply pw_below_drewN | apply below_drew1 | refine below_set ?_ GE104.out) | exact HB.out))) | (with_reducible refine Kd.C_alloc ?_ _) | (with_reducible refine Kd.C_drewN ?_ _) | (with_reducible refine Kd.C_drew ?_))); (case side2 => exact HC0_1.out); rintro e w' ⟨rfl, ⟨nd, rfl⟩⟩) | (go_at_call 41; (with_reducible refine (unicodetextref11_Small.calls k _ _ l0_2 true _ ?side1 ?side2 A6.out).mono ?_); (case side1 => repeat (first | exact (Kd.C_below HR0_2.out (by repeat (first | (with_reducible first | exact HB.out | apply below_alloc | apply pw_below_drewN | apply below_drew1 | refine below_set ?_ GE104.out) | exact HB.out))) | (with_reducible refine Kd.C_alloc ?_ _) | (with_reducible refine Kd.C_drewN ?_ _) | (with_reducible refine Kd.C_drew ?_))); (case side2 => exact HC0_2.out); rintro e w' ⟨rfl, ⟨nd, rfl⟩⟩) | (go_at_call 41; (with_reducible refine (unicodetextref11_Small.calls k _ _ l0_3 true _ ?side1 ?side2 A8.out).mono ?_); (case side1 => repeat (first | exact (Kd.C_below HR0_3.out (by repeat (first | (with_reducible first | exact HB.out | apply below_alloc | apply pw_below_drewN | apply below_drew1 | refine below_set ?_ GE104.out) | exact HB.out))) | (with_reducible refine Kd.C_alloc ?_ _) | (with_reducible refine Kd.C_drewN ?_ _) | (with_reducible refine Kd.C_drew ?_))); (case side2 => exact HC0_3.out); rintro e w' ⟨rfl, ⟨nd, rfl⟩⟩) | (go_at_call 42; (with_reducible refine (unicodetextref02_Small.calls _ _ l0_4 false _ ?side1 ?side2 A10.out).mono ?_); (case side1 => repeat (first | exact (Kd.C_below HR0_4.out (by repeat (first | (with_reducible first | exact HB.out | apply below_alloc | apply pw_below_drewN | apply below_drew1 | refine below_set ?_ GE104.out) | exact HB.out))) | (with_reducible refine Kd.C_alloc ?_ _) | (with_reducible refine Kd.C_drewN ?_ _) | (with_reducible refine Kd.C_drew ?_))); (case side2 => exact HC0_4.out); rintro e w20 ⟨rfl, hb⟩; have n0_ := Aside0.mk (blk_below (g := gb104) (o := .cells #[.slice A0_0 l0_0.length c0_0, .slice A0_1 l0_1.length c0_1, .slice A0_2 l0_2.length c0_2, .slice A0_3 l0_3.length c0_3, .slice A0_4 l0_4.length c0_4, .slice A0_5 l0_5.length c0_5] 27 (0, 0)) (by (with_reducible repeat (first | refine blk_drewN ?_ _ | refine blk_drew ?_ | refine blk_alloc ?_ _)); exact BK104.out) hb); have n1_ := Aside0.mk (below_step (by repeat (first | (with_reducible first | exact HB.out | apply below_alloc | apply pw_below_drewN | apply below_drew1 | refine below_set ?_ GE104.out) | exact HB.out)) hb); clear BK104; clear HB; have BK104 := n0_; have HB := n1_; clear n0_ n1_; (try clear hb); (try clear hb2); (try clear hk); (try clear hi)))
            go_ret
            exact ⟨by first | rfl | (simp [errW_none, errW_some] <;> rfl) | (simp [*, errW_none, errW_some] <;> rfl), by repeat (first | (with_reducible first | exact HB.out | apply below_alloc | apply pw_below_drewN | apply below_drew1 | refine below_set ?_ GE104.out) | exact HB.out)⟩
        · replace c9 := Bool.eq_false_iff.mpr c9
          subst c9
          have H1 : (some false) = some r := by rw [if_neg (show ¬ (false = true) by decide)] at H; exact H
          clear H
          have H := H1
          clear H1
          obtain rfl := Option.some.inj H
          go_enter Try.func20, Try.ntmps20
          go_wp2_with (first | ((with_reducible refine gate_dst (N := 1) rfl ?_); refine box_event ?hg (N := 1) ?hd (cs := #[.slice A0_0 l0_0.length c0_0, .slice A0_1 l0_1.length c0_1, .slice A0_2 l0_2.length c0_2, .slice A0_3 l0_3.length c0_3, .slice A0_4 l0_4.length c0_4, .slice A0_5 l0_5.length c0_5]) (t := 27) ?hr ?_; (case hd => rfl); (case hg => rfl); (case hr => first | (go_simp; done) | (go_simp; rfl)); intro gb104 hg w21 hbox hb; have n0_ := Aside0.mk (below_step (by repeat (first | (with_reducible first | exact HB.out | apply below_alloc | apply pw_below_drewN | apply below_drew1) | exact HB.out)) hb); have n1_ := Aside0.mk (hbox); have n2_ := Aside0.mk ((by rw [hg]; exact (below_size (by repeat (first | (with_reducible first | exact HB.out | apply below_alloc | apply pw_below_drewN | apply below_drew1) | exact HB.out))) : w.heap.size ≤ gb104)); have n3_ := Aside0.mk ((by rw [hg]; exact (below_size (by repeat (first | (with_reducible first | exact HB.out | apply below_alloc | apply pw_below_drewN | apply below_drew1) | exact HB.out))) : w.heap.size ≤ gb104)); clear HB; have HB := n0_; have BK104 := n1_; have GW104 := n2_; have GE104 := n3_; clear n0_ n1_ n2_ n3_; clear hb hbox hg; have hcz22_0 : w21.cell? ⟨gb104, 0, none⟩ = some (.slice A0_0 l0_0.length c0_0) := (blk_cell BK104.out 0).trans rfl; have hcz22_1 : w21.cell? ⟨gb104, 1, none⟩ = some (.slice A0_1 l0_1.length c0_1) := (blk_cell BK104.out 1).trans rfl; have hcz22_2 : w21.cell? ⟨gb104, 2, none⟩ = some (.slice A0_2 l0_2.length c0_2) := (blk_cell BK104.out 2).trans rfl; have hcz22_3 : w21.cell? ⟨gb104, 3, none⟩ = some (.slice A0_3 l0_3.length c0_3) := (blk_cell BK104.out 3).trans rfl; have hcz22_4 : w21.cell? ⟨gb104, 4, none⟩ = some (.slice A0_4 l0_4.length c0_4) := (blk_cell BK104.out 4).trans rfl; have hcz22_5 : w21.cell? ⟨gb104, 5, none⟩ = some (.slice A0_5 l0_5.length c0_5) := (blk_cell BK104.out 5).trans rfl; have hfz22_0 := blk_frozen BK104.out 0; have hfz22_1 := blk_frozen BK104.out 1; have hfz22_2 := blk_frozen BK104.out 2; have hfz22_3 := blk_frozen BK104.out 3; have hfz22_4 := blk_frozen BK104.out 4; have hfz22_5 := blk_frozen BK104.out 5) | ((with_reducible refine gate_callee (f := 41) rfl ?_); refine goesL_ (some 5) rfl rfl Try.func41 (by kernel_rfl) rfl #[.slice A0_0 l0_0.length c0_0] rfl (by (try simp only [List.map_toArray, List.map_cons, List.map_nil]); first | done | rfl | (simp only [List.length_drop, List.length_take]; rfl)) ?_; (with_reducible refine (unicodetextref11_Small.calls k _ _ l0_0 true _ ?side1 ?side2 A2.out).mono ?_); (case side1 => repeat (first | exact (Kd.C_below HR0_0.out HB.out) | (with_reducible refine Kd.C_alloc ?_ _) | (with_reducible refine Kd.C_drewN ?_ _) | (with_reducible refine Kd.C_drew ?_))); (case side2 => exact HC0_0.out); rintro e w' ⟨rfl, ⟨nd, rfl⟩⟩; refine ⟨_, rfl, ?_⟩) | (go_at_call 41; (with_reducible refine (unicodetextref11_Small.calls k _ _ l0_1 true _ ?side1 ?side2 A4.out).mono ?_); (case side1 => repeat (first | exact (Kd.C_below HR0_1.out (by repeat (first | (with_reducible first | exact HB.out | apply below_alloc | apply pw_below_drewN | apply below_drew1 | refine below_set ?_ GE104.out) | exact HB.out))) | (with_reducible refine Kd.C_alloc ?_ _) | (with_reducible refine Kd.C_drewN ?_ _) | (with_reducible refine Kd.C_drew ?_))); (case side2 => exact HC0_1.out); rintro e w' ⟨rfl, ⟨nd, rfl⟩⟩) | (go_at_call 41; (with_reducible refine (unicodetextref11_Small.calls k _ _ l0_2 true _ ?side1 ?side2 A6.out).mono ?_); (case side1 => repeat (first | exact (Kd.C_below HR0_2.out (by repeat (first | (with_reducible first | exact HB.out | apply below_alloc | apply pw_below_drewN | apply below_drew1 | refine below_set ?_ GE104.out) | exact HB.out))) | (with_reducible refine Kd.C_alloc ?_ _) | (with_reducible refine Kd.C_drewN ?_ _) | (with_reducible refine Kd.C_drew ?_))); (case side2 => exact HC0_2.out); rintro e w' ⟨rfl, ⟨nd, rfl⟩⟩) | (go_at_call 41; (with_reducible refine (unicodetextref11_Small.calls k _ _ l0_3 false _ ?side1 ?side2 A8.out).mono ?_); (case side1 => repeat (first | exact (Kd.C_below HR0_3.out (by repeat (first | (with_reducible first | exact HB.out | apply below_alloc | apply pw_below_drewN | apply below_drew1 | refine below_set ?_ GE104.out) | exact HB.out))) | (with_reducible refine Kd.C_alloc ?_ _) | (with_reducible refine Kd.C_drewN ?_ _) | (with_reducible refine Kd.C_drew ?_))); (case side2 => exact HC0_3.out); rintro e w' ⟨rfl, ⟨nd, rfl⟩⟩))
          go_ret
          exact ⟨by first | rfl | (simp [errW_none, errW_some] <;> rfl) | (simp [*, errW_none, errW_some] <;> rfl), by repeat (first | (with_reducible first | exact HB.out | apply below_alloc | apply pw_below_drewN | apply below_drew1 | refine below_set ?_ GE104.out) | exact HB.out)⟩
      · replace c7 := Bool.eq_false_iff.mpr c7
        subst c7
        have H1 : (some false) = some r := by rw [if_neg (show ¬ (false = true) by decide)] at H; exact H
        clear H
        have H := H1
        clear H1
        obtain rfl := Option.some.inj H
        go_enter Try.func20, Try.ntmps20
        go_wp2_with (first | ((with_reducible refine gate_dst (N := 1) rfl ?_); refine box_event ?hg (N := 1) ?hd (cs := #[.slice A0_0 l0_0.length c0_0, .slice A0_1 l0_1.length c0_1, .slice A0_2 l0_2.length c0_2, .slice A0_3 l0_3.length c0_3, .slice A0_4 l0_4.length c0_4, .slice A0_5 l0_5.length c0_5]) (t := 27) ?hr ?_; (case hd => rfl); (case hg => rfl); (case hr => first | (go_simp; done) | (go_simp; rfl)); intro gb104 hg w23 hbox hb; have n0_ := Aside0.mk (below_step (by repeat (first | (with_reducible first | exact HB.out | apply below_alloc | apply pw_below_drewN | apply below_drew1) | exact HB.out)) hb); have n1_ := Aside0.mk (hbox); have n2_ := Aside0.mk ((by rw [hg]; exact (below_size (by repeat (first | (with_reducible first | exact HB.out | apply below_alloc | apply pw_below_drewN | apply below_drew1) | exact HB.out))) : w.heap.size ≤ gb104)); have n3_ := Aside0.mk ((by rw [hg]; exact (below_size (by repeat (first | (with_reducible first | exact HB.out | apply below_alloc | apply pw_below_drewN | apply below_drew1) | exact HB.out))) : w.heap.size ≤ gb104)); clear HB; have HB := n0_; have BK104 := n1_; have GW104 := n2_; have GE104 := n3_; clear n0_ n1_ n2_ n3_; clear hb hbox hg; have hcz24_0 : w23.cell? ⟨gb104, 0, none⟩ = some (.slice A0_0 l0_0.length c0_0) := (blk_cell BK104.out 0).trans rfl; have hcz24_1 : w23.cell? ⟨gb104, 1, none⟩ = some (.slice A0_1 l0_1.length c0_1) := (blk_cell BK104.out 1).trans rfl; have hcz24_2 : w23.cell? ⟨gb104, 2, none⟩ = some (.slice A0_2 l0_2.length c0_2) := (blk_cell BK104.out 2).trans rfl; have hcz24_3 : w23.cell? ⟨gb104, 3, none⟩ = some (.slice A0_3 l0_3.length c0_3) := (blk_cell BK104.out 3).trans rfl; have hcz24_4 : w23.cell? ⟨gb104, 4, none⟩ = some (.slice A0_4 l0_4.length c0_4) := (blk_cell BK104.out 4).trans rfl; have hcz24_5 : w23.cell? ⟨gb104, 5, none⟩ = some (.slice A0_5 l0_5.length c0_5) := (blk_cell BK104.out 5).trans rfl; have hfz24_0 := blk_frozen BK104.out 0; have hfz24_1 := blk_frozen BK104.out 1; have hfz24_2 := blk_frozen BK104.out 2; have hfz24_3 := blk_frozen BK104.out 3; have hfz24_4 := blk_frozen BK104.out 4; have hfz24_5 := blk_frozen BK104.out 5) | ((with_reducible refine gate_callee (f := 41) rfl ?_); refine goesL_ (some 5) rfl rfl Try.func41 (by kernel_rfl) rfl #[.slice A0_0 l0_0.length c0_0] rfl (by (try simp only [List.map_toArray, List.map_cons, List.map_nil]); first | done | rfl | (simp only [List.length_drop, List.length_take]; rfl)) ?_; (with_reducible refine (unicodetextref11_Small.calls k _ _ l0_0 true _ ?side1 ?side2 A2.out).mono ?_); (case side1 => repeat (first | exact (Kd.C_below HR0_0.out HB.out) | (with_reducible refine Kd.C_alloc ?_ _) | (with_reducible refine Kd.C_drewN ?_ _) | (with_reducible refine Kd.C_drew ?_))); (case side2 => exact HC0_0.out); rintro e w' ⟨rfl, ⟨nd, rfl⟩⟩; refine ⟨_, rfl, ?_⟩) | (go_at_call 41; (with_reducible refine (unicodetextref11_Small.calls k _ _ l0_1 true _ ?side1 ?side2 A4.out).mono ?_); (case side1 => repeat (first | exact (Kd.C_below HR0_1.out (by repeat (first | (with_reducible first | exact HB.out | apply below_alloc | apply pw_below_drewN | apply below_drew1 | refine below_set ?_ GE104.out) | exact HB.out))) | (with_reducible refine Kd.C_alloc ?_ _) | (with_reducible refine Kd.C_drewN ?_ _) | (with_reducible refine Kd.C_drew ?_))); (case side2 => exact HC0_1.out); rintro e w' ⟨rfl, ⟨nd, rfl⟩⟩) | (go_at_call 41; (with_reducible refine (unicodetextref11_Small.calls k _ _ l0_2 false _ ?side1 ?side2 A6.out).mono ?_); (case side1 => repeat (first | exact (Kd.C_below HR0_2.out (by repeat (first | (with_reducible first | exact HB.out | apply below_alloc | apply pw_below_drewN | apply below_drew1 | refine below_set ?_ GE104.out) | exact HB.out))) | (with_reducible refine Kd.C_alloc ?_ _) | (with_reducible refine Kd.C_drewN ?_ _) | (with_reducible refine Kd.C_drew ?_))); (case side2 => exact HC0_2.out); rintro e w' ⟨rfl, ⟨nd, rfl⟩⟩))
        go_ret
        exact ⟨by first | rfl | (simp [errW_none, errW_some] <;> rfl) | (simp [*, errW_none, errW_some] <;> rfl), by repeat (first | (with_reducible first | exact HB.out | apply below_alloc | apply pw_below_drewN | apply below_drew1 | refine below_set ?_ GE104.out) | exact HB.out)⟩
    · replace c5 := Bool.eq_false_iff.mpr c5
      subst c5
      have H1 : (some false) = some r := by rw [if_neg (show ¬ (false = true) by decide)] at H; exact H
      clear H
      have H := H1
      clear H1
      obtain rfl := Option.some.inj H
      go_enter Try.func20, Try.ntmps20
      go_wp2_with (first | ((with_reducible refine gate_dst (N := 1) rfl ?_); refine box_event ?hg (N := 1) ?hd (cs := #[.slice A0_0 l0_0.length c0_0, .slice A0_1 l0_1.length c0_1, .slice A0_2 l0_2.length c0_2, .slice A0_3 l0_3.length c0_3, .slice A0_4 l0_4.length c0_4, .slice A0_5 l0_5.length c0_5]) (t := 27) ?hr ?_; (case hd => rfl); (case hg => rfl); (case hr => first | (go_simp; done) | (go_simp; rfl)); intro gb104 hg w25 hbox hb; have n0_ := Aside0.mk (below_step (by repeat (first | (with_reducible first | exact HB.out | apply below_alloc | apply pw_below_drewN | apply below_drew1) | exact HB.out)) hb); have n1_ := Aside0.mk (hbox); have n2_ := Aside0.mk ((by rw [hg]; exact (below_size (by repeat (first | (with_reducible first | exact HB.out | apply below_alloc | apply pw_below_drewN | apply below_drew1) | exact HB.out))) : w.heap.size ≤ gb104)); have n3_ := Aside0.mk ((by rw [hg]; exact (below_size (by repeat (first | (with_reducible first | exact HB.out | apply below_alloc | apply pw_below_drewN | apply below_drew1) | exact HB.out))) : w.heap.size ≤ gb104)); clear HB; have HB := n0_; have BK104 := n1_; have GW104 := n2_; have GE104 := n3_; clear n0_ n1_ n2_ n3_; clear hb hbox hg; have hcz26_0 : w25.cell? ⟨gb104, 0, none⟩ = some (.slice A0_0 l0_0.length c0_0) := (blk_cell BK104.out 0).trans rfl; have hcz26_1 : w25.cell? ⟨gb104, 1, none⟩ = some (.slice A0_1 l0_1.length c0_1) := (blk_cell BK104.out 1).trans rfl; have hcz26_2 : w25.cell? ⟨gb104, 2, none⟩ = some (.slice A0_2 l0_2.length c0_2) := (blk_cell BK104.out 2).trans rfl; have hcz26_3 : w25.cell? ⟨gb104, 3, none⟩ = some (.slice A0_3 l0_3.length c0_3) := (blk_cell BK104.out 3).trans rfl; have hcz26_4 : w25.cell? ⟨gb104, 4, none⟩ = some (.slice A0_4 l0_4.length c0_4) := (blk_cell BK104.out 4).trans rfl; have hcz26_5 : w25.cell? ⟨gb104, 5, none⟩ = some (.slice A0_5 l0_5.length c0_5) := (blk_cell BK104.out 5).trans rfl; have hfz26_0 := blk_frozen BK104.out 0; have hfz26_1 := blk_frozen BK104.out 1; have hfz26_2 := blk_frozen BK104.out 2; have hfz26_3 := blk_frozen BK104.out 3; have hfz26_4 := blk_frozen BK104.out 4; have hfz26_5 := blk_frozen BK104.out 5) | ((with_reducible refine gate_callee (f := 41) rfl ?_); refine goesL_ (some 5) rfl rfl Try.func41 (by kernel_rfl) rfl #[.slice A0_0 l0_0.length c0_0] rfl (by (try simp only [List.map_toArray, List.map_cons, List.map_nil]); first | done | rfl | (simp only [List.length_drop, List.length_take]; rfl)) ?_; (with_reducible refine (unicodetextref11_Small.calls k _ _ l0_0 true _ ?side1 ?side2 A2.out).mono ?_); (case side1 => repeat (first | exact (Kd.C_below HR0_0.out HB.out) | (with_reducible refine Kd.C_alloc ?_ _) | (with_reducible refine Kd.C_drewN ?_ _) | (with_reducible refine Kd.C_drew ?_))); (case side2 => exact HC0_0.out); rintro e w' ⟨rfl, ⟨nd, rfl⟩⟩; refine ⟨_, rfl, ?_⟩) | (go_at_call 41; (with_reducible refine (unicodetextref11_Small.calls k _ _ l0_1 false _ ?side1 ?side2 A4.out).mono ?_); (case side1 => repeat (first | exact (Kd.C_below HR0_1.out (by repeat (first | (with_reducible first | exact HB.out | apply below_alloc | apply pw_below_drewN | apply below_drew1 | refine below_set ?_ GE104.out) | exact HB.out))) | (with_reducible refine Kd.C_alloc ?_ _) | (with_reducible refine Kd.C_drewN ?_ _) | (with_reducible refine Kd.C_drew ?_))); (case side2 => exact HC0_1.out); rintro e w' ⟨rfl, ⟨nd, rfl⟩⟩))
      go_ret
      exact ⟨by first | rfl | (simp [errW_none, errW_some] <;> rfl) | (simp [*, errW_none, errW_some] <;> rfl), by repeat (first | (with_reducible first | exact HB.out | apply below_alloc | apply pw_below_drewN | apply below_drew1 | refine below_set ?_ GE104.out) | exact HB.out)⟩
  · replace c3 := Bool.eq_false_iff.mpr c3
    subst c3
    have H1 : (some false) = some r := by rw [if_neg (show ¬ (false = true) by decide)] at H; exact H
    clear H
    have H := H1
    clear H1
    obtain rfl := Option.some.inj H
    go_enter Try.func20, Try.ntmps20
    go_wp2_with (first | ((with_reducible refine gate_dst (N := 1) rfl ?_); refine box_event ?hg (N := 1) ?hd (cs := #[.slice A0_0 l0_0.length c0_0, .slice A0_1 l0_1.length c0_1, .slice A0_2 l0_2.length c0_2, .slice A0_3 l0_3.length c0_3, .slice A0_4 l0_4.length c0_4, .slice A0_5 l0_5.length c0_5]) (t := 27) ?hr ?_; (case hd => rfl); (case hg => rfl); (case hr => first | (go_simp; done) | (go_simp; rfl)); intro gb104 hg w27 hbox hb; have n0_ := Aside0.mk (below_step (by repeat (first | (with_reducible first | exact HB.out | apply below_alloc | apply pw_below_drewN | apply below_drew1) | exact HB.out)) hb); have n1_ := Aside0.mk (hbox); have n2_ := Aside0.mk ((by rw [hg]; exact (below_size (by repeat (first | (with_reducible first | exact HB.out | apply below_alloc | apply pw_below_drewN | apply below_drew1) | exact HB.out))) : w.heap.size ≤ gb104)); have n3_ := Aside0.mk ((by rw [hg]; exact (below_size (by repeat (first | (with_reducible first | exact HB.out | apply below_alloc | apply pw_below_drewN | apply below_drew1) | exact HB.out))) : w.heap.size ≤ gb104)); clear HB; have HB := n0_; have BK104 := n1_; have GW104 := n2_; have GE104 := n3_; clear n0_ n1_ n2_ n3_; clear hb hbox hg; have hcz28_0 : w27.cell? ⟨gb104, 0, none⟩ = some (.slice A0_0 l0_0.length c0_0) := (blk_cell BK104.out 0).trans rfl; have hcz28_1 : w27.cell? ⟨gb104, 1, none⟩ = some (.slice A0_1 l0_1.length c0_1) := (blk_cell BK104.out 1).trans rfl; have hcz28_2 : w27.cell? ⟨gb104, 2, none⟩ = some (.slice A0_2 l0_2.length c0_2) := (blk_cell BK104.out 2).trans rfl; have hcz28_3 : w27.cell? ⟨gb104, 3, none⟩ = some (.slice A0_3 l0_3.length c0_3) := (blk_cell BK104.out 3).trans rfl; have hcz28_4 : w27.cell? ⟨gb104, 4, none⟩ = some (.slice A0_4 l0_4.length c0_4) := (blk_cell BK104.out 4).trans rfl; have hcz28_5 : w27.cell? ⟨gb104, 5, none⟩ = some (.slice A0_5 l0_5.length c0_5) := (blk_cell BK104.out 5).trans rfl; have hfz28_0 := blk_frozen BK104.out 0; have hfz28_1 := blk_frozen BK104.out 1; have hfz28_2 := blk_frozen BK104.out 2; have hfz28_3 := blk_frozen BK104.out 3; have hfz28_4 := blk_frozen BK104.out 4; have hfz28_5 := blk_frozen BK104.out 5) | ((with_reducible refine gate_callee (f := 41) rfl ?_); refine goesL_ (some 5) rfl rfl Try.func41 (by kernel_rfl) rfl #[.slice A0_0 l0_0.length c0_0] rfl (by (try simp only [List.map_toArray, List.map_cons, List.map_nil]); first | done | rfl | (simp only [List.length_drop, List.length_take]; rfl)) ?_; (with_reducible refine (unicodetextref11_Small.calls k _ _ l0_0 false _ ?side1 ?side2 A2.out).mono ?_); (case side1 => repeat (first | exact (Kd.C_below HR0_0.out HB.out) | (with_reducible refine Kd.C_alloc ?_ _) | (with_reducible refine Kd.C_drewN ?_ _) | (with_reducible refine Kd.C_drew ?_))); (case side2 => exact HC0_0.out); rintro e w' ⟨rfl, ⟨nd, rfl⟩⟩; refine ⟨_, rfl, ?_⟩))
    go_ret
    exact ⟨by first | rfl | (simp [errW_none, errW_some] <;> rfl) | (simp [*, errW_none, errW_some] <;> rfl), by repeat (first | (with_reducible first | exact HB.out | apply below_alloc | apply pw_below_drewN | apply below_drew1 | refine below_set ?_ GE104.out) | exact HB.out)⟩
end Go.Proofs.Ythnkmcfhpjmihaa.Q
end
section
namespace Go.Proofs.Ythnkmcfhpjmihaa.Q
open Go.RowKit Go.Proofs.YthnkmcfhpjmihaaW.PrintWords Go.Proofs.YthnkmcfhpjmihaaW.PrintLast Go.Proofs.YthnkmcfhpjmihaaW.PrintMore
attribute [local go_sem] max2_int min2_int max_two min_two max_three min_three max_four min_four   -- for this text's walks alone
set_option linter.unusedVariables false
set_option linter.unusedSimpArgs false
def unicodetextlaw37_few.f (k : Nat) (l0_0 : List (S43)) (l0_1 : List (S43)) (l0_2 : List (S43)) (l0_3 : List (S43)) (l0_4 : List (S33)) (l0_5 : List (S33)) (l1 : List Int) : Option (Bool) := (unicodetextref37_Small.f k l0_0 l0_1 l0_2 l0_3 l0_4 l0_5).bind fun t112 => (if t112 = true then (some (decide ((l1.length : Int) ≤ 40))) else (some false))
set_option maxHeartbeats 8000000 in
set_option maxRecDepth 100000 in
theorem unicodetextlaw37_few.calls (k : Nat) (A0_0 : Option Addr) (c0_0 : Nat) (l0_0 : List (S43)) (A0_1 : Option Addr) (c0_1 : Nat) (l0_1 : List (S43)) (A0_2 : Option Addr) (c0_2 : Nat) (l0_2 : List (S43)) (A0_3 : Option Addr) (c0_3 : Nat) (l0_3 : List (S43)) (A0_4 : Option Addr) (c0_4 : Nat) (l0_4 : List (S33)) (A0_5 : Option Addr) (c0_5 : Nat) (l0_5 : List (S33)) (A1 : Option Addr) (c1 : Nat) (l1 : List Int) (r : Bool) (w : World) (hr0_0 : Kd.C k43 w A0_0 l0_0.length l0_0) (hc0_0 : l0_0.length ≤ c0_0) (hr0_1 : Kd.C k43 w A0_1 l0_1.length l0_1) (hc0_1 : l0_1.length ≤ c0_1) (hr0_2 : Kd.C k43 w A0_2 l0_2.length l0_2) (hc0_2 : l0_2.length ≤ c0_2) (hr0_3 : Kd.C k43 w A0_3 l0_3.length l0_3) (hc0_3 : l0_3.length ≤ c0_3) (hr0_4 : Kd.C k33 w A0_4 l0_4.length l0_4) (hc0_4 : l0_4.length ≤ c0_4) (hr0_5 : Kd.C k33 w A0_5 l0_5.length l0_5) (hc0_5 : l0_5.length ≤ c0_5) (hr1 : Kd.C (Kd.int .i64) w A1 l1.length l1) (hc1 : l1.length ≤ c1) (h : unicodetextlaw37_few.f k l0_0 l0_1 l0_2 l0_3 l0_4 l0_5 l1 = some r) :
    Calls Try.prog 12 #[.agg #[.slice A0_0 l0_0.length c0_0, .slice A0_1 l0_1.length c0_1, .slice A0_2 l0_2.length c0_2, .slice A0_3 l0_3.length c0_3, .slice A0_4 l0_4.length c0_4, .slice A0_5 l0_5.length c0_5], .slice A1 l1.length c1] w fun e w' => e = .returned (.bool r) ∧ Below w.heap.size w w' := by
  have hu27 := Try.underlying27
  have HR0_0 := Aside0.mk hr0_0
  have HC0_0 := Aside0.mk hc0_0
  clear hr0_0 hc0_0
  have HR0_1 := Aside0.mk hr0_1
  have HC0_1 := Aside0.mk hc0_1
  clear hr0_1 hc0_1
  have HR0_2 := Aside0.mk hr0_2
  have HC0_2 := Aside0.mk hc0_2
  clear hr0_2 hc0_2
  have HR0_3 := Aside0.mk hr0_3
  have HC0_3 := Aside0.mk hc0_3
  clear hr0_3 hc0_3
  have HR0_4 := Aside0.mk hr0_4
  have HC0_4 := Aside0.mk hc0_4
  clear hr0_4 hc0_4
  have HR0_5 := Aside0.mk hr0_5
  have HC0_5 := Aside0.mk hc0_5
  clear hr0_5 hc0_5
  have HR1 := Aside0.mk hr1
  have HC1 := Aside0.mk hc1
  clear hr1 hc1
  have HB := Aside0.mk (Below.refl w.heap.size w)
  have H : ((unicodetextref37_Small.f k l0_0 l0_1 l0_2 l0_3 l0_4 l0_5).bind fun t112 => (if t112 = true then (some (decide ((l1.length : Int) ≤ 40))) else (some false))) = some r := h
  clear h
  replace H := Option.bind_eq_some_iff.mp H
  obtain ⟨t112, A30, H⟩ := H
  replace H : (if t112 = true then (some (decide ((l1.length : Int) ≤ 40))) else (some false)) = some r := H
  have A3 := Aside0.mk A30
  clear A30
  by_cases c4 : t112 = true
  · subst c4
    have H1 : (some (decide ((l1.length : Int) ≤ 40))) = some r := by rw [if_pos rfl] at H; exact H
    clear H
    have H := H1
    clear H1
    obtain rfl := Option.some.inj H
    go_enter Try.func12, Try.ntmps12
    go_wp2_with (first | ((with_reducible refine gate_dst (N := 2) rfl ?_); (try (refine gate_guard (by rfl) ?_; dsimp only)); refine box_event ?hg (N := 2) ?hd (cs := #[.slice A0_0 l0_0.length c0_0, .slice A0_1 l0_1.length c0_1, .slice A0_2 l0_2.length c0_2, .slice A0_3 l0_3.length c0_3, .slice A0_4 l0_4.length c0_4, .slice A0_5 l0_5.length c0_5]) (t := 27) ?hr ?_; (case hd => rfl); (case hg => rfl); (case hr => first | (go_simp; done) | (go_simp; rfl)); intro gb111 hg w5 hbox hb; have n0_ := Aside0.mk (below_step (by repeat (first | (with_reducible first | exact HB.out | apply below_alloc | apply pw_below_drewN | apply below_drew1) | exact HB.out)) hb); have n1_ := Aside0.mk (hbox); have n2_ := Aside0.mk ((by rw [hg]; exact (below_size (by repeat (first | (with_reducible first | exact HB.out | apply below_alloc | apply pw_below_drewN | apply below_drew1) | exact HB.out))) : w.heap.size ≤ gb111)); have n3_ := Aside0.mk ((by rw [hg]; exact (below_size (by repeat (first | (with_reducible first | exact HB.out | apply below_alloc | apply pw_below_drewN | apply below_drew1) | exact HB.out))) : w.heap.size ≤ gb111)); clear HB; have HB := n0_; have BK111 := n1_; have GW111 := n2_; have GE111 := n3_; clear n0_ n1_ n2_ n3_; clear hb hbox hg; have hcz6_0 : w5.cell? ⟨gb111, 0, none⟩ = some (.slice A0_0 l0_0.length c0_0) := (blk_cell BK111.out 0).trans rfl; have hcz6_1 : w5.cell? ⟨gb111, 1, none⟩ = some (.slice A0_1 l0_1.length c0_1) := (blk_cell BK111.out 1).trans rfl; have hcz6_2 : w5.cell? ⟨gb111, 2, none⟩ = some (.slice A0_2 l0_2.length c0_2) := (blk_cell BK111.out 2).trans rfl; have hcz6_3 : w5.cell? ⟨gb111, 3, none⟩ = some (.slice A0_3 l0_3.length c0_3) := (blk_cell BK111.out 3).trans rfl; have hcz6_4 : w5.cell? ⟨gb111, 4, none⟩ = some (.slice A0_4 l0_4.length c0_4) := (blk_cell BK111.out 4).trans rfl; have hcz6_5 : w5.cell? ⟨gb111, 5, none⟩ = some (.slice A0_5 l0_5.length c0_5) := (blk_cell BK111.out 5).trans rfl; have hfz6_0 := blk_frozen BK111.out 0; have hfz6_1 := blk_frozen BK111.out 1; have hfz6_2 := blk_frozen BK111.out 2; have hfz6_3 := blk_frozen BK111.out 3; have hfz6_4 := blk_frozen BK111.out 4; have hfz6_5 := blk_frozen BK111.out 5) | ((with_reducible refine gate_callee (f := 20) rfl ?_); refine goesL_ (some 6) rfl rfl Try.func20 (by kernel_rfl) rfl #[.agg #[.slice A0_0 l0_0.length c0_0, .slice A0_1 l0_1.length c0_1, .slice A0_2 l0_2.length c0_2, .slice A0_3 l0_3.length c0_3, .slice A0_4 l0_4.length c0_4, .slice A0_5 l0_5.length c0_5]] rfl (by (try simp only [List.map_toArray, List.map_cons, List.map_nil]); first | done | rfl | (simp only [List.length_drop, List.length_take]; rfl)) ?_; (with_reducible refine (unicodetextref37_Small.calls k _ _ l0_0 _ _ l0_1 _ _ l0_2 _ _ l0_3 _ _ l0_4 _ _ l0_5 true _ ?side1 ?side2 ?side3 ?side4 ?side5 ?side6 ?side7 ?side8 ?side9 ?side10 ?side11 ?side12 A3.out).mono ?_); (case side1 => repeat (first | exact (Kd.C_below HR0_0.out HB.out) | (with_reducible refine Kd.C_alloc ?_ _) | (with_reducible refine Kd.C_drewN ?_ _) | (with_reducible refine Kd.C_drew ?_))); (case side2 => exact HC0_0.out); (case side3 => repeat (first | exact (Kd.C_below HR0_1.out HB.out) | (with_reducible refine Kd.C_alloc ?_ _) | (with_reducible refine Kd.C_drewN ?_ _) | (with_reducible refine Kd.C_drew ?_))); (case side4 => exact HC0_1.out); (case side5 => repeat (first | exact (Kd.C_below HR0_2.out HB.out) | (with_reducible refine Kd.C_alloc ?_ _) | (with_reducible refine Kd.C_drewN ?_ _) | (with_reducible refine Kd.C_drew ?_))); (case side6 => exact HC0_2.out); (case side7 => repeat (first | exact (Kd.C_below HR0_3.out HB.out) | (with_reducible refine Kd.C_alloc ?_ _) | (with_reducible refine Kd.C_drewN ?_ _) | (with_reducible refine Kd.C_drew ?_))); (case side8 => exact HC0_3.out); (case side9 => repeat (first | exact (Kd.C_below HR0_4.out HB.out) | (with_reducible refine Kd.C_alloc ?_ _) | (with_reducible refine Kd.C_drewN ?_ _) | (with_reducible refine Kd.C_drew ?_))); (case side10 => exact HC0_4.out); (case side11 => repeat (first | exact (Kd.C_below HR0_5.out HB.out) | (with_reducible refine Kd.C_alloc ?_ _) | (with_reducible refine Kd.C_drewN ?_ _) | (with_reducible refine Kd.C_drew ?_))); (case side12 => exact HC0_5.out); rintro e w7 ⟨rfl, hb⟩; refine ⟨_, rfl, ?_⟩; have n0_ := Aside0.mk (blk_below (g := gb111) (o := .cells #[.slice A0_0 l0_0.length c0_0, .slice A0_1 l0_1.length c0_1, .slice A0_2 l0_2.length c0_2, .slice A0_3 l0_3.length c0_3, .slice A0_4 l0_4.length c0_4, .slice A0_5 l0_5.length c0_5] 27 (0, 0)) (by (with_reducible repeat (first | refine blk_drewN ?_ _ | refine blk_drew ?_ | refine blk_alloc ?_ _)); exact BK111.out) hb); have n1_ := Aside0.mk (below_step (by repeat (first | (with_reducible first | exact HB.out | apply below_alloc | apply pw_below_drewN | apply below_drew1 | refine below_set ?_ GE111.out) | exact HB.out)) hb); clear BK111; clear HB; have BK111 := n0_; have HB := n1_; clear n0_ n1_; (try clear hb); (try clear hb2); (try clear hk); (try clear hi)))
    go_ret
    exact ⟨by first | rfl | (simp [errW_none, errW_some] <;> rfl) | (simp [*, errW_none, errW_some] <;> rfl), by repeat (first | (with_reducible first | exact HB.out | apply below_alloc | apply pw_below_drewN | apply below_drew1 | refine below_set ?_ GE111.out) | exact HB.out)⟩
  · replace c4 := Bool.eq_false_iff.mpr c4
    subst c4
    have H1 : (some false) = some r := by rw [if_neg (show ¬ (false = true) by decide)] at H; exact H
    clear H
    have H := H1
    clear H1
    obtain rfl := Option.some.inj H
    go_enter Try.func12, Try.ntmps12
    go_wp2_with (first | ((with_reducible refine gate_dst (N := 2) rfl ?_); (try (refine gate_guard (by rfl) ?_; dsimp only)); refine box_event ?hg (N := 2) ?hd (cs := #[.slice A0_0 l0_0.length c0_0, .slice A0_1 l0_1.length c0_1, .slice A0_2 l0_2.length c0_2, .slice A0_3 l0_3.length c0_3, .slice A0_4 l0_4.length c0_4, .slice A0_5 l0_5.length c0_5]) (t := 27) ?hr ?_; (case hd => rfl); (case hg => rfl); (case hr => first | (go_simp; done) | (go_simp; rfl)); intro gb111 hg w8 hbox hb; have n0_ := Aside0.mk (below_step (by repeat (first | (with_reducible first | exact HB.out | apply below_alloc | apply pw_below_drewN | apply below_drew1) | exact HB.out)) hb); have n1_ := Aside0.mk (hbox); have n2_ := Aside0.mk ((by rw [hg]; exact (below_size (by repeat (first | (with_reducible first | exact HB.out | apply below_alloc | apply pw_below_drewN | apply below_drew1) | exact HB.out))) : w.heap.size ≤ gb111)); have n3_ := Aside0.mk ((by rw [hg]; exact (below_size (by repeat (first | (with_reducible first | exact HB.out | apply below_alloc | apply pw_below_drewN | apply below_drew1) | exact HB.out))) : w.heap.size ≤ gb111)); clear HB; have HB := n0_; have BK111 := n1_; have GW111 := n2_; have GE111 := n3_; clear n0_ n1_ n2_ n3_; clear hb hbox hg; have hcz9_0 : w8.cell? ⟨gb111, 0, none⟩ = some (.slice A0_0 l0_0.length c0_0) := (blk_cell BK111.out 0).trans rfl; have hcz9_1 : w8.cell? ⟨gb111, 1, none⟩ = some (.slice A0_1 l0_1.length c0_1) := (blk_cell BK111.out 1).trans rfl; have hcz9_2 : w8.cell? ⟨gb111, 2, none⟩ = some (.slice A0_2 l0_2.length c0_2) := (blk_cell BK111.out 2).trans rfl; have hcz9_3 : w8.cell? ⟨gb111, 3, none⟩ = some (.slice A0_3 l0_3.length c0_3) := (blk_cell BK111.out 3).trans rfl; have hcz9_4 : w8.cell? ⟨gb111, 4, none⟩ = some (.slice A0_4 l0_4.length c0_4) := (blk_cell BK111.out 4).trans rfl; have hcz9_5 : w8.cell? ⟨gb111, 5, none⟩ = some (.slice A0_5 l0_5.length c0_5) := (blk_cell BK111.out 5).trans rfl; have hfz9_0 := blk_frozen BK111.out 0; have hfz9_1 := blk_frozen BK111.out 1; have hfz9_2 := blk_frozen BK111.out 2; have hfz9_3 := blk_frozen BK111.out 3; have hfz9_4 := blk_frozen BK111.out 4; have hfz9_5 := blk_frozen BK111.out 5) | ((with_reducible refine gate_callee (f := 20) rfl ?_); refine goesL_ (some 6) rfl rfl Try.func20 (by kernel_rfl) rfl #[.agg #[.slice A0_0 l0_0.length c0_0, .slice A0_1 l0_1.length c0_1, .slice A0_2 l0_2.length c0_2, .slice A0_3 l0_3.length c0_3, .slice A0_4 l0_4.length c0_4, .slice A0_5 l0_5.length c0_5]] rfl (by (try simp only [List.map_toArray, List.map_cons, List.map_nil]); first | done | rfl | (simp only [List.length_drop, List.length_take]; rfl)) ?_; (with_reducible refine (unicodetextref37_Small.calls k _ _ l0_0 _ _ l0_1 _ _ l0_2 _ _ l0_3 _ _ l0_4 _ _ l0_5 false _ ?side1 ?side2 ?side3 ?side4 ?side5 ?side6 ?side7 ?side8 ?side9 ?side10 ?side11 ?side12 A3.out).mono ?_); (case side1 => repeat (first | exact (Kd.C_below HR0_0.out HB.out) | (with_reducible refine Kd.C_alloc ?_ _) | (with_reducible refine Kd.C_drewN ?_ _) | (with_reducible refine Kd.C_drew ?_))); (case side2 => exact HC0_0.out); (case side3 => repeat (first | exact (Kd.C_below HR0_1.out HB.out) | (with_reducible refine Kd.C_alloc ?_ _) | (with_reducible refine Kd.C_drewN ?_ _) | (with_reducible refine Kd.C_drew ?_))); (case side4 => exact HC0_1.out); (case side5 => repeat (first | exact (Kd.C_below HR0_2.out HB.out) | (with_reducible refine Kd.C_alloc ?_ _) | (with_reducible refine Kd.C_drewN ?_ _) | (with_reducible refine Kd.C_drew ?_))); (case side6 => exact HC0_2.out); (case side7 => repeat (first | exact (Kd.C_below HR0_3.out HB.out) | (with_reducible refine Kd.C_alloc ?_ _) | (with_reducible refine Kd.C_drewN ?_ _) | (with_reducible refine Kd.C_drew ?_))); (case side8 => exact HC0_3.out); (case side9 => repeat (first | exact (Kd.C_below HR0_4.out HB.out) | (with_reducible refine Kd.C_alloc ?_ _) | (with_reducible refine Kd.C_drewN ?_ _) | (with_reducible refine Kd.C_drew ?_))); (case side10 => exact HC0_4.out); (case side11 => repeat (first | exact (Kd.C_below HR0_5.out HB.out) | (with_reducible refine Kd.C_alloc ?_ _) | (with_reducible refine Kd.C_drewN ?_ _) | (with_reducible refine Kd.C_drew ?_))); (case side12 => exact HC0_5.out); rintro e w10 ⟨rfl, hb⟩; refine ⟨_, rfl, ?_⟩; have n0_ := Aside0.mk (blk_below (g := gb111) (o := .cells #[.slice A0_0 l0_0.length c0_0, .slice A0_1 l0_1.length c0_1, .slice A0_2 l0_2.length c0_2, .slice A0_3 l0_3.length c0_3, .slice A0_4 l0_4.length c0_4, .slice A0_5 l0_5.length c0_5] 27 (0, 0)) (by (with_reducible repeat (first | refine blk_drewN ?_ _ | refine blk_drew ?_ | refine blk_alloc ?_ _)); exact BK111.out) hb); have n1_ := Aside0.mk (below_step (by repeat (first | (with_reducible first | exact HB.out | apply below_alloc | apply pw_below_drewN | apply below_drew1 | refine below_set ?_ GE111.out) | exact HB.out)) hb); clear BK111; clear HB; have BK111 := n0_; have HB := n1_; clear n0_ n1_; (try clear hb); (try clear hb2); (try clear hk); (try clear hi)))
    go_ret
    exact ⟨by first | rfl | (simp [errW_none, errW_some] <;> rfl) | (simp [*, errW_none, errW_some] <;> rfl), by repeat (first | (with_reducible first | exact HB.out | apply below_alloc | apply pw_below_drewN | apply below_drew1 | refine below_set ?_ GE111.out) | exact HB.out)⟩
def unicodetextref37_Within.l0 : Nat → List (S33) → Int → Int → Int → Option (Bool)
  | 0, _, _, _, _ => none
  | k + 1, x0, x1, x5, x6 => if x6 < (x0.length : Int) then (if 0 ≤ x6 then (if ((rd_T33 x0 x6).f0) < x5 then (some false) else (if ((rd_T33 x0 x6).f1) < ((rd_T33 x0 x6).f0) then (some false) else (if ((rd_T33 x0 x6).f1) > x1 then (some false) else (unicodetextref37_Within.l0 k x0 x1 ((rd_T33 x0 x6).f1) (wrap64 (x6 + 1)))))) else (none)) else (some true)
def unicodetextref37_Within.f (k : Nat) (l0 : List (S33)) (a1 : Int) : Option (Bool) := unicodetextref37_Within.l0 k l0 a1 0 0
end Go.Proofs.Ythnkmcfhpjmihaa.Q
end
section
namespace Go.Proofs.Ythnkmcfhpjmihaa.Q
open Go.RowKit Go.Proofs.YthnkmcfhpjmihaaW.PrintWords Go.Proofs.YthnkmcfhpjmihaaW.PrintLast Go.Proofs.YthnkmcfhpjmihaaW.PrintMore
set_option linter.unusedVariables false
def plFewM (l : List Mp) : Prop := l.length ≤ 20 ∧ ∀ x ∈ l, x.f1.length ≤ 65 ∧ x.f2.size ≤ 40
def plFewC (c : CaseS) : Prop := plFewM c.lo ∧ plFewM c.up ∧ plFewM c.ti ∧ plFewM c.fo ∧ c.ca.length ≤ 12 ∧ c.ig.length ≤ 12
theorem rdM_mid (pre : List Mp) (x : Mp) (rest : List Mp) : rd_T43 (pre ++ x :: rest) (pre.length : Int) = x := by
  unfold rd_T43
  rw [Int.toNat_natCast, List.getD_eq_getElem?_getD, List.getElem?_append_right (Nat.le_refl _), Nat.sub_self]
  rfl
theorem plSmallM_go : ∀ (d : Nat) (rest pre : List Mp) (k : Nat), pre.length + d = 30 → 2 * d + 2 ≤ k →
    ∃ b, unicodetextref11_Small.l0 k (pre ++ rest) (pre.length : Int) = some b ∧ (b = true → (pre ++ rest).length ≤ 20 ∧ ∀ s ∈ rest, s.f1.length ≤ 65 ∧ s.f2.size ≤ 40)
  | d, [], pre, k, h1, h2 => by
    obtain ⟨k, rfl⟩ : ∃ j, k = j + 2 := ⟨k - 2, by omega⟩
    rw [unicodetextref11_Small.l0, if_neg (by simp), unicodetextref11_Small.j1, if_neg (by decide)]
    refine ⟨_, rfl, fun h => ⟨?_, fun s hs => by cases hs⟩⟩
    have := of_decide_eq_true h
    omega
  | 0, s :: rest, pre, k, h1, h2 => by
    obtain ⟨k, rfl⟩ : ∃ j, k = j + 2 := ⟨k - 2, by omega⟩
    rw [unicodetextref11_Small.l0, if_pos (by simp; omega), decide_eq_false (by omega), unicodetextref11_Small.j1, if_neg (by decide)]
    refine ⟨_, rfl, fun h => ?_⟩
    have := of_decide_eq_true h
    simp at this
    omega
  | d + 1, s :: rest, pre, k, h1, h2 => by
    obtain ⟨k, rfl⟩ : ∃ j, k = j + 2 := ⟨k - 2, by omega⟩
    obtain ⟨b, ih, hb⟩ := plSmallM_go d rest (pre ++ [s]) k (by simp; omega) (by omega)
    have ex : (pre ++ [s]) ++ rest = pre ++ s :: rest := by simp
    have el : ((pre ++ [s]).length : Int) = ((pre.length + 1 : Nat) : Int) := by simp
    rw [ex, el] at ih
    rw [ex] at hb
    rw [unicodetextref11_Small.l0, if_pos (by simp; omega), decide_eq_true (by omega), unicodetextref11_Small.j1, if_pos rfl, if_pos (by omega), if_pos (by simp; omega), rdM_mid, wrap_suc (by omega : pre.length < 1000000000), ih]
    by_cases hs : (s.f1.length : Int) > 65
    · rw [if_pos hs]
      exact ⟨false, rfl, fun h => by cases h⟩
    · rw [if_neg hs]
      by_cases ht : (s.f2.size : Int) > 40
      · rw [if_pos ht]
        exact ⟨false, rfl, fun h => by cases h⟩
      · rw [if_neg ht]
        exact ⟨b, rfl, fun h => ⟨(hb h).1, fun x hx => by
          rcases List.mem_cons.1 hx with rfl | hx
          · exact ⟨by omega, by omega⟩
          · exact (hb h).2 x hx⟩⟩
theorem plSmallM_ok (l : List Mp) (k : Nat) (hk : 62 ≤ k) : ∃ b, unicodetextref11_Small.f k l = some b ∧ (b = true → plFewM l) := plSmallM_go 30 l [] k rfl (by omega)
theorem plSmall_ok (c : CaseS) (k : Nat) (hk : 62 ≤ k) : ∃ b, unicodetextref37_Small.f k c.lo c.up c.ti c.fo c.ca c.ig = some b ∧ (b = true → plFewC c) := by
  obtain ⟨b0, e0, g0⟩ := plSmallM_ok c.lo k hk
  obtain ⟨b1, e1, g1⟩ := plSmallM_ok c.up k hk
  obtain ⟨b2, e2, g2⟩ := plSmallM_ok c.ti k hk
  obtain ⟨b3, e3, g3⟩ := plSmallM_ok c.fo k hk
  unfold unicodetextref37_Small.f unicodetextref02_Small.f
  rw [e0, e1, e2, e3]
  simp only [Option.bind_some]
  cases b0 with
  | false => exact ⟨false, rfl, fun h => by cases h⟩
  | true => cases b1 with
    | false => exact ⟨false, rfl, fun h => by cases h⟩
    | true => cases b2 with
      | false => exact ⟨false, rfl, fun h => by cases h⟩
      | true => cases b3 with
        | false => exact ⟨false, rfl, fun h => by cases h⟩
        | true =>
          simp only [if_true]
          by_cases h4 : (c.ca.length : Int) ≤ 12
          · rw [decide_eq_true h4, if_pos rfl]
            exact ⟨_, rfl, fun h => ⟨g0 rfl, g1 rfl, g2 rfl, g3 rfl, by omega, by have := of_decide_eq_true h; omega⟩⟩
          · rw [decide_eq_false h4, if_neg (by decide)]
            exact ⟨false, rfl, fun h => by cases h⟩
theorem plFew_ok (c : CaseS) (text : List Int) (k : Nat) (hk : 62 ≤ k) : ∃ b, unicodetextlaw37_few.f k c.lo c.up c.ti c.fo c.ca c.ig text = some b ∧ (b = true → plFewC c ∧ text.length ≤ 40) := by
  obtain ⟨b, e, h⟩ := plSmall_ok c k hk
  unfold unicodetextlaw37_few.f
  rw [e]
  cases b with
  | false => exact ⟨false, rfl, fun h => by cases h⟩
  | true => exact ⟨_, rfl, fun h2 => ⟨h rfl, by have := of_decide_eq_true h2; omega⟩⟩
theorem plOkM {l : List Mp} (h : plFewM l) : okM l = true := by
  unfold okM
  rw [Bool.and_eq_true, decide_eq_true_eq, List.all_eq_true]
  refine ⟨by have := h.1; omega, fun x hx => ?_⟩
  have := h.2 x hx
  rw [decide_eq_true (by omega), decide_eq_true (by omega)]
  rfl
theorem plOkC {c : CaseS} (h : plFewC c) : okC c = true := by
  obtain ⟨h0, h1, h2, h3, h4, h5⟩ := h
  unfold okC
  rw [plOkM h0, plOkM h1, plOkM h2, plOkM h3, decide_eq_true (by omega), decide_eq_true (by omega)]
  rfl
theorem valid01_eq (c : Int) : unicodetextref01_Valid.f c = some (codeB c) := by
  unfold unicodetextref01_Valid.f codeB
  by_cases h : 0 ≤ c
  · rw [if_pos h, decide_eq_true h]; rfl
  · rw [if_neg h, decide_eq_false h]; rfl
theorem plCodes_go (fr : Int) (tg : ByteArray) : ∀ (rest pre : List Int) (k : Nat), (pre ++ rest).length < 1000000000 → rest.length + 1 ≤ k →
    unicodetextref11_codes.l0 k (pre.length : Int) fr (pre ++ rest) tg = some (codesB rest && codeB fr)
  | [], pre, k, h1, h2 => by
    obtain ⟨k, rfl⟩ : ∃ j, k = j + 1 := ⟨k - 1, by omega⟩
    rw [unicodetextref11_codes.l0, if_neg (by simp), valid01_eq]
    rfl
  | x :: rest, pre, k, h1, h2 => by
    obtain ⟨k, rfl⟩ : ∃ j, k = j + 1 := ⟨k - 1, by omega⟩
    have hp : pre.length < 1000000000 := by simp at h1; omega
    have ih := plCodes_go fr tg rest (pre ++ [x]) k (by simpa using h1) (by simp at h2; omega)
    have ex : (pre ++ [x]) ++ rest = pre ++ x :: rest := by simp
    have el : ((pre ++ [x]).length : Int) = ((pre.length + 1 : Nat) : Int) := by simp
    rw [ex, el] at ih
    rw [unicodetextref11_codes.l0, if_pos (by simp; omega), if_pos (by omega), rd_mid, wrap_suc hp, valid01_eq, ih]
    show (if codeB x = true then _ else _) = _
    unfold codesB
    rw [List.all_cons]
    cases codeB x <;> rfl
theorem bt_mid (s : ByteArray) (pre : List UInt8) (b : UInt8) (rest : List UInt8) (h : s.data.toList = pre ++ b :: rest) : pre.length < s.size ∧ bt s (pre.length : Int) = (b.toNat : Int) := by
  obtain ⟨⟨l⟩⟩ := s
  simp only at h
  subst h
  have hl : pre.length < (⟨⟨pre ++ b :: rest⟩⟩ : ByteArray).size := by
    show pre.length < (pre ++ b :: rest).length
    simp
  refine ⟨hl, ?_⟩
  unfold bt
  rw [Int.toNat_natCast, dif_pos hl]
  show (((pre ++ b :: rest)[pre.length]'(by simp)).toNat : Int) = _
  rw [List.getElem_append_right (Nat.le_refl _)]
  simp
theorem plName_go (s : ByteArray) (hs : s.size < 1000000000) : ∀ (rest pre : List UInt8) (k : Nat), s.data.toList = pre ++ rest → rest.length + 1 ≤ k →
    unicodetextref11_Name.l0 k s (pre.length : Int) = some ((rest.all fun b => nbyte (b.toNat : Int)) && (decide (1 ≤ s.size) && decide (s.size ≤ 32)))
  | [], pre, k, h1, h2 => by
    obtain ⟨k, rfl⟩ : ∃ j, k = j + 1 := ⟨k - 1, by omega⟩
    have e : s.size = pre.length := by
      show s.data.size = _
      rw [← Array.length_toList, h1, List.append_nil]
    rw [unicodetextref11_Name.l0, if_neg (by omega)]
    by_cases h : 1 ≤ s.size
    · rw [if_pos (by omega), decide_eq_true h]
      show some (decide _) = some (decide _)
      congr 1
      rw [decide_eq_decide]
      omega
    · rw [if_neg (by omega), decide_eq_false h]
      rfl
  | b :: rest, pre, k, h1, h2 => by
    obtain ⟨k, rfl⟩ : ∃ j, k = j + 1 := ⟨k - 1, by omega⟩
    obtain ⟨hlt, hb⟩ := bt_mid s pre b rest h1
    have ih := plName_go s hs rest (pre ++ [b]) k (by simpa using h1) (by simp at h2; omega)
    have el : ((pre ++ [b]).length : Int) = ((pre.length + 1 : Nat) : Int) := by simp
    rw [el] at ih
    rw [unicodetextref11_Name.l0, if_pos (by omega), if_pos (by omega), hb, wrap_suc (by omega : pre.length < 1000000000), ih, List.all_cons]
    generalize (b.toNat : Int) = r
    generalize (rest.all fun b => nbyte (b.toNat : Int)) = q
    repeat' split
    all_goals first
      | (have e : nbyte r = true := by
           unfold nbyte
           simp only [Bool.or_eq_true, decide_eq_true_eq]
           omega
         rw [e]; rfl)
      | (have e : nbyte r = false := by
           unfold nbyte
           simp only [Bool.or_eq_false_iff, decide_eq_false_iff_not]
           omega
         rw [e]; rfl)
theorem plName_ok (s : ByteArray) (k : Nat) (h : s.size ≤ 1000) (hk : s.size + 1 ≤ k) : unicodetextref11_Name.f k s = some (nameB s) := by
  have := plName_go s (by omega) s.data.toList [] k rfl (by rw [Array.length_toList]; exact hk)
  refine Eq.trans this ?_
  unfold nameB
  congr 1
  generalize (s.data.toList.all fun b => nbyte (b.toNat : Int)) = q
  generalize decide (1 ≤ s.size) = q1
  generalize decide (s.size ≤ 32) = q2
  cases q <;> cases q1 <;> cases q2 <;> rfl
def twR : List Mp → List Mp → Bool
  | _, [] => false
  | pre, x :: r => pre.any (fun y => sameK y x) || twR (pre ++ [x]) r
theorem twR_eq : ∀ (l pre : List Mp), twR pre l = (l.any (fun x => pre.any (fun y => sameK y x)) || twiceM l)
  | [], pre => rfl
  | x :: r, pre => by
    rw [twR, twR_eq r (pre ++ [x]), twiceM, List.any_cons]
    have e : (r.any fun z => (pre ++ [x]).any fun y => sameK y z) = ((r.any fun z => pre.any fun y => sameK y z) || r.any fun z => sameK x z) := by
      rw [Bool.eq_iff_iff]
      simp only [List.any_eq_true, Bool.or_eq_true, List.mem_append, List.mem_singleton]
      constructor
      · rintro ⟨z, hz, y, hy | rfl, h⟩
        · exact .inl ⟨z, hz, y, hy, h⟩
        · exact .inr ⟨z, hz, h⟩
      · rintro (⟨z, hz, y, hy, h⟩ | ⟨z, hz, h⟩)
        · exact ⟨z, hz, y, .inl hy, h⟩
        · exact ⟨z, hz, x, .inr rfl, h⟩
    rw [e]
    cases pre.any (fun y => sameK y x) <;> cases (r.any fun z => pre.any fun y => sameK y z) <;> rfl
theorem plTwiceIn (x : Mp) (rest : List Mp) : ∀ (p2 p1 : List Mp) (k : Nat), (p1 ++ p2).length < 1000000000 →
    unicodetextref11_twice.l1 (k + p2.length + 1) ((p1 ++ p2) ++ x :: rest) (((p1 ++ p2).length : Nat) : Int) (p1.length : Int) = if p2.any (fun y => sameK y x) = true then some true else unicodetextref11_twice.l0 k ((p1 ++ p2) ++ x :: rest) (((p1 ++ p2).length + 1 : Nat) : Int)
  | [], p1, k, h => by
    rw [unicodetextref11_twice.l1, if_neg (by simp), wrap_suc h]
    rfl
  | y :: p2, p1, k, h => by
    have ih := plTwiceIn x rest p2 (p1 ++ [y]) k (by simpa using h)
    have ex : (p1 ++ [y]) ++ p2 = p1 ++ y :: p2 := by simp
    have el : ((p1 ++ [y]).length : Int) = ((p1.length + 1 : Nat) : Int) := by simp
    rw [ex, el] at ih
    have e1 : rd_T43 ((p1 ++ y :: p2) ++ x :: rest) (((p1 ++ y :: p2).length : Nat) : Int) = x := rdM_mid _ _ _
    have e2 : rd_T43 ((p1 ++ y :: p2) ++ x :: rest) (p1.length : Int) = y := by
      rw [List.append_assoc]
      exact rdM_mid _ _ _
    rw [show k + (y :: p2).length + 1 = (k + p2.length + 1) + 1 by simp; omega, unicodetextref11_twice.l1, if_pos (by simp; omega), if_pos (by omega), if_pos (by simp; omega), if_pos (by omega), if_pos (by simp; omega), e1, e2, wrap_suc (by simp at h; omega : p1.length < 1000000000), ih, List.any_cons]
    unfold sameK
    by_cases ha : x.f0 = y.f0
    · rw [if_pos ha, decide_eq_true ha.symm]
      by_cases hb : x.f2 = y.f2
      · rw [if_pos (by rw [hb]), decide_eq_true hb.symm]
        rfl
      · rw [if_neg (fun hh => hb ((bytesEq_iff _ _).1 hh)), decide_eq_false (fun hh => hb hh.symm)]
        rfl
    · rw [if_neg ha, decide_eq_false (fun hh => ha hh.symm)]
      rfl
theorem plTwice_go : ∀ (rest pre : List Mp) (k : Nat), (pre ++ rest).length ≤ 30 → 40 * rest.length + 1 ≤ k → unicodetextref11_twice.l0 k (pre ++ rest) (pre.length : Int) = some (twR pre rest)
  | [], pre, k, h1, h2 => by
    obtain ⟨k, rfl⟩ : ∃ j, k = j + 1 := ⟨k - 1, by omega⟩
    rw [unicodetextref11_twice.l0, if_neg (by simp)]
    rfl
  | x :: rest, pre, k, h1, h2 => by
    have hp : pre.length ≤ 30 := by simp at h1; omega
    obtain ⟨k, rfl⟩ : ∃ j, k = (j + pre.length + 1) + 1 := ⟨k - pre.length - 2, by simp at h2; omega⟩
    have ih := plTwice_go rest (pre ++ [x]) k (by simpa using h1) (by simp at h2; omega)
    have ex : (pre ++ [x]) ++ rest = pre ++ x :: rest := by simp
    have el : ((pre ++ [x]).length : Int) = ((pre.length + 1 : Nat) : Int) := by simp
    rw [ex, el] at ih
    have hin := plTwiceIn x rest pre [] k (by simp; omega)
    rw [List.nil_append] at hin
    rw [unicodetextref11_twice.l0, if_pos (by simp; omega)]
    refine Eq.trans hin ?_
    rw [ih, twR]
    cases pre.any (fun y => sameK y x) <;> rfl
theorem plTwice_ok (l : List Mp) (k : Nat) (h : l.length ≤ 20) (hk : 801 ≤ k) : unicodetextref11_twice.f k l = some (twiceM l) := by
  refine (plTwice_go l [] k (by simp; omega) (by omega)).trans ?_
  rw [twR_eq]
  congr 1
  have : (l.any fun x => ([] : List Mp).any fun y => sameK y x) = false := by simp
  rw [this, Bool.false_or]
theorem plUn2 (hk0 : True) : ∀ (rest pre : List Mp) (k : Nat), (pre ++ rest).length ≤ 20 → (∀ x ∈ rest, x.f2.size ≤ 40) → rest.length + 820 ≤ k →
    unicodetextref11_unsorted.l2 k (pre ++ rest) (pre.length : Int) = some (if rest.all (fun x => decide (x.f2.size = 0) || nameB x.f2) then (if twiceM (pre ++ rest) then 5 else 0) else 6)
  | [], pre, k, h1, h3, h2 => by
    obtain ⟨k, rfl⟩ : ∃ j, k = j + 1 := ⟨k - 1, by omega⟩
    rw [unicodetextref11_unsorted.l2, if_neg (by simp), plTwice_ok _ k h1 (by simp at h2; omega)]
    show (if twiceM (pre ++ []) = true then _ else _) = some (if twiceM (pre ++ []) = true then _ else _)
    split <;> rfl
  | x :: rest, pre, k, h1, h3, h2 => by
    obtain ⟨k, rfl⟩ : ∃ j, k = j + 1 := ⟨k - 1, by omega⟩
    have hp : pre.length < 1000000000 := by simp at h1; omega
    have ih := plUn2 hk0 rest (pre ++ [x]) k (by simpa using h1) (fun y hy => h3 y (List.mem_cons_of_mem _ hy)) (by simp at h2; omega)
    have ex : (pre ++ [x]) ++ rest = pre ++ x :: rest := by simp
    have el : ((pre ++ [x]).length : Int) = ((pre.length + 1 : Nat) : Int) := by simp
    rw [ex, el] at ih
    have hx := h3 x List.mem_cons_self
    rw [unicodetextref11_unsorted.l2, if_pos (by simp; omega), if_pos (by omega), rdM_mid, wrap_suc hp, ih, plName_ok _ k (by omega) (by omega), List.all_cons]
    by_cases hz : x.f2.size = 0
    · rw [if_pos ((bytesEq_nil _).2 hz), decide_eq_true hz]
      rfl
    · rw [if_neg (fun hh => hz ((bytesEq_nil _).1 hh)), decide_eq_false hz]
      show (if nameB x.f2 = true then _ else _) = _
      cases nameB x.f2 <;> rfl
theorem plUn1 : ∀ (rest pre : List Mp) (k : Nat), (pre ++ rest).length ≤ 20 → (∀ x ∈ pre ++ rest, x.f2.size ≤ 40) → rest.length + 850 ≤ k →
    unicodetextref11_unsorted.l1 k (pre ++ rest) (pre.length : Int) = some (if rest.all (fun x => decide (x.f1.length ≤ 64)) then (if (pre ++ rest).all (fun x => decide (x.f2.size = 0) || nameB x.f2) then (if twiceM (pre ++ rest) then 5 else 0) else 6) else 2)
  | [], pre, k, h1, h3, h2 => by
    obtain ⟨k, rfl⟩ : ∃ j, k = j + 1 := ⟨k - 1, by omega⟩
    have := plUn2 trivial (pre ++ []) [] k (by simpa using h1) (fun x hx => h3 x hx) (by simp at h1 h2 ⊢; omega)
    rw [List.nil_append] at this
    rw [unicodetextref11_unsorted.l1, if_neg (by simp)]
    exact this
  | x :: rest, pre, k, h1, h3, h2 => by
    obtain ⟨k, rfl⟩ : ∃ j, k = j + 1 := ⟨k - 1, by omega⟩
    have hp : pre.length < 1000000000 := by simp at h1; omega
    have ex : (pre ++ [x]) ++ rest = pre ++ x :: rest := by simp
    have ih := plUn1 rest (pre ++ [x]) k (by simpa using h1) (by rw [ex]; exact h3) (by simp at h2; omega)
    have el : ((pre ++ [x]).length : Int) = ((pre.length + 1 : Nat) : Int) := by simp
    rw [ex, el] at ih
    rw [unicodetextref11_unsorted.l1, if_pos (by simp; omega), if_pos (by omega), rdM_mid, wrap_suc hp, ih, List.all_cons]
    by_cases hz : x.f1.length ≤ 64
    · rw [if_neg (by omega), decide_eq_true hz]
      rfl
    · rw [if_pos (by omega), decide_eq_false hz]
      rfl
theorem plUn0 : ∀ (rest pre : List Mp) (k : Nat), plFewM (pre ++ rest) → rest.length + 880 ≤ k →
    unicodetextref11_unsorted.l0 k (pre ++ rest) (pre.length : Int) = some (if rest.all (fun x => codeB x.f0 && codesB x.f1) then (if (pre ++ rest).all (fun x => decide (x.f1.length ≤ 64)) then (if (pre ++ rest).all (fun x => decide (x.f2.size = 0) || nameB x.f2) then (if twiceM (pre ++ rest) then 5 else 0) else 6) else 2) else 1)
  | [], pre, k, h1, h2 => by
    obtain ⟨k, rfl⟩ : ∃ j, k = j + 1 := ⟨k - 1, by omega⟩
    have := plUn1 (pre ++ []) [] k (by simpa using h1.1) (fun x hx => (h1.2 x hx).2) (by have := h1.1; simp at this h2 ⊢; omega)
    rw [List.nil_append] at this
    rw [unicodetextref11_unsorted.l0, if_neg (by simp)]
    exact this
  | x :: rest, pre, k, h1, h2 => by
    obtain ⟨k, rfl⟩ : ∃ j, k = j + 1 := ⟨k - 1, by omega⟩
    have hl := h1.1
    have hp : pre.length < 1000000000 := by simp at hl; omega
    have ex : (pre ++ [x]) ++ rest = pre ++ x :: rest := by simp
    have ih := plUn0 rest (pre ++ [x]) k (by rw [ex]; exact h1) (by simp at h2; omega)
    have el : ((pre ++ [x]).length : Int) = ((pre.length + 1 : Nat) : Int) := by simp
    rw [ex, el] at ih
    have hx := h1.2 x (by simp)
    have hc : unicodetextref11_codes.f k x.f0 x.f1 x.f2 = some (codesB x.f1 && codeB x.f0) := plCodes_go x.f0 x.f2 x.f1 [] k (by simp; omega) (by simp at h2; omega)
    rw [unicodetextref11_unsorted.l0, if_pos (by simp; omega), if_pos (by omega), rdM_mid, wrap_suc hp, ih, hc, List.all_cons]
    show (if (codesB x.f1 && codeB x.f0) = true then _ else _) = _
    cases codesB x.f1 <;> cases codeB x.f0 <;> rfl
theorem plUnsorted_ok (l : List Mp) (k : Nat) (h : plFewM l) (hk : 900 ≤ k) : unicodetextref11_unsorted.f k l = some (uncheckM l) :=
  plUn0 l [] k h (by have := h.1; omega)
theorem plBefore_ok (a b : Mp) : unicodetextref11_before.f a.f0 a.f1 a.f2 b.f0 b.f1 b.f2 = some (beforeM a b) := by
  unfold unicodetextref11_before.f beforeM
  by_cases h : a.f0 < b.f0
  · rw [if_pos h, decide_eq_true h]; rfl
  · rw [if_neg h, decide_eq_false h]
    by_cases h2 : a.f0 = b.f0
    · rw [if_pos h2, decide_eq_true h2]; rfl
    · rw [if_neg h2, decide_eq_false h2]; rfl
theorem plOrd_go : ∀ (rest pre : List Mp) (x : Mp) (k : Nat), (pre ++ x :: rest).length < 1000000 → rest.length + 1 ≤ k →
    unicodetextref11_Check.l0 k (pre ++ x :: rest) ((pre.length + 1 : Nat) : Int) = some (if sortedM (x :: rest) then 0 else 4)
  | [], pre, x, k, h1, h2 => by
    obtain ⟨k, rfl⟩ : ∃ j, k = j + 1 := ⟨k - 1, by omega⟩
    rw [unicodetextref11_Check.l0, if_neg (by simp)]
    rfl
  | y :: rest, pre, x, k, h1, h2 => by
    obtain ⟨k, rfl⟩ : ∃ j, k = j + 1 := ⟨k - 1, by omega⟩
    have hp : pre.length < 1000000 := by simp at h1; omega
    have ex : (pre ++ [x]) ++ y :: rest = pre ++ x :: y :: rest := by simp
    have ih := plOrd_go rest (pre ++ [x]) y k (by simpa using h1) (by simp at h2; omega)
    have el : (((pre ++ [x]).length + 1 : Nat) : Int) = ((pre.length + 1 + 1 : Nat) : Int) := by simp
    rw [ex, el] at ih
    have ew : wrap64 (((pre.length + 1 : Nat) : Int) - 1) = (pre.length : Int) := by unfold wrap64; omega
    have ey : rd_T43 (pre ++ x :: y :: rest) ((pre.length + 1 : Nat) : Int) = y := by
      rw [← ex, show ((pre.length + 1 : Nat) : Int) = ((pre ++ [x]).length : Int) by simp]
      exact rdM_mid _ _ _
    rw [unicodetextref11_Check.l0, if_pos (by simp; omega), ew, if_pos (by omega), if_pos (by simp; omega), if_pos (by omega), rdM_mid, ey, plBefore_ok, wrap_suc (by omega : pre.length + 1 < 1000000000), ih]
    show (if beforeM x y = true then _ else _) = some (if (beforeM x y && sortedM (y :: rest)) = true then _ else _)
    cases beforeM x y <;> rfl
theorem plCheckM_ok (l : List Mp) (k : Nat) (h : plFewM l) (hk : 900 ≤ k) : unicodetextref11_Check.f k l = some (checkM l) := by
  unfold unicodetextref11_Check.f checkM
  rw [plUnsorted_ok l k h hk]
  show (if uncheckM l = 0 then _ else _) = _
  have ho : unicodetextref11_Check.l0 k l 1 = some (if sortedM l then 0 else 4) := by
    cases l with
    | nil =>
      obtain ⟨k, rfl⟩ : ∃ j, k = j + 1 := ⟨k - 1, by omega⟩
      rw [unicodetextref11_Check.l0, if_neg (by decide)]
      rfl
    | cons x rest => exact plOrd_go rest [] x k (by have := h.1; simp at this ⊢; omega) (by have := h.1; simp at this; omega)
  rw [ho]
  split <;> rfl
end Go.Proofs.Ythnkmcfhpjmihaa.Q
end
section
namespace Go.Proofs.Ythnkmcfhpjmihaa.Q
open Go.RowKit Go.Proofs.YthnkmcfhpjmihaaW.PrintWords Go.Proofs.YthnkmcfhpjmihaaW.PrintLast Go.Proofs.YthnkmcfhpjmihaaW.PrintMore
attribute [local go_sem] max2_int min2_int max_two min_two max_three min_three max_four min_four   -- for this text's walks alone
set_option linter.unusedVariables false
set_option linter.unusedSimpArgs false
mutual
def unicodetextref37_near.l0 : Nat → List Int → Int → Int → List (S43) → List (S43) → List (S43) → List (S43) → List (S33) → List (S33) → Option (Bool)
  | 0, _, _, _, _, _, _, _, _, _ => none
  | k + 1, x1, x2, x3, x318000, x318001, x318002, x318003, x318004, x318005 => if x2 ≥ 0 then (unicodetextref37_near.j1 k x1 x2 x3 (decide (x2 < (x1.length : Int))) x318000 x318001 x318002 x318003 x318004 x318005) else (unicodetextref37_near.j1 k x1 x2 x3 false x318000 x318001 x318002 x318003 x318004 x318005)
def unicodetextref37_near.j1 : Nat → List Int → Int → Int → Bool → List (S43) → List (S43) → List (S43) → List (S43) → List (S33) → List (S33) → Option (Bool)
  | 0, _, _, _, _, _, _, _, _, _, _ => none
  | k + 1, x1, x2, x3, x16, x318000, x318001, x318002, x318003, x318004, x318005 => if x16 = true then (if 0 ≤ x2 then (if x2 < (x1.length : Int) then ((unicodetextref02_Has.f k x318005 (rd x1 x2)).bind fun t319 => (if t319 = true then (unicodetextref37_near.l0 k x1 (wrap64 (x2 + x3)) x3 x318000 x318001 x318002 x318003 x318004 x318005) else ((unicodetextref02_Has.f k x318004 (rd x1 x2)).bind fun t321 => (some t321)))) else (none)) else (none)) else (some false)
end
def unicodetextref37_near.f (k : Nat) (l0_0 : List (S43)) (l0_1 : List (S43)) (l0_2 : List (S43)) (l0_3 : List (S43)) (l0_4 : List (S33)) (l0_5 : List (S33)) (l1 : List Int) (a2 : Int) (a3 : Int) : Option (Bool) := unicodetextref37_near.l0 k l1 a2 a3 l0_0 l0_1 l0_2 l0_3 l0_4 l0_5
def unicodetextref37_near.T2 : Bool × List (List Nat × List Nat) := (true, [([], []), ([0], [0]), ([], []), ([], []), ([2, 3], [2, 3]), ([4], [4]), ([1, 5], [1, 5]), ([6], [6])])
def unicodetextref37_near.B2 : List Nat := [0, 1, 0, 0, 12, 28, 63, 127]
def unicodetextref37_near.T3 : Bool × List (List Nat × List Nat) := (true, [([], []), ([0], [0]), ([], []), ([], []), ([2, 3], [2, 3]), ([4], [4]), ([1, 5], [1, 5]), ([6, 6, 0, 1, 2, 3, 4, 5, 6], [6])])
def unicodetextref37_near.B3 : List Nat := [0, 1, 0, 0, 12, 28, 63, 127]
end Go.Proofs.Ythnkmcfhpjmihaa.Q
end
section
namespace Go.Proofs.Ythnkmcfhpjmihaa.Q
open Go.RowKit Go.Proofs.YthnkmcfhpjmihaaW.PrintWords Go.Proofs.YthnkmcfhpjmihaaW.PrintLast Go.Proofs.YthnkmcfhpjmihaaW.PrintMore
attribute [local go_sem] max2_int min2_int max_two min_two max_three min_three max_four min_four   -- for this text's walks alone
set_option linter.unusedVariables false
set_option linter.unusedSimpArgs false
def unicodetextref37_final.f (k : Nat) (l0_0 : List (S43)) (l0_1 : List (S43)) (l0_2 : List (S43)) (l0_3 : List (S43)) (l0_4 : List (S33)) (l0_5 : List (S33)) (l1 : List Int) (a2 : Int) : Option (Bool) := (unicodetextref37_near.f k l0_0 l0_1 l0_2 l0_3 l0_4 l0_5 l1 (wrap64 (a2 - 1)) (-1)).bind fun t323 => (if t323 = true then ((unicodetextref37_near.f k l0_0 l0_1 l0_2 l0_3 l0_4 l0_5 l1 (wrap64 (a2 + 1)) 1).bind fun t324 => (some (!t324))) else (some false))
def unicodetextref37_Final.f (k : Nat) (l0_0 : List (S43)) (l0_1 : List (S43)) (l0_2 : List (S43)) (l0_3 : List (S43)) (l0_4 : List (S33)) (l0_5 : List (S33)) (l1 : List Int) (a2 : Int) : Option (Bool) := if a2 ≥ 0 then (if a2 < (l1.length : Int) then ((unicodetextref37_Data.f k l0_0 l0_1 l0_2 l0_3 l0_4 l0_5).bind fun bt326 => ((unicodetextref37_final.f k bt326.1 bt326.2.1 bt326.2.2.1 bt326.2.2.2.1 bt326.2.2.2.2.1 bt326.2.2.2.2.2 l1 a2).bind fun t344 => (some t344))) else (some false)) else (some false)
end Go.Proofs.Ythnkmcfhpjmihaa.Q
end
section
namespace Go.Proofs.Ythnkmcfhpjmihaa.Q
open Go.RowKit Go.Proofs.YthnkmcfhpjmihaaW.PrintWords Go.Proofs.YthnkmcfhpjmihaaW.PrintLast Go.Proofs.YthnkmcfhpjmihaaW.PrintMore
attribute [local go_sem] max2_int min2_int max_two min_two max_three min_three max_four min_four   -- for this text's walks alone
set_option linter.unusedVariables false
set_option linter.unusedSimpArgs false
def unicodetextref11_find.l0 : Nat → List (S43) → Int → ByteArray → Int → Option (List Int × Bool)
  | 0, _, _, _, _ => none
  | k + 1, x0, x1, x2, x8 => if x8 < (x0.length : Int) then (if 0 ≤ x8 then (if ((rd_T43 x0 x8).f0) = x1 then (if ((rd_T43 x0 x8).f2).toList = x2.toList then ((some (([] : List Int) : List Int)).bind fun y353 => (if y353.length + ((rd_T43 x0 x8).f1).length < 17592186044416 then (some ((y353 ++ ((rd_T43 x0 x8).f1)), true)) else (none))) else (unicodetextref11_find.l0 k x0 x1 x2 (wrap64 (x8 + 1)))) else (unicodetextref11_find.l0 k x0 x1 x2 (wrap64 (x8 + 1)))) else (none)) else (some (([] : List Int), false))
def unicodetextref11_find.f (k : Nat) (l0 : List (S43)) (a1 : Int) (a2 : ByteArray) : Option (List Int × Bool) := unicodetextref11_find.l0 k l0 a1 a2 0
def unicodetextref11_Get.f (k : Nat) (l0 : List (S43)) (a1 : Int) (a2 : ByteArray) : Option (List Int × Bool) := (unicodetextref11_valid.f k l0).bind fun t360 => ((unicodetextref11_find.f k t360 a1 a2).bind fun bt363 => (some (bt363.1, bt363.2)))
def unicodetextref37_mapped.f (k : Nat) (l0 : List (S43)) (a1 : Int) : Option (List Int) := (unicodetextref11_Get.f k l0 a1 (⟨#[]⟩ : ByteArray)).bind fun bt367 => (if bt367.2 = true then (some bt367.1) else (some (([a1] : List Int))))
end Go.Proofs.Ythnkmcfhpjmihaa.Q
end
section
namespace Go.Proofs.Ythnkmcfhpjmihaa.Q
open Go.RowKit Go.Proofs.YthnkmcfhpjmihaaW.PrintWords Go.Proofs.YthnkmcfhpjmihaaW.PrintLast Go.Proofs.YthnkmcfhpjmihaaW.PrintMore
attribute [local go_sem] max2_int min2_int max_two min_two max_three min_three max_four min_four   -- for this text's walks alone
set_option linter.unusedVariables false
set_option linter.unusedSimpArgs false
def unicodetextref37_lower.f (k : Nat) (l0_0 : List (S43)) (l0_1 : List (S43)) (l0_2 : List (S43)) (l0_3 : List (S43)) (l0_4 : List (S33)) (l0_5 : List (S33)) (l1 : List Int) (a2 : Int) : Option (List Int) := if 0 ≤ a2 then (if a2 < (l1.length : Int) then ((unicodetextref11_Get.f k l0_0 (rd l1 a2) (⟨#[102, 105, 110, 97, 108]⟩ : ByteArray)).bind fun bt376 => (if bt376.2 = true then ((unicodetextref37_final.f k l0_0 l0_1 l0_2 l0_3 l0_4 l0_5 l1 a2).bind fun t380 => (if t380 = true then (some bt376.1) else ((unicodetextref37_mapped.f k l0_0 (rd l1 a2)).bind fun t382 => (some t382)))) else ((unicodetextref37_mapped.f k l0_0 (rd l1 a2)).bind fun t386 => (some t386)))) else (none)) else (none)
def unicodetextref37_lower.T1 : Bool × List (List Nat × List Nat) := (true, [([], []), ([0], [0]), ([], []), ([], []), ([2, 3], [2, 3]), ([4], [4]), ([1, 5], [1, 5]), ([6], [6]), ([7], [7]), ([7], [7]), ([8, 6, 0, 1, 2, 3, 4, 5, 6, 7, 8], [8]), ([9, 10, 0, 1, 2, 3, 4, 5, 6, 7, 8, 9, 10], [9])])
def unicodetextref37_lower.B1 : List Nat := [0, 1, 0, 0, 12, 28, 63, 127, 255, 255, 511, 2047]
def unicodetextref37_lower.T4 : Bool × List (List Nat × List Nat) := (true, [([], []), ([0], [0]), ([], []), ([], []), ([2, 3], [2, 3]), ([4], [4]), ([1, 5], [1, 5]), ([6, 6, 0, 1, 2, 3, 4, 5, 6], [6])])
def unicodetextref37_lower.B4 : List Nat := [0, 1, 0, 0, 12, 28, 63, 127]
end Go.Proofs.Ythnkmcfhpjmihaa.Q
end
section
namespace Go.Proofs.Ythnkmcfhpjmihaa.Q
open Go.RowKit Go.Proofs.YthnkmcfhpjmihaaW.PrintWords Go.Proofs.YthnkmcfhpjmihaaW.PrintLast Go.Proofs.YthnkmcfhpjmihaaW.PrintMore
attribute [local go_sem] max2_int min2_int max_two min_two max_three min_three max_four min_four   -- for this text's walks alone
set_option linter.unusedVariables false
set_option linter.unusedSimpArgs false
def unicodetextref37_Lower.l0 : Nat → List Int → List Int → Int → List (S43) → List (S43) → List (S43) → List (S43) → List (S33) → List (S33) → Option (List Int)
  | 0, _, _, _, _, _, _, _, _, _ => none
  | k + 1, x1, x6, x7, x409000, x409001, x409002, x409003, x409004, x409005 => if x7 < (x1.length : Int) then ((unicodetextref37_lower.f k x409000 x409001 x409002 x409003 x409004 x409005 x1 x7).bind fun t409 => (if x6.length + t409.length < 17592186044416 then (unicodetextref37_Lower.l0 k x1 (x6 ++ t409) (wrap64 (x7 + 1)) x409000 x409001 x409002 x409003 x409004 x409005) else (none))) else (some x6)
def unicodetextref37_Lower.f (k : Nat) (l0_0 : List (S43)) (l0_1 : List (S43)) (l0_2 : List (S43)) (l0_3 : List (S43)) (l0_4 : List (S33)) (l0_5 : List (S33)) (l1 : List Int) : Option (List Int) := (unicodetextref37_Data.f k l0_0 l0_1 l0_2 l0_3 l0_4 l0_5).bind fun bt390 => (unicodetextref37_Lower.l0 k l1 ([] : List Int) 0 bt390.1 bt390.2.1 bt390.2.2.1 bt390.2.2.2.1 bt390.2.2.2.2.1 bt390.2.2.2.2.2)
end Go.Proofs.Ythnkmcfhpjmihaa.Q
end
section
namespace Go.Proofs.Ythnkmcfhpjmihaa.Q
open Go.RowKit Go.Proofs.YthnkmcfhpjmihaaW.PrintWords Go.Proofs.YthnkmcfhpjmihaaW.PrintLast Go.Proofs.YthnkmcfhpjmihaaW.PrintMore
attribute [local go_sem] max2_int min2_int max_two min_two max_three min_three max_four min_four   -- for this text's walks alone
set_option linter.unusedVariables false
set_option linter.unusedSimpArgs false
def unicodetextref37_Upper.l0 : Nat → List Int → List Int → Int → List (S43) → List (S43) → List (S43) → List (S43) → List (S33) → List (S33) → Option (List Int)
  | 0, _, _, _, _, _, _, _, _, _ => none
  | k + 1, x1, x6, x7, x435000, x435001, x435002, x435003, x435004, x435005 => if x7 < (x1.length : Int) then (if 0 ≤ x7 then ((unicodetextref37_mapped.f k x435001 (rd x1 x7)).bind fun t436 => (if x6.length + t436.length < 17592186044416 then (unicodetextref37_Upper.l0 k x1 (x6 ++ t436) (wrap64 (x7 + 1)) x435000 x435001 x435002 x435003 x435004 x435005) else (none))) else (none)) else (some x6)
def unicodetextref37_Upper.f (k : Nat) (l0_0 : List (S43)) (l0_1 : List (S43)) (l0_2 : List (S43)) (l0_3 : List (S43)) (l0_4 : List (S33)) (l0_5 : List (S33)) (l1 : List Int) : Option (List Int) := (unicodetextref37_Data.f k l0_0 l0_1 l0_2 l0_3 l0_4 l0_5).bind fun bt416 => (unicodetextref37_Upper.l0 k l1 ([] : List Int) 0 bt416.1 bt416.2.1 bt416.2.2.1 bt416.2.2.2.1 bt416.2.2.2.2.1 bt416.2.2.2.2.2)
def unicodetextref37_Upper.T6 : Bool × List (List Nat × List Nat) := (true, [([], []), ([], []), ([1], [1]), ([], []), ([], []), ([3, 4], [3, 4]), ([5], [5]), ([2, 6], [2, 6]), ([0, 7, 7], [0, 7]), ([8, 8, 0, 1, 2, 3, 4, 5, 6, 7, 8], [0, 8])])
def unicodetextref37_Upper.B6 : List Nat := [0, 0, 2, 0, 0, 24, 56, 126, 255, 511]
end Go.Proofs.Ythnkmcfhpjmihaa.Q
end
section
namespace Go.Proofs.Ythnkmcfhpjmihaa.Q
open Go.RowKit Go.Proofs.YthnkmcfhpjmihaaW.PrintWords Go.Proofs.YthnkmcfhpjmihaaW.PrintLast Go.Proofs.YthnkmcfhpjmihaaW.PrintMore
attribute [local go_sem] max2_int min2_int max_two min_two max_three min_three max_four min_four   -- for this text's walks alone
set_option linter.unusedVariables false
set_option linter.unusedSimpArgs false
def unicodetextref37_only.f (l0 : List Int) (a1 : Int) : Option (Int) := if (l0.length : Int) = 1 then (if 0 < (l0.length : Int) then (some (rd l0 0)) else (none)) else (some a1)
end Go.Proofs.Ythnkmcfhpjmihaa.Q
end
section
namespace Go.Proofs.Ythnkmcfhpjmihaa.Q
open Go.RowKit Go.Proofs.YthnkmcfhpjmihaaW.PrintWords Go.Proofs.YthnkmcfhpjmihaaW.PrintLast Go.Proofs.YthnkmcfhpjmihaaW.PrintMore
attribute [local go_sem] max2_int min2_int max_two min_two max_three min_three max_four min_four   -- for this text's walks alone
set_option linter.unusedVariables false
set_option linter.unusedSimpArgs false
def unicodetextref37_Simple.f (k : Nat) (l0_0 : List (S43)) (l0_1 : List (S43)) (l0_2 : List (S43)) (l0_3 : List (S43)) (l0_4 : List (S33)) (l0_5 : List (S33)) (a1 : Int) : Option (Int × Int × Int) := (unicodetextref37_Data.f k l0_0 l0_1 l0_2 l0_3 l0_4 l0_5).bind fun bt517 => ((unicodetextref37_mapped.f k bt517.1 a1).bind fun t536 => ((unicodetextref37_only.f t536 a1).bind fun t539 => ((unicodetextref37_mapped.f k bt517.2.1 a1).bind fun t540 => ((unicodetextref37_only.f t540 a1).bind fun t543 => ((unicodetextref37_mapped.f k bt517.2.2.1 a1).bind fun t544 => ((unicodetextref37_only.f t544 a1).bind fun t547 => (some (t539, t543, t547))))))))
def unicodetextref37_Simple.T2 : Bool × List (List Nat × List Nat) := (true, [([], []), ([0], [0]), ([], []), ([1, 2], [1, 2]), ([], []), ([3, 4, 3], [3, 4]), ([], []), ([6], [6]), ([], []), ([7, 8, 5], [7, 8]), ([], []), ([9, 10, 9], [9, 10]), ([], []), ([12], [12]), ([], []), ([13, 14, 11], [13, 14]), ([], []), ([15, 16, 15], [15, 16]), ([5, 17, 0, 1, 2, 3, 4, 5], [5]), ([11, 18, 0, 1, 2, 3, 4, 5, 6, 7, 8, 9, 10, 11, 18], [11]), ([17, 19, 0, 1, 2, 3, 4, 5, 6, 7, 8, 9, 10, 11, 12, 13, 14, 15, 16, 17, 18, 19], [17])])
def unicodetextref37_Simple.B2 : List Nat := [0, 1, 0, 7, 0, 31, 0, 64, 0, 511, 0, 2047, 0, 4096, 0, 32767, 0, 131071, 262143, 524287, 1048575]
end Go.Proofs.Ythnkmcfhpjmihaa.Q
end
section
namespace Go.Proofs.Ythnkmcfhpjmihaa.Q
open Go.RowKit Go.Proofs.YthnkmcfhpjmihaaW.PrintWords Go.Proofs.YthnkmcfhpjmihaaW.PrintLast Go.Proofs.YthnkmcfhpjmihaaW.PrintMore
attribute [local go_sem] max2_int min2_int max_two min_two max_three min_three max_four min_four   -- for this text's walks alone
set_option linter.unusedVariables false
set_option linter.unusedSimpArgs false
def unicodetextref37_titled.l0 : Nat → List Int → List Int → Bool → Int → List (S43) → List (S43) → List (S43) → List (S43) → List (S33) → List (S33) → Int → Int → Option (List Int)
  | 0, _, _, _, _, _, _, _, _, _, _, _, _ => none
  | k + 1, x1, x7, x8, x9, x577000, x577001, x577002, x577003, x577004, x577005, x578000, x578001 => if x9 < x578001 then (if x8 = true then ((unicodetextref37_lower.f k x577000 x577001 x577002 x577003 x577004 x577005 x1 x9).bind fun t578 => (if x7.length + t578.length < 17592186044416 then (unicodetextref37_titled.l0 k x1 (x7 ++ t578) x8 (wrap64 (x9 + 1)) x577000 x577001 x577002 x577003 x577004 x577005 x578000 x578001) else (none))) else (if 0 ≤ x9 then (if x9 < (x1.length : Int) then ((unicodetextref02_Has.f k x577004 (rd x1 x9)).bind fun t585 => (if t585 = true then ((unicodetextref37_mapped.f k x577002 (rd x1 x9)).bind fun t587 => (if x7.length + t587.length < 17592186044416 then (unicodetextref37_titled.l0 k x1 (x7 ++ t587) true (wrap64 (x9 + 1)) x577000 x577001 x577002 x577003 x577004 x577005 x578000 x578001) else (none))) else (if x7.length < 17592186044416 then (unicodetextref37_titled.l0 k x1 (x7 ++ [rd x1 x9]) x8 (wrap64 (x9 + 1)) x577000 x577001 x577002 x577003 x577004 x577005 x578000 x578001) else (none)))) else (none)) else (none))) else (some x7)
def unicodetextref37_titled.f (k : Nat) (l0_0 : List (S43)) (l0_1 : List (S43)) (l0_2 : List (S43)) (l0_3 : List (S43)) (l0_4 : List (S33)) (l0_5 : List (S33)) (l1 : List Int) (a2_0 : Int) (a2_1 : Int) : Option (List Int) := unicodetextref37_titled.l0 k l1 ([] : List Int) false a2_0 l0_0 l0_1 l0_2 l0_3 l0_4 l0_5 a2_0 a2_1
def unicodetextref37_titled.T9 : Bool × List (List Nat × List Nat) := (true, [([], []), ([0], [0]), ([], []), ([], []), ([2, 3], [2, 3]), ([4], [4]), ([1, 5], [1, 5]), ([6, 6], [6])])
def unicodetextref37_titled.B9 : List Nat := [0, 1, 0, 0, 12, 28, 63, 127]
def unicodetextref37_titled.T10 : Bool × List (List Nat × List Nat) := (true, [([], []), ([], []), ([1], [1]), ([], []), ([], []), ([3, 4], [3, 4]), ([5], [5]), ([2, 6], [2, 6]), ([0, 7, 7], [0, 7]), ([8, 8, 0, 1, 2, 3, 4, 5, 6, 7, 8], [0, 8])])
def unicodetextref37_titled.B10 : List Nat := [0, 0, 2, 0, 0, 24, 56, 126, 255, 511]
end Go.Proofs.Ythnkmcfhpjmihaa.Q
end
section
namespace Go.Proofs.Ythnkmcfhpjmihaa.Q
open Go.RowKit Go.Proofs.YthnkmcfhpjmihaaW.PrintWords Go.Proofs.YthnkmcfhpjmihaaW.PrintLast Go.Proofs.YthnkmcfhpjmihaaW.PrintMore
attribute [local go_sem] max2_int min2_int max_two min_two max_three min_three max_four min_four   -- for this text's walks alone
set_option linter.unusedVariables false
set_option linter.unusedSimpArgs false
def unicodetextref37_Title.l0 : Nat → List Int → List (S33) → List Int → Int → Int → List (S43) → List (S43) → List (S43) → List (S43) → List (S33) → List (S33) → Option (List Int)
  | 0, _, _, _, _, _, _, _, _, _, _, _ => none
  | k + 1, x1, x2, x8, x9, x10, x617000, x617001, x617002, x617003, x617004, x617005 => if x10 < (x2.length : Int) then (if 0 ≤ x10 then (if 0 ≤ x9 then (if x9 ≤ ((rd_T33 x2 x10).f0) then (if ((rd_T33 x2 x10).f0) ≤ (x1.length : Int) then (if x8.length + ((x1.take (((rd_T33 x2 x10).f0) : Int).toNat).drop (x9 : Int).toNat).length < 17592186044416 then ((some (x8 ++ ((x1.take (((rd_T33 x2 x10).f0) : Int).toNat).drop (x9 : Int).toNat) : List Int)).bind fun y626 => ((unicodetextref37_titled.f k x617000 x617001 x617002 x617003 x617004 x617005 x1 ((rd_T33 x2 x10).f0) ((rd_T33 x2 x10).f1)).bind fun t630 => (if y626.length + t630.length < 17592186044416 then (unicodetextref37_Title.l0 k x1 x2 (y626 ++ t630) ((rd_T33 x2 x10).f1) (wrap64 (x10 + 1)) x617000 x617001 x617002 x617003 x617004 x617005) else (none)))) else (none)) else (none)) else (none)) else (none)) else (none)) else (if 0 ≤ x9 then (if x9 ≤ (x1.length : Int) then (if x8.length + (x1.drop (x9 : Int).toNat).length < 17592186044416 then (some (x8 ++ (x1.drop (x9 : Int).toNat))) else (none)) else (none)) else (none))
def unicodetextref37_Title.f (k : Nat) (l0_0 : List (S43)) (l0_1 : List (S43)) (l0_2 : List (S43)) (l0_3 : List (S43)) (l0_4 : List (S33)) (l0_5 : List (S33)) (l1 : List Int) (l2 : List (S33)) : Option (List Int) := (unicodetextref37_Data.f k l0_0 l0_1 l0_2 l0_3 l0_4 l0_5).bind fun bt598 => ((unicodetextref37_Within.f k l2 (l1.length : Int)).bind fun t617 => (if t617 = true then (unicodetextref37_Title.l0 k l1 l2 ([] : List Int) 0 0 bt598.1 bt598.2.1 bt598.2.2.1 bt598.2.2.2.1 bt598.2.2.2.2.1 bt598.2.2.2.2.2) else ((some (([] : List Int) : List Int)).bind fun y618 => (if y618.length + l1.length < 17592186044416 then (some (y618 ++ l1)) else (none)))))
def unicodetextref37_Title.T10 : Bool × List (List Nat × List Nat) := (true, [([], []), ([], []), ([], []), ([], []), ([], []), ([3, 4], [3, 4]), ([5], [5]), ([1, 2, 6], [1, 2, 6]), ([0, 7, 7], [0, 7]), ([8, 8, 0, 1, 2, 3, 4, 5, 6, 7, 8], [0, 8])])
def unicodetextref37_Title.B10 : List Nat := [0, 0, 0, 0, 0, 24, 56, 126, 255, 511]
end Go.Proofs.Ythnkmcfhpjmihaa.Q
end
section
namespace Go.Proofs.Ythnkmcfhpjmihaa.Q
open Go.RowKit Go.Proofs.YthnkmcfhpjmihaaW.PrintWords Go.Proofs.YthnkmcfhpjmihaaW.PrintLast Go.Proofs.YthnkmcfhpjmihaaW.PrintMore
set_option linter.unusedVariables false
theorem plTag_go (i0 : Bool) (tg : ByteArray) (ht : tg = if i0 then tagF else tagE) : ∀ (rest pre : List Mp) (k : Nat), (pre ++ rest).length < 1000000 → rest.length + 1 ≤ k →
    unicodetextref37_tagged.l0 k (pre ++ rest) tg (pre.length : Int) = some (rest.any (badTag i0))
  | [], pre, k, h1, h2 => by
    obtain ⟨k, rfl⟩ : ∃ j, k = j + 1 := ⟨k - 1, by omega⟩
    rw [unicodetextref37_tagged.l0, if_neg (by simp)]
    rfl
  | x :: rest, pre, k, h1, h2 => by
    obtain ⟨k, rfl⟩ : ∃ j, k = j + 1 := ⟨k - 1, by omega⟩
    have hp : pre.length < 1000000000 := by simp at h1; omega
    have ih := plTag_go i0 tg ht rest (pre ++ [x]) k (by simpa using h1) (by simp at h2; omega)
    have ex : (pre ++ [x]) ++ rest = pre ++ x :: rest := by simp
    have el : ((pre ++ [x]).length : Int) = ((pre.length + 1 : Nat) : Int) := by simp
    rw [ex, el] at ih
    rw [unicodetextref37_tagged.l0, if_pos (by simp; omega), if_pos (by omega), rdM_mid, wrap_suc hp, ih, List.any_cons]
    unfold badTag
    by_cases hz : x.f2.size = 0
    · rw [if_pos ((bytesEq_nil _).2 hz), decide_eq_false (by simpa using hz)]
      rfl
    · rw [if_neg (fun hh => hz ((bytesEq_nil _).1 hh)), decide_eq_true hz]
      subst ht
      cases i0 with
      | true =>
        show (if x.f2.toList = tagF.toList then _ else _) = _
        by_cases hf : x.f2 = tagF
        · rw [if_pos (by rw [hf]), decide_eq_false (by simpa using hf)]
          rfl
        · rw [if_neg (fun hh => hf ((bytesEq_iff _ _).1 hh)), decide_eq_true hf]
          rfl
      | false =>
        show (if x.f2.toList = tagE.toList then _ else _) = _
        rw [if_neg (fun hh => hz (by rw [(bytesEq_iff _ _).1 hh]; rfl))]
        rfl
theorem plTag_ok (i0 : Bool) (l : List Mp) (k : Nat) (h : plFewM l) (hk : 50 ≤ k) : unicodetextref37_tagged.f k l (if i0 then tagF else tagE) = some (l.any (badTag i0)) :=
  plTag_go i0 _ rfl l [] k (by have := h.1; simp; omega) (by have := h.1; omega)
theorem plSame_go : ∀ (xs ys px py : List Rg) (k : Nat), px.length = py.length → xs.length = ys.length → (px ++ xs).length < 1000000000 → xs.length + 1 ≤ k →
    unicodetextref02_Same.l0 k (px.length : Int) (px ++ xs) (py ++ ys) = some (decide (xs.map toP = ys.map toP))
  | [], [], px, py, k, h1, h2, h3, h4 => by
    obtain ⟨k, rfl⟩ : ∃ j, k = j + 1 := ⟨k - 1, by omega⟩
    rw [unicodetextref02_Same.l0, if_neg (by simp)]
    rfl
  | x :: xs, y :: ys, px, py, k, h1, h2, h3, h4 => by
    obtain ⟨k, rfl⟩ : ∃ j, k = j + 1 := ⟨k - 1, by omega⟩
    have hp : px.length < 1000000000 := by simp at h3; omega
    have ih := plSame_go xs ys (px ++ [x]) (py ++ [y]) k (by simp [h1]) (by simpa using h2) (by simpa using h3) (by simp at h4; omega)
    have ex : (px ++ [x]) ++ xs = px ++ x :: xs := by simp
    have ey : (py ++ [y]) ++ ys = py ++ y :: ys := by simp
    have el : ((px ++ [x]).length : Int) = ((px.length + 1 : Nat) : Int) := by simp
    rw [ex, ey, el] at ih
    have e1 : rd_T33 (py ++ y :: ys) (px.length : Int) = y := by rw [h1]; exact rdG_mid _ _ _
    rw [unicodetextref02_Same.l0, if_pos (by simp; omega), if_pos (by omega), if_pos (by simp at h2 ⊢; omega), rdG_mid, e1, wrap_suc hp]
    rw [ih]
    by_cases ha : x.f0 = y.f0
    · by_cases hb : x.f1 = y.f1
      · rw [if_neg (by simp [ha, hb])]
        simp [toP, ha, hb]
      · rw [if_pos (by simp [hb])]
        simp [toP, hb]
    · rw [if_pos (by simp [ha])]
      simp [toP, ha]
  | [], _ :: _, _, _, _, _, h2, _, _ => by simp at h2
  | _ :: _, [], _, _, _, _, h2, _, _ => by simp at h2
theorem plComb_make (l : List Rg) : combS l [] 1 = CpM.make (l.map toP) := by
  rw [← CpM.rmake_eq]
  unfold combS CpM.rmake cutsAB
  congr 1
  funext c
  unfold keepAB keepsB CpM.hasB
  simp
theorem plValid_ok (s : List Rg) (k : Nat) (h : s.length ≤ 1000) (hk : s.length + 1 ≤ k) : unicodetextref02_Valid.f k s = some (validL s) := by
  have hm : unicodetextref02_Make.f s = some (mkRS s) := by
    unfold unicodetextref02_Make.f unicodetextref02_combine.f
    rw [if_pos (by simp; omega), plComb_make]
    rfl
  unfold unicodetextref02_Valid.f
  rw [hm]
  show (unicodetextref02_Same.f k s (mkRS s)).bind _ = _
  unfold unicodetextref02_Same.f validL
  have e : (mkRS s).map toP = CpM.make (s.map toP) := toP_ofP _
  by_cases hl : s.length = (mkRS s).length
  · rw [if_pos (by omega)]
    have := plSame_go s (mkRS s) [] [] k rfl hl (by simp; omega) hk
    rw [List.nil_append, List.nil_append, e] at this
    rw [show ((0 : Int)) = (([] : List Rg).length : Int) from rfl, this]
    rfl
  · rw [if_neg (by omega), decide_eq_false]
    · rfl
    · intro hh
      rw [← e] at hh
      exact hl (by simpa using congrArg List.length hh)
theorem plCheckJ (c : CaseS) (b : Bool) (k : Nat) (h : plFewC c) (hk : 50 ≤ k) : unicodetextref37_Check.j1 (k + 1) b c.lo c.up c.ti c.fo c.ca c.ig = some (if b then 6 else if validL c.ca && validL c.ig then 0 else 11) := by
  obtain ⟨h0, h1, h2, h3, h4, h5⟩ := h
  rw [unicodetextref37_Check.j1]
  cases b with
  | true => rfl
  | false =>
    rw [if_neg (by decide), plValid_ok c.ca k (by omega) (by omega), plValid_ok c.ig k (by omega) (by omega)]
    simp only [Option.bind_some]
    cases validL c.ca <;> cases validL c.ig <;> rfl
theorem plCheckE (c : CaseS) (L : List (List Mp)) (hL : L.length = 4) (k : Nat) (h : plFewC c) (hk : 60 ≤ k) : unicodetextref37_Check.l0 (k + 2) L 4 c.lo c.up c.ti c.fo c.ca c.ig = some (if badsS c then 6 else if validL c.ca && validL c.ig then 0 else 11) := by
  have e0 := plTag_ok true c.lo (k + 1) h.1 (by omega)
  have e1 := plTag_ok false c.up (k + 1) h.2.1 (by omega)
  have e2 := plTag_ok false c.ti (k + 1) h.2.2.1 (by omega)
  have e3 := plTag_ok false c.fo (k + 1) h.2.2.2.1 (by omega)
  have hj := fun b => plCheckJ c b k h (by omega)
  rw [unicodetextref37_Check.l0, if_neg (by omega)]
  show (unicodetextref37_tagged.f (k + 1) c.lo (if true = true then tagF else tagE)).bind (fun t285 => if t285 = true then _ else (unicodetextref37_tagged.f (k + 1) c.up (if false = true then tagF else tagE)).bind fun t286 => if t286 = true then _ else (unicodetextref37_tagged.f (k + 1) c.ti (if false = true then tagF else tagE)).bind fun t287 => if t287 = true then _ else (unicodetextref37_tagged.f (k + 1) c.fo (if false = true then tagF else tagE)).bind _) = _
  rw [e0, e1, e2, e3]
  simp only [Option.bind_some, hj]
  unfold badsS
  cases c.lo.any (badTag true) <;> cases c.up.any (badTag false) <;> cases c.ti.any (badTag false) <;> cases c.fo.any (badTag false) <;> rfl
theorem plCheckS (c : CaseS) (L : List (List Mp)) (x : List Mp) (i : Nat) (hx : rd_L5 L (i : Int) = x) (hL : L.length = 4) (hi : i < 4) (k : Nat) (h : plFewM x) (hk : 900 ≤ k) :
    unicodetextref37_Check.l0 (k + 1) L (i : Int) c.lo c.up c.ti c.fo c.ca c.ig = if checkM x = 0 then unicodetextref37_Check.l0 k L ((i + 1 : Nat) : Int) c.lo c.up c.ti c.fo c.ca c.ig else some (checkM x) := by
  rw [unicodetextref37_Check.l0, if_pos (by omega), if_pos (by omega), hx, plCheckM_ok x k h hk, wrap_suc (by omega : i < 1000000000)]
  rfl
theorem plCheck_ok (c : CaseS) (k : Nat) (h : plFewC c) (hk : 1000 ≤ k) : unicodetextref37_Check.f k c.lo c.up c.ti c.fo c.ca c.ig = some (caseChk c) := by
  obtain ⟨k, rfl⟩ : ∃ j, k = j + 6 := ⟨k - 6, by omega⟩
  unfold unicodetextref37_Check.f caseChk
  have s0 := plCheckS c [c.lo, c.up, c.ti, c.fo] c.lo 0 rfl rfl (by omega) (k + 5) h.1 (by omega)
  have s1 := plCheckS c [c.lo, c.up, c.ti, c.fo] c.up 1 rfl rfl (by omega) (k + 4) h.2.1 (by omega)
  have s2 := plCheckS c [c.lo, c.up, c.ti, c.fo] c.ti 2 rfl rfl (by omega) (k + 3) h.2.2.1 (by omega)
  have s3 := plCheckS c [c.lo, c.up, c.ti, c.fo] c.fo 3 rfl rfl (by omega) (k + 2) h.2.2.2.1 (by omega)
  have s4 := plCheckE c [c.lo, c.up, c.ti, c.fo] rfl k h (by omega)
  refine Eq.trans s0 ?_
  unfold firstE
  by_cases c0 : checkM c.lo = 0
  · rw [if_pos c0, if_pos c0]
    refine Eq.trans s1 ?_
    unfold firstE
    by_cases c1 : checkM c.up = 0
    · rw [if_pos c1, if_pos c1]
      refine Eq.trans s2 ?_
      unfold firstE
      by_cases c2 : checkM c.ti = 0
      · rw [if_pos c2, if_pos c2]
        refine Eq.trans s3 ?_
        unfold firstE
        by_cases c3 : checkM c.fo = 0
        · rw [if_pos c3, if_pos c3]
          refine Eq.trans s4 ?_
          unfold firstE
          rw [if_pos rfl]
        · rw [if_neg c3, if_neg c3, if_neg c3]
      · rw [if_neg c2, if_neg c2, if_neg c2]
    · rw [if_neg c1, if_neg c1, if_neg c1]
  · rw [if_neg c0, if_neg c0, if_neg c0]
def optP (o : Option (List Int)) : List Int × Bool := match o with | some x => (x, true) | none => ([], false)
@[irreducible] def plW (d : Nat) : Int := 100000 * (d : Int)
@[irreducible] def plV (d : Nat) : Int := 5000000 * (d : Int)
end Go.Proofs.Ythnkmcfhpjmihaa.Q
end
section
namespace Go.Proofs.Ythnkmcfhpjmihaa.Q
open Go.RowKit Go.Proofs.YthnkmcfhpjmihaaW.PrintWords Go.Proofs.YthnkmcfhpjmihaaW.PrintLast Go.Proofs.YthnkmcfhpjmihaaW.PrintMore
set_option linter.unusedVariables false
/-- The first cased position from i on, m positions at most. -/
def firstN (c : CaseS) (text : List Int) : Nat → Nat → Nat
  | 0, i => i
  | m + 1, i => if hasL c.ca (text.getD i 0) then i else firstN c text m (i + 1)
def tailN (c : CaseS) (text : List Int) : Nat → Nat → List Int
  | 0, _ => []
  | m + 1, j => mapdS c.ti (text.getD j 0) ++ titledS c text m (j + 1) true
theorem firstN_bounds (c : CaseS) (text : List Int) : ∀ m i, i ≤ firstN c text m i ∧ firstN c text m i ≤ i + m
  | 0, i => ⟨Nat.le_refl _, Nat.le_refl _⟩
  | m + 1, i => by
    have := firstN_bounds c text m (i + 1)
    unfold firstN
    split <;> omega
theorem titled_first (c : CaseS) (text : List Int) : ∀ m i, i + m ≤ text.length → titledS c text m i false = (text.take (firstN c text m i)).drop i ++ tailN c text (i + m - firstN c text m i) (firstN c text m i)
  | 0, i, h => by
    unfold firstN titledS
    rw [Nat.add_zero, Nat.sub_self]
    simp [tailN]
  | m + 1, i, h => by
    have hb := firstN_bounds c text m (i + 1)
    have hlt : i < text.length := by omega
    unfold firstN titledS
    by_cases hh : hasL c.ca (text.getD i 0) = true
    · rw [if_neg (by decide), if_pos hh, if_pos hh]
      have e : i + (m + 1) - i = m + 1 := by omega
      rw [e, tailN]
      have : (text.take i).drop i = [] := List.drop_eq_nil_of_le (by rw [List.length_take]; omega)
      rw [this, List.nil_append]
    · rw [if_neg (by decide), if_neg hh, if_neg hh, titled_first c text m (i + 1) (by omega)]
      have e : i + (m + 1) = i + 1 + m := by omega
      rw [e, ← List.cons_append]
      congr 1
      have hl : i < (text.take (firstN c text m (i + 1))).length := by rw [List.length_take]; omega
      rw [List.drop_eq_getElem_cons hl]
      congr 1
      rw [List.getElem_take, List.getD_eq_getElem?_getD, List.getElem?_eq_getElem hlt]
      rfl
/-- What is still to be written of a part whose first cased position is f, from j on. -/
def remN (c : CaseS) (text : List Int) (f hi j : Nat) : List Int := if j = f then tailN c text (hi - f) f else titledS c text (hi - j) j true
theorem remN_first (c : CaseS) (text : List Int) (f hi : Nat) (h : f < hi) : remN c text f hi f = mapdS c.ti (text.getD f 0) ++ remN c text f hi (f + 1) := by
  unfold remN
  obtain ⟨m, hm⟩ : ∃ m, hi - f = m + 1 := ⟨hi - f - 1, by omega⟩
  rw [if_pos rfl, if_neg (by omega), hm, tailN, show hi - (f + 1) = m by omega]
theorem remN_next (c : CaseS) (text : List Int) (f hi j : Nat) (h : j < hi) (hne : f < j) : remN c text f hi j = lowerS c text j ++ remN c text f hi (j + 1) := by
  unfold remN
  obtain ⟨m, hm⟩ : ∃ m, hi - j = m + 1 := ⟨hi - j - 1, by omega⟩
  rw [if_neg (by omega), if_neg (by omega), hm, titledS, if_pos rfl, show hi - (j + 1) = m by omega]
theorem remN_end (c : CaseS) (text : List Int) (f hi : Nat) : remN c text f hi hi = [] := by
  unfold remN
  split
  · rename_i h; rw [h, Nat.sub_self]; rfl
  · rw [Nat.sub_self]; rfl
/-- A part, written. -/
theorem title_part (c : CaseS) (text : List Int) (a lo hi : Nat) (h1 : a ≤ lo) (h2 : lo ≤ hi) (h3 : hi ≤ text.length) (f : Nat) (hf : firstN c text (hi - lo) lo = f) :
    (text.take lo).drop a ++ titledS c text (hi - lo) lo false = (text.take f).drop a ++ remN c text f hi f := by
  have hb := firstN_bounds c text (hi - lo) lo
  rw [hf] at hb
  rw [titled_first c text (hi - lo) lo (by omega), hf]
  unfold remN
  rw [if_pos rfl, show lo + (hi - lo) - f = hi - f by omega, ← List.append_assoc]
  congr 1
  have e : text.take f = text.take lo ++ (text.take f).drop lo := by
    have h := (List.take_append_drop lo (text.take f)).symm
    rw [List.take_take, Nat.min_eq_left (by omega)] at h
    exact h
  have e2 : (text.take f).drop a = (text.take lo).drop a ++ (text.take f).drop lo := by
    conv => lhs; rw [e]
    rw [List.drop_append_of_le_length (by rw [List.length_take]; omega)]
  exact e2.symm
theorem firstN_next (c : CaseS) (text : List Int) (f hi : Nat) (h : f < hi) (hh : hasL c.ca (text.getD f 0) = false) : firstN c text (hi - f) f = firstN c text (hi - (f + 1)) (f + 1) := by
  obtain ⟨m, hm⟩ : ∃ m, hi - f = m + 1 := ⟨hi - f - 1, by omega⟩
  rw [hm, firstN, hh, if_neg (by decide), show hi - (f + 1) = m by omega]
theorem firstN_hit (c : CaseS) (text : List Int) (f hi : Nat) (h : f < hi) (hh : hasL c.ca (text.getD f 0) = true) : firstN c text (hi - f) f = f := by
  obtain ⟨m, hm⟩ : ∃ m, hi - f = m + 1 := ⟨hi - f - 1, by omega⟩
  rw [hm, firstN, hh, if_pos rfl]
theorem firstN_end (c : CaseS) (text : List Int) (hi : Nat) : firstN c text (hi - hi) hi = hi := by rw [Nat.sub_self]; rfl
end Go.Proofs.Ythnkmcfhpjmihaa.Q
end
