/- Lemmas, printed and written for this claim: part 8. -/
import Derived.Test.YthnkmcfhpjmihaaG2
import Derived.WalkKit
import Derived.Test.YthnkmcfhpjmihaaG4
import Derived.Test.YthnkmcfhpjmihaaG7
import Derived.Test.YthnkmcfhpjmihaaG3
import Derived.Test.YthnkmcfhpjmihaaG6
import Derived.Test.YthnkmcfhpjmihaaG5
import Derived.WalkSpells
import Derived.IntWalk
import Derived.Deep.RegionHeld3
import Derived.Deep.RegionLaw
import Derived.Laws.Runes
section
namespace Go.Proofs.Ythnkmcfhpjmihaa.Q
open Go.RowKit Go.Proofs.YthnkmcfhpjmihaaW.PrintWords Go.Proofs.YthnkmcfhpjmihaaW.PrintLast Go.Proofs.YthnkmcfhpjmihaaW.PrintMore
attribute [local go_sem] max2_int min2_int max_two min_two max_three min_three max_four min_four
set_option linter.unusedVariables false
set_option linter.unusedSimpArgs false
mutual
def r11_Small.l0 : Nat → List (S43) → Int → Option (Bool)
 | 0, _, _ => none
 | k + 1, x0, x3 => if x3 < (x0.length : Int) then (r11_Small.j1 k x0 x3 (decide (x3 < 30))) else (r11_Small.j1 k x0 x3 false)
def r11_Small.j1 : Nat → List (S43) → Int → Bool → Option (Bool)
 | 0, _, _, _ => none
 | k + 1, x0, x3, x11 => if x11 = true then (if 0 ≤ x3 then (if x3 < (x0.length : Int) then (if (((rd_T43 x0 x3).f1).length : Int) > 65 then (some false) else (if (((rd_T43 x0 x3).f2).size : Int) > 40 then (some false) else (r11_Small.l0 k x0 (wrap64 (x3 + 1))))) else (none)) else (none)) else (some (decide ((x0.length : Int) ≤ 20)))
end
def r11_Small.f (k : Nat) (l0 : List (S43)) : Option (Bool) := r11_Small.l0 k l0 0
set_option maxHeartbeats 8000000 in
set_option maxRecDepth 100000 in
theorem r11_Small.calls (k : Nat) (A0 : Option Addr) (c0 : Nat) (l0 : List (S43)) (r : Bool) (w : World) (hr0 : Kd.C k43 w A0 l0.length l0) (hc0 : l0.length ≤ c0) (h : r11_Small.f k l0 = some r) :
  Calls Try.prog 41 #[.slice A0 l0.length c0] w fun e w' => e = .returned (.bool r) ∧ Drawn0 w w' := by
 have HR0 := aM hr0
 have HC0 := aM hc0
 clear hr0 hc0
 have H : (r11_Small.l0 k l0 0) = some r := h
 clear h
 have H' := aM H
 clear H
 go_enter Try.func41, Try.ntmps41
 go_wp2
 go_loopg [3] k (fun kq v3 w' => ∃ (x3_1 : Int), v3 = .int .i64 x3_1 ∧ Aside0 (r11_Small.l0 kq l0 x3_1 = some r) ∧ Aside0 (kq ≤ k) ∧ Drawn0 w w')
 case atStart => exact ⟨(0), (by first | rfl | (simp; done) | (simp [*]; done)), H', ⟨Nat.le_refl _⟩, by repeat (first | exact Drawn0.refl _ | apply Drawn0.step)⟩
 case round =>
  clear H'
  obtain ⟨x3_1, rfl, HA, HK1, ⟨m1, rfl⟩⟩ := hrel
  cases gk with
  | zero => exact absurd HA.out (by simp [r11_Small.l0])
  | succ k1 =>
   have H := HA.out
   clear HA
   simp only [r11_Small.l0] at H
   have HC2 := aM H
   clear H
   go_upto_region 2 with (fail)
   go_cut [11] (fun v11 wc => ∃ (kq : Nat) (x11_1 : Bool), v11 = .bool x11_1 ∧ Aside0 (r11_Small.j1 kq l0 x3_1 x11_1 = some r) ∧ Aside0 (kq ≤ k1) ∧ Drawn0 w wc)
   case first =>
    have H := HC2.out
    clear HC2
    by_cases c3 : x3_1 < (l0.length : Int)
    ·rw [if_pos c3] at H
     have c3b0 : decide (x3_1 < (l0.length : Int)) = true := dT c3
     clear c3
     (first | rw [c3b0] | (simp only [i64_w, i32_w]; rw [c3b0]) | skip)
     have H' := aM H
     clear H
     go_wp2
     go_meet
     case rel => exact ⟨_, (decide (x3_1 < 30)), (by first | rfl | (simp; done) | (simp [*]; done)), H', ⟨by have := HK1.out; first | omega | exact Nat.le_refl _⟩, by repeat (first | exact Drawn0.refl _ | apply Drawn0.step)⟩
    ·rw [if_neg c3] at H
     have c3b0 : decide (x3_1 < (l0.length : Int)) = false := decide_eq_false c3
     clear c3
     (first | rw [c3b0] | (simp only [i64_w, i32_w]; rw [c3b0]) | skip)
     have H' := aM H
     clear H
     go_wp2
     go_meet
     case rel => exact ⟨_, (false), (by first | rfl | (simp; done) | (simp [*]; done)), H', ⟨by have := HK1.out; first | omega | exact Nat.le_refl _⟩, by repeat (first | exact Drawn0.refl _ | apply Drawn0.step)⟩
   case rest =>
    clear HC2
    try clear p2
    try clear c3
    try clear c3b0
    obtain ⟨kq, x11_1, rfl, HA, HJ1, ⟨mc1, rfl⟩⟩ := hcut
    cases kq with
    | zero => exact absurd HA.out (by simp [r11_Small.j1])
    | succ kj1 =>
     have H := HA.out
     clear HA
     simp only [r11_Small.j1] at H
     by_cases c4 : x11_1 = true
     ·subst c4
      have H1 : (if 0 ≤ x3_1 then (if x3_1 < (l0.length : Int) then (if (((rd_T43 l0 x3_1).f1).length : Int) > 65 then (some false) else (if (((rd_T43 l0 x3_1).f2).size : Int) > 40 then (some false) else (r11_Small.l0 kj1 l0 (wrap64 (x3_1 + 1))))) else (none)) else (none)) = some r := by rw [if_pos rfl] at H; exact H
      clear H
      have H := H1
      clear H1
      by_cases c5 : 0 ≤ x3_1
      ·rw [if_pos c5] at H
       have c5b0 : decide (0 ≤ x3_1) = true := dT c5
       clear c5
       by_cases c6 : x3_1 < (l0.length : Int)
       ·rw [if_pos c6] at H
        have c6b0 : decide (x3_1 < (l0.length : Int)) = true := dT c6
        clear c6
        by_cases c7 : (((rd_T43 l0 x3_1).f1).length : Int) > 65
        ·rw [if_pos c7] at H
         have c7b0 : decide (65 < (((rd_T43 l0 x3_1).f1).length : Int)) = true := dT c7
         have c7b1 : decide (65 < ((rd_T43 l0 x3_1).f1).length) = true := dT (by omega)
         clear c7
         obtain rfl := Option.some.inj H
         have p101 : 0 ≤ (x3_1 : Int) := oD (by first | (with_reducible assumption) | assumption)
         have q101 : x3_1 < (l0.length : Int) := oD (by first | (with_reducible assumption) | assumption)
         obtain ⟨ad101, A101_1, c101_1, e101, hx101_0, hx101_1, hx101_2, hl101_1, hi101_1⟩ := at_T43 HR0.out x3_1 p101 q101
         cases e101
         have HR101_1 := aM hi101_1
         have HC101_1 := aM hl101_1
         clear hi101_1 hl101_1
         replace p101 := eq_true p101
         replace q101 := eq_true q101
         go_wp2
         go_ret
         exact ⟨by first | rfl | (simp; done) | (simp [*]; done), by repeat (first | exact Drawn0.refl _ | apply Drawn0.step)⟩
        ·rw [if_neg c7] at H
         have c7b0 : decide (65 < (((rd_T43 l0 x3_1).f1).length : Int)) = false := decide_eq_false c7
         have c7b1 : decide (65 < ((rd_T43 l0 x3_1).f1).length) = false := decide_eq_false (by omega)
         clear c7
         by_cases c8 : (((rd_T43 l0 x3_1).f2).size : Int) > 40
         ·rw [if_pos c8] at H
          have c8b0 : decide (40 < (((rd_T43 l0 x3_1).f2).size : Int)) = true := dT c8
          have c8b1 : decide (40 < ((rd_T43 l0 x3_1).f2).size) = true := dT (by omega)
          clear c8
          obtain rfl := Option.some.inj H
          have p101 : 0 ≤ (x3_1 : Int) := oD (by first | (with_reducible assumption) | assumption)
          have q101 : x3_1 < (l0.length : Int) := oD (by first | (with_reducible assumption) | assumption)
          obtain ⟨ad101, A101_1, c101_1, e101, hx101_0, hx101_1, hx101_2, hl101_1, hi101_1⟩ := at_T43 HR0.out x3_1 p101 q101
          cases e101
          have HR101_1 := aM hi101_1
          have HC101_1 := aM hl101_1
          clear hi101_1 hl101_1
          replace p101 := eq_true p101
          replace q101 := eq_true q101
          have p102 : 0 ≤ (x3_1 : Int) := oD (by first | (with_reducible assumption) | assumption)
          have q102 : x3_1 < (l0.length : Int) := oD (by first | (with_reducible assumption) | assumption)
          obtain ⟨ad102, A102_1, c102_1, e102, hx102_0, hx102_1, hx102_2, hl102_1, hi102_1⟩ := at_T43 HR0.out x3_1 p102 q102
          obtain rfl : ad101 = ad102 := (by injection e102)
          have HR102_1 := aM hi102_1
          have HC102_1 := aM hl102_1
          clear hi102_1 hl102_1
          replace p102 := eq_true p102
          replace q102 := eq_true q102
          have ea_ := Option.some.inj (hx101_1.symm.trans hx102_1)
          injection ea_ with ea_ en_ ec_
          subst ea_
          subst ec_
          clear en_
          go_wp2
          go_ret
          exact ⟨by first | rfl | (simp; done) | (simp [*]; done), by repeat (first | exact Drawn0.refl _ | apply Drawn0.step)⟩
         ·rw [if_neg c8] at H
          have c8b0 : decide (40 < (((rd_T43 l0 x3_1).f2).size : Int)) = false := decide_eq_false c8
          have c8b1 : decide (40 < ((rd_T43 l0 x3_1).f2).size) = false := decide_eq_false (by omega)
          clear c8
          have H' := aM H
          clear H
          have p101 : 0 ≤ (x3_1 : Int) := oD (by first | (with_reducible assumption) | assumption)
          have q101 : x3_1 < (l0.length : Int) := oD (by first | (with_reducible assumption) | assumption)
          obtain ⟨ad101, A101_1, c101_1, e101, hx101_0, hx101_1, hx101_2, hl101_1, hi101_1⟩ := at_T43 HR0.out x3_1 p101 q101
          cases e101
          have HR101_1 := aM hi101_1
          have HC101_1 := aM hl101_1
          clear hi101_1 hl101_1
          replace p101 := eq_true p101
          replace q101 := eq_true q101
          have p102 : 0 ≤ (x3_1 : Int) := oD (by first | (with_reducible assumption) | assumption)
          have q102 : x3_1 < (l0.length : Int) := oD (by first | (with_reducible assumption) | assumption)
          obtain ⟨ad102, A102_1, c102_1, e102, hx102_0, hx102_1, hx102_2, hl102_1, hi102_1⟩ := at_T43 HR0.out x3_1 p102 q102
          obtain rfl : ad101 = ad102 := (by injection e102)
          have HR102_1 := aM hi102_1
          have HC102_1 := aM hl102_1
          clear hi102_1 hl102_1
          replace p102 := eq_true p102
          replace q102 := eq_true q102
          have ea_ := Option.some.inj (hx101_1.symm.trans hx102_1)
          injection ea_ with ea_ en_ ec_
          subst ea_
          subst ec_
          clear en_
          go_wp2
          go_roundg kj1
          case measure => have := HK1.out; have := HJ1.out; omega
          case rel => exact ⟨(wrap64 (x3_1 + 1)), (by first | rfl | (simp; done) | (simp [*]; done)), H', ⟨by have := HK1.out; have := HJ1.out; omega⟩, by repeat (first | exact Drawn0.refl _ | apply Drawn0.step)⟩
       ·rw [if_neg c6] at H
        exact absurd H (by simp)
      ·rw [if_neg c5] at H
       exact absurd H (by simp)
     ·replace c4 := Bool.eq_false_iff.mpr c4
      subst c4
      have H1 : (some (decide ((l0.length : Int) ≤ 20))) = some r := by rw [if_neg (show ¬ (false = true) by decide)] at H; exact H
      clear H
      have H := H1
      clear H1
      obtain rfl := Option.some.inj H
      go_wp2
      go_ret
      exact ⟨by first | rfl | (simp; done) | (simp [*]; done), by repeat (first | exact Drawn0.refl _ | apply Drawn0.step)⟩
def r02_Small.f (l0_0 : List (S33)) : Option (Bool) := some (decide ((l0_0.length : Int) ≤ 12))
set_option maxHeartbeats 8000000 in
set_option maxRecDepth 100000 in
theorem r02_Small.calls (A0_0 : Option Addr) (c0_0 : Nat) (l0_0 : List (S33)) (r : Bool) (w : World) (hr0_0 : Kd.C k33 w A0_0 l0_0.length l0_0) (hc0_0 : l0_0.length ≤ c0_0) (h : r02_Small.f l0_0 = some r) :
  Calls Try.prog 42 #[.agg #[.slice A0_0 l0_0.length c0_0]] w fun e w' => e = .returned (.bool r) ∧ Below w.heap.size w w' := by
 have hu25 := Try.underlying25
 have HR0_0 := aM hr0_0
 have HC0_0 := aM hc0_0
 clear hr0_0 hc0_0
 have HB := aM (Below.refl w.heap.size w)
 have H : (some (decide ((l0_0.length : Int) ≤ 12))) = some r := h
 clear h
 obtain rfl := Option.some.inj H
 go_enter Try.func42, Try.ntmps42
 go_wp2_with (first | ((with_reducible refine gate_dst (N := 1) rfl ?_); refine box_event ?hg (N := 1) ?hd (cs := #[.slice A0_0 l0_0.length c0_0]) (t := 25) ?hr ?_; (case hd => rfl); (case hg => rfl); (case hr => first | (go_simp; done) | (go_simp; rfl)); intro gb103 hg w2 hbox hb; have n0_ := aM (bSp (by repeat (first | (with_reducible first | exact HB.out | apply bAl | apply pbN | apply bD1) | exact HB.out)) hb); have n1_ := aM (hbox); have n2_ := aM ((by rw [hg]; exact (bSz (by repeat (first | (with_reducible first | exact HB.out | apply bAl | apply pbN | apply bD1) | exact HB.out))) : w.heap.size ≤ gb103)); have n3_ := aM ((by rw [hg]; exact (bSz (by repeat (first | (with_reducible first | exact HB.out | apply bAl | apply pbN | apply bD1) | exact HB.out))) : w.heap.size ≤ gb103)); clear HB; have HB := n0_; have BK103 := n1_; have GW103 := n2_; have GE103 := n3_; clear n0_ n1_ n2_ n3_; clear hb hbox hg; have hcz3_0 : w2.cell? ⟨gb103, 0, none⟩ = some (.slice A0_0 l0_0.length c0_0) := (bkC BK103.out 0).trans rfl; have hfz3_0 := bkF BK103.out 0))
 go_ret
 exact ⟨by first | rfl | (simp [eN, eS] <;> rfl) | (simp [*, eN, eS] <;> rfl), by repeat (first | (with_reducible first | exact HB.out | apply bAl | apply pbN | apply bD1 | refine bSt ?_ GE103.out) | exact HB.out)⟩
def r37_Small.f (k : Nat) (l0_0 : List (S43)) (l0_1 : List (S43)) (l0_2 : List (S43)) (l0_3 : List (S43)) (l0_4 : List (S33)) (l0_5 : List (S33)) : Option (Bool) := (r11_Small.f k l0_0).bind fun t105 => (if t105 = true then ((r11_Small.f k l0_1).bind fun t106 => (if t106 = true then ((r11_Small.f k l0_2).bind fun t107 => (if t107 = true then ((r11_Small.f k l0_3).bind fun t108 => (if t108 = true then ((r02_Small.f l0_4).bind fun t109 => (if t109 = true then ((r02_Small.f l0_5).bind fun t110 => (some t110)) else (some false))) else (some false))) else (some false))) else (some false))) else (some false))
set_option maxHeartbeats 8000000 in
set_option maxRecDepth 100000 in
theorem r37_Small.calls (k : Nat) (A0_0 : Option Addr) (c0_0 : Nat) (l0_0 : List (S43)) (A0_1 : Option Addr) (c0_1 : Nat) (l0_1 : List (S43)) (A0_2 : Option Addr) (c0_2 : Nat) (l0_2 : List (S43)) (A0_3 : Option Addr) (c0_3 : Nat) (l0_3 : List (S43)) (A0_4 : Option Addr) (c0_4 : Nat) (l0_4 : List (S33)) (A0_5 : Option Addr) (c0_5 : Nat) (l0_5 : List (S33)) (r : Bool) (w : World) (hr0_0 : Kd.C k43 w A0_0 l0_0.length l0_0) (hc0_0 : l0_0.length ≤ c0_0) (hr0_1 : Kd.C k43 w A0_1 l0_1.length l0_1) (hc0_1 : l0_1.length ≤ c0_1) (hr0_2 : Kd.C k43 w A0_2 l0_2.length l0_2) (hc0_2 : l0_2.length ≤ c0_2) (hr0_3 : Kd.C k43 w A0_3 l0_3.length l0_3) (hc0_3 : l0_3.length ≤ c0_3) (hr0_4 : Kd.C k33 w A0_4 l0_4.length l0_4) (hc0_4 : l0_4.length ≤ c0_4) (hr0_5 : Kd.C k33 w A0_5 l0_5.length l0_5) (hc0_5 : l0_5.length ≤ c0_5) (h : r37_Small.f k l0_0 l0_1 l0_2 l0_3 l0_4 l0_5 = some r) :
  Calls Try.prog 20 #[.agg #[.slice A0_0 l0_0.length c0_0, .slice A0_1 l0_1.length c0_1, .slice A0_2 l0_2.length c0_2, .slice A0_3 l0_3.length c0_3, .slice A0_4 l0_4.length c0_4, .slice A0_5 l0_5.length c0_5]] w fun e w' => e = .returned (.bool r) ∧ Below w.heap.size w w' := by
 have hu27 := Try.underlying27
 have hu25 := Try.underlying25
 have HR0_0 := aM hr0_0
 have HC0_0 := aM hc0_0
 clear hr0_0 hc0_0
 have HR0_1 := aM hr0_1
 have HC0_1 := aM hc0_1
 clear hr0_1 hc0_1
 have HR0_2 := aM hr0_2
 have HC0_2 := aM hc0_2
 clear hr0_2 hc0_2
 have HR0_3 := aM hr0_3
 have HC0_3 := aM hc0_3
 clear hr0_3 hc0_3
 have HR0_4 := aM hr0_4
 have HC0_4 := aM hc0_4
 clear hr0_4 hc0_4
 have HR0_5 := aM hr0_5
 have HC0_5 := aM hc0_5
 clear hr0_5 hc0_5
 have HB := aM (Below.refl w.heap.size w)
 have H : ((r11_Small.f k l0_0).bind fun t105 => (if t105 = true then ((r11_Small.f k l0_1).bind fun t106 => (if t106 = true then ((r11_Small.f k l0_2).bind fun t107 => (if t107 = true then ((r11_Small.f k l0_3).bind fun t108 => (if t108 = true then ((r02_Small.f l0_4).bind fun t109 => (if t109 = true then ((r02_Small.f l0_5).bind fun t110 => (some t110)) else (some false))) else (some false))) else (some false))) else (some false))) else (some false))) = some r := h
 clear h
 replace H := Option.bind_eq_some_iff.mp H
 obtain ⟨t105, A20, H⟩ := H
 replace H : (if t105 = true then ((r11_Small.f k l0_1).bind fun t106 => (if t106 = true then ((r11_Small.f k l0_2).bind fun t107 => (if t107 = true then ((r11_Small.f k l0_3).bind fun t108 => (if t108 = true then ((r02_Small.f l0_4).bind fun t109 => (if t109 = true then ((r02_Small.f l0_5).bind fun t110 => (some t110)) else (some false))) else (some false))) else (some false))) else (some false))) else (some false)) = some r := H
 have A2 := aM A20
 clear A20
 by_cases c3 : t105 = true
 ·subst c3
  have H1 : ((r11_Small.f k l0_1).bind fun t106 => (if t106 = true then ((r11_Small.f k l0_2).bind fun t107 => (if t107 = true then ((r11_Small.f k l0_3).bind fun t108 => (if t108 = true then ((r02_Small.f l0_4).bind fun t109 => (if t109 = true then ((r02_Small.f l0_5).bind fun t110 => (some t110)) else (some false))) else (some false))) else (some false))) else (some false))) = some r := by rw [if_pos rfl] at H; exact H
  clear H
  have H := H1
  clear H1
  replace H := Option.bind_eq_some_iff.mp H
  obtain ⟨t106, A40, H⟩ := H
  replace H : (if t106 = true then ((r11_Small.f k l0_2).bind fun t107 => (if t107 = true then ((r11_Small.f k l0_3).bind fun t108 => (if t108 = true then ((r02_Small.f l0_4).bind fun t109 => (if t109 = true then ((r02_Small.f l0_5).bind fun t110 => (some t110)) else (some false))) else (some false))) else (some false))) else (some false)) = some r := H
  have A4 := aM A40
  clear A40
  by_cases c5 : t106 = true
  ·subst c5
   have H1 : ((r11_Small.f k l0_2).bind fun t107 => (if t107 = true then ((r11_Small.f k l0_3).bind fun t108 => (if t108 = true then ((r02_Small.f l0_4).bind fun t109 => (if t109 = true then ((r02_Small.f l0_5).bind fun t110 => (some t110)) else (some false))) else (some false))) else (some false))) = some r := by rw [if_pos rfl] at H; exact H
   clear H
   have H := H1
   clear H1
   replace H := Option.bind_eq_some_iff.mp H
   obtain ⟨t107, A60, H⟩ := H
   replace H : (if t107 = true then ((r11_Small.f k l0_3).bind fun t108 => (if t108 = true then ((r02_Small.f l0_4).bind fun t109 => (if t109 = true then ((r02_Small.f l0_5).bind fun t110 => (some t110)) else (some false))) else (some false))) else (some false)) = some r := H
   have A6 := aM A60
   clear A60
   by_cases c7 : t107 = true
   ·subst c7
    have H1 : ((r11_Small.f k l0_3).bind fun t108 => (if t108 = true then ((r02_Small.f l0_4).bind fun t109 => (if t109 = true then ((r02_Small.f l0_5).bind fun t110 => (some t110)) else (some false))) else (some false))) = some r := by rw [if_pos rfl] at H; exact H
    clear H
    have H := H1
    clear H1
    replace H := Option.bind_eq_some_iff.mp H
    obtain ⟨t108, A80, H⟩ := H
    replace H : (if t108 = true then ((r02_Small.f l0_4).bind fun t109 => (if t109 = true then ((r02_Small.f l0_5).bind fun t110 => (some t110)) else (some false))) else (some false)) = some r := H
    have A8 := aM A80
    clear A80
    by_cases c9 : t108 = true
    ·subst c9
     have H1 : ((r02_Small.f l0_4).bind fun t109 => (if t109 = true then ((r02_Small.f l0_5).bind fun t110 => (some t110)) else (some false))) = some r := by rw [if_pos rfl] at H; exact H
     clear H
     have H := H1
     clear H1
     replace H := Option.bind_eq_some_iff.mp H
     obtain ⟨t109, A100, H⟩ := H
     replace H : (if t109 = true then ((r02_Small.f l0_5).bind fun t110 => (some t110)) else (some false)) = some r := H
     have A10 := aM A100
     clear A100
     by_cases c11 : t109 = true
     ·subst c11
      have H1 : ((r02_Small.f l0_5).bind fun t110 => (some t110)) = some r := by rw [if_pos rfl] at H; exact H
      clear H
      have H := H1
      clear H1
      replace H := Option.bind_eq_some_iff.mp H
      obtain ⟨t110, A120, H⟩ := H
      replace H : (some t110) = some r := H
      have A12 := aM A120
      clear A120
      obtain rfl := Option.some.inj H
      go_enter Try.func20, Try.ntmps20
      go_wp2_with (first | ((with_reducible refine gate_dst (N := 1) rfl ?_); refine box_event ?hg (N := 1) ?hd (cs := #[.slice A0_0 l0_0.length c0_0, .slice A0_1 l0_1.length c0_1, .slice A0_2 l0_2.length c0_2, .slice A0_3 l0_3.length c0_3, .slice A0_4 l0_4.length c0_4, .slice A0_5 l0_5.length c0_5]) (t := 27) ?hr ?_; (case hd => rfl); (case hg => rfl); (case hr => first | (go_simp; done) | (go_simp; rfl)); intro gb104 hg w13 hbox hb; have n0_ := aM (bSp (by repeat (first | (with_reducible first | exact HB.out | apply bAl | apply pbN | apply bD1) | exact HB.out)) hb); have n1_ := aM (hbox); have n2_ := aM ((by rw [hg]; exact (bSz (by repeat (first | (with_reducible first | exact HB.out | apply bAl | apply pbN | apply bD1) | exact HB.out))) : w.heap.size ≤ gb104)); have n3_ := aM ((by rw [hg]; exact (bSz (by repeat (first | (with_reducible first | exact HB.out | apply bAl | apply pbN | apply bD1) | exact HB.out))) : w.heap.size ≤ gb104)); clear HB; have HB := n0_; have BK104 := n1_; have GW104 := n2_; have GE104 := n3_; clear n0_ n1_ n2_ n3_; clear hb hbox hg; have hcz14_0 : w13.cell? ⟨gb104, 0, none⟩ = some (.slice A0_0 l0_0.length c0_0) := (bkC BK104.out 0).trans rfl; have hcz14_1 : w13.cell? ⟨gb104, 1, none⟩ = some (.slice A0_1 l0_1.length c0_1) := (bkC BK104.out 1).trans rfl; have hcz14_2 : w13.cell? ⟨gb104, 2, none⟩ = some (.slice A0_2 l0_2.length c0_2) := (bkC BK104.out 2).trans rfl; have hcz14_3 : w13.cell? ⟨gb104, 3, none⟩ = some (.slice A0_3 l0_3.length c0_3) := (bkC BK104.out 3).trans rfl; have hcz14_4 : w13.cell? ⟨gb104, 4, none⟩ = some (.slice A0_4 l0_4.length c0_4) := (bkC BK104.out 4).trans rfl; have hcz14_5 : w13.cell? ⟨gb104, 5, none⟩ = some (.slice A0_5 l0_5.length c0_5) := (bkC BK104.out 5).trans rfl; have hfz14_0 := bkF BK104.out 0; have hfz14_1 := bkF BK104.out 1; have hfz14_2 := bkF BK104.out 2; have hfz14_3 := bkF BK104.out 3; have hfz14_4 := bkF BK104.out 4; have hfz14_5 := bkF BK104.out 5) | ((with_reducible refine gate_callee (f := 41) rfl ?_); refine goesL_ (some 5) rfl rfl Try.func41 (by kernel_rfl) rfl #[.slice A0_0 l0_0.length c0_0] rfl (by (try simp only [List.map_toArray, List.map_cons, List.map_nil]); first | done | rfl | (simp only [List.length_drop, List.length_take]; rfl)) ?_; (with_reducible refine (r11_Small.calls k _ _ l0_0 true _ ?side1 ?side2 A2.out).mono ?_); (case side1 => repeat (first | exact (Kd.C_below HR0_0.out HB.out) | (with_reducible refine Kd.C_alloc ?_ _) | (with_reducible refine Kd.C_drewN ?_ _) | (with_reducible refine Kd.C_drew ?_))); (case side2 => exact HC0_0.out); rintro e w' ⟨rfl, ⟨nd, rfl⟩⟩; refine ⟨_, rfl, ?_⟩) | (go_at_call 41; (with_reducible refine (r11_Small.calls k _ _ l0_1 true _ ?side1 ?side2 A4.out).mono ?_); (case side1 => repeat (first | exact (Kd.C_below HR0_1.out (by repeat (first | (with_reducible first | exact HB.out | apply bAl | apply pbN | apply bD1 | refine bSt ?_ GE104.out) | exact HB.out))) | (with_reducible refine Kd.C_alloc ?_ _) | (with_reducible refine Kd.C_drewN ?_ _) | (with_reducible refine Kd.C_drew ?_))); (case side2 => exact HC0_1.out); rintro e w' ⟨rfl, ⟨nd, rfl⟩⟩) | (go_at_call 41; (with_reducible refine (r11_Small.calls k _ _ l0_2 true _ ?side1 ?side2 A6.out).mono ?_); (case side1 => repeat (first | exact (Kd.C_below HR0_2.out (by repeat (first | (with_reducible first | exact HB.out | apply bAl | apply pbN | apply bD1 | refine bSt ?_ GE104.out) | exact HB.out))) | (with_reducible refine Kd.C_alloc ?_ _) | (with_reducible refine Kd.C_drewN ?_ _) | (with_reducible refine Kd.C_drew ?_))); (case side2 => exact HC0_2.out); rintro e w' ⟨rfl, ⟨nd, rfl⟩⟩) | (go_at_call 41; (with_reducible refine (r11_Small.calls k _ _ l0_3 true _ ?side1 ?side2 A8.out).mono ?_); (case side1 => repeat (first | exact (Kd.C_below HR0_3.out (by repeat (first | (with_reducible first | exact HB.out | apply bAl | apply pbN | apply bD1 | refine bSt ?_ GE104.out) | exact HB.out))) | (with_reducible refine Kd.C_alloc ?_ _) | (with_reducible refine Kd.C_drewN ?_ _) | (with_reducible refine Kd.C_drew ?_))); (case side2 => exact HC0_3.out); rintro e w' ⟨rfl, ⟨nd, rfl⟩⟩) | (go_at_call 42; (with_reducible refine (r02_Small.calls _ _ l0_4 true _ ?side1 ?side2 A10.out).mono ?_); (case side1 => repeat (first | exact (Kd.C_below HR0_4.out (by repeat (first | (with_reducible first | exact HB.out | apply bAl | apply pbN | apply bD1 | refine bSt ?_ GE104.out) | exact HB.out))) | (with_reducible refine Kd.C_alloc ?_ _) | (with_reducible refine Kd.C_drewN ?_ _) | (with_reducible refine Kd.C_drew ?_))); (case side2 => exact HC0_4.out); rintro e w15 ⟨rfl, hb⟩; have n0_ := aM (blk_below (g := gb104) (o := .cells #[.slice A0_0 l0_0.length c0_0, .slice A0_1 l0_1.length c0_1, .slice A0_2 l0_2.length c0_2, .slice A0_3 l0_3.length c0_3, .slice A0_4 l0_4.length c0_4, .slice A0_5 l0_5.length c0_5] 27 (0, 0)) (by (with_reducible repeat (first | refine bkN ?_ _ | refine bkD ?_ | refine bkA ?_ _)); exact BK104.out) hb); have n1_ := aM (bSp (by repeat (first | (with_reducible first | exact HB.out | apply bAl | apply pbN | apply bD1 | refine bSt ?_ GE104.out) | exact HB.out)) hb); clear BK104; clear HB; have BK104 := n0_; have HB := n1_; clear n0_ n1_; (try clear hb); (try clear hb2); (try clear hk); (try clear hi); have hcz16_0 : w15.cell? ⟨gb104, 0, none⟩ = some (.slice A0_0 l0_0.length c0_0) := (bkC BK104.out 0).trans rfl; have hcz16_1 : w15.cell? ⟨gb104, 1, none⟩ = some (.slice A0_1 l0_1.length c0_1) := (bkC BK104.out 1).trans rfl; have hcz16_2 : w15.cell? ⟨gb104, 2, none⟩ = some (.slice A0_2 l0_2.length c0_2) := (bkC BK104.out 2).trans rfl; have hcz16_3 : w15.cell? ⟨gb104, 3, none⟩ = some (.slice A0_3 l0_3.length c0_3) := (bkC BK104.out 3).trans rfl; have hcz16_4 : w15.cell? ⟨gb104, 4, none⟩ = some (.slice A0_4 l0_4.length c0_4) := (bkC BK104.out 4).trans rfl; have hcz16_5 : w15.cell? ⟨gb104, 5, none⟩ = some (.slice A0_5 l0_5.length c0_5) := (bkC BK104.out 5).trans rfl; have hfz16_0 := bkF BK104.out 0; have hfz16_1 := bkF BK104.out 1; have hfz16_2 := bkF BK104.out 2; have hfz16_3 := bkF BK104.out 3; have hfz16_4 := bkF BK104.out 4; have hfz16_5 := bkF BK104.out 5) | (go_at_call 42; (with_reducible refine (r02_Small.calls _ _ l0_5 t110 _ ?side1 ?side2 A12.out).mono ?_); (case side1 => repeat (first | exact (Kd.C_below HR0_5.out HB.out) | (with_reducible refine Kd.C_alloc ?_ _) | (with_reducible refine Kd.C_drewN ?_ _) | (with_reducible refine Kd.C_drew ?_))); (case side2 => exact HC0_5.out); rintro e w17 ⟨rfl, hb⟩; have n0_ := aM (blk_below (g := gb104) (o := .cells #[.slice A0_0 l0_0.length c0_0, .slice A0_1 l0_1.length c0_1, .slice A0_2 l0_2.length c0_2, .slice A0_3 l0_3.length c0_3, .slice A0_4 l0_4.length c0_4, .slice A0_5 l0_5.length c0_5] 27 (0, 0)) (by (with_reducible repeat (first | refine bkN ?_ _ | refine bkD ?_ | refine bkA ?_ _)); exact BK104.out) hb); have n1_ := aM (bSp (by repeat (first | (with_reducible first | exact HB.out | apply bAl | apply pbN | apply bD1 | refine bSt ?_ GE104.out) | exact HB.out)) hb); clear BK104; clear HB; have BK104 := n0_; have HB := n1_; clear n0_ n1_; (try clear hb); (try clear hb2); (try clear hk); (try clear hi)))
      go_ret
      exact ⟨by first | rfl | (simp [eN, eS] <;> rfl) | (simp [*, eN, eS] <;> rfl), by repeat (first | (with_reducible first | exact HB.out | apply bAl | apply pbN | apply bD1 | refine bSt ?_ GE104.out) | exact HB.out)⟩
     ·replace c11 := Bool.eq_false_iff.mpr c11
      subst c11
      have H1 : (some false) = some r := by rw [if_neg (show ¬ (false = true) by decide)] at H; exact H
      clear H
      have H := H1
      clear H1
      obtain rfl := Option.some.inj H
      go_enter Try.func20, Try.ntmps20
      go_wp2_with (first | ((with_reducible refine gate_dst (N := 1) rfl ?_); refine box_event ?hg (N := 1) ?hd (cs := #[.slice A0_0 l0_0.length c0_0, .slice A0_1 l0_1.length c0_1, .slice A0_2 l0_2.length c0_2, .slice A0_3 l0_3.length c0_3, .slice A0_4 l0_4.length c0_4, .slice A0_5 l0_5.length c0_5]) (t := 27) ?hr ?_; (case hd => rfl); (case hg => rfl); (case hr => first | (go_simp; done) | (go_simp; rfl)); intro gb104 hg w18 hbox hb; have n0_ := aM (bSp (by repeat (first | (with_reducible first | exact HB.out | apply bAl | apply pbN | apply bD1) | exact HB.out)) hb); have n1_ := aM (hbox); have n2_ := aM ((by rw [hg]; exact (bSz (by repeat (first | (with_reducible first | exact HB.out | apply bAl | apply pbN | apply bD1) | exact HB.out))) : w.heap.size ≤ gb104)); have n3_ := aM ((by rw [hg]; exact (bSz (by repeat (first | (with_reducible first | exact HB.out | apply bAl | apply pbN | apply bD1) | exact HB.out))) : w.heap.size ≤ gb104)); clear HB; have HB := n0_; have BK104 := n1_; have GW104 := n2_; have GE104 := n3_; clear n0_ n1_ n2_ n3_; clear hb hbox hg; have hcz19_0 : w18.cell? ⟨gb104, 0, none⟩ = some (.slice A0_0 l0_0.length c0_0) := (bkC BK104.out 0).trans rfl; have hcz19_1 : w18.cell? ⟨gb104, 1, none⟩ = some (.slice A0_1 l0_1.length c0_1) := (bkC BK104.out 1).trans rfl; have hcz19_2 : w18.cell? ⟨gb104, 2, none⟩ = some (.slice A0_2 l0_2.length c0_2) := (bkC BK104.out 2).trans rfl; have hcz19_3 : w18.cell? ⟨gb104, 3, none⟩ = some (.slice A0_3 l0_3.length c0_3) := (bkC BK104.out 3).trans rfl; have hcz19_4 : w18.cell? ⟨gb104, 4, none⟩ = some (.slice A0_4 l0_4.length c0_4) := (bkC BK104.out 4).trans rfl; have hcz19_5 : w18.cell? ⟨gb104, 5, none⟩ = some (.slice A0_5 l0_5.length c0_5) := (bkC BK104.out 5).trans rfl; have hfz19_0 := bkF BK104.out 0; have hfz19_1 := bkF BK104.out 1; have hfz19_2 := bkF BK104.out 2; have hfz19_3 := bkF BK104.out 3; have hfz19_4 := bkF BK104.out 4; have hfz19_5 := bkF BK104.out 5) | ((with_reducible refine gate_callee (f := 41) rfl ?_); refine goesL_ (some 5) rfl rfl Try.func41 (by kernel_rfl) rfl #[.slice A0_0 l0_0.length c0_0] rfl (by (try simp only [List.map_toArray, List.map_cons, List.map_nil]); first | done | rfl | (simp only [List.length_drop, List.length_take]; rfl)) ?_; (with_reducible refine (r11_Small.calls k _ _ l0_0 true _ ?side1 ?side2 A2.out).mono ?_); (case side1 => repeat (first | exact (Kd.C_below HR0_0.out HB.out) | (with_reducible refine Kd.C_alloc ?_ _) | (with_reducible refine Kd.C_drewN ?_ _) | (with_reducible refine Kd.C_drew ?_))); (case side2 => exact HC0_0.out); rintro e w' ⟨rfl, ⟨nd, rfl⟩⟩; refine ⟨_, rfl, ?_⟩) | (go_at_call 41; (with_reducible refine (r11_Small.calls k _ _ l0_1 true _ ?side1 ?side2 A4.out).mono ?_); (case side1 => repeat (first | exact (Kd.C_below HR0_1.out (by repeat (first | (with_reducible first | exact HB.out | apply bAl | apply pbN | apply bD1 | refine bSt ?_ GE104.out) | exact HB.out))) | (with_reducible refine Kd.C_alloc ?_ _) | (with_reducible refine Kd.C_drewN ?_ _) | (with_reducible refine Kd.C_drew ?_))); (case side2 => exact HC0_1.out); rintro e w' ⟨rfl, ⟨nd, rfl⟩⟩) | (go_at_call 41; (with_reducible refine (r11_Small.calls k _ _ l0_2 true _ ?side1 ?side2 A6.out).mono ?_); (case side1 => repeat (first | exact (Kd.C_below HR0_2.out (by repeat (first | (with_reducible first | exact HB.out | apply bAl | apply pbN | apply bD1 | refine bSt ?_ GE104.out) | exact HB.out))) | (with_reducible refine Kd.C_alloc ?_ _) | (with_reducible refine Kd.C_drewN ?_ _) | (with_reducible refine Kd.C_drew ?_))); (case side2 => exact HC0_2.out); rintro e w' ⟨rfl, ⟨nd, rfl⟩⟩) | (go_at_call 41; (with_reducible refine (r11_Small.calls k _ _ l0_3 true _ ?side1 ?side2 A8.out).mono ?_); (case side1 => repeat (first | exact (Kd.C_below HR0_3.out (by repeat (first | (with_reducible first | exact HB.out | apply bAl | apply pbN | apply bD1 | refine bSt ?_ GE104.out) | exact HB.out))) | (with_reducible refine Kd.C_alloc ?_ _) | (with_reducible refine Kd.C_drewN ?_ _) | (with_reducible refine Kd.C_drew ?_))); (case side2 => exact HC0_3.out); rintro e w' ⟨rfl, ⟨nd, rfl⟩⟩) | (go_at_call 42; (with_reducible refine (r02_Small.calls _ _ l0_4 false _ ?side1 ?side2 A10.out).mono ?_); (case side1 => repeat (first | exact (Kd.C_below HR0_4.out (by repeat (first | (with_reducible first | exact HB.out | apply bAl | apply pbN | apply bD1 | refine bSt ?_ GE104.out) | exact HB.out))) | (with_reducible refine Kd.C_alloc ?_ _) | (with_reducible refine Kd.C_drewN ?_ _) | (with_reducible refine Kd.C_drew ?_))); (case side2 => exact HC0_4.out); rintro e w20 ⟨rfl, hb⟩; have n0_ := aM (blk_below (g := gb104) (o := .cells #[.slice A0_0 l0_0.length c0_0, .slice A0_1 l0_1.length c0_1, .slice A0_2 l0_2.length c0_2, .slice A0_3 l0_3.length c0_3, .slice A0_4 l0_4.length c0_4, .slice A0_5 l0_5.length c0_5] 27 (0, 0)) (by (with_reducible repeat (first | refine bkN ?_ _ | refine bkD ?_ | refine bkA ?_ _)); exact BK104.out) hb); have n1_ := aM (bSp (by repeat (first | (with_reducible first | exact HB.out | apply bAl | apply pbN | apply bD1 | refine bSt ?_ GE104.out) | exact HB.out)) hb); clear BK104; clear HB; have BK104 := n0_; have HB := n1_; clear n0_ n1_; (try clear hb); (try clear hb2); (try clear hk); (try clear hi)))
      go_ret
      exact ⟨by first | rfl | (simp [eN, eS] <;> rfl) | (simp [*, eN, eS] <;> rfl), by repeat (first | (with_reducible first | exact HB.out | apply bAl | apply pbN | apply bD1 | refine bSt ?_ GE104.out) | exact HB.out)⟩
    ·replace c9 := Bool.eq_false_iff.mpr c9
     subst c9
     have H1 : (some false) = some r := by rw [if_neg (show ¬ (false = true) by decide)] at H; exact H
     clear H
     have H := H1
     clear H1
     obtain rfl := Option.some.inj H
     go_enter Try.func20, Try.ntmps20
     go_wp2_with (first | ((with_reducible refine gate_dst (N := 1) rfl ?_); refine box_event ?hg (N := 1) ?hd (cs := #[.slice A0_0 l0_0.length c0_0, .slice A0_1 l0_1.length c0_1, .slice A0_2 l0_2.length c0_2, .slice A0_3 l0_3.length c0_3, .slice A0_4 l0_4.length c0_4, .slice A0_5 l0_5.length c0_5]) (t := 27) ?hr ?_; (case hd => rfl); (case hg => rfl); (case hr => first | (go_simp; done) | (go_simp; rfl)); intro gb104 hg w21 hbox hb; have n0_ := aM (bSp (by repeat (first | (with_reducible first | exact HB.out | apply bAl | apply pbN | apply bD1) | exact HB.out)) hb); have n1_ := aM (hbox); have n2_ := aM ((by rw [hg]; exact (bSz (by repeat (first | (with_reducible first | exact HB.out | apply bAl | apply pbN | apply bD1) | exact HB.out))) : w.heap.size ≤ gb104)); have n3_ := aM ((by rw [hg]; exact (bSz (by repeat (first | (with_reducible first | exact HB.out | apply bAl | apply pbN | apply bD1) | exact HB.out))) : w.heap.size ≤ gb104)); clear HB; have HB := n0_; have BK104 := n1_; have GW104 := n2_; have GE104 := n3_; clear n0_ n1_ n2_ n3_; clear hb hbox hg; have hcz22_0 : w21.cell? ⟨gb104, 0, none⟩ = some (.slice A0_0 l0_0.length c0_0) := (bkC BK104.out 0).trans rfl; have hcz22_1 : w21.cell? ⟨gb104, 1, none⟩ = some (.slice A0_1 l0_1.length c0_1) := (bkC BK104.out 1).trans rfl; have hcz22_2 : w21.cell? ⟨gb104, 2, none⟩ = some (.slice A0_2 l0_2.length c0_2) := (bkC BK104.out 2).trans rfl; have hcz22_3 : w21.cell? ⟨gb104, 3, none⟩ = some (.slice A0_3 l0_3.length c0_3) := (bkC BK104.out 3).trans rfl; have hcz22_4 : w21.cell? ⟨gb104, 4, none⟩ = some (.slice A0_4 l0_4.length c0_4) := (bkC BK104.out 4).trans rfl; have hcz22_5 : w21.cell? ⟨gb104, 5, none⟩ = some (.slice A0_5 l0_5.length c0_5) := (bkC BK104.out 5).trans rfl; have hfz22_0 := bkF BK104.out 0; have hfz22_1 := bkF BK104.out 1; have hfz22_2 := bkF BK104.out 2; have hfz22_3 := bkF BK104.out 3; have hfz22_4 := bkF BK104.out 4; have hfz22_5 := bkF BK104.out 5) | ((with_reducible refine gate_callee (f := 41) rfl ?_); refine goesL_ (some 5) rfl rfl Try.func41 (by kernel_rfl) rfl #[.slice A0_0 l0_0.length c0_0] rfl (by (try simp only [List.map_toArray, List.map_cons, List.map_nil]); first | done | rfl | (simp only [List.length_drop, List.length_take]; rfl)) ?_; (with_reducible refine (r11_Small.calls k _ _ l0_0 true _ ?side1 ?side2 A2.out).mono ?_); (case side1 => repeat (first | exact (Kd.C_below HR0_0.out HB.out) | (with_reducible refine Kd.C_alloc ?_ _) | (with_reducible refine Kd.C_drewN ?_ _) | (with_reducible refine Kd.C_drew ?_))); (case side2 => exact HC0_0.out); rintro e w' ⟨rfl, ⟨nd, rfl⟩⟩; refine ⟨_, rfl, ?_⟩) | (go_at_call 41; (with_reducible refine (r11_Small.calls k _ _ l0_1 true _ ?side1 ?side2 A4.out).mono ?_); (case side1 => repeat (first | exact (Kd.C_below HR0_1.out (by repeat (first | (with_reducible first | exact HB.out | apply bAl | apply pbN | apply bD1 | refine bSt ?_ GE104.out) | exact HB.out))) | (with_reducible refine Kd.C_alloc ?_ _) | (with_reducible refine Kd.C_drewN ?_ _) | (with_reducible refine Kd.C_drew ?_))); (case side2 => exact HC0_1.out); rintro e w' ⟨rfl, ⟨nd, rfl⟩⟩) | (go_at_call 41; (with_reducible refine (r11_Small.calls k _ _ l0_2 true _ ?side1 ?side2 A6.out).mono ?_); (case side1 => repeat (first | exact (Kd.C_below HR0_2.out (by repeat (first | (with_reducible first | exact HB.out | apply bAl | apply pbN | apply bD1 | refine bSt ?_ GE104.out) | exact HB.out))) | (with_reducible refine Kd.C_alloc ?_ _) | (with_reducible refine Kd.C_drewN ?_ _) | (with_reducible refine Kd.C_drew ?_))); (case side2 => exact HC0_2.out); rintro e w' ⟨rfl, ⟨nd, rfl⟩⟩) | (go_at_call 41; (with_reducible refine (r11_Small.calls k _ _ l0_3 false _ ?side1 ?side2 A8.out).mono ?_); (case side1 => repeat (first | exact (Kd.C_below HR0_3.out (by repeat (first | (with_reducible first | exact HB.out | apply bAl | apply pbN | apply bD1 | refine bSt ?_ GE104.out) | exact HB.out))) | (with_reducible refine Kd.C_alloc ?_ _) | (with_reducible refine Kd.C_drewN ?_ _) | (with_reducible refine Kd.C_drew ?_))); (case side2 => exact HC0_3.out); rintro e w' ⟨rfl, ⟨nd, rfl⟩⟩))
     go_ret
     exact ⟨by first | rfl | (simp [eN, eS] <;> rfl) | (simp [*, eN, eS] <;> rfl), by repeat (first | (with_reducible first | exact HB.out | apply bAl | apply pbN | apply bD1 | refine bSt ?_ GE104.out) | exact HB.out)⟩
   ·replace c7 := Bool.eq_false_iff.mpr c7
    subst c7
    have H1 : (some false) = some r := by rw [if_neg (show ¬ (false = true) by decide)] at H; exact H
    clear H
    have H := H1
    clear H1
    obtain rfl := Option.some.inj H
    go_enter Try.func20, Try.ntmps20
    go_wp2_with (first | ((with_reducible refine gate_dst (N := 1) rfl ?_); refine box_event ?hg (N := 1) ?hd (cs := #[.slice A0_0 l0_0.length c0_0, .slice A0_1 l0_1.length c0_1, .slice A0_2 l0_2.length c0_2, .slice A0_3 l0_3.length c0_3, .slice A0_4 l0_4.length c0_4, .slice A0_5 l0_5.length c0_5]) (t := 27) ?hr ?_; (case hd => rfl); (case hg => rfl); (case hr => first | (go_simp; done) | (go_simp; rfl)); intro gb104 hg w23 hbox hb; have n0_ := aM (bSp (by repeat (first | (with_reducible first | exact HB.out | apply bAl | apply pbN | apply bD1) | exact HB.out)) hb); have n1_ := aM (hbox); have n2_ := aM ((by rw [hg]; exact (bSz (by repeat (first | (with_reducible first | exact HB.out | apply bAl | apply pbN | apply bD1) | exact HB.out))) : w.heap.size ≤ gb104)); have n3_ := aM ((by rw [hg]; exact (bSz (by repeat (first | (with_reducible first | exact HB.out | apply bAl | apply pbN | apply bD1) | exact HB.out))) : w.heap.size ≤ gb104)); clear HB; have HB := n0_; have BK104 := n1_; have GW104 := n2_; have GE104 := n3_; clear n0_ n1_ n2_ n3_; clear hb hbox hg; have hcz24_0 : w23.cell? ⟨gb104, 0, none⟩ = some (.slice A0_0 l0_0.length c0_0) := (bkC BK104.out 0).trans rfl; have hcz24_1 : w23.cell? ⟨gb104, 1, none⟩ = some (.slice A0_1 l0_1.length c0_1) := (bkC BK104.out 1).trans rfl; have hcz24_2 : w23.cell? ⟨gb104, 2, none⟩ = some (.slice A0_2 l0_2.length c0_2) := (bkC BK104.out 2).trans rfl; have hcz24_3 : w23.cell? ⟨gb104, 3, none⟩ = some (.slice A0_3 l0_3.length c0_3) := (bkC BK104.out 3).trans rfl; have hcz24_4 : w23.cell? ⟨gb104, 4, none⟩ = some (.slice A0_4 l0_4.length c0_4) := (bkC BK104.out 4).trans rfl; have hcz24_5 : w23.cell? ⟨gb104, 5, none⟩ = some (.slice A0_5 l0_5.length c0_5) := (bkC BK104.out 5).trans rfl; have hfz24_0 := bkF BK104.out 0; have hfz24_1 := bkF BK104.out 1; have hfz24_2 := bkF BK104.out 2; have hfz24_3 := bkF BK104.out 3; have hfz24_4 := bkF BK104.out 4; have hfz24_5 := bkF BK104.out 5) | ((with_reducible refine gate_callee (f := 41) rfl ?_); refine goesL_ (some 5) rfl rfl Try.func41 (by kernel_rfl) rfl #[.slice A0_0 l0_0.length c0_0] rfl (by (try simp only [List.map_toArray, List.map_cons, List.map_nil]); first | done | rfl | (simp only [List.length_drop, List.length_take]; rfl)) ?_; (with_reducible refine (r11_Small.calls k _ _ l0_0 true _ ?side1 ?side2 A2.out).mono ?_); (case side1 => repeat (first | exact (Kd.C_below HR0_0.out HB.out) | (with_reducible refine Kd.C_alloc ?_ _) | (with_reducible refine Kd.C_drewN ?_ _) | (with_reducible refine Kd.C_drew ?_))); (case side2 => exact HC0_0.out); rintro e w' ⟨rfl, ⟨nd, rfl⟩⟩; refine ⟨_, rfl, ?_⟩) | (go_at_call 41; (with_reducible refine (r11_Small.calls k _ _ l0_1 true _ ?side1 ?side2 A4.out).mono ?_); (case side1 => repeat (first | exact (Kd.C_below HR0_1.out (by repeat (first | (with_reducible first | exact HB.out | apply bAl | apply pbN | apply bD1 | refine bSt ?_ GE104.out) | exact HB.out))) | (with_reducible refine Kd.C_alloc ?_ _) | (with_reducible refine Kd.C_drewN ?_ _) | (with_reducible refine Kd.C_drew ?_))); (case side2 => exact HC0_1.out); rintro e w' ⟨rfl, ⟨nd, rfl⟩⟩) | (go_at_call 41; (with_reducible refine (r11_Small.calls k _ _ l0_2 false _ ?side1 ?side2 A6.out).mono ?_); (case side1 => repeat (first | exact (Kd.C_below HR0_2.out (by repeat (first | (with_reducible first | exact HB.out | apply bAl | apply pbN | apply bD1 | refine bSt ?_ GE104.out) | exact HB.out))) | (with_reducible refine Kd.C_alloc ?_ _) | (with_reducible refine Kd.C_drewN ?_ _) | (with_reducible refine Kd.C_drew ?_))); (case side2 => exact HC0_2.out); rintro e w' ⟨rfl, ⟨nd, rfl⟩⟩))
    go_ret
    exact ⟨by first | rfl | (simp [eN, eS] <;> rfl) | (simp [*, eN, eS] <;> rfl), by repeat (first | (with_reducible first | exact HB.out | apply bAl | apply pbN | apply bD1 | refine bSt ?_ GE104.out) | exact HB.out)⟩
  ·replace c5 := Bool.eq_false_iff.mpr c5
   subst c5
   have H1 : (some false) = some r := by rw [if_neg (show ¬ (false = true) by decide)] at H; exact H
   clear H
   have H := H1
   clear H1
   obtain rfl := Option.some.inj H
   go_enter Try.func20, Try.ntmps20
   go_wp2_with (first | ((with_reducible refine gate_dst (N := 1) rfl ?_); refine box_event ?hg (N := 1) ?hd (cs := #[.slice A0_0 l0_0.length c0_0, .slice A0_1 l0_1.length c0_1, .slice A0_2 l0_2.length c0_2, .slice A0_3 l0_3.length c0_3, .slice A0_4 l0_4.length c0_4, .slice A0_5 l0_5.length c0_5]) (t := 27) ?hr ?_; (case hd => rfl); (case hg => rfl); (case hr => first | (go_simp; done) | (go_simp; rfl)); intro gb104 hg w25 hbox hb; have n0_ := aM (bSp (by repeat (first | (with_reducible first | exact HB.out | apply bAl | apply pbN | apply bD1) | exact HB.out)) hb); have n1_ := aM (hbox); have n2_ := aM ((by rw [hg]; exact (bSz (by repeat (first | (with_reducible first | exact HB.out | apply bAl | apply pbN | apply bD1) | exact HB.out))) : w.heap.size ≤ gb104)); have n3_ := aM ((by rw [hg]; exact (bSz (by repeat (first | (with_reducible first | exact HB.out | apply bAl | apply pbN | apply bD1) | exact HB.out))) : w.heap.size ≤ gb104)); clear HB; have HB := n0_; have BK104 := n1_; have GW104 := n2_; have GE104 := n3_; clear n0_ n1_ n2_ n3_; clear hb hbox hg; have hcz26_0 : w25.cell? ⟨gb104, 0, none⟩ = some (.slice A0_0 l0_0.length c0_0) := (bkC BK104.out 0).trans rfl; have hcz26_1 : w25.cell? ⟨gb104, 1, none⟩ = some (.slice A0_1 l0_1.length c0_1) := (bkC BK104.out 1).trans rfl; have hcz26_2 : w25.cell? ⟨gb104, 2, none⟩ = some (.slice A0_2 l0_2.length c0_2) := (bkC BK104.out 2).trans rfl; have hcz26_3 : w25.cell? ⟨gb104, 3, none⟩ = some (.slice A0_3 l0_3.length c0_3) := (bkC BK104.out 3).trans rfl; have hcz26_4 : w25.cell? ⟨gb104, 4, none⟩ = some (.slice A0_4 l0_4.length c0_4) := (bkC BK104.out 4).trans rfl; have hcz26_5 : w25.cell? ⟨gb104, 5, none⟩ = some (.slice A0_5 l0_5.length c0_5) := (bkC BK104.out 5).trans rfl; have hfz26_0 := bkF BK104.out 0; have hfz26_1 := bkF BK104.out 1; have hfz26_2 := bkF BK104.out 2; have hfz26_3 := bkF BK104.out 3; have hfz26_4 := bkF BK104.out 4; have hfz26_5 := bkF BK104.out 5) | ((with_reducible refine gate_callee (f := 41) rfl ?_); refine goesL_ (some 5) rfl rfl Try.func41 (by kernel_rfl) rfl #[.slice A0_0 l0_0.length c0_0] rfl (by (try simp only [List.map_toArray, List.map_cons, List.map_nil]); first | done | rfl | (simp only [List.length_drop, List.length_take]; rfl)) ?_; (with_reducible refine (r11_Small.calls k _ _ l0_0 true _ ?side1 ?side2 A2.out).mono ?_); (case side1 => repeat (first | exact (Kd.C_below HR0_0.out HB.out) | (with_reducible refine Kd.C_alloc ?_ _) | (with_reducible refine Kd.C_drewN ?_ _) | (with_reducible refine Kd.C_drew ?_))); (case side2 => exact HC0_0.out); rintro e w' ⟨rfl, ⟨nd, rfl⟩⟩; refine ⟨_, rfl, ?_⟩) | (go_at_call 41; (with_reducible refine (r11_Small.calls k _ _ l0_1 false _ ?side1 ?side2 A4.out).mono ?_); (case side1 => repeat (first | exact (Kd.C_below HR0_1.out (by repeat (first | (with_reducible first | exact HB.out | apply bAl | apply pbN | apply bD1 | refine bSt ?_ GE104.out) | exact HB.out))) | (with_reducible refine Kd.C_alloc ?_ _) | (with_reducible refine Kd.C_drewN ?_ _) | (with_reducible refine Kd.C_drew ?_))); (case side2 => exact HC0_1.out); rintro e w' ⟨rfl, ⟨nd, rfl⟩⟩))
   go_ret
   exact ⟨by first | rfl | (simp [eN, eS] <;> rfl) | (simp [*, eN, eS] <;> rfl), by repeat (first | (with_reducible first | exact HB.out | apply bAl | apply pbN | apply bD1 | refine bSt ?_ GE104.out) | exact HB.out)⟩
 ·replace c3 := Bool.eq_false_iff.mpr c3
  subst c3
  have H1 : (some false) = some r := by rw [if_neg (show ¬ (false = true) by decide)] at H; exact H
  clear H
  have H := H1
  clear H1
  obtain rfl := Option.some.inj H
  go_enter Try.func20, Try.ntmps20
  go_wp2_with (first | ((with_reducible refine gate_dst (N := 1) rfl ?_); refine box_event ?hg (N := 1) ?hd (cs := #[.slice A0_0 l0_0.length c0_0, .slice A0_1 l0_1.length c0_1, .slice A0_2 l0_2.length c0_2, .slice A0_3 l0_3.length c0_3, .slice A0_4 l0_4.length c0_4, .slice A0_5 l0_5.length c0_5]) (t := 27) ?hr ?_; (case hd => rfl); (case hg => rfl); (case hr => first | (go_simp; done) | (go_simp; rfl)); intro gb104 hg w27 hbox hb; have n0_ := aM (bSp (by repeat (first | (with_reducible first | exact HB.out | apply bAl | apply pbN | apply bD1) | exact HB.out)) hb); have n1_ := aM (hbox); have n2_ := aM ((by rw [hg]; exact (bSz (by repeat (first | (with_reducible first | exact HB.out | apply bAl | apply pbN | apply bD1) | exact HB.out))) : w.heap.size ≤ gb104)); have n3_ := aM ((by rw [hg]; exact (bSz (by repeat (first | (with_reducible first | exact HB.out | apply bAl | apply pbN | apply bD1) | exact HB.out))) : w.heap.size ≤ gb104)); clear HB; have HB := n0_; have BK104 := n1_; have GW104 := n2_; have GE104 := n3_; clear n0_ n1_ n2_ n3_; clear hb hbox hg; have hcz28_0 : w27.cell? ⟨gb104, 0, none⟩ = some (.slice A0_0 l0_0.length c0_0) := (bkC BK104.out 0).trans rfl; have hcz28_1 : w27.cell? ⟨gb104, 1, none⟩ = some (.slice A0_1 l0_1.length c0_1) := (bkC BK104.out 1).trans rfl; have hcz28_2 : w27.cell? ⟨gb104, 2, none⟩ = some (.slice A0_2 l0_2.length c0_2) := (bkC BK104.out 2).trans rfl; have hcz28_3 : w27.cell? ⟨gb104, 3, none⟩ = some (.slice A0_3 l0_3.length c0_3) := (bkC BK104.out 3).trans rfl; have hcz28_4 : w27.cell? ⟨gb104, 4, none⟩ = some (.slice A0_4 l0_4.length c0_4) := (bkC BK104.out 4).trans rfl; have hcz28_5 : w27.cell? ⟨gb104, 5, none⟩ = some (.slice A0_5 l0_5.length c0_5) := (bkC BK104.out 5).trans rfl; have hfz28_0 := bkF BK104.out 0; have hfz28_1 := bkF BK104.out 1; have hfz28_2 := bkF BK104.out 2; have hfz28_3 := bkF BK104.out 3; have hfz28_4 := bkF BK104.out 4; have hfz28_5 := bkF BK104.out 5) | ((with_reducible refine gate_callee (f := 41) rfl ?_); refine goesL_ (some 5) rfl rfl Try.func41 (by kernel_rfl) rfl #[.slice A0_0 l0_0.length c0_0] rfl (by (try simp only [List.map_toArray, List.map_cons, List.map_nil]); first | done | rfl | (simp only [List.length_drop, List.length_take]; rfl)) ?_; (with_reducible refine (r11_Small.calls k _ _ l0_0 false _ ?side1 ?side2 A2.out).mono ?_); (case side1 => repeat (first | exact (Kd.C_below HR0_0.out HB.out) | (with_reducible refine Kd.C_alloc ?_ _) | (with_reducible refine Kd.C_drewN ?_ _) | (with_reducible refine Kd.C_drew ?_))); (case side2 => exact HC0_0.out); rintro e w' ⟨rfl, ⟨nd, rfl⟩⟩; refine ⟨_, rfl, ?_⟩))
  go_ret
  exact ⟨by first | rfl | (simp [eN, eS] <;> rfl) | (simp [*, eN, eS] <;> rfl), by repeat (first | (with_reducible first | exact HB.out | apply bAl | apply pbN | apply bD1 | refine bSt ?_ GE104.out) | exact HB.out)⟩
attribute [local go_sem] max2_int min2_int max_two min_two max_three min_three max_four min_four
set_option linter.unusedVariables false
set_option linter.unusedSimpArgs false
def w37_few.f (k : Nat) (l0_0 : List (S43)) (l0_1 : List (S43)) (l0_2 : List (S43)) (l0_3 : List (S43)) (l0_4 : List (S33)) (l0_5 : List (S33)) (l1 : List Int) : Option (Bool) := (r37_Small.f k l0_0 l0_1 l0_2 l0_3 l0_4 l0_5).bind fun t112 => (if t112 = true then (some (decide ((l1.length : Int) ≤ 40))) else (some false))
def r37_Within.l0 : Nat → List (S33) → Int → Int → Int → Option (Bool)
 | 0, _, _, _, _ => none
 | k + 1, x0, x1, x5, x6 => if x6 < (x0.length : Int) then (if 0 ≤ x6 then (if ((rd_T33 x0 x6).f0) < x5 then (some false) else (if ((rd_T33 x0 x6).f1) < ((rd_T33 x0 x6).f0) then (some false) else (if ((rd_T33 x0 x6).f1) > x1 then (some false) else (r37_Within.l0 k x0 x1 ((rd_T33 x0 x6).f1) (wrap64 (x6 + 1)))))) else (none)) else (some true)
def r37_Within.f (k : Nat) (l0 : List (S33)) (a1 : Int) : Option (Bool) := r37_Within.l0 k l0 a1 0 0
end Go.Proofs.Ythnkmcfhpjmihaa.Q
end
section
namespace Go.Proofs.Ythnkmcfhpjmihaa.Q
open Go.RowKit Go.Proofs.YthnkmcfhpjmihaaW.PrintWords Go.Proofs.YthnkmcfhpjmihaaW.PrintLast Go.Proofs.YthnkmcfhpjmihaaW.PrintMore
set_option linter.unusedVariables false
def plFewM (l : List Mp) : Prop := l.length ≤ 20 ∧ ∀ x ∈ l, x.f1.length ≤ 65 ∧ x.f2.size ≤ 40
def plFewC (c : CaseS) : Prop := plFewM c.lo ∧ plFewM c.up ∧ plFewM c.ti ∧ plFewM c.fo ∧ c.ca.length ≤ 12 ∧ c.ig.length ≤ 12
theorem rdM_mid (pre : List Mp) (x : Mp) (rest : List Mp) : rd_T43 (pre ++ x :: rest) (pre.length : Int) = x := by
 unfold rd_T43
 rw [Int.toNat_natCast, List.getD_eq_getElem?_getD, List.getElem?_append_right (Nat.le_refl _), Nat.sub_self]
 rfl
theorem plSmallM_go : ∀ (d : Nat) (rest pre : List Mp) (k : Nat), pre.length + d = 30 → 2 * d + 2 ≤ k →
  ∃ b, r11_Small.l0 k (pre ++ rest) (pre.length : Int) = some b ∧ (b = true → (pre ++ rest).length ≤ 20 ∧ ∀ s ∈ rest, s.f1.length ≤ 65 ∧ s.f2.size ≤ 40)
 | d, [], pre, k, h1, h2 => by
  obtain ⟨k, rfl⟩ : ∃ j, k = j + 2 := ⟨k - 2, by omega⟩
  rw [r11_Small.l0, if_neg (by simp), r11_Small.j1, if_neg (by decide)]
  refine ⟨_, rfl, fun h => ⟨?_, fun s hs => by cases hs⟩⟩
  have := oD h
  omega
 | 0, s :: rest, pre, k, h1, h2 => by
  obtain ⟨k, rfl⟩ : ∃ j, k = j + 2 := ⟨k - 2, by omega⟩
  rw [r11_Small.l0, if_pos (by simp; omega), decide_eq_false (by omega), r11_Small.j1, if_neg (by decide)]
  refine ⟨_, rfl, fun h => ?_⟩
  have := oD h
  simp at this
  omega
 | d + 1, s :: rest, pre, k, h1, h2 => by
  obtain ⟨k, rfl⟩ : ∃ j, k = j + 2 := ⟨k - 2, by omega⟩
  obtain ⟨b, ih, hb⟩ := plSmallM_go d rest (pre ++ [s]) k (by simp; omega) (by omega)
  have ex : (pre ++ [s]) ++ rest = pre ++ s :: rest := by simp
  have el : ((pre ++ [s]).length : Int) = ((pre.length + 1 : Nat) : Int) := by simp
  rw [ex, el] at ih
  rw [ex] at hb
  rw [r11_Small.l0, if_pos (by simp; omega), dT (by omega), r11_Small.j1, if_pos rfl, if_pos (by omega), if_pos (by simp; omega), rdM_mid, wrap_suc (by omega : pre.length < 1000000000), ih]
  by_cases hs : (s.f1.length : Int) > 65
  ·rw [if_pos hs]
   exact ⟨false, rfl, fun h => by cases h⟩
  ·rw [if_neg hs]
   by_cases ht : (s.f2.size : Int) > 40
   ·rw [if_pos ht]
    exact ⟨false, rfl, fun h => by cases h⟩
   ·rw [if_neg ht]
    exact ⟨b, rfl, fun h => ⟨(hb h).1, fun x hx => by
     rcases List.mem_cons.1 hx with rfl | hx
     ·exact ⟨by omega, by omega⟩
     ·exact (hb h).2 x hx⟩⟩
theorem plSmallM_ok (l : List Mp) (k : Nat) (hk : 62 ≤ k) : ∃ b, r11_Small.f k l = some b ∧ (b = true → plFewM l) := plSmallM_go 30 l [] k rfl (by omega)
theorem plSmall_ok (c : CaseS) (k : Nat) (hk : 62 ≤ k) : ∃ b, r37_Small.f k c.lo c.up c.ti c.fo c.ca c.ig = some b ∧ (b = true → plFewC c) := by
 obtain ⟨b0, e0, g0⟩ := plSmallM_ok c.lo k hk
 obtain ⟨b1, e1, g1⟩ := plSmallM_ok c.up k hk
 obtain ⟨b2, e2, g2⟩ := plSmallM_ok c.ti k hk
 obtain ⟨b3, e3, g3⟩ := plSmallM_ok c.fo k hk
 unfold r37_Small.f r02_Small.f
 rw [e0, e1, e2, e3]
 simp only [Option.bind_some]
 cases b0 with
 | false => exact ⟨false, rfl, fun h => by cases h⟩
 | true => cases b1 with
  | false => exact ⟨false, rfl, fun h => by cases h⟩
  | true => cases b2 with
   | false => exact ⟨false, rfl, fun h => by cases h⟩
   | true => cases b3 with
    | false => exact ⟨false, rfl, fun h => by cases h⟩
    | true =>
     simp only [if_true]
     by_cases h4 : (c.ca.length : Int) ≤ 12
     ·rw [dT h4, if_pos rfl]
      exact ⟨_, rfl, fun h => ⟨g0 rfl, g1 rfl, g2 rfl, g3 rfl, by omega, by have := oD h; omega⟩⟩
     ·rw [decide_eq_false h4, if_neg (by decide)]
      exact ⟨false, rfl, fun h => by cases h⟩
theorem plOkM {l : List Mp} (h : plFewM l) : okM l = true := by
 unfold okM
 rw [Bool.and_eq_true, decide_eq_true_eq, List.all_eq_true]
 refine ⟨by have := h.1; omega, fun x hx => ?_⟩
 have := h.2 x hx
 rw [dT (by omega), dT (by omega)]
 rfl
theorem plOkC {c : CaseS} (h : plFewC c) : okC c = true := by
 obtain ⟨h0, h1, h2, h3, h4, h5⟩ := h
 unfold okC
 rw [plOkM h0, plOkM h1, plOkM h2, plOkM h3, dT (by omega), dT (by omega)]
 rfl
theorem valid01_eq (c : Int) : r01_Valid.f c = some (codeB c) := by
 unfold r01_Valid.f codeB
 by_cases h : 0 ≤ c
 ·rw [if_pos h, dT h]; rfl
 ·rw [if_neg h, decide_eq_false h]; rfl
theorem plCodes_go (fr : Int) (tg : ByteArray) : ∀ (rest pre : List Int) (k : Nat), (pre ++ rest).length < 1000000000 → rest.length + 1 ≤ k →
  r11_codes.l0 k (pre.length : Int) fr (pre ++ rest) tg = some (codesB rest && codeB fr)
 | [], pre, k, h1, h2 => by
  obtain ⟨k, rfl⟩ : ∃ j, k = j + 1 := ⟨k - 1, by omega⟩
  rw [r11_codes.l0, if_neg (by simp), valid01_eq]
  rfl
 | x :: rest, pre, k, h1, h2 => by
  obtain ⟨k, rfl⟩ : ∃ j, k = j + 1 := ⟨k - 1, by omega⟩
  have hp : pre.length < 1000000000 := by simp at h1; omega
  have ih := plCodes_go fr tg rest (pre ++ [x]) k (by simpa using h1) (by simp at h2; omega)
  have ex : (pre ++ [x]) ++ rest = pre ++ x :: rest := by simp
  have el : ((pre ++ [x]).length : Int) = ((pre.length + 1 : Nat) : Int) := by simp
  rw [ex, el] at ih
  rw [r11_codes.l0, if_pos (by simp; omega), if_pos (by omega), rd_mid, wrap_suc hp, valid01_eq, ih]
  show (if codeB x = true then _ else _) = _
  unfold codesB
  rw [List.all_cons]
  cases codeB x <;> rfl
theorem bt_mid (s : ByteArray) (pre : List UInt8) (b : UInt8) (rest : List UInt8) (h : s.data.toList = pre ++ b :: rest) : pre.length < s.size ∧ bt s (pre.length : Int) = (b.toNat : Int) := by
 obtain ⟨⟨l⟩⟩ := s
 simp only at h
 subst h
 have hl : pre.length < (⟨⟨pre ++ b :: rest⟩⟩ : ByteArray).size := by
  show pre.length < (pre ++ b :: rest).length
  simp
 refine ⟨hl, ?_⟩
 unfold bt
 rw [Int.toNat_natCast, dif_pos hl]
 show (((pre ++ b :: rest)[pre.length]'(by simp)).toNat : Int) = _
 rw [List.getElem_append_right (Nat.le_refl _)]
 simp
theorem plName_go (s : ByteArray) (hs : s.size < 1000000000) : ∀ (rest pre : List UInt8) (k : Nat), s.data.toList = pre ++ rest → rest.length + 1 ≤ k →
    r11_Name.l0 k s (pre.length : Int) = some ((rest.all fun b => nbyte (b.toNat : Int)) && (decide (1 ≤ s.size) && decide (s.size ≤ 32)))
  | [], pre, k, h1, h2 => by
    obtain ⟨k, rfl⟩ : ∃ j, k = j + 1 := ⟨k - 1, by omega⟩
    have e : s.size = pre.length := by
      show s.data.size = _
      rw [← Array.length_toList, h1, List.append_nil]
    rw [r11_Name.l0, if_neg (by omega)]
    by_cases h : 1 ≤ s.size
    · rw [if_pos (by omega), dT h]
      show some (decide _) = some (decide _)
      congr 1
      rw [decide_eq_decide]
      omega
    · rw [if_neg (by omega), decide_eq_false h]
      rfl
  | b :: rest, pre, k, h1, h2 => by
    obtain ⟨k, rfl⟩ : ∃ j, k = j + 1 := ⟨k - 1, by omega⟩
    obtain ⟨hlt, hb⟩ := bt_mid s pre b rest h1
    have ih := plName_go s hs rest (pre ++ [b]) k (by simpa using h1) (by simp at h2; omega)
    have el : ((pre ++ [b]).length : Int) = ((pre.length + 1 : Nat) : Int) := by simp
    rw [el] at ih
    rw [r11_Name.l0, if_pos (by omega), if_pos (by omega), hb, wrap_suc (by omega : pre.length < 1000000000), ih, List.all_cons]
    generalize (b.toNat : Int) = r
    generalize (rest.all fun b => nbyte (b.toNat : Int)) = q
    repeat' split
    all_goals first
      | (have e : nbyte r = true := by
           unfold nbyte
           simp only [Bool.or_eq_true, decide_eq_true_eq]
           omega
         rw [e]; rfl)
      | (have e : nbyte r = false := by
           unfold nbyte
           simp only [Bool.or_eq_false_iff, decide_eq_false_iff_not]
           omega
         rw [e]; rfl)
theorem plName_ok (s : ByteArray) (k : Nat) (h : s.size ≤ 1000) (hk : s.size + 1 ≤ k) : r11_Name.f k s = some (nameB s) := by
 have := plName_go s (by omega) s.data.toList [] k rfl (by rw [Array.length_toList]; exact hk)
 refine Eq.trans this ?_
 unfold nameB
 congr 1
 generalize (s.data.toList.all fun b => nbyte (b.toNat : Int)) = q
 generalize decide (1 ≤ s.size) = q1
 generalize decide (s.size ≤ 32) = q2
 cases q <;> cases q1 <;> cases q2 <;> rfl
def twR : List Mp → List Mp → Bool
 | _, [] => false
 | pre, x :: r => pre.any (fun y => sameK y x) || twR (pre ++ [x]) r
theorem twR_eq : ∀ (l pre : List Mp), twR pre l = (l.any (fun x => pre.any (fun y => sameK y x)) || twiceM l)
 | [], pre => rfl
 | x :: r, pre => by
  rw [twR, twR_eq r (pre ++ [x]), twiceM, List.any_cons]
  have e : (r.any fun z => (pre ++ [x]).any fun y => sameK y z) = ((r.any fun z => pre.any fun y => sameK y z) || r.any fun z => sameK x z) := by
   rw [Bool.eq_iff_iff]
   simp only [List.any_eq_true, Bool.or_eq_true, List.mem_append, List.mem_singleton]
   constructor
   ·rintro ⟨z, hz, y, hy | rfl, h⟩
    ·exact .inl ⟨z, hz, y, hy, h⟩
    ·exact .inr ⟨z, hz, h⟩
   ·rintro (⟨z, hz, y, hy, h⟩ | ⟨z, hz, h⟩)
    ·exact ⟨z, hz, y, .inl hy, h⟩
    ·exact ⟨z, hz, x, .inr rfl, h⟩
  rw [e]
  cases pre.any (fun y => sameK y x) <;> cases (r.any fun z => pre.any fun y => sameK y z) <;> rfl
theorem plTwiceIn (x : Mp) (rest : List Mp) : ∀ (p2 p1 : List Mp) (k : Nat), (p1 ++ p2).length < 1000000000 →
  r11_twice.l1 (k + p2.length + 1) ((p1 ++ p2) ++ x :: rest) (((p1 ++ p2).length : Nat) : Int) (p1.length : Int) = if p2.any (fun y => sameK y x) = true then some true else r11_twice.l0 k ((p1 ++ p2) ++ x :: rest) (((p1 ++ p2).length + 1 : Nat) : Int)
 | [], p1, k, h => by
  rw [r11_twice.l1, if_neg (by simp), wrap_suc h]
  rfl
 | y :: p2, p1, k, h => by
  have ih := plTwiceIn x rest p2 (p1 ++ [y]) k (by simpa using h)
  have ex : (p1 ++ [y]) ++ p2 = p1 ++ y :: p2 := by simp
  have el : ((p1 ++ [y]).length : Int) = ((p1.length + 1 : Nat) : Int) := by simp
  rw [ex, el] at ih
  have e1 : rd_T43 ((p1 ++ y :: p2) ++ x :: rest) (((p1 ++ y :: p2).length : Nat) : Int) = x := rdM_mid _ _ _
  have e2 : rd_T43 ((p1 ++ y :: p2) ++ x :: rest) (p1.length : Int) = y := by
   rw [List.append_assoc]
   exact rdM_mid _ _ _
  rw [show k + (y :: p2).length + 1 = (k + p2.length + 1) + 1 by simp; omega, r11_twice.l1, if_pos (by simp; omega), if_pos (by omega), if_pos (by simp; omega), if_pos (by omega), if_pos (by simp; omega), e1, e2, wrap_suc (by simp at h; omega : p1.length < 1000000000), ih, List.any_cons]
  unfold sameK
  by_cases ha : x.f0 = y.f0
  ·rw [if_pos ha, dT ha.symm]
   by_cases hb : x.f2 = y.f2
   ·rw [if_pos (by rw [hb]), dT hb.symm]
    rfl
   ·rw [if_neg (fun hh => hb ((bytesEq_iff _ _).1 hh)), decide_eq_false (fun hh => hb hh.symm)]
    rfl
  ·rw [if_neg ha, decide_eq_false (fun hh => ha hh.symm)]
   rfl
theorem plTwice_go : ∀ (rest pre : List Mp) (k : Nat), (pre ++ rest).length ≤ 30 → 40 * rest.length + 1 ≤ k → r11_twice.l0 k (pre ++ rest) (pre.length : Int) = some (twR pre rest)
 | [], pre, k, h1, h2 => by
  obtain ⟨k, rfl⟩ : ∃ j, k = j + 1 := ⟨k - 1, by omega⟩
  rw [r11_twice.l0, if_neg (by simp)]
  rfl
 | x :: rest, pre, k, h1, h2 => by
  have hp : pre.length ≤ 30 := by simp at h1; omega
  obtain ⟨k, rfl⟩ : ∃ j, k = (j + pre.length + 1) + 1 := ⟨k - pre.length - 2, by simp at h2; omega⟩
  have ih := plTwice_go rest (pre ++ [x]) k (by simpa using h1) (by simp at h2; omega)
  have ex : (pre ++ [x]) ++ rest = pre ++ x :: rest := by simp
  have el : ((pre ++ [x]).length : Int) = ((pre.length + 1 : Nat) : Int) := by simp
  rw [ex, el] at ih
  have hin := plTwiceIn x rest pre [] k (by simp; omega)
  rw [List.nil_append] at hin
  rw [r11_twice.l0, if_pos (by simp; omega)]
  refine Eq.trans hin ?_
  rw [ih, twR]
  cases pre.any (fun y => sameK y x) <;> rfl
theorem plTwice_ok (l : List Mp) (k : Nat) (h : l.length ≤ 20) (hk : 801 ≤ k) : r11_twice.f k l = some (twiceM l) := by
 refine (plTwice_go l [] k (by simp; omega) (by omega)).trans ?_
 rw [twR_eq]
 congr 1
 have : (l.any fun x => ([] : List Mp).any fun y => sameK y x) = false := by simp
 rw [this, Bool.false_or]
theorem plUn2 (hk0 : True) : ∀ (rest pre : List Mp) (k : Nat), (pre ++ rest).length ≤ 20 → (∀ x ∈ rest, x.f2.size ≤ 40) → rest.length + 820 ≤ k →
  r11_unsorted.l2 k (pre ++ rest) (pre.length : Int) = some (if rest.all (fun x => decide (x.f2.size = 0) || nameB x.f2) then (if twiceM (pre ++ rest) then 5 else 0) else 6)
 | [], pre, k, h1, h3, h2 => by
  obtain ⟨k, rfl⟩ : ∃ j, k = j + 1 := ⟨k - 1, by omega⟩
  rw [r11_unsorted.l2, if_neg (by simp), plTwice_ok _ k h1 (by simp at h2; omega)]
  show (if twiceM (pre ++ []) = true then _ else _) = some (if twiceM (pre ++ []) = true then _ else _)
  split <;> rfl
 | x :: rest, pre, k, h1, h3, h2 => by
  obtain ⟨k, rfl⟩ : ∃ j, k = j + 1 := ⟨k - 1, by omega⟩
  have hp : pre.length < 1000000000 := by simp at h1; omega
  have ih := plUn2 hk0 rest (pre ++ [x]) k (by simpa using h1) (fun y hy => h3 y (List.mem_cons_of_mem _ hy)) (by simp at h2; omega)
  have ex : (pre ++ [x]) ++ rest = pre ++ x :: rest := by simp
  have el : ((pre ++ [x]).length : Int) = ((pre.length + 1 : Nat) : Int) := by simp
  rw [ex, el] at ih
  have hx := h3 x List.mem_cons_self
  rw [r11_unsorted.l2, if_pos (by simp; omega), if_pos (by omega), rdM_mid, wrap_suc hp, ih, plName_ok _ k (by omega) (by omega), List.all_cons]
  by_cases hz : x.f2.size = 0
  ·rw [if_pos ((bytesEq_nil _).2 hz), dT hz]
   rfl
  ·rw [if_neg (fun hh => hz ((bytesEq_nil _).1 hh)), decide_eq_false hz]
   show (if nameB x.f2 = true then _ else _) = _
   cases nameB x.f2 <;> rfl
theorem plUn1 : ∀ (rest pre : List Mp) (k : Nat), (pre ++ rest).length ≤ 20 → (∀ x ∈ pre ++ rest, x.f2.size ≤ 40) → rest.length + 850 ≤ k →
  r11_unsorted.l1 k (pre ++ rest) (pre.length : Int) = some (if rest.all (fun x => decide (x.f1.length ≤ 64)) then (if (pre ++ rest).all (fun x => decide (x.f2.size = 0) || nameB x.f2) then (if twiceM (pre ++ rest) then 5 else 0) else 6) else 2)
 | [], pre, k, h1, h3, h2 => by
  obtain ⟨k, rfl⟩ : ∃ j, k = j + 1 := ⟨k - 1, by omega⟩
  have := plUn2 trivial (pre ++ []) [] k (by simpa using h1) (fun x hx => h3 x hx) (by simp at h1 h2 ⊢; omega)
  rw [List.nil_append] at this
  rw [r11_unsorted.l1, if_neg (by simp)]
  exact this
 | x :: rest, pre, k, h1, h3, h2 => by
  obtain ⟨k, rfl⟩ : ∃ j, k = j + 1 := ⟨k - 1, by omega⟩
  have hp : pre.length < 1000000000 := by simp at h1; omega
  have ex : (pre ++ [x]) ++ rest = pre ++ x :: rest := by simp
  have ih := plUn1 rest (pre ++ [x]) k (by simpa using h1) (by rw [ex]; exact h3) (by simp at h2; omega)
  have el : ((pre ++ [x]).length : Int) = ((pre.length + 1 : Nat) : Int) := by simp
  rw [ex, el] at ih
  rw [r11_unsorted.l1, if_pos (by simp; omega), if_pos (by omega), rdM_mid, wrap_suc hp, ih, List.all_cons]
  by_cases hz : x.f1.length ≤ 64
  ·rw [if_neg (by omega), dT hz]
   rfl
  ·rw [if_pos (by omega), decide_eq_false hz]
   rfl
theorem plUn0 : ∀ (rest pre : List Mp) (k : Nat), plFewM (pre ++ rest) → rest.length + 880 ≤ k →
  r11_unsorted.l0 k (pre ++ rest) (pre.length : Int) = some (if rest.all (fun x => codeB x.f0 && codesB x.f1) then (if (pre ++ rest).all (fun x => decide (x.f1.length ≤ 64)) then (if (pre ++ rest).all (fun x => decide (x.f2.size = 0) || nameB x.f2) then (if twiceM (pre ++ rest) then 5 else 0) else 6) else 2) else 1)
 | [], pre, k, h1, h2 => by
  obtain ⟨k, rfl⟩ : ∃ j, k = j + 1 := ⟨k - 1, by omega⟩
  have := plUn1 (pre ++ []) [] k (by simpa using h1.1) (fun x hx => (h1.2 x hx).2) (by have := h1.1; simp at this h2 ⊢; omega)
  rw [List.nil_append] at this
  rw [r11_unsorted.l0, if_neg (by simp)]
  exact this
 | x :: rest, pre, k, h1, h2 => by
  obtain ⟨k, rfl⟩ : ∃ j, k = j + 1 := ⟨k - 1, by omega⟩
  have hl := h1.1
  have hp : pre.length < 1000000000 := by simp at hl; omega
  have ex : (pre ++ [x]) ++ rest = pre ++ x :: rest := by simp
  have ih := plUn0 rest (pre ++ [x]) k (by rw [ex]; exact h1) (by simp at h2; omega)
  have el : ((pre ++ [x]).length : Int) = ((pre.length + 1 : Nat) : Int) := by simp
  rw [ex, el] at ih
  have hx := h1.2 x (by simp)
  have hc : r11_codes.f k x.f0 x.f1 x.f2 = some (codesB x.f1 && codeB x.f0) := plCodes_go x.f0 x.f2 x.f1 [] k (by simp; omega) (by simp at h2; omega)
  rw [r11_unsorted.l0, if_pos (by simp; omega), if_pos (by omega), rdM_mid, wrap_suc hp, ih, hc, List.all_cons]
  show (if (codesB x.f1 && codeB x.f0) = true then _ else _) = _
  cases codesB x.f1 <;> cases codeB x.f0 <;> rfl
theorem plUnsorted_ok (l : List Mp) (k : Nat) (h : plFewM l) (hk : 900 ≤ k) : r11_unsorted.f k l = some (uncheckM l) :=
 plUn0 l [] k h (by have := h.1; omega)
theorem plBefore_ok (a b : Mp) : r11_before.f a.f0 a.f1 a.f2 b.f0 b.f1 b.f2 = some (beforeM a b) := by
 unfold r11_before.f beforeM
 by_cases h : a.f0 < b.f0
 ·rw [if_pos h, dT h]; rfl
 ·rw [if_neg h, decide_eq_false h]
  by_cases h2 : a.f0 = b.f0
  ·rw [if_pos h2, dT h2]; rfl
  ·rw [if_neg h2, decide_eq_false h2]; rfl
theorem plOrd_go : ∀ (rest pre : List Mp) (x : Mp) (k : Nat), (pre ++ x :: rest).length < 1000000 → rest.length + 1 ≤ k →
  r11_Check.l0 k (pre ++ x :: rest) ((pre.length + 1 : Nat) : Int) = some (if sortedM (x :: rest) then 0 else 4)
 | [], pre, x, k, h1, h2 => by
  obtain ⟨k, rfl⟩ : ∃ j, k = j + 1 := ⟨k - 1, by omega⟩
  rw [r11_Check.l0, if_neg (by simp)]
  rfl
 | y :: rest, pre, x, k, h1, h2 => by
  obtain ⟨k, rfl⟩ : ∃ j, k = j + 1 := ⟨k - 1, by omega⟩
  have hp : pre.length < 1000000 := by simp at h1; omega
  have ex : (pre ++ [x]) ++ y :: rest = pre ++ x :: y :: rest := by simp
  have ih := plOrd_go rest (pre ++ [x]) y k (by simpa using h1) (by simp at h2; omega)
  have el : (((pre ++ [x]).length + 1 : Nat) : Int) = ((pre.length + 1 + 1 : Nat) : Int) := by simp
  rw [ex, el] at ih
  have ew : wrap64 (((pre.length + 1 : Nat) : Int) - 1) = (pre.length : Int) := by unfold wrap64; omega
  have ey : rd_T43 (pre ++ x :: y :: rest) ((pre.length + 1 : Nat) : Int) = y := by
   rw [← ex, show ((pre.length + 1 : Nat) : Int) = ((pre ++ [x]).length : Int) by simp]
   exact rdM_mid _ _ _
  rw [r11_Check.l0, if_pos (by simp; omega), ew, if_pos (by omega), if_pos (by simp; omega), if_pos (by omega), rdM_mid, ey, plBefore_ok, wrap_suc (by omega : pre.length + 1 < 1000000000), ih]
  show (if beforeM x y = true then _ else _) = some (if (beforeM x y && sortedM (y :: rest)) = true then _ else _)
  cases beforeM x y <;> rfl
theorem plCheckM_ok (l : List Mp) (k : Nat) (h : plFewM l) (hk : 900 ≤ k) : r11_Check.f k l = some (checkM l) := by
 unfold r11_Check.f checkM
 rw [plUnsorted_ok l k h hk]
 show (if uncheckM l = 0 then _ else _) = _
 have ho : r11_Check.l0 k l 1 = some (if sortedM l then 0 else 4) := by
  cases l with
  | nil =>
   obtain ⟨k, rfl⟩ : ∃ j, k = j + 1 := ⟨k - 1, by omega⟩
   rw [r11_Check.l0, if_neg (by decide)]
   rfl
  | cons x rest => exact plOrd_go rest [] x k (by have := h.1; simp at this ⊢; omega) (by have := h.1; simp at this; omega)
 rw [ho]
 split <;> rfl
theorem plFewM_nil : plFewM [] := ⟨Nat.zero_le _, fun x hx => by cases hx⟩
structure MprA (w : World) (b : Nat) (c : CaseS) (text : List Int) (A0 : Option Addr) (n0 : Nat) (A1 : Option Addr) (n1 : Nat) (A2 : Option Addr) (n2 : Nat) (A3 : Option Addr) (n3 : Nat) (A4 : Option Addr) (n4 : Nat) (A5 : Option Addr) (n5 : Nat) (At : Option Addr) (nt : Nat) : Prop where
 blk : w.heap[b]? = some (.cells #[.slice A0 c.lo.length n0, .slice A1 c.up.length n1, .slice A2 c.ti.length n2, .slice A3 c.fo.length n3, .slice A4 c.ca.length n4, .slice A5 c.ig.length n5, .slice At text.length nt] 53 (0, 0))
 l0 : c.lo.length ≤ n0
 r0 : Kd.C k43 w A0 c.lo.length c.lo
 l1 : c.up.length ≤ n1
 r1 : Kd.C k43 w A1 c.up.length c.up
 l2 : c.ti.length ≤ n2
 r2 : Kd.C k43 w A2 c.ti.length c.ti
 l3 : c.fo.length ≤ n3
 r3 : Kd.C k43 w A3 c.fo.length c.fo
 l4 : c.ca.length ≤ n4
 r4 : Kd.C k33 w A4 c.ca.length c.ca
 l5 : c.ig.length ≤ n5
 r5 : Kd.C k33 w A5 c.ig.length c.ig
 lt : text.length ≤ nt
 rt : Kd.C (Kd.int .i64) w At text.length text
def Mpr (w : World) (b : Nat) (c : CaseS) (text : List Int) : Prop := ∃ A0 n0 A1 n1 A2 n2 A3 n3 A4 n4 A5 n5 At nt, MprA w b c text A0 n0 A1 n1 A2 n2 A3 n3 A4 n4 A5 n5 At nt
theorem MprA.below {w w' : World} {b : Nat} {c : CaseS} {text : List Int} {A0 : Option Addr} {n0 : Nat} {A1 : Option Addr} {n1 : Nat} {A2 : Option Addr} {n2 : Nat} {A3 : Option Addr} {n3 : Nat} {A4 : Option Addr} {n4 : Nat} {A5 : Option Addr} {n5 : Nat} {At : Option Addr} {nt : Nat} (h : MprA w b c text A0 n0 A1 n1 A2 n2 A3 n3 A4 n4 A5 n5 At nt) (hb : Below w.heap.size w w') : MprA w' b c text A0 n0 A1 n1 A2 n2 A3 n3 A4 n4 A5 n5 At nt :=
 ⟨(hb.block b (blk_lt h.blk)).trans h.blk, h.l0, Kd.C_below h.r0 hb, h.l1, Kd.C_below h.r1 hb, h.l2, Kd.C_below h.r2 hb, h.l3, Kd.C_below h.r3 hb, h.l4, Kd.C_below h.r4 hb, h.l5, Kd.C_below h.r5 hb, h.lt, Kd.C_below h.rt hb⟩
theorem MprA.c0 {w : World} {b : Nat} {c : CaseS} {text : List Int} {A0 : Option Addr} {n0 : Nat} {A1 : Option Addr} {n1 : Nat} {A2 : Option Addr} {n2 : Nat} {A3 : Option Addr} {n3 : Nat} {A4 : Option Addr} {n4 : Nat} {A5 : Option Addr} {n5 : Nat} {At : Option Addr} {nt : Nat} (h : MprA w b c text A0 n0 A1 n1 A2 n2 A3 n3 A4 n4 A5 n5 At nt) : w.cell? ⟨b, 0, none⟩ = some (.slice A0 c.lo.length n0) := (bkC h.blk 0).trans rfl
theorem MprA.c1 {w : World} {b : Nat} {c : CaseS} {text : List Int} {A0 : Option Addr} {n0 : Nat} {A1 : Option Addr} {n1 : Nat} {A2 : Option Addr} {n2 : Nat} {A3 : Option Addr} {n3 : Nat} {A4 : Option Addr} {n4 : Nat} {A5 : Option Addr} {n5 : Nat} {At : Option Addr} {nt : Nat} (h : MprA w b c text A0 n0 A1 n1 A2 n2 A3 n3 A4 n4 A5 n5 At nt) : w.cell? ⟨b, 1, none⟩ = some (.slice A1 c.up.length n1) := (bkC h.blk 1).trans rfl
theorem MprA.c2 {w : World} {b : Nat} {c : CaseS} {text : List Int} {A0 : Option Addr} {n0 : Nat} {A1 : Option Addr} {n1 : Nat} {A2 : Option Addr} {n2 : Nat} {A3 : Option Addr} {n3 : Nat} {A4 : Option Addr} {n4 : Nat} {A5 : Option Addr} {n5 : Nat} {At : Option Addr} {nt : Nat} (h : MprA w b c text A0 n0 A1 n1 A2 n2 A3 n3 A4 n4 A5 n5 At nt) : w.cell? ⟨b, 2, none⟩ = some (.slice A2 c.ti.length n2) := (bkC h.blk 2).trans rfl
theorem MprA.c3 {w : World} {b : Nat} {c : CaseS} {text : List Int} {A0 : Option Addr} {n0 : Nat} {A1 : Option Addr} {n1 : Nat} {A2 : Option Addr} {n2 : Nat} {A3 : Option Addr} {n3 : Nat} {A4 : Option Addr} {n4 : Nat} {A5 : Option Addr} {n5 : Nat} {At : Option Addr} {nt : Nat} (h : MprA w b c text A0 n0 A1 n1 A2 n2 A3 n3 A4 n4 A5 n5 At nt) : w.cell? ⟨b, 3, none⟩ = some (.slice A3 c.fo.length n3) := (bkC h.blk 3).trans rfl
theorem MprA.c4 {w : World} {b : Nat} {c : CaseS} {text : List Int} {A0 : Option Addr} {n0 : Nat} {A1 : Option Addr} {n1 : Nat} {A2 : Option Addr} {n2 : Nat} {A3 : Option Addr} {n3 : Nat} {A4 : Option Addr} {n4 : Nat} {A5 : Option Addr} {n5 : Nat} {At : Option Addr} {nt : Nat} (h : MprA w b c text A0 n0 A1 n1 A2 n2 A3 n3 A4 n4 A5 n5 At nt) : w.cell? ⟨b, 4, none⟩ = some (.slice A4 c.ca.length n4) := (bkC h.blk 4).trans rfl
theorem MprA.c5 {w : World} {b : Nat} {c : CaseS} {text : List Int} {A0 : Option Addr} {n0 : Nat} {A1 : Option Addr} {n1 : Nat} {A2 : Option Addr} {n2 : Nat} {A3 : Option Addr} {n3 : Nat} {A4 : Option Addr} {n4 : Nat} {A5 : Option Addr} {n5 : Nat} {At : Option Addr} {nt : Nat} (h : MprA w b c text A0 n0 A1 n1 A2 n2 A3 n3 A4 n4 A5 n5 At nt) : w.cell? ⟨b, 5, none⟩ = some (.slice A5 c.ig.length n5) := (bkC h.blk 5).trans rfl
theorem MprA.c6 {w : World} {b : Nat} {c : CaseS} {text : List Int} {A0 : Option Addr} {n0 : Nat} {A1 : Option Addr} {n1 : Nat} {A2 : Option Addr} {n2 : Nat} {A3 : Option Addr} {n3 : Nat} {A4 : Option Addr} {n4 : Nat} {A5 : Option Addr} {n5 : Nat} {At : Option Addr} {nt : Nat} (h : MprA w b c text A0 n0 A1 n1 A2 n2 A3 n3 A4 n4 A5 n5 At nt) : w.cell? ⟨b, 6, none⟩ = some (.slice At text.length nt) := (bkC h.blk 6).trans rfl
set_option maxHeartbeats 4000000 in
set_option maxRecDepth 100000 in
theorem open_calls (A0_0 : Option Addr) (c0_0 : Nat) (l0_0 : List Mp) (A0_1 : Option Addr) (c0_1 : Nat) (l0_1 : List Mp) (A0_2 : Option Addr) (c0_2 : Nat) (l0_2 : List Mp) (A0_3 : Option Addr) (c0_3 : Nat) (l0_3 : List Mp) (A0_4 : Option Addr) (c0_4 : Nat) (l0_4 : List Rg) (A0_5 : Option Addr) (c0_5 : Nat) (l0_5 : List Rg) (At : Option Addr) (nt : Nat) (text : List Int) (w : World) (hr0_0 : Kd.C k43 w A0_0 l0_0.length l0_0) (hc0_0 : l0_0.length ≤ c0_0) (hr0_1 : Kd.C k43 w A0_1 l0_1.length l0_1) (hc0_1 : l0_1.length ≤ c0_1) (hr0_2 : Kd.C k43 w A0_2 l0_2.length l0_2) (hc0_2 : l0_2.length ≤ c0_2) (hr0_3 : Kd.C k43 w A0_3 l0_3.length l0_3) (hc0_3 : l0_3.length ≤ c0_3) (hr0_4 : Kd.C k33 w A0_4 l0_4.length l0_4) (hc0_4 : l0_4.length ≤ c0_4) (hr0_5 : Kd.C k33 w A0_5 l0_5.length l0_5) (hc0_5 : l0_5.length ≤ c0_5) (hrt : Kd.C (Kd.int .i64) w At text.length text) (hct : text.length ≤ nt) (hok : okC ⟨l0_0, l0_1, l0_2, l0_3, l0_4, l0_5⟩ = true) :
  Calls Try.prog 30 #[.agg #[.slice A0_0 l0_0.length c0_0, .slice A0_1 l0_1.length c0_1, .slice A0_2 l0_2.length c0_2, .slice A0_3 l0_3.length c0_3, .slice A0_4 l0_4.length c0_4, .slice A0_5 l0_5.length c0_5], .slice At text.length nt] w fun e w' => ∃ b, e = .returned (.pointer (some ⟨b, 0, none⟩)) ∧ Mpr w' b (caseData ⟨l0_0, l0_1, l0_2, l0_3, l0_4, l0_5⟩) text ∧ Below w.heap.size w w' := by
 have HBX := aM (bAl (Below.refl w.heap.size w) (Obj.cells #[Value.slice A0_0 l0_0.length c0_0, Value.slice A0_1 l0_1.length c0_1, Value.slice A0_2 l0_2.length c0_2, Value.slice A0_3 l0_3.length c0_3, Value.slice A0_4 l0_4.length c0_4, Value.slice A0_5 l0_5.length c0_5] 27))
 have HK0 := aM (blk_new w (Obj.cells #[Value.slice A0_0 l0_0.length c0_0, Value.slice A0_1 l0_1.length c0_1, Value.slice A0_2 l0_2.length c0_2, Value.slice A0_3 l0_3.length c0_3, Value.slice A0_4 l0_4.length c0_4, Value.slice A0_5 l0_5.length c0_5] 27))
 have HOK := aM hok
 have hu := Try.underlying27
 have hu2 := Try.underlying53
 have HRT := aM hrt
 have HCT := aM hct
 have HR0 := aM hr0_0
 have HC0 := aM hc0_0
 have HR1 := aM hr0_1
 have HC1 := aM hc0_1
 have HR2 := aM hr0_2
 have HC2 := aM hc0_2
 have HR3 := aM hr0_3
 have HC3 := aM hc0_3
 have HR4 := aM hr0_4
 have HC4 := aM hc0_4
 have HR5 := aM hr0_5
 have HC5 := aM hc0_5
 by_cases h0 : caseChk ⟨l0_0, l0_1, l0_2, l0_3, l0_4, l0_5⟩ = 0
 ·have HE := aM h0
  have HCD := aM (show caseData ⟨l0_0, l0_1, l0_2, l0_3, l0_4, l0_5⟩ = ⟨l0_0, l0_1, l0_2, l0_3, l0_4, l0_5⟩ by unfold caseData; rw [if_pos h0])
  clear h0 hok hrt hct hr0_0 hc0_0 hr0_1 hc0_1 hr0_2 hc0_2 hr0_3 hc0_3 hr0_4 hc0_4 hr0_5 hc0_5
  go_enter Try.func30, Try.ntmps30
  go_wp2_with (go_at_call 21; (with_reducible refine (caseCheck_calls A0_0 c0_0 l0_0 A0_1 c0_1 l0_1 A0_2 c0_2 l0_2 A0_3 c0_3 l0_3 A0_4 c0_4 l0_4 A0_5 c0_5 l0_5 _ (Kd.C_below HR0.out HBX.out) HC0.out (Kd.C_below HR1.out HBX.out) HC1.out (Kd.C_below HR2.out HBX.out) HC2.out (Kd.C_below HR3.out HBX.out) HC3.out (Kd.C_below HR4.out HBX.out) HC4.out (Kd.C_below HR5.out HBX.out) HC5.out HOK.out).mono ?_); rw [HE.out]; rintro e w2 ⟨rfl, hb⟩; have hk2 := (hb.block _ (blk_lt HK0.out)).trans HK0.out; have HK2 := aM hk2; have a0 : w2.cell? ⟨w.heap.size, 0, none⟩ = some (.slice A0_0 l0_0.length c0_0) := (bkC hk2 0).trans rfl; have f0 := bkF hk2 0; have a1 : w2.cell? ⟨w.heap.size, 1, none⟩ = some (.slice A0_1 l0_1.length c0_1) := (bkC hk2 1).trans rfl; have f1 := bkF hk2 1; have a2 : w2.cell? ⟨w.heap.size, 2, none⟩ = some (.slice A0_2 l0_2.length c0_2) := (bkC hk2 2).trans rfl; have f2 := bkF hk2 2; have a3 : w2.cell? ⟨w.heap.size, 3, none⟩ = some (.slice A0_3 l0_3.length c0_3) := (bkC hk2 3).trans rfl; have f3 := bkF hk2 3; have a4 : w2.cell? ⟨w.heap.size, 4, none⟩ = some (.slice A0_4 l0_4.length c0_4) := (bkC hk2 4).trans rfl; have f4 := bkF hk2 4; have a5 : w2.cell? ⟨w.heap.size, 5, none⟩ = some (.slice A0_5 l0_5.length c0_5) := (bkC hk2 5).trans rfl; have f5 := bkF hk2 5;  have HB2 := aM (bSp HBX.out hb); clear hb hk2)
  go_ret
  rw [HCD.out]
  exact ⟨w2.heap.size, rfl, ⟨_, _, _, _, _, _, _, _, _, _, _, _, _, _, ⟨blk_new w2 _, HC0.out, Kd.C_alloc (Kd.C_below HR0.out HB2.out) _, HC1.out, Kd.C_alloc (Kd.C_below HR1.out HB2.out) _, HC2.out, Kd.C_alloc (Kd.C_below HR2.out HB2.out) _, HC3.out, Kd.C_alloc (Kd.C_below HR3.out HB2.out) _, HC4.out, Kd.C_alloc (Kd.C_below HR4.out HB2.out) _, HC5.out, Kd.C_alloc (Kd.C_below HR5.out HB2.out) _, HCT.out, Kd.C_alloc (Kd.C_below HRT.out HB2.out) _⟩⟩, bAl HB2.out _⟩
 ·obtain ⟨u, hu0⟩ : ∃ u, u = caseChk ⟨l0_0, l0_1, l0_2, l0_3, l0_4, l0_5⟩ := ⟨_, rfl⟩
  have HE := aM hu0.symm
  rw [← hu0] at h0
  have HCD := aM (show caseData ⟨l0_0, l0_1, l0_2, l0_3, l0_4, l0_5⟩ = ⟨[], [], [], [], [], []⟩ by unfold caseData; rw [← hu0, if_neg h0])
  have y1 : (u != 0) = true := by simpa using h0
  have y2 : (u == 0) = false := by simpa using h0
  have y3 : decide (u = 0) = false := decide_eq_false h0
  clear h0 hu0 hok hrt hct hr0_0 hc0_0 hr0_1 hc0_1 hr0_2 hc0_2 hr0_3 hc0_3 hr0_4 hc0_4 hr0_5 hc0_5
  go_enter Try.func30, Try.ntmps30
  go_wp2_with (go_at_call 21; (with_reducible refine (caseCheck_calls A0_0 c0_0 l0_0 A0_1 c0_1 l0_1 A0_2 c0_2 l0_2 A0_3 c0_3 l0_3 A0_4 c0_4 l0_4 A0_5 c0_5 l0_5 _ (Kd.C_below HR0.out HBX.out) HC0.out (Kd.C_below HR1.out HBX.out) HC1.out (Kd.C_below HR2.out HBX.out) HC2.out (Kd.C_below HR3.out HBX.out) HC3.out (Kd.C_below HR4.out HBX.out) HC4.out (Kd.C_below HR5.out HBX.out) HC5.out HOK.out).mono ?_); rw [HE.out]; rintro e w2 ⟨rfl, hb⟩; have hk2 := (hb.block _ (blk_lt HK0.out)).trans HK0.out; have HK2 := aM hk2; have a0 : w2.cell? ⟨w.heap.size, 0, none⟩ = some (.slice A0_0 l0_0.length c0_0) := (bkC hk2 0).trans rfl; have f0 := bkF hk2 0; have a1 : w2.cell? ⟨w.heap.size, 1, none⟩ = some (.slice A0_1 l0_1.length c0_1) := (bkC hk2 1).trans rfl; have f1 := bkF hk2 1; have a2 : w2.cell? ⟨w.heap.size, 2, none⟩ = some (.slice A0_2 l0_2.length c0_2) := (bkC hk2 2).trans rfl; have f2 := bkF hk2 2; have a3 : w2.cell? ⟨w.heap.size, 3, none⟩ = some (.slice A0_3 l0_3.length c0_3) := (bkC hk2 3).trans rfl; have f3 := bkF hk2 3; have a4 : w2.cell? ⟨w.heap.size, 4, none⟩ = some (.slice A0_4 l0_4.length c0_4) := (bkC hk2 4).trans rfl; have f4 := bkF hk2 4; have a5 : w2.cell? ⟨w.heap.size, 5, none⟩ = some (.slice A0_5 l0_5.length c0_5) := (bkC hk2 5).trans rfl; have f5 := bkF hk2 5;  have HB2 := aM (bSp HBX.out hb); clear hb hk2)
  go_ret
  rw [HCD.out]
  have hb3 := (Below.setCell (p := ⟨w.heap.size, 5, none⟩) (Below.setCell (p := ⟨w.heap.size, 4, none⟩) (Below.setCell (p := ⟨w.heap.size, 3, none⟩) (Below.setCell (p := ⟨w.heap.size, 2, none⟩) (Below.setCell (p := ⟨w.heap.size, 1, none⟩) (Below.setCell (p := ⟨w.heap.size, 0, none⟩) HB2.out (Nat.le_refl _) (Value.slice none 0 0)) (Nat.le_refl _) (Value.slice none 0 0)) (Nat.le_refl _) (Value.slice none 0 0)) (Nat.le_refl _) (Value.slice none 0 0)) (Nat.le_refl _) (Value.slice none 0 0)) (Nat.le_refl _) (Value.slice none 0 0))
  have hsz : (((((((w2.setCell ⟨w.heap.size, 0, none⟩ (Value.slice none 0 0)).setCell ⟨w.heap.size, 1, none⟩ (Value.slice none 0 0)).setCell ⟨w.heap.size, 2, none⟩ (Value.slice none 0 0)).setCell ⟨w.heap.size, 3, none⟩ (Value.slice none 0 0)).setCell ⟨w.heap.size, 4, none⟩ (Value.slice none 0 0)).setCell ⟨w.heap.size, 5, none⟩ (Value.slice none 0 0))).heap.size = w2.heap.size := by simp [World.setCell]
  generalize ((((((w2.setCell ⟨w.heap.size, 0, none⟩ (Value.slice none 0 0)).setCell ⟨w.heap.size, 1, none⟩ (Value.slice none 0 0)).setCell ⟨w.heap.size, 2, none⟩ (Value.slice none 0 0)).setCell ⟨w.heap.size, 3, none⟩ (Value.slice none 0 0)).setCell ⟨w.heap.size, 4, none⟩ (Value.slice none 0 0)).setCell ⟨w.heap.size, 5, none⟩ (Value.slice none 0 0)) = W3 at *
  have hbk := blk_new W3 (Obj.cells #[Value.slice none 0 0, Value.slice none 0 0, Value.slice none 0 0, Value.slice none 0 0, Value.slice none 0 0, Value.slice none 0 0, Value.slice At text.length nt] 53)
  rw [hsz] at hbk
  exact ⟨w2.heap.size, rfl, ⟨none, 0, none, 0, none, 0, none, 0, none, 0, none, 0, At, nt, ⟨hbk, Nat.le_refl _, Kd.C_nil _ _, Nat.le_refl _, Kd.C_nil _ _, Nat.le_refl _, Kd.C_nil _ _, Nat.le_refl _, Kd.C_nil _ _, Nat.le_refl _, Kd.C_nil _ _, Nat.le_refl _, Kd.C_nil _ _, HCT.out, Kd.C_alloc (Kd.C_below HRT.out hb3) _⟩⟩, bAl hb3 _⟩
theorem hasF (l : List Rg) (x : Int) (h : l.length < 1000000) : cpset_Has.f l x = some (hasL l x) := by unfold cpset_Has.f; rw [if_pos (by omega)]; rfl
set_option maxHeartbeats 4000000 in
set_option maxRecDepth 100000 in
theorem near_fwd (bi bm b i : Nat) (c : CaseS) (text : List Int) (w : World) (hM : Mpr w b c text) (hi : w.cell? ⟨bi, 0, none⟩ = some (.int .i64 i)) (hbm : w.cell? ⟨bm, 0, none⟩ = some (.pointer (some ⟨b, 0, none⟩))) (hlt : i < text.length) (ht : text.length < 1000000) (hs : c.ca.length < 1000000 ∧ c.ig.length < 1000000) :
  Calls Try.prog 65 #[.int .i64 1, .pointer (some ⟨bi, 0, none⟩), .pointer (some ⟨bm, 0, none⟩)] w fun e w' => e = .returned (.bool (nearL c (text.drop (i + 1)))) ∧ Below w.heap.size w w' := by
 obtain ⟨A0, n0, A1, n1, A2, n2, A3, n3, A4, n4, A5, n5, At, nt, hA⟩ := hM
 have HM := aM hA
 have HBM := aM hbm
 have HT := aM (And.intro hlt ht)
 have HS := aM hs
 have hw0 : wrap64 ((i : Int) + 1) = ((i + 1 : Nat) : Int) := by unfold wrap64; omega
 clear hA hbm hlt ht hs
 go_enter Try.func65, Try.ntmps65
 go_wp2
 go_loopw [5] (fun k wr => ∃ p : Nat, k = .int .i64 p ∧ Aside0 (p ≤ text.length) ∧ Aside0 (nearL c (text.drop (i + 1)) = nearL c (text.drop p)) ∧ Aside0 (Below w.heap.size w wr)) (fun k _ => text.length - (intOf k).toNat)
 case atStart => exact ⟨i + 1, by rw [hw0], ⟨by have := HT.out; omega⟩, ⟨rfl⟩, ⟨Below.refl _ _⟩⟩
 case round =>
  clear hw0 hi
  obtain ⟨p, rfl, HK, HE, HB⟩ := hrel
  have c6 := pcb HB.out HM.out.c6
  have cm := pcb HB.out HBM.out
  have g0 : decide ((p : Int) ≥ 0) = true := dT (by omega)
  have hw : wrap64 ((p : Int) + 1) = ((p + 1 : Nat) : Int) := by have := HK.out; have := HT.out; unfold wrap64; omega
  by_cases hlt : p < text.length
  ·obtain ⟨ad, e, t1⟩ := Kd.at_int HM.out.rt (p : Int) (by omega) (by omega)
   cases e
   rw [Int.toNat_natCast] at t1
   have hd : text.drop p = rd text (p : Int) :: text.drop (p + 1) := by
    rw [List.drop_eq_getElem_cons hlt]
    unfold rd
    rw [Int.toNat_natCast, List.getD_eq_getElem?_getD, List.getElem?_eq_getElem hlt]; rfl
   have g1 : decide ((p : Int) < (text.length : Int)) = true := dT (by omega)
   have hp1 : (0 ≤ (p : Int)) = True := eq_true (by omega)
   have hp2 : ((p : Int) < (text.length : Int)) = True := eq_true (by omega)
   have hp3 : (p < text.length) = True := eq_true hlt
   have hq1 : (0 : Int) ≤ (p : Int) := by omega
   have hq2 : (p : Int) < (text.length : Int) := by omega
   have c5 := pcb HB.out HM.out.c5
   generalize rd text (p : Int) = x at *
   have t0 := pcb HB.out t1
   have T1 := aM t1
   have HD := aM hd
   have HLT := aM hlt
   have HH5 := aM (hasF c.ig x HS.out.2)
   have HH4 := aM (hasF c.ca x HS.out.1)
   clear hd hlt t1
   cases hg : hasL c.ig x with
   | true =>
    have HG := aM (show nearL c (text.drop p) = nearL c (text.drop (p + 1)) by rw [HD.out, nearL, hg]; rfl)
    rw [hg] at HH5
    clear hg
    go_wp2
    go_region_held3 (fun w' => w'.cell? ⟨bm, 0, none⟩ = some (.pointer (some ⟨b, 0, none⟩)) ∧ w'.cell? ⟨b, 5, none⟩ = some (.slice A5 c.ig.length n5) ∧ w'.cell? ⟨b, 6, none⟩ = some (.slice (some ad) text.length nt) ∧ w'.cell? (ad.add p) = some (.int .i64 x)) (first | go_keep | (go_split_ands; refine ⟨?_, ?_, ?_, ?_⟩; (refine pcb hb ?_; assumption); (refine pcb hb ?_; assumption); (refine pcb hb ?_; assumption); (refine pcb hb ?_; assumption)))
     (first | (go_at_call 32; (with_reducible refine (cpset_Has.calls A5 n5 c.ig x true _ ?s1 HM.out.l5 HH5.out).mono ?_); (case s1 => exact Kd.C_below HM.out.r5 (by repeat (first | (with_reducible first | exact HB.out | apply bAl | apply pbN | apply bD1) | exact HB.out))); rintro e w1 ⟨rfl, hb⟩; have HB1 := aM (bSp (show Below w.heap.size w _ from (by repeat (first | (with_reducible first | exact HB.out | apply bAl | apply pbN | apply bD1) | exact HB.out))) hb)))
    clear hb
    go_wp2
    go_roundw
    case rel => exact ⟨p + 1, by rw [hw], HLT, ⟨HE.out.trans HG.out⟩, HB1⟩
    case measure => rw [hw]; simp only [intOf]; have := HLT.out; omega
   | false =>
    have HG := aM (show nearL c (text.drop p) = hasL c.ca x by rw [HD.out, nearL, hg]; rfl)
    rw [hg] at HH5
    clear hg
    generalize hasL c.ca x = r at *
    go_wp2
    go_region_held3 (fun w' => w'.cell? ⟨bm, 0, none⟩ = some (.pointer (some ⟨b, 0, none⟩)) ∧ w'.cell? ⟨b, 5, none⟩ = some (.slice A5 c.ig.length n5) ∧ w'.cell? ⟨b, 6, none⟩ = some (.slice (some ad) text.length nt) ∧ w'.cell? (ad.add p) = some (.int .i64 x)) (first | go_keep | (go_split_ands; refine ⟨?_, ?_, ?_, ?_⟩; (refine pcb hb ?_; assumption); (refine pcb hb ?_; assumption); (refine pcb hb ?_; assumption); (refine pcb hb ?_; assumption)))
     (first | (go_at_call 32; (with_reducible refine (cpset_Has.calls A5 n5 c.ig x false _ ?s1 HM.out.l5 HH5.out).mono ?_); (case s1 => exact Kd.C_below HM.out.r5 (by repeat (first | (with_reducible first | exact HB.out | apply bAl | apply pbN | apply bD1) | exact HB.out))); rintro e w1 ⟨rfl, hb⟩; have HB1 := aM (bSp (show Below w.heap.size w _ from (by repeat (first | (with_reducible first | exact HB.out | apply bAl | apply pbN | apply bD1) | exact HB.out))) hb)))
    clear hb c5 c6 cm t0
    have d4 := pcb HB1.out HM.out.c4
    have d6 := pcb HB1.out HM.out.c6
    have dm := pcb HB1.out HBM.out
    have dt := pcb HB1.out T1.out
    go_wp2
    go_region_held3 (fun w' => w'.cell? ⟨bm, 0, none⟩ = some (.pointer (some ⟨b, 0, none⟩)) ∧ w'.cell? ⟨b, 4, none⟩ = some (.slice A4 c.ca.length n4) ∧ w'.cell? ⟨b, 6, none⟩ = some (.slice (some ad) text.length nt) ∧ w'.cell? (ad.add p) = some (.int .i64 x)) (first | go_keep | (go_split_ands; refine ⟨?_, ?_, ?_, ?_⟩; (refine pcb hb ?_; assumption); (refine pcb hb ?_; assumption); (refine pcb hb ?_; assumption); (refine pcb hb ?_; assumption)))
     (first | (go_at_call 32; (with_reducible refine (cpset_Has.calls A4 n4 c.ca x r _ ?s1 HM.out.l4 HH4.out).mono ?_); (case s1 => exact Kd.C_below HM.out.r4 (by repeat (first | (with_reducible first | exact HB1.out | apply bAl | apply pbN | apply bD1) | exact HB1.out))); rintro e w2 ⟨rfl, hb⟩; have HB2 := aM (bSp (show Below w.heap.size w _ from (by repeat (first | (with_reducible first | exact HB1.out | apply bAl | apply pbN | apply bD1) | exact HB1.out))) hb)))
    clear hb
    go_wp2
    go_ret
    rw [HE.out, HG.out]
    exact ⟨rfl, HB2.out⟩
  ·obtain rfl : p = text.length := by have := HK.out; omega
   have g1 : decide ((text.length : Int) < (text.length : Int)) = false := decide_eq_false (by omega)
   have hp3 : (text.length < text.length) = False := eq_false (by omega)
   have HG := aM (show nearL c (text.drop text.length) = false by rw [List.drop_length]; rfl)
   clear hlt
   go_wp2
   go_ret
   rw [HE.out, HG.out]
   exact ⟨rfl, by repeat (first | exact HB.out | apply bAl | apply pbN | apply bD1)⟩
set_option maxHeartbeats 4000000 in
set_option maxRecDepth 100000 in
theorem near_bwd (bi bm b i : Nat) (c : CaseS) (text : List Int) (w : World) (hM : Mpr w b c text) (hi : w.cell? ⟨bi, 0, none⟩ = some (.int .i64 i)) (hbm : w.cell? ⟨bm, 0, none⟩ = some (.pointer (some ⟨b, 0, none⟩))) (hlt : i < text.length) (ht : text.length < 1000000) (hs : c.ca.length < 1000000 ∧ c.ig.length < 1000000) :
  Calls Try.prog 65 #[.int .i64 (-1), .pointer (some ⟨bi, 0, none⟩), .pointer (some ⟨bm, 0, none⟩)] w fun e w' => e = .returned (.bool (nearL c ((text.take i).reverse))) ∧ Below w.heap.size w w' := by
 obtain ⟨A0, n0, A1, n1, A2, n2, A3, n3, A4, n4, A5, n5, At, nt, hA⟩ := hM
 have HM := aM hA
 have HBM := aM hbm
 have HT := aM (And.intro hlt ht)
 have HS := aM hs
 have hw0 : wrap64 ((i : Int) + (-1)) = (i : Int) - 1 := by unfold wrap64; omega
 have hw00 : wrap64 ((i : Int) - 1) = (i : Int) - 1 := by unfold wrap64; omega
 clear hA hbm hlt ht hs
 go_enter Try.func65, Try.ntmps65
 go_wp2
 go_loopw [5] (fun k wr => ∃ q : Nat, k = .int .i64 ((q : Int) - 1) ∧ Aside0 (q ≤ text.length) ∧ Aside0 (nearL c (text.take i).reverse = nearL c (text.take q).reverse) ∧ Aside0 (Below w.heap.size w wr)) (fun k _ => (intOf k + 1).toNat)
 case atStart => exact ⟨i, by first | rw [hw0] | rw [hw00], ⟨by have := HT.out; omega⟩, ⟨rfl⟩, ⟨Below.refl _ _⟩⟩
 case round =>
  clear hw0 hi
  clear hw00
  obtain ⟨q, rfl, HK, HE, HB⟩ := hrel
  have c6 := pcb HB.out HM.out.c6
  have cm := pcb HB.out HBM.out
  by_cases hlt0 : 0 < q
  ·obtain ⟨p, rfl⟩ : ∃ p, q = p + 1 := ⟨q - 1, by omega⟩
   have ek : (((p + 1 : Nat) : Int) - 1) = (p : Int) := by omega
   rw [ek]
   have hlt : p < text.length := HK.out
   have g0 : decide ((p : Int) ≥ 0) = true := dT (by omega)
   have hw : wrap64 ((p : Int) + (-1)) = (p : Int) - 1 := by have := HT.out; unfold wrap64; omega
   have hwb : wrap64 ((p : Int) - 1) = (p : Int) - 1 := by have := HT.out; unfold wrap64; omega
   obtain ⟨ad, e, t1⟩ := Kd.at_int HM.out.rt (p : Int) (by omega) (by omega)
   cases e
   rw [Int.toNat_natCast] at t1
   have hd : (text.take (p + 1)).reverse = rd text (p : Int) :: (text.take p).reverse := by
    rw [List.take_succ_eq_append_getElem hlt, List.reverse_append]
    unfold rd
    rw [Int.toNat_natCast, List.getD_eq_getElem?_getD, List.getElem?_eq_getElem hlt]; rfl
   clear hlt0 ek
   have g1 : decide ((p : Int) < (text.length : Int)) = true := dT (by omega)
   have hp1 : (0 ≤ (p : Int)) = True := eq_true (by omega)
   have hp2 : ((p : Int) < (text.length : Int)) = True := eq_true (by omega)
   have hp3 : (p < text.length) = True := eq_true hlt
   have hq1 : (0 : Int) ≤ (p : Int) := by omega
   have hq2 : (p : Int) < (text.length : Int) := by omega
   have c5 := pcb HB.out HM.out.c5
   generalize rd text (p : Int) = x at *
   have t0 := pcb HB.out t1
   have T1 := aM t1
   have HD := aM hd
   have HLT := aM hlt
   have HH5 := aM (hasF c.ig x HS.out.2)
   have HH4 := aM (hasF c.ca x HS.out.1)
   clear hd hlt t1
   cases hg : hasL c.ig x with
   | true =>
    have HG := aM (show nearL c ((text.take (p + 1)).reverse) = nearL c ((text.take p).reverse) by rw [HD.out, nearL, hg]; rfl)
    rw [hg] at HH5
    clear hg
    go_wp2
    go_region_held3 (fun w' => w'.cell? ⟨bm, 0, none⟩ = some (.pointer (some ⟨b, 0, none⟩)) ∧ w'.cell? ⟨b, 5, none⟩ = some (.slice A5 c.ig.length n5) ∧ w'.cell? ⟨b, 6, none⟩ = some (.slice (some ad) text.length nt) ∧ w'.cell? (ad.add p) = some (.int .i64 x)) (first | go_keep | (go_split_ands; refine ⟨?_, ?_, ?_, ?_⟩; (refine pcb hb ?_; assumption); (refine pcb hb ?_; assumption); (refine pcb hb ?_; assumption); (refine pcb hb ?_; assumption)))
     (first | (go_at_call 32; (with_reducible refine (cpset_Has.calls A5 n5 c.ig x true _ ?s1 HM.out.l5 HH5.out).mono ?_); (case s1 => exact Kd.C_below HM.out.r5 (by repeat (first | (with_reducible first | exact HB.out | apply bAl | apply pbN | apply bD1) | exact HB.out))); rintro e w1 ⟨rfl, hb⟩; have HB1 := aM (bSp (show Below w.heap.size w _ from (by repeat (first | (with_reducible first | exact HB.out | apply bAl | apply pbN | apply bD1) | exact HB.out))) hb)))
    clear hb
    go_wp2
    go_roundw
    case rel => exact ⟨p, by first | rw [hw] | rw [hwb], ⟨by have := HLT.out; omega⟩, ⟨HE.out.trans HG.out⟩, HB1⟩
    case measure => (first | rw [hw] | rw [hwb]); simp only [intOf]; omega
   | false =>
    have HG := aM (show nearL c ((text.take (p + 1)).reverse) = hasL c.ca x by rw [HD.out, nearL, hg]; rfl)
    rw [hg] at HH5
    clear hg
    generalize hasL c.ca x = r at *
    go_wp2
    go_region_held3 (fun w' => w'.cell? ⟨bm, 0, none⟩ = some (.pointer (some ⟨b, 0, none⟩)) ∧ w'.cell? ⟨b, 5, none⟩ = some (.slice A5 c.ig.length n5) ∧ w'.cell? ⟨b, 6, none⟩ = some (.slice (some ad) text.length nt) ∧ w'.cell? (ad.add p) = some (.int .i64 x)) (first | go_keep | (go_split_ands; refine ⟨?_, ?_, ?_, ?_⟩; (refine pcb hb ?_; assumption); (refine pcb hb ?_; assumption); (refine pcb hb ?_; assumption); (refine pcb hb ?_; assumption)))
     (first | (go_at_call 32; (with_reducible refine (cpset_Has.calls A5 n5 c.ig x false _ ?s1 HM.out.l5 HH5.out).mono ?_); (case s1 => exact Kd.C_below HM.out.r5 (by repeat (first | (with_reducible first | exact HB.out | apply bAl | apply pbN | apply bD1) | exact HB.out))); rintro e w1 ⟨rfl, hb⟩; have HB1 := aM (bSp (show Below w.heap.size w _ from (by repeat (first | (with_reducible first | exact HB.out | apply bAl | apply pbN | apply bD1) | exact HB.out))) hb)))
    clear hb c5 c6 cm t0
    have d4 := pcb HB1.out HM.out.c4
    have d6 := pcb HB1.out HM.out.c6
    have dm := pcb HB1.out HBM.out
    have dt := pcb HB1.out T1.out
    go_wp2
    go_region_held3 (fun w' => w'.cell? ⟨bm, 0, none⟩ = some (.pointer (some ⟨b, 0, none⟩)) ∧ w'.cell? ⟨b, 4, none⟩ = some (.slice A4 c.ca.length n4) ∧ w'.cell? ⟨b, 6, none⟩ = some (.slice (some ad) text.length nt) ∧ w'.cell? (ad.add p) = some (.int .i64 x)) (first | go_keep | (go_split_ands; refine ⟨?_, ?_, ?_, ?_⟩; (refine pcb hb ?_; assumption); (refine pcb hb ?_; assumption); (refine pcb hb ?_; assumption); (refine pcb hb ?_; assumption)))
     (first | (go_at_call 32; (with_reducible refine (cpset_Has.calls A4 n4 c.ca x r _ ?s1 HM.out.l4 HH4.out).mono ?_); (case s1 => exact Kd.C_below HM.out.r4 (by repeat (first | (with_reducible first | exact HB1.out | apply bAl | apply pbN | apply bD1) | exact HB1.out))); rintro e w2 ⟨rfl, hb⟩; have HB2 := aM (bSp (show Below w.heap.size w _ from (by repeat (first | (with_reducible first | exact HB1.out | apply bAl | apply pbN | apply bD1) | exact HB1.out))) hb)))
    clear hb
    go_wp2
    go_ret
    rw [HE.out, HG.out]
    exact ⟨rfl, HB2.out⟩
  ·obtain rfl : q = 0 := by omega
   have HG := aM (show nearL c (text.take 0).reverse = false by rw [List.take_zero]; rfl)
   clear hlt0
   rw [show (((0 : Nat) : Int) - 1) = -1 by rfl]
   go_wp2
   go_ret
   rw [HE.out, HG.out]
   exact ⟨rfl, by repeat (first | exact HB.out | apply bAl | apply pbN | apply bD1)⟩
theorem Mpr.below {w w' : World} {b : Nat} {c : CaseS} {text : List Int} (h : Mpr w b c text) (hb : Below w.heap.size w w') : Mpr w' b c text := by
 obtain ⟨A0, n0, A1, n1, A2, n2, A3, n3, A4, n4, A5, n5, At, nt, hA⟩ := h
 exact ⟨A0, n0, A1, n1, A2, n2, A3, n3, A4, n4, A5, n5, At, nt, hA.below hb⟩
set_option maxHeartbeats 4000000 in
set_option maxRecDepth 100000 in
theorem final_calls (b : Nat) (c : CaseS) (text : List Int) (i : Int) (w : World) (hM : Mpr w b c text) (ht : text.length < 1000000) (hs : c.ca.length < 1000000 ∧ c.ig.length < 1000000) :
  Calls Try.prog 45 #[.pointer (some ⟨b, 0, none⟩), .int .i64 i] w fun e w' => e = .returned (.bool (finalI c text i)) ∧ Below w.heap.size w w' := by
 have HMP := aM hM
 have HT := aM ht
 have HS := aM hs
 obtain ⟨A0, n0, A1, n1, A2, n2, A3, n3, A4, n4, A5, n5, At, nt, hA⟩ := hM
 have HM := aM hA
 have HBW := aM (bAl (bAl (Below.refl w.heap.size w) (.cells #[.pointer (some ⟨b, 0, none⟩)] 49)) (.cells #[.int .i64 i] 3))
 clear hA ht hs
 by_cases h0 : i < 0
 ·have hf : finalI c text i = false := by unfold finalI; rw [decide_eq_false (by omega)]; rfl
  have y1 : decide (i < 0) = true := dT h0
  have y2 : (i < 0) = True := eq_true h0
  rw [hf]
  clear hf h0
  go_enter Try.func45, Try.ntmps45
  go_wp2
  have c6 := pcb HBW.out HM.out.c6
  have k0 : ((w.alloc (Obj.cells #[Value.pointer (some { block := b, off := 0 })] 49)).alloc (Obj.cells #[Value.int IntKind.i64 i] 3)).cell? ⟨w.heap.size, 0, none⟩ = some (.pointer (some ⟨b, 0, none⟩)) := pcb (bAl (Below.refl (w.alloc (Obj.cells #[Value.pointer (some { block := b, off := 0 })] 49)).heap.size _) _) ((bkC (blk_new w _) 0).trans rfl)
  have k1 : ((w.alloc (Obj.cells #[Value.pointer (some { block := b, off := 0 })] 49)).alloc (Obj.cells #[Value.int IntKind.i64 i] 3)).cell? ⟨w.heap.size + 1, 0, none⟩ = some (.int .i64 i) := by
   have h := (bkC (blk_new (w.alloc (Obj.cells #[Value.pointer (some { block := b, off := 0 })] 49)) (Obj.cells #[Value.int IntKind.i64 i] 3)) 0).trans rfl
   rw [World.size_alloc] at h
   exact h
  have HK0 := aM k0
  have HK1 := aM k1
  generalize ((w.alloc (Obj.cells #[Value.pointer (some { block := b, off := 0 })] 49)).alloc (Obj.cells #[Value.int IntKind.i64 i] 3)) = W at *
  go_quiet (fail)
  go_wp2
  go_ret
  exact ⟨rfl, pbN HBW.out _⟩
 ·have y1 : decide (i < 0) = false := decide_eq_false h0
  have y2 : (i < 0) = False := eq_false h0
  by_cases h1 : i < (text.length : Int)
  ·obtain ⟨n, rfl⟩ : ∃ n : Nat, i = (n : Int) := ⟨i.toNat, by omega⟩
   have y3 : decide ((n : Int) ≥ (text.length : Int)) = false := decide_eq_false (by omega)
   have y4 : (text.length ≤ n) = False := eq_false (by omega)
   have hf : finalI c text (n : Int) = (nearL c (text.take n).reverse && !nearL c (text.drop (n + 1))) := by
    unfold finalI finalS
    rw [dT (by omega), dT h1, Int.toNat_natCast]; rfl
   have HN : Aside0 (n < text.length) := ⟨by omega⟩
   rw [hf]
   clear hf h0 h1
   cases hr1 : nearL c (text.take n).reverse with
   | false =>
    have HR1 := aM hr1
    clear hr1
    go_enter Try.func45, Try.ntmps45
    go_wp2
    have c6 := pcb HBW.out HM.out.c6
    have k0 : ((w.alloc (Obj.cells #[Value.pointer (some { block := b, off := 0 })] 49)).alloc (Obj.cells #[Value.int IntKind.i64 n] 3)).cell? ⟨w.heap.size, 0, none⟩ = some (.pointer (some ⟨b, 0, none⟩)) := pcb (bAl (Below.refl (w.alloc (Obj.cells #[Value.pointer (some { block := b, off := 0 })] 49)).heap.size _) _) ((bkC (blk_new w _) 0).trans rfl)
    have k1 : ((w.alloc (Obj.cells #[Value.pointer (some { block := b, off := 0 })] 49)).alloc (Obj.cells #[Value.int IntKind.i64 n] 3)).cell? ⟨w.heap.size + 1, 0, none⟩ = some (.int .i64 n) := by
     have h := (bkC (blk_new (w.alloc (Obj.cells #[Value.pointer (some { block := b, off := 0 })] 49)) (Obj.cells #[Value.int IntKind.i64 n] 3)) 0).trans rfl
     rw [World.size_alloc] at h
     exact h
    have HK0 := aM k0
    have HK1 := aM k1
    generalize ((w.alloc (Obj.cells #[Value.pointer (some { block := b, off := 0 })] 49)).alloc (Obj.cells #[Value.int IntKind.i64 n] 3)) = W at *
    go_quiet (fail)
    go_wp2_with (first | (go_at_call 65; (with_reducible refine (near_bwd (w.heap.size + 1) w.heap.size b n c text _ (HMP.out.below (pbN HBW.out _)) ?k1 ?k0 HN.out HT.out HS.out).mono ?_); (case k1 => exact pcb (pbN (Below.refl _ _) _) HK1.out); (case k0 => exact pcb (pbN (Below.refl _ _) _) HK0.out); rw [HR1.out]; rintro e w1 ⟨rfl, hb⟩; have HB1 := aM (bSp (pbN HBW.out _) hb); have HJ1 := aM (pcb (bSp (pbN (Below.refl _ _) _) hb) HK1.out); have HJ0 := aM (pcb (bSp (pbN (Below.refl _ _) _) hb) HK0.out); clear hb))
    go_ret
    exact ⟨rfl, HB1.out⟩
   | true =>
    have HR1 := aM hr1
    clear hr1
    go_enter Try.func45, Try.ntmps45
    go_wp2
    have c6 := pcb HBW.out HM.out.c6
    have k0 : ((w.alloc (Obj.cells #[Value.pointer (some { block := b, off := 0 })] 49)).alloc (Obj.cells #[Value.int IntKind.i64 n] 3)).cell? ⟨w.heap.size, 0, none⟩ = some (.pointer (some ⟨b, 0, none⟩)) := pcb (bAl (Below.refl (w.alloc (Obj.cells #[Value.pointer (some { block := b, off := 0 })] 49)).heap.size _) _) ((bkC (blk_new w _) 0).trans rfl)
    have k1 : ((w.alloc (Obj.cells #[Value.pointer (some { block := b, off := 0 })] 49)).alloc (Obj.cells #[Value.int IntKind.i64 n] 3)).cell? ⟨w.heap.size + 1, 0, none⟩ = some (.int .i64 n) := by
     have h := (bkC (blk_new (w.alloc (Obj.cells #[Value.pointer (some { block := b, off := 0 })] 49)) (Obj.cells #[Value.int IntKind.i64 n] 3)) 0).trans rfl
     rw [World.size_alloc] at h
     exact h
    have HK0 := aM k0
    have HK1 := aM k1
    generalize ((w.alloc (Obj.cells #[Value.pointer (some { block := b, off := 0 })] 49)).alloc (Obj.cells #[Value.int IntKind.i64 n] 3)) = W at *
    go_quiet (fail)
    go_wp2_with (first | (go_at_call 65; (with_reducible refine (near_bwd (w.heap.size + 1) w.heap.size b n c text _ (HMP.out.below (pbN HBW.out _)) ?k1 ?k0 HN.out HT.out HS.out).mono ?_); (case k1 => exact pcb (pbN (Below.refl _ _) _) HK1.out); (case k0 => exact pcb (pbN (Below.refl _ _) _) HK0.out); rw [HR1.out]; rintro e w1 ⟨rfl, hb⟩; have HB1 := aM (bSp (pbN HBW.out _) hb); have HJ1 := aM (pcb (bSp (pbN (Below.refl _ _) _) hb) HK1.out); have HJ0 := aM (pcb (bSp (pbN (Below.refl _ _) _) hb) HK0.out); clear hb) | (go_at_call 65; (with_reducible refine (near_fwd (w.heap.size + 1) w.heap.size b n c text _ (HMP.out.below HB1.out) HJ1.out HJ0.out HN.out HT.out HS.out).mono ?_); rintro e w2 ⟨rfl, hb⟩; have HB2 := aM (bSp HB1.out hb); clear hb))
    go_ret
    exact ⟨by simp, HB2.out⟩
  ·have hf : finalI c text i = false := by unfold finalI; rw [decide_eq_false h1, Bool.and_false]; rfl
   have y3 : decide (i ≥ (text.length : Int)) = true := dT (by omega)
   have y4 : ((text.length : Int) ≤ i) = True := eq_true (by omega)
   rw [hf]
   clear hf h0 h1
   go_enter Try.func45, Try.ntmps45
   go_wp2
   have c6 := pcb HBW.out HM.out.c6
   have k0 : ((w.alloc (Obj.cells #[Value.pointer (some { block := b, off := 0 })] 49)).alloc (Obj.cells #[Value.int IntKind.i64 i] 3)).cell? ⟨w.heap.size, 0, none⟩ = some (.pointer (some ⟨b, 0, none⟩)) := pcb (bAl (Below.refl (w.alloc (Obj.cells #[Value.pointer (some { block := b, off := 0 })] 49)).heap.size _) _) ((bkC (blk_new w _) 0).trans rfl)
   have k1 : ((w.alloc (Obj.cells #[Value.pointer (some { block := b, off := 0 })] 49)).alloc (Obj.cells #[Value.int IntKind.i64 i] 3)).cell? ⟨w.heap.size + 1, 0, none⟩ = some (.int .i64 i) := by
    have h := (bkC (blk_new (w.alloc (Obj.cells #[Value.pointer (some { block := b, off := 0 })] 49)) (Obj.cells #[Value.int IntKind.i64 i] 3)) 0).trans rfl
    rw [World.size_alloc] at h
    exact h
   have HK0 := aM k0
   have HK1 := aM k1
   generalize ((w.alloc (Obj.cells #[Value.pointer (some { block := b, off := 0 })] 49)).alloc (Obj.cells #[Value.int IntKind.i64 i] 3)) = W at *
   go_quiet (fail)
   go_wp2
   go_ret
   exact ⟨rfl, pbN HBW.out _⟩
theorem mappedF (l : List Mp) (x : Int) (h : okM l = true) : casemap_mapped.f l x = some (mapdS l x) := by
 unfold casemap_mapped.f mapping_Get.f
 rw [if_pos h, Option.bind_some]
 unfold mapdS getP tagE
 cases getM l x ⟨#[]⟩ with
 | none => rfl
 | some xs => rfl
theorem getF (l : List Mp) (x : Int) (t : ByteArray) (h : okM l = true) : mapping_Get.f l x t = some ((getP l x t).1, (getP l x t).2) := by unfold mapping_Get.f; rw [if_pos h]
set_option maxHeartbeats 4000000 in
set_option maxRecDepth 100000 in
theorem upper_calls (b : Nat) (c : CaseS) (text : List Int) (i : Nat) (w : World) (hM : Mpr w b c text) (hi : i < text.length) (hok : okM c.up = true) :
  Calls Try.prog 40 #[.pointer (some ⟨b, 0, none⟩), .int .i64 i] w fun e w' => ∃ v, e = .returned v ∧ Kd.R (Kd.int .i64) 3 w' w.heap.size (fun _ => True) v (mapdS c.up (text.getD i 0)) ∧ Below w.heap.size w w' := by
 obtain ⟨A0, n0, A1, n1, A2, n2, A3, n3, A4, n4, A5, n5, At, nt, hA⟩ := hM
 have HM := aM hA
 obtain ⟨ad, e, t1⟩ := Kd.at_int HM.out.rt (i : Int) (by omega) (by omega)
 cases e
 rw [Int.toNat_natCast] at t1
 have hrd : rd text (i : Int) = text.getD i 0 := by unfold rd; rw [Int.toNat_natCast]
 rw [hrd] at t1
 have hp1 : (0 ≤ (i : Int)) = True := eq_true (by omega)
 have hp2 : ((i : Int) < (text.length : Int)) = True := eq_true (by omega)
 have hp3 : (i < text.length) = True := eq_true hi
 have hq1 : (0 : Int) ≤ (i : Int) := by omega
 have hq2 : (i : Int) < (text.length : Int) := by omega
 have c6 := HM.out.c6
 have HBR := aM (Below.refl w.heap.size w)
 have c1 := HM.out.c1
 have HMF := aM (mappedF c.up (text.getD i 0) hok)
 generalize text.getD i 0 = x at *
 clear hA hi hok hrd
 go_enter Try.func40, Try.ntmps40
 go_wp2
 go_region_held3 (fun w' => w'.cell? ⟨b, 1, none⟩ = some (.slice A1 c.up.length n1) ∧ w'.cell? ⟨b, 6, none⟩ = some (.slice (some ad) text.length nt) ∧ w'.cell? (ad.add i) = some (.int .i64 x)) (first | go_keep | (go_split_ands; refine ⟨?_, ?_, ?_⟩; (refine pcb hb ?_; assumption); (refine pcb hb ?_; assumption); (refine pcb hb ?_; assumption)))
  (first | (go_at_call 51; (with_reducible refine (casemap_mapped.calls A1 n1 c.up x (mapdS c.up x) _ ?s1 HM.out.l1 HMF.out).mono ?_); (case s1 => exact Kd.C_below HM.out.r1 (by repeat (first | (with_reducible first | exact HBR.out | apply bAl | apply pbN | apply bD1) | exact HBR.out))); rintro e w1 ⟨v1, rfl, hv, hb⟩; have HV := aM (Kd.R_lower hv (bSz (show Below w.heap.size w _ from (by repeat (first | (with_reducible first | exact HBR.out | apply bAl | apply pbN | apply bD1) | exact HBR.out))))); have HB1 := aM (bSp (show Below w.heap.size w _ from (by repeat (first | (with_reducible first | exact HBR.out | apply bAl | apply pbN | apply bD1) | exact HBR.out))) hb)))
 clear hb hv
 go_wp2
 go_ret
 exact ⟨v1, rfl, HV.out, HB1.out⟩
set_option maxHeartbeats 4000000 in
set_option maxRecDepth 100000 in
theorem lower_calls (b : Nat) (c : CaseS) (text : List Int) (i : Nat) (w : World) (hM : Mpr w b c text) (hi : i < text.length) (hok : okM c.lo = true) (ht : text.length < 1000000) (hs : c.ca.length < 1000000 ∧ c.ig.length < 1000000) :
  Calls Try.prog 34 #[.pointer (some ⟨b, 0, none⟩), .int .i64 i] w fun e w' => ∃ v, e = .returned v ∧ Kd.R (Kd.int .i64) 3 w' w.heap.size (fun _ => True) v (lowerS c text i) ∧ Below w.heap.size w w' := by
 have HMP := aM hM
 have HT := aM ht
 have HS := aM hs
 obtain ⟨A0, n0, A1, n1, A2, n2, A3, n3, A4, n4, A5, n5, At, nt, hA⟩ := hM
 have HM := aM hA
 obtain ⟨ad, e, t1⟩ := Kd.at_int HM.out.rt (i : Int) (by omega) (by omega)
 cases e
 rw [Int.toNat_natCast] at t1
 have hrd : rd text (i : Int) = text.getD i 0 := by unfold rd; rw [Int.toNat_natCast]
 rw [hrd] at t1
 have hp1 : (0 ≤ (i : Int)) = True := eq_true (by omega)
 have hp2 : ((i : Int) < (text.length : Int)) = True := eq_true (by omega)
 have hp3 : (i < text.length) = True := eq_true hi
 have hq1 : (0 : Int) ≤ (i : Int) := by omega
 have hq2 : (i : Int) < (text.length : Int) := by omega
 have c6 := HM.out.c6
 have HBR := aM (Below.refl w.heap.size w)
 have c0 := HM.out.c0
 have HMF := aM (mappedF c.lo (text.getD i 0) hok)
 have hgf := getF c.lo (text.getD i 0) ⟨#[102, 105, 110, 97, 108]⟩ hok
 have hls : lowerS c text i = match getM c.lo (text.getD i 0) tagF with | some xs => if finalS c text i then xs else mapdS c.lo (text.getD i 0) | none => mapdS c.lo (text.getD i 0) := rfl
 have hfi : finalI c text (i : Int) = finalS c text i := by
  unfold finalI
  rw [dT (by omega), dT (by omega), Int.toNat_natCast]; rfl
 rw [hls]
 generalize text.getD i 0 = x at *
 have T1 := aM t1
 cases hg : getM c.lo x tagF with
 | none =>
  obtain ⟨xs, HGF⟩ : ∃ xs : List Int, Aside0 (mapping_Get.f c.lo x ⟨#[102, 105, 110, 97, 108]⟩ = some (xs, false)) := ⟨[], ⟨by
   refine hgf.trans ?_
   unfold getP
   rw [show getM c.lo x ⟨#[102, 105, 110, 97, 108]⟩ = none from hg]⟩⟩
  clear hA hi hok hrd ht hs hg hgf hls hfi t1
  show Calls _ _ _ _ fun e w' => ∃ v, e = .returned v ∧ Kd.R (Kd.int .i64) 3 w' w.heap.size (fun _ => True) v (mapdS c.lo x) ∧ Below w.heap.size w w'
  have t1 := T1.out
  go_enter Try.func34, Try.ntmps34
  go_wp2
  go_region_held3 (fun w' => w'.cell? ⟨b, 0, none⟩ = some (.slice A0 c.lo.length n0) ∧ w'.cell? ⟨b, 6, none⟩ = some (.slice (some ad) text.length nt) ∧ w'.cell? (ad.add i) = some (.int .i64 x)) (first | go_keep | (go_split_ands; refine ⟨?_, ?_, ?_⟩; (refine pcb hb ?_; assumption); (refine pcb hb ?_; assumption); (refine pcb hb ?_; assumption)))
   (first | (go_at_call 56; (with_reducible refine (mapping_Get.calls A0 n0 c.lo x ⟨#[102, 105, 110, 97, 108]⟩ xs false _ ?s1 HM.out.l0 HGF.out).mono ?_); (case s1 => exact Kd.C_below HM.out.r0 (by repeat (first | (with_reducible first | exact HBR.out | apply bAl | apply pbN | apply bD1) | exact HBR.out))); rintro e w1 ⟨v1, rfl, hv, hb⟩; have HV1 := aM (Kd.R_lower hv (bSz (show Below w.heap.size w _ from (by repeat (first | (with_reducible first | exact HBR.out | apply bAl | apply pbN | apply bD1) | exact HBR.out))))); have HB1 := aM (bSp (show Below w.heap.size w _ from (by repeat (first | (with_reducible first | exact HBR.out | apply bAl | apply pbN | apply bD1) | exact HBR.out))) hb)))
  clear hb hv t1 c0 c6
  have c0 := pcb HB1.out HM.out.c0
  have c6 := pcb HB1.out HM.out.c6
  have t2 := pcb HB1.out T1.out
  go_wp2
  go_region_held3 (fun w' => w'.cell? ⟨b, 0, none⟩ = some (.slice A0 c.lo.length n0) ∧ w'.cell? ⟨b, 6, none⟩ = some (.slice (some ad) text.length nt) ∧ w'.cell? (ad.add i) = some (.int .i64 x)) (first | go_keep | (go_split_ands; refine ⟨?_, ?_, ?_⟩; (refine pcb hb ?_; assumption); (refine pcb hb ?_; assumption); (refine pcb hb ?_; assumption)))
   (first | (go_at_call 51; (with_reducible refine (casemap_mapped.calls A0 n0 c.lo x (mapdS c.lo x) _ ?s1 HM.out.l0 HMF.out).mono ?_); (case s1 => exact Kd.C_below HM.out.r0 (by repeat (first | (with_reducible first | exact HB1.out | apply bAl | apply pbN | apply bD1) | exact HB1.out))); rintro e w3 ⟨v3, rfl, hv, hb⟩; have HV := aM (Kd.R_lower hv (bSz (show Below w.heap.size w _ from (by repeat (first | (with_reducible first | exact HB1.out | apply bAl | apply pbN | apply bD1) | exact HB1.out))))); have HB3 := aM (bSp (show Below w.heap.size w _ from (by repeat (first | (with_reducible first | exact HB1.out | apply bAl | apply pbN | apply bD1) | exact HB1.out))) hb)))
  clear hb hv
  go_wp2
  go_ret
  exact ⟨v3, rfl, HV.out, HB3.out⟩
 | some ys =>
  have HGF := aM (show mapping_Get.f c.lo x ⟨#[102, 105, 110, 97, 108]⟩ = some (ys, true) by
   refine hgf.trans ?_
   unfold getP
   rw [show getM c.lo x ⟨#[102, 105, 110, 97, 108]⟩ = some ys from hg])
  cases hf : finalS c text i with
  | true =>
   have HFI := aM (hfi.trans hf)
   clear hA hi hok hrd ht hs hg hgf hls hfi hf t1
   show Calls _ _ _ _ fun e w' => ∃ v, e = .returned v ∧ Kd.R (Kd.int .i64) 3 w' w.heap.size (fun _ => True) v ys ∧ Below w.heap.size w w'
   have t1 := T1.out
   obtain ⟨ok, hok2⟩ : ∃ ok, ok = true := ⟨_, rfl⟩
   obtain ⟨xs, hxs⟩ : ∃ xs, xs = ys := ⟨_, rfl⟩
   subst hok2 hxs
   go_enter Try.func34, Try.ntmps34
   go_wp2
   go_region_held3 (fun w' => w'.cell? ⟨b, 0, none⟩ = some (.slice A0 c.lo.length n0) ∧ w'.cell? ⟨b, 6, none⟩ = some (.slice (some ad) text.length nt) ∧ w'.cell? (ad.add i) = some (.int .i64 x)) (first | go_keep | (go_split_ands; refine ⟨?_, ?_, ?_⟩; (refine pcb hb ?_; assumption); (refine pcb hb ?_; assumption); (refine pcb hb ?_; assumption)))
    (first | (go_at_call 56; (with_reducible refine (mapping_Get.calls A0 n0 c.lo x ⟨#[102, 105, 110, 97, 108]⟩ xs true _ ?s1 HM.out.l0 HGF.out).mono ?_); (case s1 => exact Kd.C_below HM.out.r0 (by repeat (first | (with_reducible first | exact HBR.out | apply bAl | apply pbN | apply bD1) | exact HBR.out))); rintro e w1 ⟨v1, rfl, hv, hb⟩; have HV1 := aM (Kd.R_lower hv (bSz (show Below w.heap.size w _ from (by repeat (first | (with_reducible first | exact HBR.out | apply bAl | apply pbN | apply bD1) | exact HBR.out))))); have HB1 := aM (bSp (show Below w.heap.size w _ from (by repeat (first | (with_reducible first | exact HBR.out | apply bAl | apply pbN | apply bD1) | exact HBR.out))) hb)))
   clear hb hv t1 c0 c6
   go_wp2_with (first | (go_at_call 45; (with_reducible refine (final_calls b c text (i : Int) _ (HMP.out.below HB1.out) HT.out HS.out).mono ?_); rw [HFI.out]; rintro e w2 ⟨rfl, hb⟩; have HV2 := aM (Kd.R_below HV1.out hb); have HB2 := aM (bSp HB1.out hb); clear hb))
   go_ret
   exact ⟨v1, rfl, HV2.out, HB2.out⟩
  | false =>
   have HFI := aM (hfi.trans hf)
   clear hA hi hok hrd ht hs hg hgf hls hfi hf t1
   show Calls _ _ _ _ fun e w' => ∃ v, e = .returned v ∧ Kd.R (Kd.int .i64) 3 w' w.heap.size (fun _ => True) v (mapdS c.lo x) ∧ Below w.heap.size w w'
   have t1 := T1.out
   obtain ⟨ok, hok2⟩ : ∃ ok, ok = true := ⟨_, rfl⟩
   obtain ⟨xs, hxs⟩ : ∃ xs, xs = ys := ⟨_, rfl⟩
   subst hok2 hxs
   go_enter Try.func34, Try.ntmps34
   go_wp2
   go_region_held3 (fun w' => w'.cell? ⟨b, 0, none⟩ = some (.slice A0 c.lo.length n0) ∧ w'.cell? ⟨b, 6, none⟩ = some (.slice (some ad) text.length nt) ∧ w'.cell? (ad.add i) = some (.int .i64 x)) (first | go_keep | (go_split_ands; refine ⟨?_, ?_, ?_⟩; (refine pcb hb ?_; assumption); (refine pcb hb ?_; assumption); (refine pcb hb ?_; assumption)))
    (first | (go_at_call 56; (with_reducible refine (mapping_Get.calls A0 n0 c.lo x ⟨#[102, 105, 110, 97, 108]⟩ xs true _ ?s1 HM.out.l0 HGF.out).mono ?_); (case s1 => exact Kd.C_below HM.out.r0 (by repeat (first | (with_reducible first | exact HBR.out | apply bAl | apply pbN | apply bD1) | exact HBR.out))); rintro e w1 ⟨v1, rfl, hv, hb⟩; have HV1 := aM (Kd.R_lower hv (bSz (show Below w.heap.size w _ from (by repeat (first | (with_reducible first | exact HBR.out | apply bAl | apply pbN | apply bD1) | exact HBR.out))))); have HB1 := aM (bSp (show Below w.heap.size w _ from (by repeat (first | (with_reducible first | exact HBR.out | apply bAl | apply pbN | apply bD1) | exact HBR.out))) hb)))
   clear hb hv t1 c0 c6
   go_upto_region 4 with (first | (go_at_call 45; (with_reducible refine (final_calls b c text (i : Int) _ (HMP.out.below HB1.out) HT.out HS.out).mono ?_); rw [HFI.out]; rintro e w2 ⟨rfl, hb⟩; have HV2 := aM (Kd.R_below HV1.out hb); have HB2 := aM (bSp HB1.out hb); clear hb))
   have c0 := pcb HB2.out HM.out.c0
   have c6 := pcb HB2.out HM.out.c6
   have t2 := pcb HB2.out T1.out
   go_wp2
   go_region_held3 (fun w' => w'.cell? ⟨b, 0, none⟩ = some (.slice A0 c.lo.length n0) ∧ w'.cell? ⟨b, 6, none⟩ = some (.slice (some ad) text.length nt) ∧ w'.cell? (ad.add i) = some (.int .i64 x)) (first | go_keep | (go_split_ands; refine ⟨?_, ?_, ?_⟩; (refine pcb hb ?_; assumption); (refine pcb hb ?_; assumption); (refine pcb hb ?_; assumption)))
    (first | (go_at_call 51; (with_reducible refine (casemap_mapped.calls A0 n0 c.lo x (mapdS c.lo x) _ ?s1 HM.out.l0 HMF.out).mono ?_); (case s1 => exact Kd.C_below HM.out.r0 (by repeat (first | (with_reducible first | exact HB2.out | apply bAl | apply pbN | apply bD1) | exact HB2.out))); rintro e w3 ⟨v3, rfl, hv, hb⟩; have HV := aM (Kd.R_lower hv (bSz (show Below w.heap.size w _ from (by repeat (first | (with_reducible first | exact HB2.out | apply bAl | apply pbN | apply bD1) | exact HB2.out))))); have HB3 := aM (bSp (show Below w.heap.size w _ from (by repeat (first | (with_reducible first | exact HB2.out | apply bAl | apply pbN | apply bD1) | exact HB2.out))) hb)))
   clear hb hv
   go_wp2
   go_ret
   exact ⟨v3, rfl, HV.out, HB3.out⟩
end Go.Proofs.Ythnkmcfhpjmihaa.Q
end
