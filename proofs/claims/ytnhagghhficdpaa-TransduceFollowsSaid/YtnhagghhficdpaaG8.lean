/- Lemmas, printed and written for this claim: part 8. -/
import Derived.Test.YtnhagghhficdpaaG2
import Derived.WalkKit
import Derived.Test.YtnhagghhficdpaaG7
import Derived.Test.YtnhagghhficdpaaG5
import Derived.Test.YtnhagghhficdpaaG6
import Derived.Test.YtnhagghhficdpaaG4
import Derived.Test.YtnhagghhficdpaaG3
import Derived.ChangeKeysEq
import Derived.Laws.StructEq
section
namespace Go.Proofs.Ytnhagghhficdpaa.Q
open Go.RowKit Go.Proofs.YtnhagghhficdpaaW.PrintWords Go.Proofs.YtnhagghhficdpaaW.PrintLast Go.Proofs.YtnhagghhficdpaaW.PrintMore
attribute [local go_sem] max2_int min2_int max_two min_two max_three min_three max_four min_four   -- for this text's walks alone
set_option linter.unusedVariables false
set_option linter.unusedSimpArgs false
def unicodetextref02_Small.f (l0_0 : List (S59)) : Option (Bool) := some (decide ((l0_0.length : Int) ≤ 12))
set_option maxHeartbeats 8000000 in
set_option maxRecDepth 100000 in
theorem unicodetextref02_Small.calls (A0_0 : Option Addr) (c0_0 : Nat) (l0_0 : List (S59)) (r : Bool) (w : World) (hr0_0 : Kd.C k59 w A0_0 l0_0.length l0_0) (hc0_0 : l0_0.length ≤ c0_0) (h : unicodetextref02_Small.f l0_0 = some r) :
    Calls Try.prog 41 #[.agg #[.slice A0_0 l0_0.length c0_0]] w fun e w' => e = .returned (.bool r) ∧ Below w.heap.size w w' := by
  have hu38 := Try.underlying38
  have HR0_0 := Aside0.mk hr0_0
  have HC0_0 := Aside0.mk hc0_0
  clear hr0_0 hc0_0
  have HB := Aside0.mk (Below.refl w.heap.size w)
  have H : (some (decide ((l0_0.length : Int) ≤ 12))) = some r := h
  clear h
  obtain rfl := Option.some.inj H
  go_enter Try.func41, Try.ntmps41
  go_wp2_with (first | ((with_reducible refine gate_dst (N := 1) rfl ?_); refine box_event ?hg (N := 1) ?hd (cs := #[.slice A0_0 l0_0.length c0_0]) (t := 38) ?hr ?_; (case hd => rfl); (case hg => rfl); (case hr => first | (go_simp; done) | (go_simp; rfl)); intro gb101 hg w2 hbox hb; have n0_ := Aside0.mk (below_step (by repeat (first | (with_reducible first | exact HB.out | apply below_alloc | apply pw_below_drewN | apply below_drew1) | exact HB.out)) hb); have n1_ := Aside0.mk (hbox); have n2_ := Aside0.mk ((by rw [hg]; exact (below_size (by repeat (first | (with_reducible first | exact HB.out | apply below_alloc | apply pw_below_drewN | apply below_drew1) | exact HB.out))) : w.heap.size ≤ gb101)); have n3_ := Aside0.mk ((by rw [hg]; exact (below_size (by repeat (first | (with_reducible first | exact HB.out | apply below_alloc | apply pw_below_drewN | apply below_drew1) | exact HB.out))) : w.heap.size ≤ gb101)); clear HB; have HB := n0_; have BK101 := n1_; have GW101 := n2_; have GE101 := n3_; clear n0_ n1_ n2_ n3_; clear hb hbox hg; have hcz3_0 : w2.cell? ⟨gb101, 0, none⟩ = some (.slice A0_0 l0_0.length c0_0) := (blk_cell BK101.out 0).trans rfl; have hfz3_0 := blk_frozen BK101.out 0))
  go_ret
  exact ⟨by first | rfl | (simp [errW_none, errW_some] <;> rfl) | (simp [*, errW_none, errW_some] <;> rfl), by repeat (first | (with_reducible first | exact HB.out | apply below_alloc | apply pw_below_drewN | apply below_drew1 | refine below_set ?_ GE101.out) | exact HB.out)⟩
mutual
def unicodetextref50_sets.l0 : Nat → List (S38) → Int → Option (Bool)
  | 0, _, _ => none
  | k + 1, x0, x3 => if x3 < (x0.length : Int) then (unicodetextref50_sets.j1 k x0 x3 (decide (x3 < 20))) else (unicodetextref50_sets.j1 k x0 x3 false)
def unicodetextref50_sets.j1 : Nat → List (S38) → Int → Bool → Option (Bool)
  | 0, _, _, _ => none
  | k + 1, x0, x3, x11 => if x11 = true then (if 0 ≤ x3 then (if x3 < (x0.length : Int) then ((unicodetextref02_Small.f ((rd_T38 x0 x3).f0)).bind fun t103 => (if t103 = true then (unicodetextref50_sets.l0 k x0 (wrap64 (x3 + 1))) else (some false))) else (none)) else (none)) else (some (decide ((x0.length : Int) ≤ 10)))
end
def unicodetextref50_sets.f (k : Nat) (l0 : List (S38)) : Option (Bool) := unicodetextref50_sets.l0 k l0 0
set_option maxHeartbeats 8000000 in
set_option maxRecDepth 100000 in
theorem unicodetextref50_sets.calls (k : Nat) (A0 : Option Addr) (c0 : Nat) (l0 : List (S38)) (r : Bool) (w : World) (hr0 : Kd.C k38 w A0 l0.length l0) (hc0 : l0.length ≤ c0) (h : unicodetextref50_sets.f k l0 = some r) :
    Calls Try.prog 34 #[.slice A0 l0.length c0] w fun e w' => e = .returned (.bool r) ∧ Below w.heap.size w w' := by
  have hu38 := Try.underlying38
  have HR0 := Aside0.mk hr0
  have HC0 := Aside0.mk hc0
  clear hr0 hc0
  have HB := Aside0.mk (Below.refl w.heap.size w)
  have H : (unicodetextref50_sets.l0 k l0 0) = some r := h
  clear h
  have H' := Aside0.mk H
  clear H
  go_enter Try.func34, Try.ntmps34
  go_wp2
  go_loopg [3] k (fun kq v3 w' => ∃ (x3_1 : Int), v3 = .int .i64 x3_1 ∧ Aside0 (unicodetextref50_sets.l0 kq l0 x3_1 = some r) ∧ Aside0 (kq ≤ k) ∧ Aside0 (Below w.heap.size w w'))
  case atStart => exact ⟨(0), (by first | rfl | (simp; done) | (simp [*]; done)), H', ⟨Nat.le_refl _⟩, ⟨by repeat (first | (with_reducible first | exact HB.out | apply below_alloc | apply pw_below_drewN | apply below_drew1) | exact HB.out)⟩⟩
  case round =>
    clear H'
    obtain ⟨x3_1, rfl, HA, HK1, HB⟩ := hrel
    cases gk with
    | zero => exact absurd HA.out (by simp [unicodetextref50_sets.l0])
    | succ k1 =>
      have H := HA.out
      clear HA
      simp only [unicodetextref50_sets.l0] at H
      have HC2 := Aside0.mk H
      clear H
      go_upto_region 2 with (fail)
      go_cut [11] (fun v11 wc => ∃ (kq : Nat) (x11_1 : Bool), v11 = .bool x11_1 ∧ Aside0 (unicodetextref50_sets.j1 kq l0 x3_1 x11_1 = some r) ∧ Aside0 (kq ≤ k1) ∧ Aside0 (Below w.heap.size w wc))
      case first =>
        have H := HC2.out
        clear HC2
        by_cases c3 : x3_1 < (l0.length : Int)
        · rw [if_pos c3] at H
          have c3b0 : decide (x3_1 < (l0.length : Int)) = true := decide_eq_true c3
          clear c3
          (first | rw [c3b0] | (simp only [i64_w, i32_w]; rw [c3b0]) | skip)
          have H' := Aside0.mk H
          clear H
          go_wp2
          go_meet
          case rel => exact ⟨_, (decide (x3_1 < 20)), (by first | rfl | (simp; done) | (simp [*]; done)), H', ⟨by have := HK1.out; first | omega | exact Nat.le_refl _⟩, ⟨by repeat (first | (with_reducible first | exact HB.out | apply below_alloc | apply pw_below_drewN | apply below_drew1) | exact HB.out)⟩⟩
        · rw [if_neg c3] at H
          have c3b0 : decide (x3_1 < (l0.length : Int)) = false := decide_eq_false c3
          clear c3
          (first | rw [c3b0] | (simp only [i64_w, i32_w]; rw [c3b0]) | skip)
          have H' := Aside0.mk H
          clear H
          go_wp2
          go_meet
          case rel => exact ⟨_, (false), (by first | rfl | (simp; done) | (simp [*]; done)), H', ⟨by have := HK1.out; first | omega | exact Nat.le_refl _⟩, ⟨by repeat (first | (with_reducible first | exact HB.out | apply below_alloc | apply pw_below_drewN | apply below_drew1) | exact HB.out)⟩⟩
      case rest =>
        clear HC2
        try clear p2
        try clear c3
        try clear c3b0
        obtain ⟨kq, x11_1, rfl, HA, HJ1, HB⟩ := hcut
        cases kq with
        | zero => exact absurd HA.out (by simp [unicodetextref50_sets.j1])
        | succ kj1 =>
          have H := HA.out
          clear HA
          simp only [unicodetextref50_sets.j1] at H
          by_cases c4 : x11_1 = true
          · subst c4
            have H1 : (if 0 ≤ x3_1 then (if x3_1 < (l0.length : Int) then ((unicodetextref02_Small.f ((rd_T38 l0 x3_1).f0)).bind fun t103 => (if t103 = true then (unicodetextref50_sets.l0 kj1 l0 (wrap64 (x3_1 + 1))) else (some false))) else (none)) else (none)) = some r := by rw [if_pos rfl] at H; exact H
            clear H
            have H := H1
            clear H1
            by_cases c5 : 0 ≤ x3_1
            · rw [if_pos c5] at H
              have c5b0 : decide (0 ≤ x3_1) = true := decide_eq_true c5
              clear c5
              by_cases c6 : x3_1 < (l0.length : Int)
              · rw [if_pos c6] at H
                have c6b0 : decide (x3_1 < (l0.length : Int)) = true := decide_eq_true c6
                clear c6
                replace H := Option.bind_eq_some_iff.mp H
                obtain ⟨t103, A70, H⟩ := H
                replace H : (if t103 = true then (unicodetextref50_sets.l0 kj1 l0 (wrap64 (x3_1 + 1))) else (some false)) = some r := H
                have A7 := Aside0.mk A70
                clear A70
                by_cases c8 : t103 = true
                · subst c8
                  have H1 : (unicodetextref50_sets.l0 kj1 l0 (wrap64 (x3_1 + 1))) = some r := by rw [if_pos rfl] at H; exact H
                  clear H
                  have H := H1
                  clear H1
                  have H' := Aside0.mk H
                  clear H
                  have p102 : 0 ≤ (x3_1 : Int) := of_decide_eq_true (by first | (with_reducible assumption) | assumption)
                  have q102 : x3_1 < (l0.length : Int) := of_decide_eq_true (by first | (with_reducible assumption) | assumption)
                  obtain ⟨ad102, A102_0, c102_0, e102, hx102_0, hl102_0, hi102_0⟩ := at_T38 HR0.out x3_1 p102 q102
                  cases e102
                  replace hx102_0 := (HB.out.cell (World.block_lt_of_cell? w _ hx102_0)).trans hx102_0
                  have HR102_0 := Aside0.mk hi102_0
                  have HC102_0 := Aside0.mk hl102_0
                  clear hi102_0 hl102_0
                  replace p102 := eq_true p102
                  replace q102 := eq_true q102
                  go_wp2_with (first | ((with_reducible refine gate_callee (f := 41) rfl ?_); refine goesL_ (some 18) rfl rfl Try.func41 (by kernel_rfl) rfl #[.agg #[.slice A102_0 ((rd_T38 l0 x3_1).f0).length c102_0]] rfl (by (try simp only [List.map_toArray, List.map_cons, List.map_nil]); first | done | rfl | (simp only [List.length_drop, List.length_take]; rfl)) ?_; (with_reducible refine (unicodetextref02_Small.calls _ _ ((rd_T38 l0 x3_1).f0) true _ ?side1 ?side2 A7.out).mono ?_); (case side1 => repeat (first | exact (Kd.C_below HR102_0.out HB.out) | (with_reducible refine Kd.C_alloc ?_ _) | (with_reducible refine Kd.C_drewN ?_ _) | (with_reducible refine Kd.C_drew ?_))); (case side2 => exact HC102_0.out); rintro e w9 ⟨rfl, hb⟩; refine ⟨_, rfl, ?_⟩; have n0_ := Aside0.mk (below_step (by repeat (first | (with_reducible first | exact HB.out | apply below_alloc | apply pw_below_drewN | apply below_drew1) | exact HB.out)) hb); clear HB; have HB := n0_; clear n0_; (try clear hb); (try clear hb2); (try clear hk); (try clear hi)))
                  go_roundg kj1
                  case measure => have := HK1.out; have := HJ1.out; omega
                  case rel => exact ⟨(wrap64 (x3_1 + 1)), (by first | rfl | (simp; done) | (simp [*]; done)), H', ⟨by have := HK1.out; have := HJ1.out; omega⟩, ⟨by repeat (first | (with_reducible first | exact HB.out | apply below_alloc | apply pw_below_drewN | apply below_drew1) | exact HB.out)⟩⟩
                · replace c8 := Bool.eq_false_iff.mpr c8
                  subst c8
                  have H1 : (some false) = some r := by rw [if_neg (show ¬ (false = true) by decide)] at H; exact H
                  clear H
                  have H := H1
                  clear H1
                  obtain rfl := Option.some.inj H
                  have p102 : 0 ≤ (x3_1 : Int) := of_decide_eq_true (by first | (with_reducible assumption) | assumption)
                  have q102 : x3_1 < (l0.length : Int) := of_decide_eq_true (by first | (with_reducible assumption) | assumption)
                  obtain ⟨ad102, A102_0, c102_0, e102, hx102_0, hl102_0, hi102_0⟩ := at_T38 HR0.out x3_1 p102 q102
                  cases e102
                  replace hx102_0 := (HB.out.cell (World.block_lt_of_cell? w _ hx102_0)).trans hx102_0
                  have HR102_0 := Aside0.mk hi102_0
                  have HC102_0 := Aside0.mk hl102_0
                  clear hi102_0 hl102_0
                  replace p102 := eq_true p102
                  replace q102 := eq_true q102
                  go_wp2_with (first | ((with_reducible refine gate_callee (f := 41) rfl ?_); refine goesL_ (some 18) rfl rfl Try.func41 (by kernel_rfl) rfl #[.agg #[.slice A102_0 ((rd_T38 l0 x3_1).f0).length c102_0]] rfl (by (try simp only [List.map_toArray, List.map_cons, List.map_nil]); first | done | rfl | (simp only [List.length_drop, List.length_take]; rfl)) ?_; (with_reducible refine (unicodetextref02_Small.calls _ _ ((rd_T38 l0 x3_1).f0) false _ ?side1 ?side2 A7.out).mono ?_); (case side1 => repeat (first | exact (Kd.C_below HR102_0.out HB.out) | (with_reducible refine Kd.C_alloc ?_ _) | (with_reducible refine Kd.C_drewN ?_ _) | (with_reducible refine Kd.C_drew ?_))); (case side2 => exact HC102_0.out); rintro e w10 ⟨rfl, hb⟩; refine ⟨_, rfl, ?_⟩; have n0_ := Aside0.mk (below_step (by repeat (first | (with_reducible first | exact HB.out | apply below_alloc | apply pw_below_drewN | apply below_drew1) | exact HB.out)) hb); clear HB; have HB := n0_; clear n0_; (try clear hb); (try clear hb2); (try clear hk); (try clear hi)))
                  go_ret
                  exact ⟨by first | rfl | (simp [errW_none, errW_some] <;> rfl) | (simp [*, errW_none, errW_some] <;> rfl), by repeat (first | (with_reducible first | exact HB.out | apply below_alloc | apply pw_below_drewN | apply below_drew1) | exact HB.out)⟩
              · rw [if_neg c6] at H
                exact absurd H (by simp)
            · rw [if_neg c5] at H
              exact absurd H (by simp)
          · replace c4 := Bool.eq_false_iff.mpr c4
            subst c4
            have H1 : (some (decide ((l0.length : Int) ≤ 10))) = some r := by rw [if_neg (show ¬ (false = true) by decide)] at H; exact H
            clear H
            have H := H1
            clear H1
            obtain rfl := Option.some.inj H
            go_wp2
            go_ret
            exact ⟨by first | rfl | (simp [errW_none, errW_some] <;> rfl) | (simp [*, errW_none, errW_some] <;> rfl), by repeat (first | (with_reducible first | exact HB.out | apply below_alloc | apply pw_below_drewN | apply below_drew1) | exact HB.out)⟩
end Go.Proofs.Ytnhagghhficdpaa.Q
end
section
namespace Go.Proofs.Ytnhagghhficdpaa.Q
open Go.RowKit Go.Proofs.YtnhagghhficdpaaW.PrintWords Go.Proofs.YtnhagghhficdpaaW.PrintLast Go.Proofs.YtnhagghhficdpaaW.PrintMore
attribute [local go_sem] max2_int min2_int max_two min_two max_three min_three max_four min_four   -- for this text's walks alone
set_option linter.unusedVariables false
set_option linter.unusedSimpArgs false
mutual
def unicodetextref50_Small.l0 : Nat → List (S34) → Int → Option (Bool)
  | 0, _, _ => none
  | k + 1, x0, x3 => if x3 < (x0.length : Int) then (unicodetextref50_Small.j1 k x0 x3 (decide (x3 < 10))) else (unicodetextref50_Small.j1 k x0 x3 false)
def unicodetextref50_Small.j1 : Nat → List (S34) → Int → Bool → Option (Bool)
  | 0, _, _, _ => none
  | k + 1, x0, x3, x11 => if x11 = true then (if 0 ≤ x3 then (if x3 < (x0.length : Int) then ((unicodetextref50_sets.f k ((rd_T34 x0 x3).f0)).bind fun t105 => (if t105 = true then ((unicodetextref50_sets.f k ((rd_T34 x0 x3).f1)).bind fun t107 => (if t107 = true then ((unicodetextref50_sets.f k ((rd_T34 x0 x3).f2)).bind fun t109 => (if t109 = true then (if (((rd_T34 x0 x3).f3).length : Int) > 20 then (some false) else (unicodetextref50_Small.l0 k x0 (wrap64 (x3 + 1)))) else (some false))) else (some false))) else (some false))) else (none)) else (none)) else (some (decide ((x0.length : Int) ≤ 6)))
end
def unicodetextref50_Small.f (k : Nat) (l0 : List (S34)) : Option (Bool) := unicodetextref50_Small.l0 k l0 0
set_option maxHeartbeats 8000000 in
set_option maxRecDepth 100000 in
theorem unicodetextref50_Small.calls (k : Nat) (A0 : Option Addr) (c0 : Nat) (l0 : List (S34)) (r : Bool) (w : World) (hr0 : Kd.C k34 w A0 l0.length l0) (hc0 : l0.length ≤ c0) (h : unicodetextref50_Small.f k l0 = some r) :
    Calls Try.prog 19 #[.slice A0 l0.length c0] w fun e w' => e = .returned (.bool r) ∧ Below w.heap.size w w' := by
  have HR0 := Aside0.mk hr0
  have HC0 := Aside0.mk hc0
  clear hr0 hc0
  have HB := Aside0.mk (Below.refl w.heap.size w)
  have H : (unicodetextref50_Small.l0 k l0 0) = some r := h
  clear h
  have H' := Aside0.mk H
  clear H
  go_enter Try.func19, Try.ntmps19
  go_wp2
  go_loopg [3] k (fun kq v3 w' => ∃ (x3_1 : Int), v3 = .int .i64 x3_1 ∧ Aside0 (unicodetextref50_Small.l0 kq l0 x3_1 = some r) ∧ Aside0 (kq ≤ k) ∧ Aside0 (Below w.heap.size w w'))
  case atStart => exact ⟨(0), (by first | rfl | (simp; done) | (simp [*]; done)), H', ⟨Nat.le_refl _⟩, ⟨by repeat (first | (with_reducible first | exact HB.out | apply below_alloc | apply pw_below_drewN | apply below_drew1) | exact HB.out)⟩⟩
  case round =>
    clear H'
    try clear c1
    obtain ⟨x3_1, rfl, HA, HK1, HB⟩ := hrel
    cases gk with
    | zero => exact absurd HA.out (by simp [unicodetextref50_Small.l0])
    | succ k1 =>
      have H := HA.out
      clear HA
      simp only [unicodetextref50_Small.l0] at H
      have HC2 := Aside0.mk H
      clear H
      go_upto_region 2 with (fail)
      go_cut [11] (fun v11 wc => ∃ (kq : Nat) (x11_1 : Bool), v11 = .bool x11_1 ∧ Aside0 (unicodetextref50_Small.j1 kq l0 x3_1 x11_1 = some r) ∧ Aside0 (kq ≤ k1) ∧ Aside0 (Below w.heap.size w wc))
      case first =>
        have H := HC2.out
        clear HC2
        by_cases c3 : x3_1 < (l0.length : Int)
        · rw [if_pos c3] at H
          have c3b0 : decide (x3_1 < (l0.length : Int)) = true := decide_eq_true c3
          clear c3
          (first | rw [c3b0] | (simp only [i64_w, i32_w]; rw [c3b0]) | skip)
          have H' := Aside0.mk H
          clear H
          go_wp2
          go_meet
          case rel => exact ⟨_, (decide (x3_1 < 10)), (by first | rfl | (simp; done) | (simp [*]; done)), H', ⟨by have := HK1.out; first | omega | exact Nat.le_refl _⟩, ⟨by repeat (first | (with_reducible first | exact HB.out | apply below_alloc | apply pw_below_drewN | apply below_drew1) | exact HB.out)⟩⟩
        · rw [if_neg c3] at H
          have c3b0 : decide (x3_1 < (l0.length : Int)) = false := decide_eq_false c3
          clear c3
          (first | rw [c3b0] | (simp only [i64_w, i32_w]; rw [c3b0]) | skip)
          have H' := Aside0.mk H
          clear H
          go_wp2
          go_meet
          case rel => exact ⟨_, (false), (by first | rfl | (simp; done) | (simp [*]; done)), H', ⟨by have := HK1.out; first | omega | exact Nat.le_refl _⟩, ⟨by repeat (first | (with_reducible first | exact HB.out | apply below_alloc | apply pw_below_drewN | apply below_drew1) | exact HB.out)⟩⟩
      case rest =>
        clear HC2
        try clear c1
        try clear p2
        try clear c3
        try clear c3b0
        obtain ⟨kq, x11_1, rfl, HA, HJ1, HB⟩ := hcut
        cases kq with
        | zero => exact absurd HA.out (by simp [unicodetextref50_Small.j1])
        | succ kj1 =>
          have H := HA.out
          clear HA
          simp only [unicodetextref50_Small.j1] at H
          by_cases c4 : x11_1 = true
          · subst c4
            have H1 : (if 0 ≤ x3_1 then (if x3_1 < (l0.length : Int) then ((unicodetextref50_sets.f kj1 ((rd_T34 l0 x3_1).f0)).bind fun t105 => (if t105 = true then ((unicodetextref50_sets.f kj1 ((rd_T34 l0 x3_1).f1)).bind fun t107 => (if t107 = true then ((unicodetextref50_sets.f kj1 ((rd_T34 l0 x3_1).f2)).bind fun t109 => (if t109 = true then (if (((rd_T34 l0 x3_1).f3).length : Int) > 20 then (some false) else (unicodetextref50_Small.l0 kj1 l0 (wrap64 (x3_1 + 1)))) else (some false))) else (some false))) else (some false))) else (none)) else (none)) = some r := by rw [if_pos rfl] at H; exact H
            clear H
            have H := H1
            clear H1
            by_cases c5 : 0 ≤ x3_1
            · rw [if_pos c5] at H
              have c5b0 : decide (0 ≤ x3_1) = true := decide_eq_true c5
              clear c5
              by_cases c6 : x3_1 < (l0.length : Int)
              · rw [if_pos c6] at H
                have c6b0 : decide (x3_1 < (l0.length : Int)) = true := decide_eq_true c6
                clear c6
                replace H := Option.bind_eq_some_iff.mp H
                obtain ⟨t105, A70, H⟩ := H
                replace H : (if t105 = true then ((unicodetextref50_sets.f kj1 ((rd_T34 l0 x3_1).f1)).bind fun t107 => (if t107 = true then ((unicodetextref50_sets.f kj1 ((rd_T34 l0 x3_1).f2)).bind fun t109 => (if t109 = true then (if (((rd_T34 l0 x3_1).f3).length : Int) > 20 then (some false) else (unicodetextref50_Small.l0 kj1 l0 (wrap64 (x3_1 + 1)))) else (some false))) else (some false))) else (some false)) = some r := H
                have A7 := Aside0.mk A70
                clear A70
                by_cases c8 : t105 = true
                · subst c8
                  have H1 : ((unicodetextref50_sets.f kj1 ((rd_T34 l0 x3_1).f1)).bind fun t107 => (if t107 = true then ((unicodetextref50_sets.f kj1 ((rd_T34 l0 x3_1).f2)).bind fun t109 => (if t109 = true then (if (((rd_T34 l0 x3_1).f3).length : Int) > 20 then (some false) else (unicodetextref50_Small.l0 kj1 l0 (wrap64 (x3_1 + 1)))) else (some false))) else (some false))) = some r := by rw [if_pos rfl] at H; exact H
                  clear H
                  have H := H1
                  clear H1
                  replace H := Option.bind_eq_some_iff.mp H
                  obtain ⟨t107, A90, H⟩ := H
                  replace H : (if t107 = true then ((unicodetextref50_sets.f kj1 ((rd_T34 l0 x3_1).f2)).bind fun t109 => (if t109 = true then (if (((rd_T34 l0 x3_1).f3).length : Int) > 20 then (some false) else (unicodetextref50_Small.l0 kj1 l0 (wrap64 (x3_1 + 1)))) else (some false))) else (some false)) = some r := H
                  have A9 := Aside0.mk A90
                  clear A90
                  by_cases c10 : t107 = true
                  · subst c10
                    have H1 : ((unicodetextref50_sets.f kj1 ((rd_T34 l0 x3_1).f2)).bind fun t109 => (if t109 = true then (if (((rd_T34 l0 x3_1).f3).length : Int) > 20 then (some false) else (unicodetextref50_Small.l0 kj1 l0 (wrap64 (x3_1 + 1)))) else (some false))) = some r := by rw [if_pos rfl] at H; exact H
                    clear H
                    have H := H1
                    clear H1
                    replace H := Option.bind_eq_some_iff.mp H
                    obtain ⟨t109, A110, H⟩ := H
                    replace H : (if t109 = true then (if (((rd_T34 l0 x3_1).f3).length : Int) > 20 then (some false) else (unicodetextref50_Small.l0 kj1 l0 (wrap64 (x3_1 + 1)))) else (some false)) = some r := H
                    have A11 := Aside0.mk A110
                    clear A110
                    by_cases c12 : t109 = true
                    · subst c12
                      have H1 : (if (((rd_T34 l0 x3_1).f3).length : Int) > 20 then (some false) else (unicodetextref50_Small.l0 kj1 l0 (wrap64 (x3_1 + 1)))) = some r := by rw [if_pos rfl] at H; exact H
                      clear H
                      have H := H1
                      clear H1
                      by_cases c13 : (((rd_T34 l0 x3_1).f3).length : Int) > 20
                      · rw [if_pos c13] at H
                        have c13b0 : decide (20 < (((rd_T34 l0 x3_1).f3).length : Int)) = true := decide_eq_true c13
                        have c13b1 : decide (20 < ((rd_T34 l0 x3_1).f3).length) = true := decide_eq_true (by omega)
                        clear c13
                        obtain rfl := Option.some.inj H
                        have p104 : 0 ≤ (x3_1 : Int) := of_decide_eq_true (by first | (with_reducible assumption) | assumption)
                        have q104 : x3_1 < (l0.length : Int) := of_decide_eq_true (by first | (with_reducible assumption) | assumption)
                        obtain ⟨ad104, A104_0, c104_0, A104_1, c104_1, A104_2, c104_2, A104_3, c104_3, e104, hx104_0, hx104_1, hx104_2, hx104_3, hl104_0, hi104_0, hl104_1, hi104_1, hl104_2, hi104_2, hl104_3, hi104_3⟩ := at_T34 HR0.out x3_1 p104 q104
                        cases e104
                        replace hx104_0 := (HB.out.cell (World.block_lt_of_cell? w _ hx104_0)).trans hx104_0
                        replace hx104_1 := (HB.out.cell (World.block_lt_of_cell? w _ hx104_1)).trans hx104_1
                        replace hx104_2 := (HB.out.cell (World.block_lt_of_cell? w _ hx104_2)).trans hx104_2
                        replace hx104_3 := (HB.out.cell (World.block_lt_of_cell? w _ hx104_3)).trans hx104_3
                        have HR104_0 := Aside0.mk hi104_0
                        have HC104_0 := Aside0.mk hl104_0
                        clear hi104_0 hl104_0
                        have HR104_1 := Aside0.mk hi104_1
                        have HC104_1 := Aside0.mk hl104_1
                        clear hi104_1 hl104_1
                        have HR104_2 := Aside0.mk hi104_2
                        have HC104_2 := Aside0.mk hl104_2
                        clear hi104_2 hl104_2
                        have HR104_3 := Aside0.mk hi104_3
                        have HC104_3 := Aside0.mk hl104_3
                        clear hi104_3 hl104_3
                        replace p104 := eq_true p104
                        replace q104 := eq_true q104
                        go_wp2_with (first | ((with_reducible refine gate_callee (f := 34) rfl ?_); refine goesL_ (some 19) rfl rfl Try.func34 (by kernel_rfl) rfl #[.slice A104_0 ((rd_T34 l0 x3_1).f0).length c104_0] rfl (by (try simp only [List.map_toArray, List.map_cons, List.map_nil]); first | done | rfl | (simp only [List.length_drop, List.length_take]; rfl)) ?_; (with_reducible refine (unicodetextref50_sets.calls kj1 _ _ ((rd_T34 l0 x3_1).f0) true _ ?side1 ?side2 A7.out).mono ?_); (case side1 => repeat (first | exact (Kd.C_below HR104_0.out HB.out) | (with_reducible refine Kd.C_alloc ?_ _) | (with_reducible refine Kd.C_drewN ?_ _) | (with_reducible refine Kd.C_drew ?_))); (case side2 => exact HC104_0.out); rintro e w14 ⟨rfl, hb⟩; refine ⟨_, rfl, ?_⟩; have n0_ := Aside0.mk (below_step (by repeat (first | (with_reducible first | exact HB.out | apply below_alloc | apply pw_below_drewN | apply below_drew1) | exact HB.out)) hb); clear HB; have HB := n0_; clear n0_; (try clear hb); (try clear hb2); (try clear hk); (try clear hi); have p106 : 0 ≤ (x3_1 : Int) := of_decide_eq_true (by first | (with_reducible assumption) | assumption); have q106 : x3_1 < (l0.length : Int) := of_decide_eq_true (by first | (with_reducible assumption) | assumption); obtain ⟨ad106, A106_0, c106_0, A106_1, c106_1, A106_2, c106_2, A106_3, c106_3, e106, hx106_0, hx106_1, hx106_2, hx106_3, hl106_0, hi106_0, hl106_1, hi106_1, hl106_2, hi106_2, hl106_3, hi106_3⟩ := at_T34 HR0.out x3_1 p106 q106; obtain rfl : ad104 = ad106 := (by injection e106); replace hx106_0 := (HB.out.cell (World.block_lt_of_cell? w _ hx106_0)).trans hx106_0; replace hx106_1 := (HB.out.cell (World.block_lt_of_cell? w _ hx106_1)).trans hx106_1; replace hx106_2 := (HB.out.cell (World.block_lt_of_cell? w _ hx106_2)).trans hx106_2; replace hx106_3 := (HB.out.cell (World.block_lt_of_cell? w _ hx106_3)).trans hx106_3; have HR106_0 := Aside0.mk hi106_0; have HC106_0 := Aside0.mk hl106_0; clear hi106_0 hl106_0; have HR106_1 := Aside0.mk hi106_1; have HC106_1 := Aside0.mk hl106_1; clear hi106_1 hl106_1; have HR106_2 := Aside0.mk hi106_2; have HC106_2 := Aside0.mk hl106_2; clear hi106_2 hl106_2; have HR106_3 := Aside0.mk hi106_3; have HC106_3 := Aside0.mk hl106_3; clear hi106_3 hl106_3; replace p106 := eq_true p106; replace q106 := eq_true q106) | (go_at_call 34; (with_reducible refine (unicodetextref50_sets.calls kj1 _ _ ((rd_T34 l0 x3_1).f1) true _ ?side1 ?side2 A9.out).mono ?_); (case side1 => repeat (first | exact (Kd.C_below HR106_1.out HB.out) | (with_reducible refine Kd.C_alloc ?_ _) | (with_reducible refine Kd.C_drewN ?_ _) | (with_reducible refine Kd.C_drew ?_))); (case side2 => exact HC106_1.out); rintro e w15 ⟨rfl, hb⟩; have n0_ := Aside0.mk (below_step (by repeat (first | (with_reducible first | exact HB.out | apply below_alloc | apply pw_below_drewN | apply below_drew1) | exact HB.out)) hb); clear HB; have HB := n0_; clear n0_; (try clear hb); (try clear hb2); (try clear hk); (try clear hi); have p108 : 0 ≤ (x3_1 : Int) := of_decide_eq_true (by first | (with_reducible assumption) | assumption); have q108 : x3_1 < (l0.length : Int) := of_decide_eq_true (by first | (with_reducible assumption) | assumption); obtain ⟨ad108, A108_0, c108_0, A108_1, c108_1, A108_2, c108_2, A108_3, c108_3, e108, hx108_0, hx108_1, hx108_2, hx108_3, hl108_0, hi108_0, hl108_1, hi108_1, hl108_2, hi108_2, hl108_3, hi108_3⟩ := at_T34 HR0.out x3_1 p108 q108; obtain rfl : ad104 = ad108 := (by injection e108); replace hx108_0 := (HB.out.cell (World.block_lt_of_cell? w _ hx108_0)).trans hx108_0; replace hx108_1 := (HB.out.cell (World.block_lt_of_cell? w _ hx108_1)).trans hx108_1; replace hx108_2 := (HB.out.cell (World.block_lt_of_cell? w _ hx108_2)).trans hx108_2; replace hx108_3 := (HB.out.cell (World.block_lt_of_cell? w _ hx108_3)).trans hx108_3; have HR108_0 := Aside0.mk hi108_0; have HC108_0 := Aside0.mk hl108_0; clear hi108_0 hl108_0; have HR108_1 := Aside0.mk hi108_1; have HC108_1 := Aside0.mk hl108_1; clear hi108_1 hl108_1; have HR108_2 := Aside0.mk hi108_2; have HC108_2 := Aside0.mk hl108_2; clear hi108_2 hl108_2; have HR108_3 := Aside0.mk hi108_3; have HC108_3 := Aside0.mk hl108_3; clear hi108_3 hl108_3; replace p108 := eq_true p108; replace q108 := eq_true q108) | (go_at_call 34; (with_reducible refine (unicodetextref50_sets.calls kj1 _ _ ((rd_T34 l0 x3_1).f2) true _ ?side1 ?side2 A11.out).mono ?_); (case side1 => repeat (first | exact (Kd.C_below HR108_2.out HB.out) | (with_reducible refine Kd.C_alloc ?_ _) | (with_reducible refine Kd.C_drewN ?_ _) | (with_reducible refine Kd.C_drew ?_))); (case side2 => exact HC108_2.out); rintro e w16 ⟨rfl, hb⟩; have n0_ := Aside0.mk (below_step (by repeat (first | (with_reducible first | exact HB.out | apply below_alloc | apply pw_below_drewN | apply below_drew1) | exact HB.out)) hb); clear HB; have HB := n0_; clear n0_; (try clear hb); (try clear hb2); (try clear hk); (try clear hi); have p110 : 0 ≤ (x3_1 : Int) := of_decide_eq_true (by first | (with_reducible assumption) | assumption); have q110 : x3_1 < (l0.length : Int) := of_decide_eq_true (by first | (with_reducible assumption) | assumption); obtain ⟨ad110, A110_0, c110_0, A110_1, c110_1, A110_2, c110_2, A110_3, c110_3, e110, hx110_0, hx110_1, hx110_2, hx110_3, hl110_0, hi110_0, hl110_1, hi110_1, hl110_2, hi110_2, hl110_3, hi110_3⟩ := at_T34 HR0.out x3_1 p110 q110; obtain rfl : ad104 = ad110 := (by injection e110); replace hx110_0 := (HB.out.cell (World.block_lt_of_cell? w _ hx110_0)).trans hx110_0; replace hx110_1 := (HB.out.cell (World.block_lt_of_cell? w _ hx110_1)).trans hx110_1; replace hx110_2 := (HB.out.cell (World.block_lt_of_cell? w _ hx110_2)).trans hx110_2; replace hx110_3 := (HB.out.cell (World.block_lt_of_cell? w _ hx110_3)).trans hx110_3; have HR110_0 := Aside0.mk hi110_0; have HC110_0 := Aside0.mk hl110_0; clear hi110_0 hl110_0; have HR110_1 := Aside0.mk hi110_1; have HC110_1 := Aside0.mk hl110_1; clear hi110_1 hl110_1; have HR110_2 := Aside0.mk hi110_2; have HC110_2 := Aside0.mk hl110_2; clear hi110_2 hl110_2; have HR110_3 := Aside0.mk hi110_3; have HC110_3 := Aside0.mk hl110_3; clear hi110_3 hl110_3; replace p110 := eq_true p110; replace q110 := eq_true q110))
                        go_ret
                        exact ⟨by first | rfl | (simp [errW_none, errW_some] <;> rfl) | (simp [*, errW_none, errW_some] <;> rfl), by repeat (first | (with_reducible first | exact HB.out | apply below_alloc | apply pw_below_drewN | apply below_drew1) | exact HB.out)⟩
                      · rw [if_neg c13] at H
                        have c13b0 : decide (20 < (((rd_T34 l0 x3_1).f3).length : Int)) = false := decide_eq_false c13
                        have c13b1 : decide (20 < ((rd_T34 l0 x3_1).f3).length) = false := decide_eq_false (by omega)
                        clear c13
                        have H' := Aside0.mk H
                        clear H
                        have p104 : 0 ≤ (x3_1 : Int) := of_decide_eq_true (by first | (with_reducible assumption) | assumption)
                        have q104 : x3_1 < (l0.length : Int) := of_decide_eq_true (by first | (with_reducible assumption) | assumption)
                        obtain ⟨ad104, A104_0, c104_0, A104_1, c104_1, A104_2, c104_2, A104_3, c104_3, e104, hx104_0, hx104_1, hx104_2, hx104_3, hl104_0, hi104_0, hl104_1, hi104_1, hl104_2, hi104_2, hl104_3, hi104_3⟩ := at_T34 HR0.out x3_1 p104 q104
                        cases e104
                        replace hx104_0 := (HB.out.cell (World.block_lt_of_cell? w _ hx104_0)).trans hx104_0
                        replace hx104_1 := (HB.out.cell (World.block_lt_of_cell? w _ hx104_1)).trans hx104_1
                        replace hx104_2 := (HB.out.cell (World.block_lt_of_cell? w _ hx104_2)).trans hx104_2
                        replace hx104_3 := (HB.out.cell (World.block_lt_of_cell? w _ hx104_3)).trans hx104_3
                        have HR104_0 := Aside0.mk hi104_0
                        have HC104_0 := Aside0.mk hl104_0
                        clear hi104_0 hl104_0
                        have HR104_1 := Aside0.mk hi104_1
                        have HC104_1 := Aside0.mk hl104_1
                        clear hi104_1 hl104_1
                        have HR104_2 := Aside0.mk hi104_2
                        have HC104_2 := Aside0.mk hl104_2
                        clear hi104_2 hl104_2
                        have HR104_3 := Aside0.mk hi104_3
                        have HC104_3 := Aside0.mk hl104_3
                        clear hi104_3 hl104_3
                        replace p104 := eq_true p104
                        replace q104 := eq_true q104
                        go_wp2_with (first | ((with_reducible refine gate_callee (f := 34) rfl ?_); refine goesL_ (some 19) rfl rfl Try.func34 (by kernel_rfl) rfl #[.slice A104_0 ((rd_T34 l0 x3_1).f0).length c104_0] rfl (by (try simp only [List.map_toArray, List.map_cons, List.map_nil]); first | done | rfl | (simp only [List.length_drop, List.length_take]; rfl)) ?_; (with_reducible refine (unicodetextref50_sets.calls kj1 _ _ ((rd_T34 l0 x3_1).f0) true _ ?side1 ?side2 A7.out).mono ?_); (case side1 => repeat (first | exact (Kd.C_below HR104_0.out HB.out) | (with_reducible refine Kd.C_alloc ?_ _) | (with_reducible refine Kd.C_drewN ?_ _) | (with_reducible refine Kd.C_drew ?_))); (case side2 => exact HC104_0.out); rintro e w17 ⟨rfl, hb⟩; refine ⟨_, rfl, ?_⟩; have n0_ := Aside0.mk (below_step (by repeat (first | (with_reducible first | exact HB.out | apply below_alloc | apply pw_below_drewN | apply below_drew1) | exact HB.out)) hb); clear HB; have HB := n0_; clear n0_; (try clear hb); (try clear hb2); (try clear hk); (try clear hi); have p106 : 0 ≤ (x3_1 : Int) := of_decide_eq_true (by first | (with_reducible assumption) | assumption); have q106 : x3_1 < (l0.length : Int) := of_decide_eq_true (by first | (with_reducible assumption) | assumption); obtain ⟨ad106, A106_0, c106_0, A106_1, c106_1, A106_2, c106_2, A106_3, c106_3, e106, hx106_0, hx106_1, hx106_2, hx106_3, hl106_0, hi106_0, hl106_1, hi106_1, hl106_2, hi106_2, hl106_3, hi106_3⟩ := at_T34 HR0.out x3_1 p106 q106; obtain rfl : ad104 = ad106 := (by injection e106); replace hx106_0 := (HB.out.cell (World.block_lt_of_cell? w _ hx106_0)).trans hx106_0; replace hx106_1 := (HB.out.cell (World.block_lt_of_cell? w _ hx106_1)).trans hx106_1; replace hx106_2 := (HB.out.cell (World.block_lt_of_cell? w _ hx106_2)).trans hx106_2; replace hx106_3 := (HB.out.cell (World.block_lt_of_cell? w _ hx106_3)).trans hx106_3; have HR106_0 := Aside0.mk hi106_0; have HC106_0 := Aside0.mk hl106_0; clear hi106_0 hl106_0; have HR106_1 := Aside0.mk hi106_1; have HC106_1 := Aside0.mk hl106_1; clear hi106_1 hl106_1; have HR106_2 := Aside0.mk hi106_2; have HC106_2 := Aside0.mk hl106_2; clear hi106_2 hl106_2; have HR106_3 := Aside0.mk hi106_3; have HC106_3 := Aside0.mk hl106_3; clear hi106_3 hl106_3; replace p106 := eq_true p106; replace q106 := eq_true q106) | (go_at_call 34; (with_reducible refine (unicodetextref50_sets.calls kj1 _ _ ((rd_T34 l0 x3_1).f1) true _ ?side1 ?side2 A9.out).mono ?_); (case side1 => repeat (first | exact (Kd.C_below HR106_1.out HB.out) | (with_reducible refine Kd.C_alloc ?_ _) | (with_reducible refine Kd.C_drewN ?_ _) | (with_reducible refine Kd.C_drew ?_))); (case side2 => exact HC106_1.out); rintro e w18 ⟨rfl, hb⟩; have n0_ := Aside0.mk (below_step (by repeat (first | (with_reducible first | exact HB.out | apply below_alloc | apply pw_below_drewN | apply below_drew1) | exact HB.out)) hb); clear HB; have HB := n0_; clear n0_; (try clear hb); (try clear hb2); (try clear hk); (try clear hi); have p108 : 0 ≤ (x3_1 : Int) := of_decide_eq_true (by first | (with_reducible assumption) | assumption); have q108 : x3_1 < (l0.length : Int) := of_decide_eq_true (by first | (with_reducible assumption) | assumption); obtain ⟨ad108, A108_0, c108_0, A108_1, c108_1, A108_2, c108_2, A108_3, c108_3, e108, hx108_0, hx108_1, hx108_2, hx108_3, hl108_0, hi108_0, hl108_1, hi108_1, hl108_2, hi108_2, hl108_3, hi108_3⟩ := at_T34 HR0.out x3_1 p108 q108; obtain rfl : ad104 = ad108 := (by injection e108); replace hx108_0 := (HB.out.cell (World.block_lt_of_cell? w _ hx108_0)).trans hx108_0; replace hx108_1 := (HB.out.cell (World.block_lt_of_cell? w _ hx108_1)).trans hx108_1; replace hx108_2 := (HB.out.cell (World.block_lt_of_cell? w _ hx108_2)).trans hx108_2; replace hx108_3 := (HB.out.cell (World.block_lt_of_cell? w _ hx108_3)).trans hx108_3; have HR108_0 := Aside0.mk hi108_0; have HC108_0 := Aside0.mk hl108_0; clear hi108_0 hl108_0; have HR108_1 := Aside0.mk hi108_1; have HC108_1 := Aside0.mk hl108_1; clear hi108_1 hl108_1; have HR108_2 := Aside0.mk hi108_2; have HC108_2 := Aside0.mk hl108_2; clear hi108_2 hl108_2; have HR108_3 := Aside0.mk hi108_3; have HC108_3 := Aside0.mk hl108_3; clear hi108_3 hl108_3; replace p108 := eq_true p108; replace q108 := eq_true q108) | (go_at_call 34; (with_reducible refine (unicodetextref50_sets.calls kj1 _ _ ((rd_T34 l0 x3_1).f2) true _ ?side1 ?side2 A11.out).mono ?_); (case side1 => repeat (first | exact (Kd.C_below HR108_2.out HB.out) | (with_reducible refine Kd.C_alloc ?_ _) | (with_reducible refine Kd.C_drewN ?_ _) | (with_reducible refine Kd.C_drew ?_))); (case side2 => exact HC108_2.out); rintro e w19 ⟨rfl, hb⟩; have n0_ := Aside0.mk (below_step (by repeat (first | (with_reducible first | exact HB.out | apply below_alloc | apply pw_below_drewN | apply below_drew1) | exact HB.out)) hb); clear HB; have HB := n0_; clear n0_; (try clear hb); (try clear hb2); (try clear hk); (try clear hi); have p110 : 0 ≤ (x3_1 : Int) := of_decide_eq_true (by first | (with_reducible assumption) | assumption); have q110 : x3_1 < (l0.length : Int) := of_decide_eq_true (by first | (with_reducible assumption) | assumption); obtain ⟨ad110, A110_0, c110_0, A110_1, c110_1, A110_2, c110_2, A110_3, c110_3, e110, hx110_0, hx110_1, hx110_2, hx110_3, hl110_0, hi110_0, hl110_1, hi110_1, hl110_2, hi110_2, hl110_3, hi110_3⟩ := at_T34 HR0.out x3_1 p110 q110; obtain rfl : ad104 = ad110 := (by injection e110); replace hx110_0 := (HB.out.cell (World.block_lt_of_cell? w _ hx110_0)).trans hx110_0; replace hx110_1 := (HB.out.cell (World.block_lt_of_cell? w _ hx110_1)).trans hx110_1; replace hx110_2 := (HB.out.cell (World.block_lt_of_cell? w _ hx110_2)).trans hx110_2; replace hx110_3 := (HB.out.cell (World.block_lt_of_cell? w _ hx110_3)).trans hx110_3; have HR110_0 := Aside0.mk hi110_0; have HC110_0 := Aside0.mk hl110_0; clear hi110_0 hl110_0; have HR110_1 := Aside0.mk hi110_1; have HC110_1 := Aside0.mk hl110_1; clear hi110_1 hl110_1; have HR110_2 := Aside0.mk hi110_2; have HC110_2 := Aside0.mk hl110_2; clear hi110_2 hl110_2; have HR110_3 := Aside0.mk hi110_3; have HC110_3 := Aside0.mk hl110_3; clear hi110_3 hl110_3; replace p110 := eq_true p110; replace q110 := eq_true q110))
                        go_roundg kj1
                        case measure => have := HK1.out; have := HJ1.out; omega
                        case rel => exact ⟨(wrap64 (x3_1 + 1)), (by first | rfl | (simp; done) | (simp [*]; done)), H', ⟨by have := HK1.out; have := HJ1.out; omega⟩, ⟨by repeat (first | (with_reducible first | exact HB.out | apply below_alloc | apply pw_below_drewN | apply below_drew1) | exact HB.out)⟩⟩
                    · replace c12 := Bool.eq_false_iff.mpr c12
                      subst c12
                      have H1 : (some false) = some r := by rw [if_neg (show ¬ (false = true) by decide)] at H; exact H
                      clear H
                      have H := H1
                      clear H1
                      obtain rfl := Option.some.inj H
                      have p104 : 0 ≤ (x3_1 : Int) := of_decide_eq_true (by first | (with_reducible assumption) | assumption)
                      have q104 : x3_1 < (l0.length : Int) := of_decide_eq_true (by first | (with_reducible assumption) | assumption)
                      obtain ⟨ad104, A104_0, c104_0, A104_1, c104_1, A104_2, c104_2, A104_3, c104_3, e104, hx104_0, hx104_1, hx104_2, hx104_3, hl104_0, hi104_0, hl104_1, hi104_1, hl104_2, hi104_2, hl104_3, hi104_3⟩ := at_T34 HR0.out x3_1 p104 q104
                      cases e104
                      replace hx104_0 := (HB.out.cell (World.block_lt_of_cell? w _ hx104_0)).trans hx104_0
                      replace hx104_1 := (HB.out.cell (World.block_lt_of_cell? w _ hx104_1)).trans hx104_1
                      replace hx104_2 := (HB.out.cell (World.block_lt_of_cell? w _ hx104_2)).trans hx104_2
                      replace hx104_3 := (HB.out.cell (World.block_lt_of_cell? w _ hx104_3)).trans hx104_3
                      have HR104_0 := Aside0.mk hi104_0
                      have HC104_0 := Aside0.mk hl104_0
                      clear hi104_0 hl104_0
                      have HR104_1 := Aside0.mk hi104_1
                      have HC104_1 := Aside0.mk hl104_1
                      clear hi104_1 hl104_1
                      have HR104_2 := Aside0.mk hi104_2
                      have HC104_2 := Aside0.mk hl104_2
                      clear hi104_2 hl104_2
                      have HR104_3 := Aside0.mk hi104_3
                      have HC104_3 := Aside0.mk hl104_3
                      clear hi104_3 hl104_3
                      replace p104 := eq_true p104
                      replace q104 := eq_true q104
                      go_wp2_with (first | ((with_reducible refine gate_callee (f := 34) rfl ?_); refine goesL_ (some 19) rfl rfl Try.func34 (by kernel_rfl) rfl #[.slice A104_0 ((rd_T34 l0 x3_1).f0).length c104_0] rfl (by (try simp only [List.map_toArray, List.map_cons, List.map_nil]); first | done | rfl | (simp only [List.length_drop, List.length_take]; rfl)) ?_; (with_reducible refine (unicodetextref50_sets.calls kj1 _ _ ((rd_T34 l0 x3_1).f0) true _ ?side1 ?side2 A7.out).mono ?_); (case side1 => repeat (first | exact (Kd.C_below HR104_0.out HB.out) | (with_reducible refine Kd.C_alloc ?_ _) | (with_reducible refine Kd.C_drewN ?_ _) | (with_reducible refine Kd.C_drew ?_))); (case side2 => exact HC104_0.out); rintro e w20 ⟨rfl, hb⟩; refine ⟨_, rfl, ?_⟩; have n0_ := Aside0.mk (below_step (by repeat (first | (with_reducible first | exact HB.out | apply below_alloc | apply pw_below_drewN | apply below_drew1) | exact HB.out)) hb); clear HB; have HB := n0_; clear n0_; (try clear hb); (try clear hb2); (try clear hk); (try clear hi); have p106 : 0 ≤ (x3_1 : Int) := of_decide_eq_true (by first | (with_reducible assumption) | assumption); have q106 : x3_1 < (l0.length : Int) := of_decide_eq_true (by first | (with_reducible assumption) | assumption); obtain ⟨ad106, A106_0, c106_0, A106_1, c106_1, A106_2, c106_2, A106_3, c106_3, e106, hx106_0, hx106_1, hx106_2, hx106_3, hl106_0, hi106_0, hl106_1, hi106_1, hl106_2, hi106_2, hl106_3, hi106_3⟩ := at_T34 HR0.out x3_1 p106 q106; obtain rfl : ad104 = ad106 := (by injection e106); replace hx106_0 := (HB.out.cell (World.block_lt_of_cell? w _ hx106_0)).trans hx106_0; replace hx106_1 := (HB.out.cell (World.block_lt_of_cell? w _ hx106_1)).trans hx106_1; replace hx106_2 := (HB.out.cell (World.block_lt_of_cell? w _ hx106_2)).trans hx106_2; replace hx106_3 := (HB.out.cell (World.block_lt_of_cell? w _ hx106_3)).trans hx106_3; have HR106_0 := Aside0.mk hi106_0; have HC106_0 := Aside0.mk hl106_0; clear hi106_0 hl106_0; have HR106_1 := Aside0.mk hi106_1; have HC106_1 := Aside0.mk hl106_1; clear hi106_1 hl106_1; have HR106_2 := Aside0.mk hi106_2; have HC106_2 := Aside0.mk hl106_2; clear hi106_2 hl106_2; have HR106_3 := Aside0.mk hi106_3; have HC106_3 := Aside0.mk hl106_3; clear hi106_3 hl106_3; replace p106 := eq_true p106; replace q106 := eq_true q106) | (go_at_call 34; (with_reducible refine (unicodetextref50_sets.calls kj1 _ _ ((rd_T34 l0 x3_1).f1) true _ ?side1 ?side2 A9.out).mono ?_); (case side1 => repeat (first | exact (Kd.C_below HR106_1.out HB.out) | (with_reducible refine Kd.C_alloc ?_ _) | (with_reducible refine Kd.C_drewN ?_ _) | (with_reducible refine Kd.C_drew ?_))); (case side2 => exact HC106_1.out); rintro e w21 ⟨rfl, hb⟩; have n0_ := Aside0.mk (below_step (by repeat (first | (with_reducible first | exact HB.out | apply below_alloc | apply pw_below_drewN | apply below_drew1) | exact HB.out)) hb); clear HB; have HB := n0_; clear n0_; (try clear hb); (try clear hb2); (try clear hk); (try clear hi); have p108 : 0 ≤ (x3_1 : Int) := of_decide_eq_true (by first | (with_reducible assumption) | assumption); have q108 : x3_1 < (l0.length : Int) := of_decide_eq_true (by first | (with_reducible assumption) | assumption); obtain ⟨ad108, A108_0, c108_0, A108_1, c108_1, A108_2, c108_2, A108_3, c108_3, e108, hx108_0, hx108_1, hx108_2, hx108_3, hl108_0, hi108_0, hl108_1, hi108_1, hl108_2, hi108_2, hl108_3, hi108_3⟩ := at_T34 HR0.out x3_1 p108 q108; obtain rfl : ad104 = ad108 := (by injection e108); replace hx108_0 := (HB.out.cell (World.block_lt_of_cell? w _ hx108_0)).trans hx108_0; replace hx108_1 := (HB.out.cell (World.block_lt_of_cell? w _ hx108_1)).trans hx108_1; replace hx108_2 := (HB.out.cell (World.block_lt_of_cell? w _ hx108_2)).trans hx108_2; replace hx108_3 := (HB.out.cell (World.block_lt_of_cell? w _ hx108_3)).trans hx108_3; have HR108_0 := Aside0.mk hi108_0; have HC108_0 := Aside0.mk hl108_0; clear hi108_0 hl108_0; have HR108_1 := Aside0.mk hi108_1; have HC108_1 := Aside0.mk hl108_1; clear hi108_1 hl108_1; have HR108_2 := Aside0.mk hi108_2; have HC108_2 := Aside0.mk hl108_2; clear hi108_2 hl108_2; have HR108_3 := Aside0.mk hi108_3; have HC108_3 := Aside0.mk hl108_3; clear hi108_3 hl108_3; replace p108 := eq_true p108; replace q108 := eq_true q108) | (go_at_call 34; (with_reducible refine (unicodetextref50_sets.calls kj1 _ _ ((rd_T34 l0 x3_1).f2) false _ ?side1 ?side2 A11.out).mono ?_); (case side1 => repeat (first | exact (Kd.C_below HR108_2.out HB.out) | (with_reducible refine Kd.C_alloc ?_ _) | (with_reducible refine Kd.C_drewN ?_ _) | (with_reducible refine Kd.C_drew ?_))); (case side2 => exact HC108_2.out); rintro e w22 ⟨rfl, hb⟩; have n0_ := Aside0.mk (below_step (by repeat (first | (with_reducible first | exact HB.out | apply below_alloc | apply pw_below_drewN | apply below_drew1) | exact HB.out)) hb); clear HB; have HB := n0_; clear n0_; (try clear hb); (try clear hb2); (try clear hk); (try clear hi)))
                      go_ret
                      exact ⟨by first | rfl | (simp [errW_none, errW_some] <;> rfl) | (simp [*, errW_none, errW_some] <;> rfl), by repeat (first | (with_reducible first | exact HB.out | apply below_alloc | apply pw_below_drewN | apply below_drew1) | exact HB.out)⟩
                  · replace c10 := Bool.eq_false_iff.mpr c10
                    subst c10
                    have H1 : (some false) = some r := by rw [if_neg (show ¬ (false = true) by decide)] at H; exact H
                    clear H
                    have H := H1
                    clear H1
                    obtain rfl := Option.some.inj H
                    have p104 : 0 ≤ (x3_1 : Int) := of_decide_eq_true (by first | (with_reducible assumption) | assumption)
                    have q104 : x3_1 < (l0.length : Int) := of_decide_eq_true (by first | (with_reducible assumption) | assumption)
                    obtain ⟨ad104, A104_0, c104_0, A104_1, c104_1, A104_2, c104_2, A104_3, c104_3, e104, hx104_0, hx104_1, hx104_2, hx104_3, hl104_0, hi104_0, hl104_1, hi104_1, hl104_2, hi104_2, hl104_3, hi104_3⟩ := at_T34 HR0.out x3_1 p104 q104
                    cases e104
                    replace hx104_0 := (HB.out.cell (World.block_lt_of_cell? w _ hx104_0)).trans hx104_0
                    replace hx104_1 := (HB.out.cell (World.block_lt_of_cell? w _ hx104_1)).trans hx104_1
                    replace hx104_2 := (HB.out.cell (World.block_lt_of_cell? w _ hx104_2)).trans hx104_2
                    replace hx104_3 := (HB.out.cell (World.block_lt_of_cell? w _ hx104_3)).trans hx104_3
                    have HR104_0 := Aside0.mk hi104_0
                    have HC104_0 := Aside0.mk hl104_0
                    clear hi104_0 hl104_0
                    have HR104_1 := Aside0.mk hi104_1
                    have HC104_1 := Aside0.mk hl104_1
                    clear hi104_1 hl104_1
                    have HR104_2 := Aside0.mk hi104_2
                    have HC104_2 := Aside0.mk hl104_2
                    clear hi104_2 hl104_2
                    have HR104_3 := Aside0.mk hi104_3
                    have HC104_3 := Aside0.mk hl104_3
                    clear hi104_3 hl104_3
                    replace p104 := eq_true p104
                    replace q104 := eq_true q104
                    go_wp2_with (first | ((with_reducible refine gate_callee (f := 34) rfl ?_); refine goesL_ (some 19) rfl rfl Try.func34 (by kernel_rfl) rfl #[.slice A104_0 ((rd_T34 l0 x3_1).f0).length c104_0] rfl (by (try simp only [List.map_toArray, List.map_cons, List.map_nil]); first | done | rfl | (simp only [List.length_drop, List.length_take]; rfl)) ?_; (with_reducible refine (unicodetextref50_sets.calls kj1 _ _ ((rd_T34 l0 x3_1).f0) true _ ?side1 ?side2 A7.out).mono ?_); (case side1 => repeat (first | exact (Kd.C_below HR104_0.out HB.out) | (with_reducible refine Kd.C_alloc ?_ _) | (with_reducible refine Kd.C_drewN ?_ _) | (with_reducible refine Kd.C_drew ?_))); (case side2 => exact HC104_0.out); rintro e w23 ⟨rfl, hb⟩; refine ⟨_, rfl, ?_⟩; have n0_ := Aside0.mk (below_step (by repeat (first | (with_reducible first | exact HB.out | apply below_alloc | apply pw_below_drewN | apply below_drew1) | exact HB.out)) hb); clear HB; have HB := n0_; clear n0_; (try clear hb); (try clear hb2); (try clear hk); (try clear hi); have p106 : 0 ≤ (x3_1 : Int) := of_decide_eq_true (by first | (with_reducible assumption) | assumption); have q106 : x3_1 < (l0.length : Int) := of_decide_eq_true (by first | (with_reducible assumption) | assumption); obtain ⟨ad106, A106_0, c106_0, A106_1, c106_1, A106_2, c106_2, A106_3, c106_3, e106, hx106_0, hx106_1, hx106_2, hx106_3, hl106_0, hi106_0, hl106_1, hi106_1, hl106_2, hi106_2, hl106_3, hi106_3⟩ := at_T34 HR0.out x3_1 p106 q106; obtain rfl : ad104 = ad106 := (by injection e106); replace hx106_0 := (HB.out.cell (World.block_lt_of_cell? w _ hx106_0)).trans hx106_0; replace hx106_1 := (HB.out.cell (World.block_lt_of_cell? w _ hx106_1)).trans hx106_1; replace hx106_2 := (HB.out.cell (World.block_lt_of_cell? w _ hx106_2)).trans hx106_2; replace hx106_3 := (HB.out.cell (World.block_lt_of_cell? w _ hx106_3)).trans hx106_3; have HR106_0 := Aside0.mk hi106_0; have HC106_0 := Aside0.mk hl106_0; clear hi106_0 hl106_0; have HR106_1 := Aside0.mk hi106_1; have HC106_1 := Aside0.mk hl106_1; clear hi106_1 hl106_1; have HR106_2 := Aside0.mk hi106_2; have HC106_2 := Aside0.mk hl106_2; clear hi106_2 hl106_2; have HR106_3 := Aside0.mk hi106_3; have HC106_3 := Aside0.mk hl106_3; clear hi106_3 hl106_3; replace p106 := eq_true p106; replace q106 := eq_true q106) | (go_at_call 34; (with_reducible refine (unicodetextref50_sets.calls kj1 _ _ ((rd_T34 l0 x3_1).f1) false _ ?side1 ?side2 A9.out).mono ?_); (case side1 => repeat (first | exact (Kd.C_below HR106_1.out HB.out) | (with_reducible refine Kd.C_alloc ?_ _) | (with_reducible refine Kd.C_drewN ?_ _) | (with_reducible refine Kd.C_drew ?_))); (case side2 => exact HC106_1.out); rintro e w24 ⟨rfl, hb⟩; have n0_ := Aside0.mk (below_step (by repeat (first | (with_reducible first | exact HB.out | apply below_alloc | apply pw_below_drewN | apply below_drew1) | exact HB.out)) hb); clear HB; have HB := n0_; clear n0_; (try clear hb); (try clear hb2); (try clear hk); (try clear hi)))
                    go_ret
                    exact ⟨by first | rfl | (simp [errW_none, errW_some] <;> rfl) | (simp [*, errW_none, errW_some] <;> rfl), by repeat (first | (with_reducible first | exact HB.out | apply below_alloc | apply pw_below_drewN | apply below_drew1) | exact HB.out)⟩
                · replace c8 := Bool.eq_false_iff.mpr c8
                  subst c8
                  have H1 : (some false) = some r := by rw [if_neg (show ¬ (false = true) by decide)] at H; exact H
                  clear H
                  have H := H1
                  clear H1
                  obtain rfl := Option.some.inj H
                  have p104 : 0 ≤ (x3_1 : Int) := of_decide_eq_true (by first | (with_reducible assumption) | assumption)
                  have q104 : x3_1 < (l0.length : Int) := of_decide_eq_true (by first | (with_reducible assumption) | assumption)
                  obtain ⟨ad104, A104_0, c104_0, A104_1, c104_1, A104_2, c104_2, A104_3, c104_3, e104, hx104_0, hx104_1, hx104_2, hx104_3, hl104_0, hi104_0, hl104_1, hi104_1, hl104_2, hi104_2, hl104_3, hi104_3⟩ := at_T34 HR0.out x3_1 p104 q104
                  cases e104
                  replace hx104_0 := (HB.out.cell (World.block_lt_of_cell? w _ hx104_0)).trans hx104_0
                  replace hx104_1 := (HB.out.cell (World.block_lt_of_cell? w _ hx104_1)).trans hx104_1
                  replace hx104_2 := (HB.out.cell (World.block_lt_of_cell? w _ hx104_2)).trans hx104_2
                  replace hx104_3 := (HB.out.cell (World.block_lt_of_cell? w _ hx104_3)).trans hx104_3
                  have HR104_0 := Aside0.mk hi104_0
                  have HC104_0 := Aside0.mk hl104_0
                  clear hi104_0 hl104_0
                  have HR104_1 := Aside0.mk hi104_1
                  have HC104_1 := Aside0.mk hl104_1
                  clear hi104_1 hl104_1
                  have HR104_2 := Aside0.mk hi104_2
                  have HC104_2 := Aside0.mk hl104_2
                  clear hi104_2 hl104_2
                  have HR104_3 := Aside0.mk hi104_3
                  have HC104_3 := Aside0.mk hl104_3
                  clear hi104_3 hl104_3
                  replace p104 := eq_true p104
                  replace q104 := eq_true q104
                  go_wp2_with (first | ((with_reducible refine gate_callee (f := 34) rfl ?_); refine goesL_ (some 19) rfl rfl Try.func34 (by kernel_rfl) rfl #[.slice A104_0 ((rd_T34 l0 x3_1).f0).length c104_0] rfl (by (try simp only [List.map_toArray, List.map_cons, List.map_nil]); first | done | rfl | (simp only [List.length_drop, List.length_take]; rfl)) ?_; (with_reducible refine (unicodetextref50_sets.calls kj1 _ _ ((rd_T34 l0 x3_1).f0) false _ ?side1 ?side2 A7.out).mono ?_); (case side1 => repeat (first | exact (Kd.C_below HR104_0.out HB.out) | (with_reducible refine Kd.C_alloc ?_ _) | (with_reducible refine Kd.C_drewN ?_ _) | (with_reducible refine Kd.C_drew ?_))); (case side2 => exact HC104_0.out); rintro e w25 ⟨rfl, hb⟩; refine ⟨_, rfl, ?_⟩; have n0_ := Aside0.mk (below_step (by repeat (first | (with_reducible first | exact HB.out | apply below_alloc | apply pw_below_drewN | apply below_drew1) | exact HB.out)) hb); clear HB; have HB := n0_; clear n0_; (try clear hb); (try clear hb2); (try clear hk); (try clear hi)))
                  go_ret
                  exact ⟨by first | rfl | (simp [errW_none, errW_some] <;> rfl) | (simp [*, errW_none, errW_some] <;> rfl), by repeat (first | (with_reducible first | exact HB.out | apply below_alloc | apply pw_below_drewN | apply below_drew1) | exact HB.out)⟩
              · rw [if_neg c6] at H
                exact absurd H (by simp)
            · rw [if_neg c5] at H
              exact absurd H (by simp)
          · replace c4 := Bool.eq_false_iff.mpr c4
            subst c4
            have H1 : (some (decide ((l0.length : Int) ≤ 6))) = some r := by rw [if_neg (show ¬ (false = true) by decide)] at H; exact H
            clear H
            have H := H1
            clear H1
            obtain rfl := Option.some.inj H
            go_wp2
            go_ret
            exact ⟨by first | rfl | (simp [errW_none, errW_some] <;> rfl) | (simp [*, errW_none, errW_some] <;> rfl), by repeat (first | (with_reducible first | exact HB.out | apply below_alloc | apply pw_below_drewN | apply below_drew1) | exact HB.out)⟩
def unicodetextlaw51_few.f (k : Nat) (l0 : List (S34)) (l1 : List Int) : Option (Bool) := (unicodetextref50_Small.f k l0).bind fun t111 => (if t111 = true then (some (decide ((l1.length : Int) ≤ 40))) else (some false))
set_option maxHeartbeats 8000000 in
set_option maxRecDepth 100000 in
theorem unicodetextlaw51_few.calls (k : Nat) (A0 : Option Addr) (c0 : Nat) (l0 : List (S34)) (A1 : Option Addr) (c1 : Nat) (l1 : List Int) (r : Bool) (w : World) (hr0 : Kd.C k34 w A0 l0.length l0) (hc0 : l0.length ≤ c0) (hr1 : Kd.C (Kd.int .i64) w A1 l1.length l1) (hc1 : l1.length ≤ c1) (h : unicodetextlaw51_few.f k l0 l1 = some r) :
    Calls Try.prog 11 #[.slice A0 l0.length c0, .slice A1 l1.length c1] w fun e w' => e = .returned (.bool r) ∧ Below w.heap.size w w' := by
  have HR0 := Aside0.mk hr0
  have HC0 := Aside0.mk hc0
  clear hr0 hc0
  have HR1 := Aside0.mk hr1
  have HC1 := Aside0.mk hc1
  clear hr1 hc1
  have HB := Aside0.mk (Below.refl w.heap.size w)
  have H : ((unicodetextref50_Small.f k l0).bind fun t111 => (if t111 = true then (some (decide ((l1.length : Int) ≤ 40))) else (some false))) = some r := h
  clear h
  replace H := Option.bind_eq_some_iff.mp H
  obtain ⟨t111, A30, H⟩ := H
  replace H : (if t111 = true then (some (decide ((l1.length : Int) ≤ 40))) else (some false)) = some r := H
  have A3 := Aside0.mk A30
  clear A30
  by_cases c4 : t111 = true
  · subst c4
    have H1 : (some (decide ((l1.length : Int) ≤ 40))) = some r := by rw [if_pos rfl] at H; exact H
    clear H
    have H := H1
    clear H1
    obtain rfl := Option.some.inj H
    go_enter Try.func11, Try.ntmps11
    go_wp2_with (first | ((with_reducible refine gate_callee (f := 19) rfl ?_); refine goesL_ (some 6) rfl rfl Try.func19 (by kernel_rfl) rfl #[.slice A0 l0.length c0] rfl (by (try simp only [List.map_toArray, List.map_cons, List.map_nil]); first | done | rfl | (simp only [List.length_drop, List.length_take]; rfl)) ?_; (with_reducible refine (unicodetextref50_Small.calls k _ _ l0 true _ ?side1 ?side2 A3.out).mono ?_); (case side1 => repeat (first | exact HR0.out | (with_reducible refine Kd.C_alloc ?_ _) | (with_reducible refine Kd.C_drewN ?_ _) | (with_reducible refine Kd.C_drew ?_))); (case side2 => exact HC0.out); rintro e w5 ⟨rfl, hb⟩; refine ⟨_, rfl, ?_⟩; have n0_ := Aside0.mk (below_step (by repeat (first | (with_reducible first | exact HB.out | apply below_alloc | apply pw_below_drewN | apply below_drew1) | exact HB.out)) hb); clear HB; have HB := n0_; clear n0_; (try clear hb); (try clear hb2); (try clear hk); (try clear hi)))
    go_ret
    exact ⟨by first | rfl | (simp [errW_none, errW_some] <;> rfl) | (simp [*, errW_none, errW_some] <;> rfl), by repeat (first | (with_reducible first | exact HB.out | apply below_alloc | apply pw_below_drewN | apply below_drew1) | exact HB.out)⟩
  · replace c4 := Bool.eq_false_iff.mpr c4
    subst c4
    have H1 : (some false) = some r := by rw [if_neg (show ¬ (false = true) by decide)] at H; exact H
    clear H
    have H := H1
    clear H1
    obtain rfl := Option.some.inj H
    go_enter Try.func11, Try.ntmps11
    go_wp2_with (first | ((with_reducible refine gate_callee (f := 19) rfl ?_); refine goesL_ (some 6) rfl rfl Try.func19 (by kernel_rfl) rfl #[.slice A0 l0.length c0] rfl (by (try simp only [List.map_toArray, List.map_cons, List.map_nil]); first | done | rfl | (simp only [List.length_drop, List.length_take]; rfl)) ?_; (with_reducible refine (unicodetextref50_Small.calls k _ _ l0 false _ ?side1 ?side2 A3.out).mono ?_); (case side1 => repeat (first | exact HR0.out | (with_reducible refine Kd.C_alloc ?_ _) | (with_reducible refine Kd.C_drewN ?_ _) | (with_reducible refine Kd.C_drew ?_))); (case side2 => exact HC0.out); rintro e w6 ⟨rfl, hb⟩; refine ⟨_, rfl, ?_⟩; have n0_ := Aside0.mk (below_step (by repeat (first | (with_reducible first | exact HB.out | apply below_alloc | apply pw_below_drewN | apply below_drew1) | exact HB.out)) hb); clear HB; have HB := n0_; clear n0_; (try clear hb); (try clear hb2); (try clear hk); (try clear hi)))
    go_ret
    exact ⟨by first | rfl | (simp [errW_none, errW_some] <;> rfl) | (simp [*, errW_none, errW_some] <;> rfl), by repeat (first | (with_reducible first | exact HB.out | apply below_alloc | apply pw_below_drewN | apply below_drew1) | exact HB.out)⟩
end Go.Proofs.Ytnhagghhficdpaa.Q
end
section
namespace Go.Proofs.Ytnhagghhficdpaa.Q
open Go.RowKit Go.Proofs.YtnhagghhficdpaaW.PrintWords Go.Proofs.YtnhagghhficdpaaW.PrintLast Go.Proofs.YtnhagghhficdpaaW.PrintMore
set_option linter.unusedVariables false
theorem plSets_go : ∀ (d : Nat) (rest pre : List St) (k : Nat), pre.length + d = 20 → 2 * d + 2 ≤ k →
    ∃ b, unicodetextref50_sets.l0 k (pre ++ rest) (pre.length : Int) = some b ∧ (b = true → (pre ++ rest).length ≤ 10 ∧ ∀ s ∈ rest, s.f0.length ≤ 12)
  | d, [], pre, k, h1, h2 => by
    obtain ⟨k, rfl⟩ : ∃ j, k = j + 2 := ⟨k - 2, by omega⟩
    rw [unicodetextref50_sets.l0, if_neg (by simp), unicodetextref50_sets.j1, if_neg (by decide)]
    refine ⟨_, rfl, fun h => ⟨?_, fun s hs => by cases hs⟩⟩
    have := of_decide_eq_true h
    omega
  | 0, s :: rest, pre, k, h1, h2 => by
    obtain ⟨k, rfl⟩ : ∃ j, k = j + 2 := ⟨k - 2, by omega⟩
    rw [unicodetextref50_sets.l0, if_pos (by simp; omega), decide_eq_false (by omega), unicodetextref50_sets.j1, if_neg (by decide)]
    refine ⟨_, rfl, fun h => ?_⟩
    have := of_decide_eq_true h
    simp at this
    omega
  | d + 1, s :: rest, pre, k, h1, h2 => by
    obtain ⟨k, rfl⟩ : ∃ j, k = j + 2 := ⟨k - 2, by omega⟩
    obtain ⟨b, ih, hb⟩ := plSets_go d rest (pre ++ [s]) k (by simp; omega) (by omega)
    have ex : (pre ++ [s]) ++ rest = pre ++ s :: rest := by simp
    have el : ((pre ++ [s]).length : Int) = ((pre.length + 1 : Nat) : Int) := by simp
    rw [ex, el] at ih
    rw [ex] at hb
    rw [unicodetextref50_sets.l0, if_pos (by simp; omega), decide_eq_true (by omega), unicodetextref50_sets.j1, if_pos rfl, if_pos (by omega), if_pos (by simp; omega), rdS_mid, wrap_suc (by omega : pre.length < 1000000000), ih]
    show ∃ b_, (if decide ((s.f0.length : Int) ≤ 12) = true then _ else _) = _ ∧ _
    by_cases hs : s.f0.length ≤ 12
    · rw [decide_eq_true (by omega), if_pos rfl]
      exact ⟨b, rfl, fun h => ⟨(hb h).1, fun x hx => by
        rcases List.mem_cons.1 hx with rfl | hx
        · exact hs
        · exact (hb h).2 x hx⟩⟩
    · rw [decide_eq_false (by omega), if_neg (by decide)]
      exact ⟨false, rfl, fun h => by cases h⟩
theorem plSets_ok (l : List St) (k : Nat) (hk : 42 ≤ k) : ∃ b, unicodetextref50_sets.f k l = some b ∧ (b = true → plFewS l) := plSets_go 20 l [] k rfl (by omega)
theorem plSmall_go : ∀ (d : Nat) (rest pre : List Ru) (k : Nat), pre.length + d = 10 → 2 * d + 44 ≤ k →
    ∃ b, unicodetextref50_Small.l0 k (pre ++ rest) (pre.length : Int) = some b ∧ (b = true → (pre ++ rest).length ≤ 6 ∧ ∀ s ∈ rest, plFewU s)
  | d, [], pre, k, h1, h2 => by
    obtain ⟨k, rfl⟩ : ∃ j, k = j + 2 := ⟨k - 2, by omega⟩
    rw [unicodetextref50_Small.l0, if_neg (by simp), unicodetextref50_Small.j1, if_neg (by decide)]
    refine ⟨_, rfl, fun h => ⟨?_, fun s hs => by cases hs⟩⟩
    have := of_decide_eq_true h
    omega
  | 0, s :: rest, pre, k, h1, h2 => by
    obtain ⟨k, rfl⟩ : ∃ j, k = j + 2 := ⟨k - 2, by omega⟩
    rw [unicodetextref50_Small.l0, if_pos (by simp; omega), decide_eq_false (by omega), unicodetextref50_Small.j1, if_neg (by decide)]
    refine ⟨_, rfl, fun h => ?_⟩
    have := of_decide_eq_true h
    simp at this
    omega
  | d + 1, s :: rest, pre, k, h1, h2 => by
    obtain ⟨k, rfl⟩ : ∃ j, k = j + 2 := ⟨k - 2, by omega⟩
    obtain ⟨b, ih, hb⟩ := plSmall_go d rest (pre ++ [s]) k (by simp; omega) (by omega)
    have ex : (pre ++ [s]) ++ rest = pre ++ s :: rest := by simp
    have el : ((pre ++ [s]).length : Int) = ((pre.length + 1 : Nat) : Int) := by simp
    rw [ex, el] at ih
    rw [ex] at hb
    obtain ⟨b0, e0, g0⟩ := plSets_ok s.f0 k (by omega)
    obtain ⟨b1, e1, g1⟩ := plSets_ok s.f1 k (by omega)
    obtain ⟨b2, e2, g2⟩ := plSets_ok s.f2 k (by omega)
    rw [unicodetextref50_Small.l0, if_pos (by simp; omega), decide_eq_true (by omega), unicodetextref50_Small.j1, if_pos rfl, if_pos (by omega), if_pos (by simp; omega), rdU_mid, wrap_suc (by omega : pre.length < 1000000000), ih, e0, e1, e2]
    simp only [Option.bind_some]
    cases b0 with
    | false => exact ⟨false, rfl, fun h => by cases h⟩
    | true => cases b1 with
      | false => exact ⟨false, rfl, fun h => by cases h⟩
      | true => cases b2 with
        | false => exact ⟨false, rfl, fun h => by cases h⟩
        | true =>
          simp only [if_true]
          by_cases hs : (s.f3.length : Int) > 20
          · rw [if_pos hs]
            exact ⟨false, rfl, fun h => by cases h⟩
          · rw [if_neg hs]
            exact ⟨b, rfl, fun h => ⟨(hb h).1, fun x hx => by
              rcases List.mem_cons.1 hx with rfl | hx
              · exact ⟨g0 rfl, g1 rfl, g2 rfl, by omega⟩
              · exact (hb h).2 x hx⟩⟩
theorem plSmall_ok (l : List Ru) (k : Nat) (hk : 64 ≤ k) : ∃ b, unicodetextref50_Small.f k l = some b ∧ (b = true → plFewL l) := plSmall_go 10 l [] k rfl (by omega)
theorem plFew_ok (l : List Ru) (text : List Int) (k : Nat) (hk : 64 ≤ k) : ∃ b, unicodetextlaw51_few.f k l text = some b ∧ (b = true → plFewL l ∧ text.length ≤ 40) := by
  obtain ⟨b, e, h⟩ := plSmall_ok l k hk
  unfold unicodetextlaw51_few.f
  rw [e]
  cases b with
  | false => exact ⟨false, rfl, fun h => by cases h⟩
  | true => exact ⟨_, rfl, fun h2 => ⟨h rfl, by have := of_decide_eq_true h2; omega⟩⟩
theorem plOkSets {l : List St} (h : plFewS l) : l.all okSet = true := List.all_eq_true.2 fun s hs => decide_eq_true (h.2 s hs)
theorem plOkRules {l : List Ru} (h : plFewL l) : okRules l = true := by
  unfold okRules
  rw [Bool.and_eq_true, decide_eq_true_eq, List.all_eq_true]
  refine ⟨by have := h.1; omega, fun x hx => ?_⟩
  obtain ⟨h0, h1, h2, h3⟩ := h.2 x hx
  unfold okRule
  rw [plOkSets h0, plOkSets h1, plOkSets h2, decide_eq_true (by have := h0.1; omega), decide_eq_true (by have := h1.1; omega), decide_eq_true (by have := h2.1; omega), decide_eq_true (by omega)]
  rfl
theorem plCmp_go : ∀ (xs ys px py : List Int) (k : Nat), px.length = py.length → (px ++ xs).length < 1000000000 → 2 * xs.length + 2 ≤ k →
    ∃ c, unicodetextref01_Compare.l0 k (px ++ xs) (py ++ ys) (px.length : Int) = some c ∧ (c = 0 ↔ xs = ys)
  | [], [], px, py, k, h1, h2, h3 => by
    obtain ⟨k, rfl⟩ : ∃ j, k = j + 2 := ⟨k - 2, by omega⟩
    rw [unicodetextref01_Compare.l0, if_neg (by simp), unicodetextref01_Compare.j1, if_neg (by decide), if_neg (by simp [h1]), if_neg (by simp [h1])]
    exact ⟨0, rfl, by simp⟩
  | [], y :: ys, px, py, k, h1, h2, h3 => by
    obtain ⟨k, rfl⟩ : ∃ j, k = j + 2 := ⟨k - 2, by omega⟩
    rw [unicodetextref01_Compare.l0, if_neg (by simp), unicodetextref01_Compare.j1, if_neg (by decide), if_pos (by simp [h1]; omega)]
    exact ⟨-1, rfl, by simp⟩
  | x :: xs, [], px, py, k, h1, h2, h3 => by
    obtain ⟨k, rfl⟩ : ∃ j, k = j + 2 := ⟨k - 2, by omega⟩
    rw [unicodetextref01_Compare.l0, if_pos (by simp; omega), decide_eq_false (by simp [h1]), unicodetextref01_Compare.j1, if_neg (by decide), if_neg (by simp [h1]; omega), if_pos (by simp [h1]; omega)]
    exact ⟨1, rfl, by simp⟩
  | x :: xs, y :: ys, px, py, k, h1, h2, h3 => by
    obtain ⟨k, rfl⟩ : ∃ j, k = j + 2 := ⟨k - 2, by omega⟩
    have hp : px.length < 1000000000 := by simp at h2; omega
    obtain ⟨c, ih, hc⟩ := plCmp_go xs ys (px ++ [x]) (py ++ [y]) k (by simp [h1]) (by simpa using h2) (by simp at h3; omega)
    have ex : (px ++ [x]) ++ xs = px ++ x :: xs := by simp
    have ey : (py ++ [y]) ++ ys = py ++ y :: ys := by simp
    have el : ((px ++ [x]).length : Int) = ((px.length + 1 : Nat) : Int) := by simp
    rw [ex, ey, el] at ih
    have e1 : rd (py ++ y :: ys) (px.length : Int) = y := by rw [h1]; exact rd_mid _ _ _
    rw [unicodetextref01_Compare.l0, if_pos (by simp; omega), decide_eq_true (by simp [h1]; omega), unicodetextref01_Compare.j1, if_pos rfl, if_pos (by omega), if_pos (by simp; omega), if_pos (by simp [h1]; omega), rd_mid, e1, wrap_suc hp, ih]
    by_cases a : x < y
    · rw [if_pos a]
      exact ⟨-1, rfl, ⟨fun h => absurd h (by decide), fun h => by injection h with h; omega⟩⟩
    · rw [if_neg a]
      by_cases b : x > y
      · rw [if_pos b]
        exact ⟨1, rfl, ⟨fun h => absurd h (by decide), fun h => by injection h with h; omega⟩⟩
      · rw [if_neg b]
        obtain rfl : x = y := by omega
        exact ⟨c, rfl, by rw [hc]; simp⟩
theorem plEqual_ok (a b : List Int) (k : Nat) (h : a.length < 1000000000) (hk : 2 * a.length + 2 ≤ k) : unicodetextref01_Equal.f k a b = some (decide (a = b)) := by
  obtain ⟨c, e, hc⟩ := plCmp_go a b [] [] k rfl (by simpa using h) hk
  unfold unicodetextref01_Equal.f unicodetextref01_Compare.f
  refine (congrArg (fun o => Option.bind o _) e).trans ?_
  show some (c == 0) = _
  congr 1
  rw [Bool.eq_iff_iff]
  simp [hc]
def plRules : List Ru := [⟨[], [⟨[⟨97, 97⟩]⟩, ⟨[⟨98, 98⟩]⟩], [], [⟨120, 0⟩]⟩, ⟨[], [⟨[⟨97, 97⟩]⟩], [], [⟨121, 0⟩]⟩]
theorem plAlive_step : transduce_Step.f plRules [97, 97, 98] 1 = some (0, 2) := by kernel_rfl
theorem plAlive_apply : transduce_Apply.f plRules [97, 97, 98] = some [121, 120] := by kernel_rfl
theorem plAlive_ok (k : Nat) (hk : 20 ≤ k) : unicodetextlaw51_alive.f k = some true := by
  obtain ⟨k, rfl⟩ : ∃ j, k = j + 20 := ⟨k - 20, by omega⟩
  show (transduce_Step.f plRules [97, 97, 98] 1).bind (fun bt166 => (transduce_Apply.f plRules [97, 97, 98]).bind fun t171 => (unicodetextref01_Equal.f (k + 20) t171 [121, 120]).bind fun t177 => if t177 = true then (if bt166.1 = 0 then (some (bt166.2 == 2)) else (some false)) else (some false)) = some true
  rw [plAlive_step, plAlive_apply]
  simp only [Option.bind_some]
  rw [plEqual_ok _ _ _ (by decide) (by simp)]
  rfl
end Go.Proofs.Ytnhagghhficdpaa.Q
end
section
namespace Go.Proofs.Ytnhagghhficdpaa.Q
open Go.RowKit Go.Proofs.YtnhagghhficdpaaW.PrintWords Go.Proofs.YtnhagghhficdpaaW.PrintLast Go.Proofs.YtnhagghhficdpaaW.PrintMore
attribute [local go_sem] max2_int min2_int max_two min_two max_three min_three max_four min_four   -- for this text's walks alone
set_option linter.unusedVariables false
set_option linter.unusedSimpArgs false
def unicodetextlaw51_TransduceSteps.f (k : Nat) (l0 : List (S34)) (l1 : List Int) (a2 : Int) : Option (Bool) := (unicodetextlaw51_few.f k l0 l1).bind fun t242 => (if t242 = true then ((transduce_Step.f l0 l1 a2).bind fun bt243 => ((unicodetextref51_Step.f k l0 l1 a2).bind fun bt245 => (if bt243.1 = bt245.1 then (if bt243.2 = bt245.2 then ((unicodetextlaw51_alive.f k).bind fun t247 => (some t247)) else (some false)) else (some false)))) else ((unicodetextlaw51_alive.f k).bind fun t248 => (some t248)))
end Go.Proofs.Ytnhagghhficdpaa.Q
end
section
namespace Go.Proofs.Ytnhagghhficdpaa.Q
open Go.RowKit Go.Proofs.YtnhagghhficdpaaW.PrintWords Go.Proofs.YtnhagghhficdpaaW.PrintLast Go.Proofs.YtnhagghhficdpaaW.PrintMore
set_option linter.unusedVariables false
theorem plOkText {l : List Int} (h : wfT l) (hl : l.length < 100000000) : okText l = true := by
  unfold okText
  rw [Bool.and_eq_true, decide_eq_true_eq, List.all_eq_true]
  exact ⟨hl, h.2⟩
end Go.Proofs.Ytnhagghhficdpaa.Q
end
section
namespace Go.Proofs.Ytnhagghhficdpaa.Q
open Go.RowKit Go.Proofs.YtnhagghhficdpaaW.PrintWords Go.Proofs.YtnhagghhficdpaaW.PrintLast Go.Proofs.YtnhagghhficdpaaW.PrintMore
attribute [local go_sem] max2_int min2_int max_two min_two max_three min_three max_four min_four   -- for this text's walks alone
set_option linter.unusedVariables false
set_option linter.unusedSimpArgs false
def unicodetextref51_Written.l0 : Nat → List (S34) → List Int → Int → Int → List Int → Int → Option (List Int)
  | 0, _, _, _, _, _, _ => none
  | k + 1, x0, x1, x2, x3, x9, x10 => if 0 ≤ x3 then (if x3 < (x0.length : Int) then (if x10 < (((rd_T34 x0 x3).f3).length : Int) then (if 0 ≤ x10 then (if ((rd_T51 ((rd_T34 x0 x3).f3) x10).f1) > 0 then (if 0 ≤ (wrap64 ((wrap64 (x2 + ((rd_T51 ((rd_T34 x0 x3).f3) x10).f1))) - 1)) then (if (wrap64 ((wrap64 (x2 + ((rd_T51 ((rd_T34 x0 x3).f3) x10).f1))) - 1)) < (x1.length : Int) then (if x9.length < 17592186044416 then (unicodetextref51_Written.l0 k x0 x1 x2 x3 (x9 ++ [rd x1 (wrap64 ((wrap64 (x2 + ((rd_T51 ((rd_T34 x0 x3).f3) x10).f1))) - 1))]) (wrap64 (x10 + 1))) else (none)) else (none)) else (none)) else (if x9.length < 17592186044416 then (unicodetextref51_Written.l0 k x0 x1 x2 x3 (x9 ++ [(rd_T51 ((rd_T34 x0 x3).f3) x10).f0]) (wrap64 (x10 + 1))) else (none))) else (none)) else (some x9)) else (none)) else (none)
def unicodetextref51_Written.f (k : Nat) (l0 : List (S34)) (l1 : List Int) (a2 : Int) (a3 : Int) : Option (List Int) := if a3 < 0 then (if 0 ≤ a2 then (if a2 < (l1.length : Int) then (some (([rd l1 a2] : List Int))) else (none)) else (none)) else (unicodetextref51_Written.l0 k l0 l1 a2 a3 ([] : List Int) 0)
set_option maxHeartbeats 8000000 in
set_option maxRecDepth 100000 in
theorem unicodetextref51_Written.calls (k : Nat) (A0 : Option Addr) (c0 : Nat) (l0 : List (S34)) (A1 : Option Addr) (c1 : Nat) (l1 : List Int) (a2 : Int) (a3 : Int) (r : List Int) (w : World) (hr0 : Kd.C k34 w A0 l0.length l0) (hc0 : l0.length ≤ c0) (hr1 : Kd.C (Kd.int .i64) w A1 l1.length l1) (hc1 : l1.length ≤ c1) (h : unicodetextref51_Written.f k l0 l1 a2 a3 = some r) :
    Calls Try.prog 25 #[.slice A0 l0.length c0, .slice A1 l1.length c1, .int .i64 a2, .int .i64 a3] w fun e w' => ∃ v0_ : Value, e = .returned (v0_) ∧ Kd.R (Kd.int .i64) 3 w' w.heap.size (fun _ => True) v0_ r ∧ Below w.heap.size w w' := by
  have hu51 := Try.underlying51
  have HR0 := Aside0.mk hr0
  have HC0 := Aside0.mk hc0
  clear hr0 hc0
  have HR1 := Aside0.mk hr1
  have HC1 := Aside0.mk hc1
  clear hr1 hc1
  have HB := Aside0.mk (Below.refl w.heap.size w)
  have H : (if a3 < 0 then (if 0 ≤ a2 then (if a2 < (l1.length : Int) then (some (([rd l1 a2] : List Int))) else (none)) else (none)) else (unicodetextref51_Written.l0 k l0 l1 a2 a3 ([] : List Int) 0)) = some r := h
  clear h
  by_cases c5 : a3 < 0
  · rw [if_pos c5] at H
    have c5b0 : decide (a3 < 0) = true := decide_eq_true c5
    clear c5
    by_cases c6 : 0 ≤ a2
    · rw [if_pos c6] at H
      have c6b0 : decide (0 ≤ a2) = true := decide_eq_true c6
      clear c6
      by_cases c7 : a2 < (l1.length : Int)
      · rw [if_pos c7] at H
        have c7b0 : decide (a2 < (l1.length : Int)) = true := decide_eq_true c7
        clear c7
        obtain ⟨y250, hy250⟩ : ∃ y_ : List Int, y_ = (([rd l1 a2] : List Int)) := ⟨_, rfl⟩
        replace H : (some y250) = some r := by first | (rw [hy250]; with_reducible exact H) | (have H2_ := (Option.bind_some _ _).symm.trans H; rw [hy250]; with_reducible exact H2_) | (have H2_ := (Option.bind_some _ _).symm.trans H; with_reducible exact H2_) | with_reducible exact H | (rw [hy250]; exact H) | exact H
        have Ny250 := Aside0.mk hy250
        clear hy250
        obtain rfl := Option.some.inj H
        have p249 : 0 ≤ (a2 : Int) := of_decide_eq_true (by first | (with_reducible assumption) | assumption)
        have q249 : a2 < (l1.length : Int) := of_decide_eq_true (by first | (with_reducible assumption) | assumption)
        obtain ⟨ad249, e249, hx249_0⟩ := Kd.at_int HR1.out a2 p249 q249
        cases e249
        replace p249 := eq_true p249
        replace q249 := eq_true q249
        go_enter Try.func25, Try.ntmps25
        go_wp2_with (first | ((with_reducible refine gate_dst (N := 18) rfl ?_); refine Kd.R_lit (Kd.int .i64) _ 3 ?hg (N := 18) ?hd (xs := ([rd l1 a2] : List Int)) (inner := [.int .i64 (rd l1 a2)]) (ok := fun _ => True) (okp := fun _ => True) ?hr ?hp (fun _ hk => hk) trivial (Below.refl _ _) (Nat.le_refl _) (by simp) ?_; (case hd => rfl); (case hg => rfl); (case hr => first | (go_simp; done) | (go_simp; rfl)); (case hp => exact (Reps.one (show Kd.M (Kd.int .i64) _ _ _ (rd l1 a2) [.int .i64 (rd l1 a2)] from rfl) (Reps.none _ _))); intro v251 w8 ho9 hb hg_ hnew_; clear hg_ hnew_; (first | rw [← Ny250.out] at ho9 | (simp only [Int.reduceToNat] at ho9; rw [← Ny250.out] at ho9)); have n0_ := Aside0.mk (Kd.R_lower ho9 (below_size (by repeat (first | (with_reducible first | exact HB.out | apply below_alloc | apply pw_below_drewN | apply below_drew1) | exact HB.out)))); have n1_ := Aside0.mk (below_step (by repeat (first | (with_reducible first | exact HB.out | apply below_alloc | apply pw_below_drewN | apply below_drew1) | exact HB.out)) hb); clear HB; have HO252 := n0_; have HB := n1_; clear n0_ n1_; clear hb ho9))
        go_ret
        exact ⟨_, by first | rfl | (simp [errW_none, errW_some] <;> rfl) | (simp [*, errW_none, errW_some] <;> rfl), by (with_reducible repeat (first | apply Kd.R_alloc | apply Kd.R_drewN | apply Kd.R_drew)); exact HO252.out, by repeat (first | (with_reducible first | exact HB.out | apply below_alloc | apply pw_below_drewN | apply below_drew1) | exact HB.out)⟩
      · rw [if_neg c7] at H
        exact absurd H (by simp)
    · rw [if_neg c6] at H
      exact absurd H (by simp)
  · rw [if_neg c5] at H
    have c5b0 : decide (a3 < 0) = false := decide_eq_false c5
    clear c5
    have H' := Aside0.mk H
    clear H
    go_enter Try.func25, Try.ntmps25
    go_wp2
    go_loopg [9, 10] k (fun kq v9 v10 w' => ∃ (x9_1 : List Int) (x10_1 : Int), v10 = .int .i64 x10_1 ∧ Aside0 (unicodetextref51_Written.l0 kq l0 l1 a2 a3 x9_1 x10_1 = some r) ∧ Aside0 (kq ≤ k) ∧ Aside0 (Kd.R (Kd.int .i64) 3 w' w.heap.size (fun _ => True) v9 x9_1) ∧ Aside0 (Below w.heap.size w w'))
    case atStart => exact ⟨(([] : List Int)), (0), (by first | rfl | (simp; done) | (simp [*]; done)), H', ⟨Nat.le_refl _⟩, ⟨by first | exact Kd.R_nil _ _ _ _ _ | exact Kd.N_nil _ _ _ _ _ | exact Kd.V_nil _ _ _ _ _ | exact Kd.Q_nil _ _ _ _ _ | exact Kd.S_nil _ _ _ _ _⟩, ⟨by repeat (first | (with_reducible first | exact HB.out | apply below_alloc | apply pw_below_drewN | apply below_drew1) | exact HB.out)⟩⟩
    case round =>
      clear H'
      try clear c1
      try clear c2
      try clear p2
      try clear q2
      try clear hx2
      try clear c5
      try clear c5b0
      try clear c6
      try clear c6b0
      try clear c7
      try clear c7b0
      try clear hx249_0
      try clear p249
      try clear q249
      obtain ⟨x9_1, x10_1, rfl, HA, HK1, HO_9, HB⟩ := hrel
      cases gk with
      | zero => exact absurd HA.out (by simp [unicodetextref51_Written.l0])
      | succ k1 =>
        have H := HA.out
        clear HA
        simp only [unicodetextref51_Written.l0] at H
        by_cases c10 : 0 ≤ a3
        · rw [if_pos c10] at H
          have c10b0 : decide (0 ≤ a3) = true := decide_eq_true c10
          clear c10
          by_cases c11 : a3 < (l0.length : Int)
          · rw [if_pos c11] at H
            have c11b0 : decide (a3 < (l0.length : Int)) = true := decide_eq_true c11
            clear c11
            by_cases c12 : x10_1 < (((rd_T34 l0 a3).f3).length : Int)
            · rw [if_pos c12] at H
              have c12b0 : decide (x10_1 < (((rd_T34 l0 a3).f3).length : Int)) = true := decide_eq_true c12
              clear c12
              by_cases c13 : 0 ≤ x10_1
              · rw [if_pos c13] at H
                have c13b0 : decide (0 ≤ x10_1) = true := decide_eq_true c13
                clear c13
                by_cases c14 : ((rd_T51 ((rd_T34 l0 a3).f3) x10_1).f1) > 0
                · rw [if_pos c14] at H
                  have c14b0 : decide (0 < ((rd_T51 ((rd_T34 l0 a3).f3) x10_1).f1)) = true := decide_eq_true c14
                  clear c14
                  obtain ⟨ji15, hji15⟩ : ∃ j_ : Int, (wrap64 ((wrap64 (a2 + ((rd_T51 ((rd_T34 l0 a3).f3) x10_1).f1))) - 1)) = j_ := ⟨_, rfl⟩
                  replace H : (if 0 ≤ (ji15) then (if (ji15) < (l1.length : Int) then (if x9_1.length < 17592186044416 then (unicodetextref51_Written.l0 k1 l0 l1 a2 a3 (x9_1 ++ [rd l1 (ji15)]) (wrap64 (x10_1 + 1))) else (none)) else (none)) else (none)) = some r := by first | (rw [hji15] at H; exact H) | (simp only [hji15] at H ⊢; exact H)
                  have hji15w : (IntKind.i64.wrap ((wrap64 (a2 + ((rd_T51 ((rd_T34 l0 a3).f3) x10_1).f1))) - 1)) = ji15 := (i64_w _).trans hji15
                  by_cases c16 : 0 ≤ (ji15)
                  · rw [if_pos c16] at H
                    have c16b0 : decide (0 ≤ (ji15)) = true := decide_eq_true c16
                    clear c16
                    by_cases c17 : (ji15) < (l1.length : Int)
                    · rw [if_pos c17] at H
                      have c17b0 : decide ((ji15) < (l1.length : Int)) = true := decide_eq_true c17
                      clear c17
                      by_cases c18 : x9_1.length < 17592186044416
                      · rw [if_pos c18] at H
                        have LMc18 := Aside0.mk c18
                        clear c18
                        obtain ⟨y258, hy258⟩ : ∃ y_ : List Int, y_ = (x9_1 ++ [rd l1 (ji15)]) := ⟨_, rfl⟩
                        replace H : (unicodetextref51_Written.l0 k1 l0 l1 a2 a3 y258 (wrap64 (x10_1 + 1))) = some r := by first | (rw [hy258]; with_reducible exact H) | (have H2_ := (Option.bind_some _ _).symm.trans H; rw [hy258]; with_reducible exact H2_) | (have H2_ := (Option.bind_some _ _).symm.trans H; with_reducible exact H2_) | with_reducible exact H | (rw [hy258]; exact H) | exact H
                        have Ny258 := Aside0.mk hy258
                        clear hy258
                        have H' := Aside0.mk H
                        clear H
                        have p253 : 0 ≤ (a3 : Int) := of_decide_eq_true (by first | (with_reducible assumption) | assumption)
                        have q253 : a3 < (l0.length : Int) := of_decide_eq_true (by first | (with_reducible assumption) | assumption)
                        obtain ⟨ad253, A253_0, c253_0, A253_1, c253_1, A253_2, c253_2, A253_3, c253_3, e253, hx253_0, hx253_1, hx253_2, hx253_3, hl253_0, hi253_0, hl253_1, hi253_1, hl253_2, hi253_2, hl253_3, hi253_3⟩ := at_T34 HR0.out a3 p253 q253
                        cases e253
                        replace hx253_0 := (HB.out.cell (World.block_lt_of_cell? w _ hx253_0)).trans hx253_0
                        replace hx253_1 := (HB.out.cell (World.block_lt_of_cell? w _ hx253_1)).trans hx253_1
                        replace hx253_2 := (HB.out.cell (World.block_lt_of_cell? w _ hx253_2)).trans hx253_2
                        replace hx253_3 := (HB.out.cell (World.block_lt_of_cell? w _ hx253_3)).trans hx253_3
                        have HR253_0 := Aside0.mk hi253_0
                        have HC253_0 := Aside0.mk hl253_0
                        clear hi253_0 hl253_0
                        have HR253_1 := Aside0.mk hi253_1
                        have HC253_1 := Aside0.mk hl253_1
                        clear hi253_1 hl253_1
                        have HR253_2 := Aside0.mk hi253_2
                        have HC253_2 := Aside0.mk hl253_2
                        clear hi253_2 hl253_2
                        have HR253_3 := Aside0.mk hi253_3
                        have HC253_3 := Aside0.mk hl253_3
                        clear hi253_3 hl253_3
                        replace p253 := eq_true p253
                        replace q253 := eq_true q253
                        have p254 : 0 ≤ (a3 : Int) := of_decide_eq_true (by first | (with_reducible assumption) | assumption)
                        have q254 : a3 < (l0.length : Int) := of_decide_eq_true (by first | (with_reducible assumption) | assumption)
                        obtain ⟨ad254, A254_0, c254_0, A254_1, c254_1, A254_2, c254_2, A254_3, c254_3, e254, hx254_0, hx254_1, hx254_2, hx254_3, hl254_0, hi254_0, hl254_1, hi254_1, hl254_2, hi254_2, hl254_3, hi254_3⟩ := at_T34 HR0.out a3 p254 q254
                        obtain rfl : ad253 = ad254 := (by injection e254)
                        replace hx254_0 := (HB.out.cell (World.block_lt_of_cell? w _ hx254_0)).trans hx254_0
                        replace hx254_1 := (HB.out.cell (World.block_lt_of_cell? w _ hx254_1)).trans hx254_1
                        replace hx254_2 := (HB.out.cell (World.block_lt_of_cell? w _ hx254_2)).trans hx254_2
                        replace hx254_3 := (HB.out.cell (World.block_lt_of_cell? w _ hx254_3)).trans hx254_3
                        have HR254_0 := Aside0.mk hi254_0
                        have HC254_0 := Aside0.mk hl254_0
                        clear hi254_0 hl254_0
                        have HR254_1 := Aside0.mk hi254_1
                        have HC254_1 := Aside0.mk hl254_1
                        clear hi254_1 hl254_1
                        have HR254_2 := Aside0.mk hi254_2
                        have HC254_2 := Aside0.mk hl254_2
                        clear hi254_2 hl254_2
                        have HR254_3 := Aside0.mk hi254_3
                        have HC254_3 := Aside0.mk hl254_3
                        clear hi254_3 hl254_3
                        replace p254 := eq_true p254
                        replace q254 := eq_true q254
                        have ea_ := Option.some.inj (hx253_0.symm.trans hx254_0)
                        injection ea_ with ea_ en_ ec_
                        subst ea_
                        subst ec_
                        clear en_
                        have ea_ := Option.some.inj (hx253_1.symm.trans hx254_1)
                        injection ea_ with ea_ en_ ec_
                        subst ea_
                        subst ec_
                        clear en_
                        have ea_ := Option.some.inj (hx253_2.symm.trans hx254_2)
                        injection ea_ with ea_ en_ ec_
                        subst ea_
                        subst ec_
                        clear en_
                        have ea_ := Option.some.inj (hx253_3.symm.trans hx254_3)
                        injection ea_ with ea_ en_ ec_
                        subst ea_
                        subst ec_
                        clear en_
                        have p255 : 0 ≤ (x10_1 : Int) := of_decide_eq_true (by first | (with_reducible assumption) | assumption)
                        have q255 : x10_1 < (((rd_T34 l0 a3).f3).length : Int) := of_decide_eq_true (by first | (with_reducible assumption) | assumption)
                        obtain ⟨ad255, e255, hx255_0, hx255_1⟩ := at_T51 HR254_3.out x10_1 p255 q255
                        cases e255
                        replace hx255_0 := (HB.out.cell (World.block_lt_of_cell? w _ hx255_0)).trans hx255_0
                        replace hx255_1 := (HB.out.cell (World.block_lt_of_cell? w _ hx255_1)).trans hx255_1
                        replace p255 := eq_true p255
                        replace q255 := eq_true q255
                        go_wp2_with (first | ((with_reducible refine gate_dst (N := 11) rfl ?_); refine box_event ?hg (N := 11) ?hd (cs := #[.int .i64 0, .int .i64 0]) (t := 51) ?hr ?_; (case hd => rfl); (case hg => rfl); (case hr => first | (go_simp; done) | (go_simp; rfl)); intro gb256 hg w19 hbox hb; have n0_ := Aside0.mk (Kd.R_below (by (with_reducible repeat (first | apply Kd.R_alloc | apply Kd.R_drewN | apply Kd.R_drew)); exact HO_9.out) hb); have n1_ := Aside0.mk (below_step (by repeat (first | (with_reducible first | exact HB.out | apply below_alloc | apply pw_below_drewN | apply below_drew1) | exact HB.out)) hb); have n2_ := Aside0.mk (hbox); have n3_ := Aside0.mk ((by rw [hg]; exact (below_size (by repeat (first | (with_reducible first | exact HB.out | apply below_alloc | apply pw_below_drewN | apply below_drew1) | exact HB.out))) : w.heap.size ≤ gb256)); have n4_ := Aside0.mk ((by rw [hg]; exact (below_size (by repeat (first | (with_reducible first | exact HB.out | apply below_alloc | apply pw_below_drewN | apply below_drew1) | exact HB.out))) : w.heap.size ≤ gb256)); clear HO_9; clear HB; have HO_9 := n0_; have HB := n1_; have BK256 := n2_; have GW256 := n3_; have GE256 := n4_; clear n0_ n1_ n2_ n3_ n4_; clear hb hbox hg; have hcz20_0 : w19.cell? ⟨gb256, 0, none⟩ = some (.int .i64 0) := (blk_cell BK256.out 0).trans rfl; have hcz20_1 : w19.cell? ⟨gb256, 1, none⟩ = some (.int .i64 0) := (blk_cell BK256.out 1).trans rfl; have hfz20_0 := blk_frozen BK256.out 0; have hfz20_1 := blk_frozen BK256.out 1; have p257 : 0 ≤ ((ji15) : Int) := of_decide_eq_true (by first | (with_reducible assumption) | assumption); have q257 : (ji15) < (l1.length : Int) := of_decide_eq_true (by first | (with_reducible assumption) | assumption); obtain ⟨ad257, e257, hx257_0⟩ := Kd.at_int HR1.out (ji15) p257 q257; cases e257; have hn257_0 : ad257.block ≠ gb256 := Nat.ne_of_lt (Nat.lt_of_lt_of_le (by have := World.block_lt_of_cell? _ _ hx257_0; first | rwa [add_block] at this | exact this) GW256.out); have hn257_1 : ad257.block ≠ gb256 := Nat.ne_of_lt (Nat.lt_of_lt_of_le (by have := World.block_lt_of_cell? _ _ hx257_0; first | rwa [add_block] at this | exact this) GW256.out); replace hx257_0 := (HB.out.cell (World.block_lt_of_cell? w _ hx257_0)).trans hx257_0; replace hx257_0 := (cell_far (p := ⟨gb256, 0, none⟩) (by first | (rw [add_block]; exact hn257_0) | (show (Addr.add _ _).block ≠ _; rw [add_block]; exact hn257_0) | exact hn257_0) (.int .i64 ((rd_T51 ((rd_T34 l0 a3).f3) x10_1).f0))).trans hx257_0; replace hx257_0 := (cell_far (p := ⟨gb256, 1, none⟩) (by first | (rw [add_block]; exact hn257_1) | (show (Addr.add _ _).block ≠ _; rw [add_block]; exact hn257_1) | exact hn257_1) (.int .i64 ((rd_T51 ((rd_T34 l0 a3).f3) x10_1).f1))).trans hx257_0; clear hn257_0; clear hn257_1; replace p257 := eq_true p257; replace q257 := eq_true q257) | ((with_reducible refine gate_builtin (b := .append) (xs := #[.tmp 40, .tmp 49]) rfl ?_); at_builtin; refine Kd.R_append (Kd.int .i64) (w0 := w) w.heap.size rfl (.tmp 40) (.tmp 49) 23 3 (.int .i64 0) 8 rfl Try.underlying23 info3 rfl (by decide) (by omega) u9 x9_1 (rd l1 (ji15)) [.int .i64 (rd l1 (ji15))] (fun _ => True) (fun _ => False) rfl (by first | (go_simp; done) | (go_simp; rfl)) ?aP (fun _ hk => hk.elim) ?aF ?aO ?aB ?aS ?aL ?_; (case aP => exact rfl); (case aB => exact (by repeat (first | (with_reducible first | exact HB.out | apply below_alloc | apply pw_below_drewN | apply below_drew1 | refine below_set ?_ GE256.out) | exact HB.out))); (case aF => exact (fun _ _ => trivial)); (case aO => exact (by (with_reducible repeat (first | apply Kd.R_alloc | apply Kd.R_drewN | apply Kd.R_drew)); exact Kd.R_mono (Kd.R_far (p := ⟨gb256, 1, none⟩) (Kd.R_far (p := ⟨gb256, 0, none⟩) (Kd.R_types HO_9.out BK256.out (by decide)) (fun _ hk => hk.2) (.int .i64 ((rd_T51 ((rd_T34 l0 a3).f3) x10_1).f0))) (fun _ hk => hk.2) (.int .i64 ((rd_T51 ((rd_T34 l0 a3).f3) x10_1).f1))) (fun _ hk => trivial))); (case aS => exact (below_size (by repeat (first | (with_reducible first | exact HB.out | apply below_alloc | apply pw_below_drewN | apply below_drew1 | refine below_set ?_ GE256.out) | exact HB.out)))); (case aL => have := LMc18.out; omega); intro v259 w21 ho hb hg hat; rw [← Ny258.out] at ho; have n0_ := Aside0.mk (blk_grown (g := gb256) (o := .cells #[.int .i64 ((rd_T51 ((rd_T34 l0 a3).f3) x10_1).f0), .int .i64 ((rd_T51 ((rd_T34 l0 a3).f3) x10_1).f1)] 51 (0, 0)) (by (with_reducible repeat (first | refine blk_drewN ?_ _ | refine blk_drew ?_ | refine blk_alloc ?_ _)); refine blk_put (cs := #[.int .i64 ((rd_T51 ((rd_T34 l0 a3).f3) x10_1).f0), .int .i64 0]) ?_ 1 _ rfl; (with_reducible repeat (first | refine blk_drewN ?_ _ | refine blk_drew ?_ | refine blk_alloc ?_ _)); refine blk_put (cs := #[.int .i64 0, .int .i64 0]) ?_ 0 _ rfl; (with_reducible repeat (first | refine blk_drewN ?_ _ | refine blk_drew ?_ | refine blk_alloc ?_ _)); exact BK256.out) hg (Kd.R_ne HO_9.out BK256.out (by decide))); have n1_ := Aside0.mk (hb); have n2_ := Aside0.mk (ho); clear BK256; clear HB; clear HO_9; have BK256 := n0_; have HB := n1_; have HO260 := n2_; clear n0_ n1_ n2_; clear ho hb hg hat))
                        go_roundg k1
                        case measure => have := HK1.out; omega
                        case rel => exact ⟨(y258), (wrap64 (x10_1 + 1)), (by first | rfl | (simp; done) | (simp [*]; done)), H', ⟨by have := HK1.out; omega⟩, ⟨by (with_reducible repeat (first | apply Kd.R_alloc | apply Kd.R_drewN | apply Kd.R_drew)); exact HO260.out⟩, ⟨by repeat (first | (with_reducible first | exact HB.out | apply below_alloc | apply pw_below_drewN | apply below_drew1 | refine below_set ?_ GE256.out) | exact HB.out)⟩⟩
                      · rw [if_neg c18] at H
                        exact absurd H (by simp)
                    · rw [if_neg c17] at H
                      exact absurd H (by simp)
                  · rw [if_neg c16] at H
                    exact absurd H (by simp)
                · rw [if_neg c14] at H
                  have c14b0 : decide (0 < ((rd_T51 ((rd_T34 l0 a3).f3) x10_1).f1)) = false := decide_eq_false c14
                  clear c14
                  by_cases c22 : x9_1.length < 17592186044416
                  · rw [if_pos c22] at H
                    have LMc22 := Aside0.mk c22
                    clear c22
                    obtain ⟨y261, hy261⟩ : ∃ y_ : List Int, y_ = (x9_1 ++ [(rd_T51 ((rd_T34 l0 a3).f3) x10_1).f0]) := ⟨_, rfl⟩
                    replace H : (unicodetextref51_Written.l0 k1 l0 l1 a2 a3 y261 (wrap64 (x10_1 + 1))) = some r := by first | (rw [hy261]; with_reducible exact H) | (have H2_ := (Option.bind_some _ _).symm.trans H; rw [hy261]; with_reducible exact H2_) | (have H2_ := (Option.bind_some _ _).symm.trans H; with_reducible exact H2_) | with_reducible exact H | (rw [hy261]; exact H) | exact H
                    have Ny261 := Aside0.mk hy261
                    clear hy261
                    have H' := Aside0.mk H
                    clear H
                    have p253 : 0 ≤ (a3 : Int) := of_decide_eq_true (by first | (with_reducible assumption) | assumption)
                    have q253 : a3 < (l0.length : Int) := of_decide_eq_true (by first | (with_reducible assumption) | assumption)
                    obtain ⟨ad253, A253_0, c253_0, A253_1, c253_1, A253_2, c253_2, A253_3, c253_3, e253, hx253_0, hx253_1, hx253_2, hx253_3, hl253_0, hi253_0, hl253_1, hi253_1, hl253_2, hi253_2, hl253_3, hi253_3⟩ := at_T34 HR0.out a3 p253 q253
                    cases e253
                    replace hx253_0 := (HB.out.cell (World.block_lt_of_cell? w _ hx253_0)).trans hx253_0
                    replace hx253_1 := (HB.out.cell (World.block_lt_of_cell? w _ hx253_1)).trans hx253_1
                    replace hx253_2 := (HB.out.cell (World.block_lt_of_cell? w _ hx253_2)).trans hx253_2
                    replace hx253_3 := (HB.out.cell (World.block_lt_of_cell? w _ hx253_3)).trans hx253_3
                    have HR253_0 := Aside0.mk hi253_0
                    have HC253_0 := Aside0.mk hl253_0
                    clear hi253_0 hl253_0
                    have HR253_1 := Aside0.mk hi253_1
                    have HC253_1 := Aside0.mk hl253_1
                    clear hi253_1 hl253_1
                    have HR253_2 := Aside0.mk hi253_2
                    have HC253_2 := Aside0.mk hl253_2
                    clear hi253_2 hl253_2
                    have HR253_3 := Aside0.mk hi253_3
                    have HC253_3 := Aside0.mk hl253_3
                    clear hi253_3 hl253_3
                    replace p253 := eq_true p253
                    replace q253 := eq_true q253
                    have p254 : 0 ≤ (a3 : Int) := of_decide_eq_true (by first | (with_reducible assumption) | assumption)
                    have q254 : a3 < (l0.length : Int) := of_decide_eq_true (by first | (with_reducible assumption) | assumption)
                    obtain ⟨ad254, A254_0, c254_0, A254_1, c254_1, A254_2, c254_2, A254_3, c254_3, e254, hx254_0, hx254_1, hx254_2, hx254_3, hl254_0, hi254_0, hl254_1, hi254_1, hl254_2, hi254_2, hl254_3, hi254_3⟩ := at_T34 HR0.out a3 p254 q254
                    obtain rfl : ad253 = ad254 := (by injection e254)
                    replace hx254_0 := (HB.out.cell (World.block_lt_of_cell? w _ hx254_0)).trans hx254_0
                    replace hx254_1 := (HB.out.cell (World.block_lt_of_cell? w _ hx254_1)).trans hx254_1
                    replace hx254_2 := (HB.out.cell (World.block_lt_of_cell? w _ hx254_2)).trans hx254_2
                    replace hx254_3 := (HB.out.cell (World.block_lt_of_cell? w _ hx254_3)).trans hx254_3
                    have HR254_0 := Aside0.mk hi254_0
                    have HC254_0 := Aside0.mk hl254_0
                    clear hi254_0 hl254_0
                    have HR254_1 := Aside0.mk hi254_1
                    have HC254_1 := Aside0.mk hl254_1
                    clear hi254_1 hl254_1
                    have HR254_2 := Aside0.mk hi254_2
                    have HC254_2 := Aside0.mk hl254_2
                    clear hi254_2 hl254_2
                    have HR254_3 := Aside0.mk hi254_3
                    have HC254_3 := Aside0.mk hl254_3
                    clear hi254_3 hl254_3
                    replace p254 := eq_true p254
                    replace q254 := eq_true q254
                    have ea_ := Option.some.inj (hx253_0.symm.trans hx254_0)
                    injection ea_ with ea_ en_ ec_
                    subst ea_
                    subst ec_
                    clear en_
                    have ea_ := Option.some.inj (hx253_1.symm.trans hx254_1)
                    injection ea_ with ea_ en_ ec_
                    subst ea_
                    subst ec_
                    clear en_
                    have ea_ := Option.some.inj (hx253_2.symm.trans hx254_2)
                    injection ea_ with ea_ en_ ec_
                    subst ea_
                    subst ec_
                    clear en_
                    have ea_ := Option.some.inj (hx253_3.symm.trans hx254_3)
                    injection ea_ with ea_ en_ ec_
                    subst ea_
                    subst ec_
                    clear en_
                    have p255 : 0 ≤ (x10_1 : Int) := of_decide_eq_true (by first | (with_reducible assumption) | assumption)
                    have q255 : x10_1 < (((rd_T34 l0 a3).f3).length : Int) := of_decide_eq_true (by first | (with_reducible assumption) | assumption)
                    obtain ⟨ad255, e255, hx255_0, hx255_1⟩ := at_T51 HR254_3.out x10_1 p255 q255
                    cases e255
                    replace hx255_0 := (HB.out.cell (World.block_lt_of_cell? w _ hx255_0)).trans hx255_0
                    replace hx255_1 := (HB.out.cell (World.block_lt_of_cell? w _ hx255_1)).trans hx255_1
                    replace p255 := eq_true p255
                    replace q255 := eq_true q255
                    go_wp2_with (first | ((with_reducible refine gate_dst (N := 11) rfl ?_); refine box_event ?hg (N := 11) ?hd (cs := #[.int .i64 0, .int .i64 0]) (t := 51) ?hr ?_; (case hd => rfl); (case hg => rfl); (case hr => first | (go_simp; done) | (go_simp; rfl)); intro gb256 hg w23 hbox hb; have n0_ := Aside0.mk (Kd.R_below (by (with_reducible repeat (first | apply Kd.R_alloc | apply Kd.R_drewN | apply Kd.R_drew)); exact HO_9.out) hb); have n1_ := Aside0.mk (below_step (by repeat (first | (with_reducible first | exact HB.out | apply below_alloc | apply pw_below_drewN | apply below_drew1) | exact HB.out)) hb); have n2_ := Aside0.mk (hbox); have n3_ := Aside0.mk ((by rw [hg]; exact (below_size (by repeat (first | (with_reducible first | exact HB.out | apply below_alloc | apply pw_below_drewN | apply below_drew1) | exact HB.out))) : w.heap.size ≤ gb256)); have n4_ := Aside0.mk ((by rw [hg]; exact (below_size (by repeat (first | (with_reducible first | exact HB.out | apply below_alloc | apply pw_below_drewN | apply below_drew1) | exact HB.out))) : w.heap.size ≤ gb256)); clear HO_9; clear HB; have HO_9 := n0_; have HB := n1_; have BK256 := n2_; have GW256 := n3_; have GE256 := n4_; clear n0_ n1_ n2_ n3_ n4_; clear hb hbox hg; have hcz24_0 : w23.cell? ⟨gb256, 0, none⟩ = some (.int .i64 0) := (blk_cell BK256.out 0).trans rfl; have hcz24_1 : w23.cell? ⟨gb256, 1, none⟩ = some (.int .i64 0) := (blk_cell BK256.out 1).trans rfl; have hfz24_0 := blk_frozen BK256.out 0; have hfz24_1 := blk_frozen BK256.out 1) | ((with_reducible refine gate_builtin (b := .append) (xs := #[.tmp 51, .tmp 54]) rfl ?_); at_builtin; refine Kd.R_append (Kd.int .i64) (w0 := w) w.heap.size rfl (.tmp 51) (.tmp 54) 23 3 (.int .i64 0) 8 rfl Try.underlying23 info3 rfl (by decide) (by omega) u9 x9_1 ((rd_T51 ((rd_T34 l0 a3).f3) x10_1).f0) [.int .i64 ((rd_T51 ((rd_T34 l0 a3).f3) x10_1).f0)] (fun _ => True) (fun _ => False) rfl (by first | (go_simp; done) | (go_simp; rfl)) ?aP (fun _ hk => hk.elim) ?aF ?aO ?aB ?aS ?aL ?_; (case aP => exact rfl); (case aB => exact (by repeat (first | (with_reducible first | exact HB.out | apply below_alloc | apply pw_below_drewN | apply below_drew1 | refine below_set ?_ GE256.out) | exact HB.out))); (case aF => exact (fun _ _ => trivial)); (case aO => exact (by (with_reducible repeat (first | apply Kd.R_alloc | apply Kd.R_drewN | apply Kd.R_drew)); exact Kd.R_mono (Kd.R_far (p := ⟨gb256, 1, none⟩) (Kd.R_far (p := ⟨gb256, 0, none⟩) (Kd.R_types HO_9.out BK256.out (by decide)) (fun _ hk => hk.2) (.int .i64 ((rd_T51 ((rd_T34 l0 a3).f3) x10_1).f0))) (fun _ hk => hk.2) (.int .i64 ((rd_T51 ((rd_T34 l0 a3).f3) x10_1).f1))) (fun _ hk => trivial))); (case aS => exact (below_size (by repeat (first | (with_reducible first | exact HB.out | apply below_alloc | apply pw_below_drewN | apply below_drew1 | refine below_set ?_ GE256.out) | exact HB.out)))); (case aL => have := LMc22.out; omega); intro v262 w25 ho hb hg hat; rw [← Ny261.out] at ho; have n0_ := Aside0.mk (blk_grown (g := gb256) (o := .cells #[.int .i64 ((rd_T51 ((rd_T34 l0 a3).f3) x10_1).f0), .int .i64 ((rd_T51 ((rd_T34 l0 a3).f3) x10_1).f1)] 51 (0, 0)) (by (with_reducible repeat (first | refine blk_drewN ?_ _ | refine blk_drew ?_ | refine blk_alloc ?_ _)); refine blk_put (cs := #[.int .i64 ((rd_T51 ((rd_T34 l0 a3).f3) x10_1).f0), .int .i64 0]) ?_ 1 _ rfl; (with_reducible repeat (first | refine blk_drewN ?_ _ | refine blk_drew ?_ | refine blk_alloc ?_ _)); refine blk_put (cs := #[.int .i64 0, .int .i64 0]) ?_ 0 _ rfl; (with_reducible repeat (first | refine blk_drewN ?_ _ | refine blk_drew ?_ | refine blk_alloc ?_ _)); exact BK256.out) hg (Kd.R_ne HO_9.out BK256.out (by decide))); have n1_ := Aside0.mk (hb); have n2_ := Aside0.mk (ho); clear BK256; clear HB; clear HO_9; have BK256 := n0_; have HB := n1_; have HO263 := n2_; clear n0_ n1_ n2_; clear ho hb hg hat))
                    go_roundg k1
                    case measure => have := HK1.out; omega
                    case rel => exact ⟨(y261), (wrap64 (x10_1 + 1)), (by first | rfl | (simp; done) | (simp [*]; done)), H', ⟨by have := HK1.out; omega⟩, ⟨by (with_reducible repeat (first | apply Kd.R_alloc | apply Kd.R_drewN | apply Kd.R_drew)); exact HO263.out⟩, ⟨by repeat (first | (with_reducible first | exact HB.out | apply below_alloc | apply pw_below_drewN | apply below_drew1 | refine below_set ?_ GE256.out) | exact HB.out)⟩⟩
                  · rw [if_neg c22] at H
                    exact absurd H (by simp)
              · rw [if_neg c13] at H
                exact absurd H (by simp)
            · rw [if_neg c12] at H
              have c12b0 : decide (x10_1 < (((rd_T34 l0 a3).f3).length : Int)) = false := decide_eq_false c12
              clear c12
              obtain rfl := Option.some.inj H
              have p253 : 0 ≤ (a3 : Int) := of_decide_eq_true (by first | (with_reducible assumption) | assumption)
              have q253 : a3 < (l0.length : Int) := of_decide_eq_true (by first | (with_reducible assumption) | assumption)
              obtain ⟨ad253, A253_0, c253_0, A253_1, c253_1, A253_2, c253_2, A253_3, c253_3, e253, hx253_0, hx253_1, hx253_2, hx253_3, hl253_0, hi253_0, hl253_1, hi253_1, hl253_2, hi253_2, hl253_3, hi253_3⟩ := at_T34 HR0.out a3 p253 q253
              cases e253
              replace hx253_0 := (HB.out.cell (World.block_lt_of_cell? w _ hx253_0)).trans hx253_0
              replace hx253_1 := (HB.out.cell (World.block_lt_of_cell? w _ hx253_1)).trans hx253_1
              replace hx253_2 := (HB.out.cell (World.block_lt_of_cell? w _ hx253_2)).trans hx253_2
              replace hx253_3 := (HB.out.cell (World.block_lt_of_cell? w _ hx253_3)).trans hx253_3
              have HR253_0 := Aside0.mk hi253_0
              have HC253_0 := Aside0.mk hl253_0
              clear hi253_0 hl253_0
              have HR253_1 := Aside0.mk hi253_1
              have HC253_1 := Aside0.mk hl253_1
              clear hi253_1 hl253_1
              have HR253_2 := Aside0.mk hi253_2
              have HC253_2 := Aside0.mk hl253_2
              clear hi253_2 hl253_2
              have HR253_3 := Aside0.mk hi253_3
              have HC253_3 := Aside0.mk hl253_3
              clear hi253_3 hl253_3
              replace p253 := eq_true p253
              replace q253 := eq_true q253
              go_wp2
              go_ret
              exact ⟨_, by first | rfl | (simp [errW_none, errW_some] <;> rfl) | (simp [*, errW_none, errW_some] <;> rfl), by (with_reducible repeat (first | apply Kd.R_alloc | apply Kd.R_drewN | apply Kd.R_drew)); exact HO_9.out, by repeat (first | (with_reducible first | exact HB.out | apply below_alloc | apply pw_below_drewN | apply below_drew1) | exact HB.out)⟩
          · rw [if_neg c11] at H
            exact absurd H (by simp)
        · rw [if_neg c10] at H
          exact absurd H (by simp)
end Go.Proofs.Ytnhagghhficdpaa.Q
end
section
namespace Go.Proofs.Ytnhagghhficdpaa.Q
open Go.RowKit Go.Proofs.YtnhagghhficdpaaW.PrintWords Go.Proofs.YtnhagghhficdpaaW.PrintLast Go.Proofs.YtnhagghhficdpaaW.PrintMore
attribute [local go_sem] max2_int min2_int max_two min_two max_three min_three max_four min_four   -- for this text's walks alone
set_option linter.unusedVariables false
set_option linter.unusedSimpArgs false
def unicodetextref51_Apply.l0 : Nat → List Int → List (S34) → List Int → Int → Option (List Int)
  | 0, _, _, _, _ => none
  | k + 1, x1, x5, x6, x7 => if x7 < (x1.length : Int) then ((unicodetextref51_step.f k x5 x1 x7).bind fun bt267 => ((unicodetextref51_Written.f k x5 x1 x7 bt267.1).bind fun t269 => (if x6.length + t269.length < 17592186044416 then (unicodetextref51_Apply.l0 k x1 x5 (x6 ++ t269) (wrap64 (x7 + bt267.2))) else (none)))) else (some x6)
def unicodetextref51_Apply.f (k : Nat) (l0 : List (S34)) (l1 : List Int) : Option (List Int) := (unicodetextref51_Data.f k l0).bind fun t264 => (unicodetextref51_Apply.l0 k l1 t264 ([] : List Int) 0)
def unicodetextlaw51_TransduceApplies.f (k : Nat) (l0 : List (S34)) (l1 : List Int) : Option (Bool) := (unicodetextlaw51_few.f k l0 l1).bind fun t275 => (if t275 = true then ((transduce_Apply.f l0 l1).bind fun t276 => ((unicodetextref51_Apply.f k l0 l1).bind fun t279 => ((unicodetextref01_Equal.f k t276 t279).bind fun t282 => (if t282 = true then ((unicodetextlaw51_alive.f k).bind fun t283 => (some t283)) else (some false))))) else ((unicodetextlaw51_alive.f k).bind fun t284 => (some t284)))
end Go.Proofs.Ytnhagghhficdpaa.Q
end
section
namespace Go.Proofs.Ytnhagghhficdpaa.Q
open Go.RowKit Go.Proofs.YtnhagghhficdpaaW.PrintWords Go.Proofs.YtnhagghhficdpaaW.PrintLast Go.Proofs.YtnhagghhficdpaaW.PrintMore
attribute [local go_sem] max2_int min2_int max_two min_two max_three min_three max_four min_four   -- for this text's walks alone
set_option linter.unusedVariables false
set_option linter.unusedSimpArgs false
mutual
def unicodetextlaw51_TransduceKeeps.l0 : Nat → List (S34) → List Int → Int → Option (Bool)
  | 0, _, _, _ => none
  | k + 1, x0, x1, x5 => if x5 < (x0.length : Int) then (unicodetextlaw51_TransduceKeeps.l1 k x0 x1 x5 0) else ((transduce_Apply.f x0 x1).bind fun t287 => ((unicodetextref01_Equal.f k t287 x1).bind fun t290 => (if t290 = true then ((unicodetextlaw51_alive.f k).bind fun t291 => (some t291)) else (some false))))
def unicodetextlaw51_TransduceKeeps.l1 : Nat → List (S34) → List Int → Int → Int → Option (Bool)
  | 0, _, _, _, _ => none
  | k + 1, x0, x1, x5, x6 => if 0 ≤ x5 then (if x5 < (x0.length : Int) then (if x6 < (((rd_T34 x0 x5).f1).length : Int) then (unicodetextlaw51_TransduceKeeps.l2 k x0 x1 x5 x6 0) else (unicodetextlaw51_TransduceKeeps.l0 k x0 x1 (wrap64 (x5 + 1)))) else (none)) else (none)
def unicodetextlaw51_TransduceKeeps.l2 : Nat → List (S34) → List Int → Int → Int → Int → Option (Bool)
  | 0, _, _, _, _, _ => none
  | k + 1, x0, x1, x5, x6, x7 => if x7 < (x1.length : Int) then (if 0 ≤ x5 then (if x5 < (x0.length : Int) then (if 0 ≤ x6 then (if x6 < (((rd_T34 x0 x5).f1).length : Int) then (if 0 ≤ x7 then ((unicodetextref02_Has.f k ((rd_T38 ((rd_T34 x0 x5).f1) x6).f0) (rd x1 x7)).bind fun t296 => (if t296 = true then ((unicodetextlaw51_alive.f k).bind fun t297 => (some t297)) else (unicodetextlaw51_TransduceKeeps.l2 k x0 x1 x5 x6 (wrap64 (x7 + 1))))) else (none)) else (none)) else (none)) else (none)) else (none)) else (unicodetextlaw51_TransduceKeeps.l1 k x0 x1 x5 (wrap64 (x6 + 1)))
end
def unicodetextlaw51_TransduceKeeps.f (k : Nat) (l0 : List (S34)) (l1 : List Int) : Option (Bool) := (unicodetextlaw51_few.f k l0 l1).bind fun t285 => (if t285 = true then (unicodetextlaw51_TransduceKeeps.l0 k l0 l1 0) else ((unicodetextlaw51_alive.f k).bind fun t286 => (some t286)))
def unicodetextlaw51_TransduceKeeps.T12 : Bool × List (List Nat × List Nat) := (true, [([], []), ([], []), ([0, 1], [0, 1]), ([2], [2]), ([3], [3]), ([], []), ([4, 5], [4, 5]), ([6], [6]), ([], []), ([], []), ([8, 9], [8, 9]), ([10], [10]), ([7, 11], [7, 11])])
def unicodetextlaw51_TransduceKeeps.B12 : List Nat := [0, 0, 3, 7, 15, 0, 63, 127, 0, 0, 768, 1792, 4095]
end Go.Proofs.Ytnhagghhficdpaa.Q
end
section
namespace Go.Proofs.Ytnhagghhficdpaa.Q
open Go.RowKit Go.Proofs.YtnhagghhficdpaaW.PrintWords Go.Proofs.YtnhagghhficdpaaW.PrintLast Go.Proofs.YtnhagghhficdpaaW.PrintMore
set_option linter.unusedVariables false
theorem plApplyT (l : List Ru) (text : List Int) (h : plFewL l) (ht : okText text = true) : transduce_Apply.f l text = some (applyS (dataS l) text text.length 0) := by
  unfold transduce_Apply.f
  rw [if_pos ⟨plOkRules h, ht⟩]
theorem plWrit_go (l : List Ru) (text : List Int) (a : Nat) (j : Nat) (x : Ru) (hj : j < l.length) (hx : rd_T34 l (j : Int) = x) (hT : text.length < 1000000000) (ha : a < text.length) : ∀ (rest pre : List Pc) (out : List Int) (k : Nat), pre ++ rest = x.f3 → x.f3.length < 1000000 → out.length ≤ pre.length → (∀ p ∈ rest, (a : Int) + p.f1 ≤ (text.length : Int)) → rest.length + 1 ≤ k →
    unicodetextref51_Written.l0 k l text (a : Int) (j : Int) out (pre.length : Int) = some (out ++ rest.map fun p => if 0 < p.f1 then text.getD ((a : Int) + (p.f1 - 1)).toNat 0 else p.f0)
  | [], pre, out, k, h0, h1, h2, h3, h4 => by
    obtain ⟨k, rfl⟩ : ∃ j, k = j + 1 := ⟨k - 1, by omega⟩
    have hl : x.f3.length = pre.length := by rw [← h0]; simp
    rw [unicodetextref51_Written.l0, if_pos (by omega), if_pos (by omega), hx, if_neg (by omega)]
    simp
  | p :: rest, pre, out, k, h0, h1, h2, h3, h4 => by
    obtain ⟨k, rfl⟩ : ∃ j, k = j + 1 := ⟨k - 1, by omega⟩
    have hl : x.f3.length = pre.length + (rest.length + 1) := by rw [← h0]; simp
    have hp : pre.length < 1000000000 := by omega
    have hrd : rd_T51 x.f3 (pre.length : Int) = p := by rw [← h0]; exact plRdP_mid _ _ _
    have ih := fun v => plWrit_go l text a j x hj hx hT ha rest (pre ++ [p]) (out ++ [v]) k (by simpa using h0) h1 (by simp; omega) (fun q hq => h3 q (List.mem_cons_of_mem _ hq)) (by simp at h4; omega)
    have el : ((pre ++ [p]).length : Int) = ((pre.length + 1 : Nat) : Int) := by simp
    rw [el] at ih
    have hb := h3 p List.mem_cons_self
    rw [unicodetextref51_Written.l0, if_pos (by omega), if_pos (by omega), hx, if_pos (by omega), if_pos (by omega), hrd, wrap_suc hp]
    by_cases hc : 0 < p.f1
    · have hw : wrap64 (wrap64 ((a : Int) + p.f1) - 1) = (a : Int) + (p.f1 - 1) := by unfold wrap64; omega
      rw [if_pos hc, hw, if_pos (by omega), if_pos (by omega), if_pos (by omega), ih, List.map_cons, if_pos hc, List.append_assoc]
      rfl
    · rw [if_neg hc, if_pos (by omega), ih, List.map_cons, if_neg hc, List.append_assoc]
      rfl
theorem plWritten_ok (l : List Ru) (text : List Int) (a n : Nat) (i : Int) (k : Nat) (hn : 1 ≤ n) (ha : a + n ≤ text.length) (hT : text.length < 1000000000) (hl : ∀ x ∈ l, x.f3.length ≤ 16 ∧ ∀ p ∈ x.f3, p.f1 ≤ (x.f1.length : Int))
    (hc : i = -1 ∧ n = 1 ∨ ∃ j : Nat, i = (j : Int) ∧ j < l.length ∧ n = (l.getD j z34).f1.length) (hk : 20 ≤ k) : unicodetextref51_Written.f k l text (a : Int) i = some (writtenS l text (a : Int) i) := by
  unfold unicodetextref51_Written.f writtenS
  rcases hc with ⟨rfl, rfl⟩ | ⟨j, rfl, hj, hnj⟩
  · rw [if_pos (by decide), if_pos (by omega), if_pos (by omega), if_pos (by decide)]
    rfl
  · have hm : l.getD j z34 ∈ l := by
      rw [List.getD_eq_getElem?_getD, List.getElem?_eq_getElem hj]; exact List.getElem_mem hj
    have h2 := hl _ hm
    have e : rd_T34 l (j : Int) = l.getD j z34 := by
      unfold rd_T34
      rw [Int.toNat_natCast]
    rw [if_neg (by omega), if_neg (by omega), Int.toNat_natCast]
    exact plWrit_go l text a j (l.getD j z34) hj e hT (by omega) _ [] [] k rfl (by omega) (Nat.le_refl _) (fun p hp => by have := h2.2 p hp; omega) (by omega)
theorem plData1 (l : List Ru) : ∀ x ∈ dataS l, 1 ≤ x.f1.length := fun x hx => (oneS_ok x (data_one l x hx)).1
/-- What Apply writes is not long. -/
theorem plApplyS_len (l : List Ru) (text : List Int) (h1 : ∀ x ∈ l, 1 ≤ x.f1.length) (hl : ∀ x ∈ l, x.f3.length ≤ 16 ∧ ∀ p ∈ x.f3, p.f1 ≤ (x.f1.length : Int)) : ∀ (m a : Nat), text.length - a ≤ m → (applyS l text (text.length - a) (a : Int)).length ≤ 16 * (text.length - a)
  | m, a, h2 => by
    by_cases ha : a < text.length
    · obtain ⟨n, hs, hn1, hn2, hcase⟩ := stepS_bounds l text a ha h1
      have hst := applyS_step l text (text.length - a) a ha (by omega)
      have hmo := applyS_more l text h1 (text.length - (a + n)) (a + n) (text.length - a - 1) (by omega) (by omega)
      rw [hs, show (a : Int) + (n : Int) = ((a + n : Nat) : Int) by omega, ← hmo] at hst
      have hwl := (resV_written l text a n (stepS l text (a : Int)).1 hn1 hn2 hl hcase).2
      obtain ⟨m, rfl⟩ : ∃ j, m = j + 1 := ⟨m - 1, by omega⟩
      have ih := plApplyS_len l text h1 hl m (a + n) (by omega)
      rw [hst, List.length_append]
      omega
    · rw [show text.length - a = 0 by omega, applyS]
      simp
def plNoHas (text : List Int) (s : St) : Prop := ∀ c ∈ text, hasS s c = false
end Go.Proofs.Ytnhagghhficdpaa.Q
end
section
namespace Go.Proofs.Ytnhagghhficdpaa.Q
open Go.RowKit Go.Proofs.YtnhagghhficdpaaW.PrintWords Go.Proofs.YtnhagghhficdpaaW.PrintLast Go.Proofs.YtnhagghhficdpaaW.PrintMore
set_option linter.unusedVariables false
abbrev Tr3 := Int × Int × Int
def kTr : Kd Tr3 := Kd.pair (Kd.int .i64) (Kd.pair (Kd.int .i64) (Kd.int .i64))
theorem kTr_mk (w : World) (base : Nat) (ok : Nat → Prop) (x : Tr3) : kTr.M w base ok x [.int .i64 x.1, .int .i64 x.2.1, .int .i64 x.2.2] := ⟨[.int .i64 x.1], [.int .i64 x.2.1, .int .i64 x.2.2], rfl, rfl, ⟨[.int .i64 x.2.1], [.int .i64 x.2.2], rfl, rfl, rfl⟩⟩
theorem kTr_open {w : World} {x : Tr3} {cs : List Value} (h : kTr.K w x cs) : cs = [.int .i64 x.1, .int .i64 x.2.1, .int .i64 x.2.2] := by
  obtain ⟨_, _, rfl, rfl, ⟨_, _, rfl, rfl, rfl⟩⟩ := h
  rfl
theorem info43 : (Try.prog.info? 43).map (fun i => (i.zero, i.size, i.bytes)) = some (some (.agg #[.int .i64 0, .int .i64 0, .int .i64 0]), 3, 24) := by kernel_rfl
def traceS (l : List Ru) (text : List Int) : Nat → Int → List Tr3
  | 0, _ => []
  | n + 1, i => if i < text.length then (i, stepS l text i) :: traceS l text n (i + (stepS l text i).2) else []
theorem traceS_step (l : List Ru) (text : List Int) (n a : Nat) (h : a < text.length) (hn : 0 < n) : traceS l text n (a : Int) = ((a : Int), stepS l text (a : Int)) :: traceS l text (n - 1) ((a : Int) + (stepS l text (a : Int)).2) := by
  obtain ⟨n, rfl⟩ : ∃ m, n = m + 1 := ⟨n - 1, by omega⟩
  rw [traceS, if_pos (by omega)]
  rfl
theorem traceS_more (l : List Ru) (text : List Int) (h1 : ∀ x ∈ l, 1 ≤ x.f1.length) : ∀ (n a m : Nat), text.length ≤ a + n → n ≤ m → traceS l text n (a : Int) = traceS l text m (a : Int)
  | 0, a, m, h, hm => by
    cases m with
    | zero => rfl
    | succ m => rw [traceS, traceS, if_neg (by omega)]
  | n + 1, a, m, h, hm => by
    obtain ⟨m, rfl⟩ : ∃ q, m = q + 1 := ⟨m - 1, by omega⟩
    rw [traceS, traceS]
    by_cases ha : (a : Int) < text.length
    · rw [if_pos ha, if_pos ha]
      obtain ⟨s, hs, hs1, hs2, _⟩ := stepS_bounds l text a (by omega) h1
      rw [hs, show (a : Int) + (s : Int) = ((a + s : Nat) : Int) by omega, traceS_more l text h1 n (a + s) m (by omega) (by omega)]
    · rw [if_neg ha, if_neg ha]
set_option maxHeartbeats 4000000 in
set_option maxRecDepth 100000 in
theorem trace_calls (A0 : Option Addr) (c0 : Nat) (l0 : List Ru) (A1 : Option Addr) (c1 : Nat) (l1 : List Int) (w : World) (hok : okRules l0 = true) (htx : l1.length < 100000000 ∧ ∀ c ∈ l1, (Lit.int .i64 c).wf = true) (hr0 : Kd.C k34 w A0 l0.length l0) (hc0 : l0.length ≤ c0) (hr1 : Kd.C (Kd.int .i64) w A1 l1.length l1) (hc1 : l1.length ≤ c1)
    (hd : (dataS l0).length < 100000000 ∧ ∀ x ∈ dataS l0, 1 ≤ x.f1.length ∧ (∀ s ∈ x.f0, s.f0.length < 1000) ∧ (∀ s ∈ x.f1, s.f0.length < 1000) ∧ (∀ s ∈ x.f2, s.f0.length < 1000) ∧ x.f0.length < 100000000 ∧ x.f1.length < 100000000 ∧ x.f2.length < 100000000) :
    Calls Try.prog 22 #[.slice A0 l0.length c0, .slice A1 l1.length c1] w fun e w' => ∃ v0_ : Value, e = .returned (v0_) ∧ Kd.R kTr 43 w' w.heap.size (fun _ => True) v0_ (traceS (dataS l0) l1 l1.length 0) ∧ Below w.heap.size w w' := by
  have HOK := Aside0.mk hok
  have HTX := Aside0.mk htx
  have HDO := Aside0.mk hd
  have HR := Aside0.mk hr0
  have HC := Aside0.mk hc0
  have HT := Aside0.mk hr1
  have HC1 := Aside0.mk hc1
  clear hok htx hr0 hc0 hr1 hc1 hd
  have hu43 := Try.underlying43
  go_enter Try.func22, Try.ntmps22
  go_wp2_with (go_at_call 28; (with_reducible refine (open_calls A0 c0 l0 _ HOK.out HR.out HC.out).mono ?_); rintro e w1 ⟨bm, mb, A, cA, rfl, hM, hCR, hcA, hmb, hbm, hne, hb⟩; have HM := Aside0.mk hM; have HCR := Aside0.mk hCR; have HCA := Aside0.mk hcA; have HMB := Aside0.mk hmb; have HB := Aside0.mk hb; clear hM hCR hcA hmb hbm hne hb)
  go_loopw [6, 7] (fun ov i wr => ∃ (a : Nat) (out : List Tr3), i = .int .i64 a ∧ Aside0 (a ≤ l1.length) ∧ Aside0 (traceS (dataS l0) l1 l1.length 0 = out ++ traceS (dataS l0) l1 (l1.length - a) (a : Int) ∧ out.length ≤ a) ∧ Aside0 (Kd.R kTr 43 wr w.heap.size (fun _ => True) ov out) ∧ Aside0 (Mach wr ov.ownBlock bm mb A cA (dataS l0) a) ∧ Aside0 (Below w.heap.size w wr)) (fun _ i _ => l1.length - (intOf i).toNat)
  case atStart => exact ⟨0, [], rfl, ⟨Nat.zero_le _⟩, ⟨rfl, Nat.zero_le _⟩, ⟨Kd.R_nil _ _ _ _ _⟩, ⟨HM.out _⟩, HB⟩
  case round =>
    obtain ⟨a, out, rfl, HK, HEQ, HO, HM2, HB2⟩ := hrel
    by_cases hlt : a < l1.length
    · obtain ⟨n, hs, hn1, hn2, _⟩ := stepS_bounds (dataS l0) l1 a hlt (fun x hx => (HDO.out.2 x hx).1)
      have hsc := step_calls w wr bm mb A cA (dataS l0) a A1 c1 l1 (a : Int) _ (Kd.R_lt HO.out) HM2.out HB2.out HMB.out HCR.out HCA.out HDO.out.1 HDO.out.2 (by have := HTX.out.1; omega) HT.out HC1.out HTX.out.1 HTX.out.2
      have hst := traceS_step (dataS l0) l1 (l1.length - a) a hlt (by omega)
      have hmo := traceS_more (dataS l0) l1 (fun x hx => (HDO.out.2 x hx).1) (l1.length - (a + n)) (a + n) (l1.length - a - 1) (by omega) (by omega)
      rw [hs, show (a : Int) + (n : Int) = ((a + n : Nat) : Int) by omega] at hst
      rw [← hmo] at hst
      obtain ⟨i, hi⟩ : ∃ i, i = (stepS (dataS l0) l1 (a : Int)).1 := ⟨_, rfl⟩
      have hpair : stepS (dataS l0) l1 (a : Int) = (i, (n : Int)) := by rw [hi, ← hs]
      rw [hpair] at hst hsc
      have HSC := Aside0.mk hsc
      have HST := Aside0.mk hst
      have HN := Aside0.mk (And.intro hn1 hn2)
      clear hsc hst hmo hs hi hpair
      have hdlt : decide ((a : Int) < (l1.length : Int)) = true := decide_eq_true (by omega)
      go_upto_region 6 with (go_at_call 29; (with_reducible refine HSC.out.mono ?_); rintro e w2 ⟨rfl, hM3, hb3, hk3⟩; have HM3 := Aside0.mk hM3; have HB3 := Aside0.mk hb3; have HK3 := Aside0.mk hk3; clear hM3 hb3 hk3)
      have HOW : Aside0 (Kd.R kTr 43 w2 w.heap.size (fun _ => True) _ out) := ⟨Kd.R_mono (Kd.R_move (Kd.R_tight rfl HO.out) (fun k hk => by
        obtain ⟨cells, hc⟩ := Kd.R_typed HO.out k hk.symm
        obtain ⟨D, hD, _⟩ := HM2.out.map
        obtain ⟨es, clock, hmp⟩ := ownsMap_at hD
        rw [hc]
        exact HK3.out k _ hc (fun e => by rw [e, hmp] at hc; cases hc))) (fun _ _ => trivial)⟩
      have hw : wrap64 ((a : Int) + (n : Int)) = (a : Int) + (n : Int) := by have := HTX.out.1; have := HN.out; unfold wrap64; omega
      clear hlt hn1 hn2
      go_wp2_with (at_builtin; refine Kd.R_append kTr (w0 := w) w.heap.size rfl (.tmp 23) (.tmp 28) 41 43 (.agg #[.int .i64 0, .int .i64 0, .int .i64 0]) 24 rfl Try.underlying41 info43 rfl (by decide) (by omega) u6 out ((a : Int), i, (n : Int)) [.int .i64 (a : Int), .int .i64 i, .int .i64 (n : Int)] (fun _ => True) (fun _ => False) rfl (by first | (go_simp; done) | (go_simp; rfl)) (kTr_mk _ _ _ ((a : Int), i, (n : Int))) (fun _ hk => hk.elim) (fun _ _ => trivial) ?aO ?aB ?aS ?aL ?_; (case aB => exact (by repeat (first | (with_reducible first | exact HB3.out | apply below_alloc | apply pw_below_drewN | apply below_drew1) | exact HB3.out))); (case aO => exact (by (with_reducible repeat (first | apply Kd.R_alloc | apply Kd.R_drewN | apply Kd.R_drew)); exact HOW.out)); (case aS => exact (below_size (by repeat (first | (with_reducible first | exact HB3.out | apply below_alloc | apply pw_below_drewN | apply below_drew1) | exact HB3.out)))); (case aL => have h1_ := HEQ.out.2; have h3_ := HTX.out.1; have h4_ := HK.out; omega); intro v3 w4 ho hb hg hat; have HO4 := Aside0.mk ho; have HB5 := Aside0.mk hb; have HG4 := Aside0.mk hg; have HAT := Aside0.mk hat; clear ho hb hg hat)
      go_roundw
      case rel => exact ⟨a + n, out ++ [((a : Int), i, (n : Int))], by rw [hw]; rfl, ⟨HN.out.2⟩, ⟨by rw [HEQ.out.1, HST.out, List.append_assoc]; rfl, by rw [List.length_append]; have := HEQ.out.2; have := HN.out.1; simp; omega⟩, HO4, ⟨(Mach.grown (e0 := 43) (by decide) HM3.out HG4.out (Kd.R_typed HOW.out) HAT.out).mono (by have := HN.out; omega)⟩, HB5⟩
      case measure => rw [hw]; simp only [intOf]; have := HN.out; omega
    · obtain rfl : a = l1.length := by have := HK.out; omega
      have hfin : traceS (dataS l0) l1 l1.length 0 = out := by rw [HEQ.out.1, Nat.sub_self, traceS, List.append_nil]
      have HF := Aside0.mk hfin
      clear hfin
      have hdlt : decide ((l1.length : Int) < (l1.length : Int)) = false := decide_eq_false (by omega)
      go_wp2
      go_ret
      exact ⟨_, rfl, by rw [HF.out]; exact HO.out, HB2.out⟩
end Go.Proofs.Ytnhagghhficdpaa.Q
end
section
namespace Go.Proofs.Ytnhagghhficdpaa.Q
open Go.RowKit Go.Proofs.YtnhagghhficdpaaW.PrintWords Go.Proofs.YtnhagghhficdpaaW.PrintLast Go.Proofs.YtnhagghhficdpaaW.PrintMore
set_option linter.unusedVariables false
theorem trPart (w : World) (xs : Array Value) (off : Nat) (v : Value) (h : xs[off]? = some v) : (part 3 xs off).run Try.prog w = .ok v w := run_part_plain w (by kernel_rfl) h
theorem trEq (w : World) (d : Nat) (a b c a' b' c' : Int) : (Op.equalIn (d + 2) 43 (.agg #[.int .i64 a, .int .i64 b, .int .i64 c]) (.agg #[.int .i64 a', .int .i64 b', .int .i64 c'])).run Try.prog w = .ok (a == a' && (b == b' && c == c')) w := by
  rw [run_equalIn_array w (d+1) _ _ Try.underlying43 (i := (Try.prog.info? 3).get (by kernel_rfl)) (by kernel_rfl), show Try.prog.cellsOf 3 = 1 by kernel_rfl, show List.range 3 = [0, 1, 2] from rfl]
  have e (x y : Int) := run_equalIn_int (P := Try.prog) (w := w) d 3 .i64 .i64 x y Try.underlying3
  simp only [Op.eqItems, Sem.run_bind, Nat.mul_one]
  rw [trPart w _ 0 (.int .i64 a) rfl]
  simp only [Result.andThen_ok]
  rw [trPart w _ 0 (.int .i64 a') rfl]
  simp only [Result.andThen_ok, e]
  by_cases h0 : a = a'
  · subst h0
    simp
    rw [trPart w _ 1 (.int .i64 b) rfl]
    simp only [Result.andThen_ok]
    rw [trPart w _ 1 (.int .i64 b') rfl]
    simp only [Result.andThen_ok, e]
    by_cases h1 : b = b'
    · subst h1
      simp
      rw [trPart w _ 2 (.int .i64 c) rfl]
      simp only [Result.andThen_ok]
      rw [trPart w _ 2 (.int .i64 c') rfl]
      simp only [Result.andThen_ok, e]
      by_cases h2 : c = c'
      · subst h2; simp
      · have : (c == c') = false := by simpa using h2
        rw [this]; simp
    · have : (b == b') = false := by simpa using h1
      rw [this]; simp
  · have : (a == a') = false := by simpa using h0
    rw [this]; simp
theorem traceS_len (l : List Ru) (text : List Int) : ∀ (n : Nat) (i : Int), (traceS l text n i).length ≤ n
  | 0, i => by rw [traceS]; simp
  | n + 1, i => by
    rw [traceS]
    split
    · have := traceS_len l text n (i + (stepS l text i).2)
      simp only [List.length_cons]; omega
    · simp
def rd_Tr (xs : List Tr3) (i : Int) : Tr3 := xs.getD i.toNat (0, 0, 0)
theorem at_Tr {w : World} {A : Option Addr} {n : Nat} {xs : List Tr3} (h : Kd.C kTr w A n xs) (i : Int) (h0 : 0 ≤ i) (h1 : i < n) : ∃ ad , A = some ad ∧ w.cell? (ad.add (i.toNat * 3)) = some (.int .i64 (rd_Tr xs i).1) ∧ w.cell? ⟨(ad.add (i.toNat * 3)).block, (ad.add (i.toNat * 3)).off + 1, none⟩ = some (.int .i64 (rd_Tr xs i).2.1) ∧ w.cell? ⟨(ad.add (i.toNat * 3)).block, (ad.add (i.toNat * 3)).off + 2, none⟩ = some (.int .i64 (rd_Tr xs i).2.2) := by
  obtain ⟨ad, c, e, _, hK, hc0⟩ := Kd.C_get h ((0, 0, 0) : Tr3) i h0 h1
  have hc : ∀ j u, c[j]? = some u → w.cell? (ad.add (i.toNat * 3 + j)) = some u := hc0
  obtain rfl := kTr_open hK
  exact ⟨ad, e, hc 0 _ rfl, by rw [← add_field _ _ 1 (by omega)]; exact hc 1 _ rfl, by rw [← add_field _ _ 2 (by omega)]; exact hc 2 _ rfl⟩
attribute [local go_sem] trEq
end Go.Proofs.Ytnhagghhficdpaa.Q
end
section
namespace Go.Proofs.Ytnhagghhficdpaa.Q
open Go.RowKit Go.Proofs.YtnhagghhficdpaaW.PrintWords Go.Proofs.YtnhagghhficdpaaW.PrintLast Go.Proofs.YtnhagghhficdpaaW.PrintMore
set_option linter.unusedVariables false
theorem traceS_nil (l : List Ru) (text : List Int) (a : Nat) (n : Nat) (h : text.length ≤ a) : traceS l text n (a : Int) = [] := by
  cases n with
  | zero => rfl
  | succ n => rw [traceS, if_neg (by omega)]
theorem plWritten_none (l : List Ru) (text : List Int) (a : Nat) (k : Nat) (ha : a < text.length) : unicodetextref51_Written.f k l text (a : Int) (-1) = some (writtenS l text (a : Int) (-1)) := by
  unfold unicodetextref51_Written.f writtenS
  rw [if_pos (by decide), if_pos (by omega), if_pos (by omega), if_pos (by decide)]
  rfl
theorem plData_eq (l : List Ru) (j : Nat) (h : j < (dataS l).length) : dataS l = l := by
  unfold dataS at h ⊢
  split at h
  · rename_i h0; rw [if_pos h0]
  · simp at h
attribute [local go_sem] trEq
set_option maxHeartbeats 8000000 in
set_option maxRecDepth 100000 in
theorem transduceFollows_law (A0 : Option Addr) (c0 : Nat) (l0 : List Ru) (A1 : Option Addr) (c1 : Nat) (l1 : List Int) (w : World) (h0 : wfL l0) (h1 : wfT l1) (hr0 : Kd.C k34 w A0 l0.length l0) (hc0 : l0.length ≤ c0) (hr1 : Kd.C (Kd.int .i64) w A1 l1.length l1) (hc1 : l1.length ≤ c1) :
    Calls Try.prog 9 #[.slice A0 l0.length c0, .slice A1 l1.length c1] w fun e w' => e = .returned (.bool true) ∧ Below w.heap.size w w' := by
  obtain ⟨b, hfew, hb⟩ := plFew_ok l0 l1 100 (by decide)
  have HFEW := Aside0.mk hfew
  have HAL := Aside0.mk (plAlive_ok 100 (by decide))
  have HR := Aside0.mk hr0
  have HC := Aside0.mk hc0
  have HT := Aside0.mk hr1
  have HC1 := Aside0.mk hc1
  have HTX := Aside0.mk (show ∀ c ∈ l1, (Lit.int .i64 c).wf = true from h1.2)
  clear hfew hr0 hc0 hr1 hc1 h0
  cases b with
  | false =>
    clear hb h1
    go_enter Try.func9, Try.ntmps9
    go_wp2_with (first | (go_at_call 11; (with_reducible refine (unicodetextlaw51_few.calls 100 A0 c0 l0 A1 c1 l1 false _ HR.out HC.out HT.out HC1.out HFEW.out).mono ?_); rintro e w1 ⟨rfl, hb⟩; have HB := Aside0.mk hb; clear hb) | (go_at_call 12; (with_reducible refine (unicodetextlaw51_alive.calls 100 true _ HAL.out).mono ?_); rintro e w2 ⟨rfl, hb⟩; have HB2 := Aside0.mk hb; clear hb))
    go_ret
    exact ⟨rfl, below_step HB.out HB2.out⟩
  | true =>
    obtain ⟨hl, ht⟩ := hb rfl
    have HL := Aside0.mk hl
    have HTL := Aside0.mk ht
    have HOKT := Aside0.mk (plOkText h1 (by omega))
    have HTC := Aside0.mk (trace_calls A0 c0 l0 A1 c1 l1)
    have HAP := Aside0.mk (plApplyT l0 l1 hl (plOkText h1 (by omega)))
    have HDA := Aside0.mk (plData_ok l0 100 hl (by decide))
    have HLEN : Aside0 ((applyS (dataS l0) l1 l1.length 0).length ≤ 16 * l1.length) := ⟨plApplyS_len (dataS l0) l1 (plData1 l0) (data_ok3 l0) l1.length 0 (by omega)⟩
    have HTN : Aside0 ((traceS (dataS l0) l1 l1.length 0).length < 1000000) := ⟨by have := traceS_len (dataS l0) l1 l1.length 0; omega⟩
    clear hl ht hb h1
    obtain ⟨T, hT⟩ : ∃ T, T = traceS (dataS l0) l1 l1.length 0 := ⟨_, rfl⟩
    rw [← hT] at HTN HTC
    have HTT := Aside0.mk hT
    clear hT
    go_enter Try.func9, Try.ntmps9
    go_wp2_with (first | (go_at_call 11; (with_reducible refine (unicodetextlaw51_few.calls 100 A0 c0 l0 A1 c1 l1 true _ HR.out HC.out HT.out HC1.out HFEW.out).mono ?_); rintro e w1 ⟨rfl, hb⟩; have HB := Aside0.mk hb; clear hb) | (go_at_call 22; (with_reducible refine (HTC.out _ (plOkRules HL.out) ⟨by have := HTL.out; omega, HTX.out⟩ (Kd.C_below HR.out HB.out) HC.out (Kd.C_below HT.out HB.out) HC1.out (data_ok l0 (plOkRules HL.out))).mono ?_); rintro e w2 ⟨v1, rfl, hv1, hb⟩; obtain ⟨B1, d1, rfl⟩ := Kd.R_slice hv1; have HV1 := Aside0.mk (Kd.R_reads' hv1).2.2; have HB2 := Aside0.mk (below_step HB.out hb); clear hb hv1))
    go_loopw [5, 6, 8] (fun av wv i wr => ∃ (a k : Nat) (out : List Int) (pre : List Tr3), av = .int .i64 a ∧ i = .int .i64 k ∧ Aside0 (a ≤ l1.length ∧ k ≤ T.length) ∧ Aside0 (T = pre ++ traceS (dataS l0) l1 (l1.length - a) (a : Int) ∧ pre.length = k) ∧ Aside0 (applyS (dataS l0) l1 l1.length 0 = out ++ applyS (dataS l0) l1 (l1.length - a) (a : Int) ∧ out.length ≤ 16 * a) ∧ Aside0 (Kd.R (Kd.int .i64) 3 wr w2.heap.size (fun _ => True) wv out) ∧ Aside0 (Below w2.heap.size w2 wr)) (fun _ _ i _ => T.length - (intOf i).toNat)
    case atStart => exact ⟨0, 0, [], [], rfl, rfl, ⟨Nat.zero_le _, Nat.zero_le _⟩, ⟨HTT.out, rfl⟩, ⟨rfl, Nat.zero_le _⟩, ⟨Kd.R_nil _ _ _ _ _⟩, ⟨Below.refl _ _⟩⟩
    case round =>
      obtain ⟨a, k, out, pre, rfl, rfl, HK, HEQ, HAQ, HO, HB4⟩ := hrel
      by_cases hlt : k < T.length
      · have hal : a < l1.length := by
          apply Decidable.byContradiction
          intro hn
          have h2 := HEQ.out.1
          rw [traceS_nil (dataS l0) l1 a _ (by omega), List.append_nil] at h2
          have h3 := HEQ.out.2
          rw [h2] at hlt
          omega
        obtain ⟨n, hs, hn1, hn2, hcase⟩ := stepS_bounds (dataS l0) l1 a hal (plData1 l0)
        have hst := traceS_step (dataS l0) l1 (l1.length - a) a hal (by omega)
        have hmo := traceS_more (dataS l0) l1 (plData1 l0) (l1.length - (a + n)) (a + n) (l1.length - a - 1) (by omega) (by omega)
        rw [hs, show (a : Int) + (n : Int) = ((a + n : Nat) : Int) by omega] at hst
        rw [← hmo] at hst
        have has := applyS_step (dataS l0) l1 (l1.length - a) a hal (by omega)
        have ham := applyS_more (dataS l0) l1 (plData1 l0) (l1.length - (a + n)) (a + n) (l1.length - a - 1) (by omega) (by omega)
        rw [hs, show (a : Int) + (n : Int) = ((a + n : Nat) : Int) by omega, ← ham] at has
        obtain ⟨i, hi⟩ : ∃ i, i = (stepS (dataS l0) l1 (a : Int)).1 := ⟨_, rfl⟩
        have hpair : stepS (dataS l0) l1 (a : Int) = (i, (n : Int)) := by rw [hi, ← hs]
        have hsf : transduce_Step.f l0 l1 (a : Int) = some (i, (n : Int)) := by
          unfold transduce_Step.f
          rw [if_pos ⟨plOkRules HL.out, HOKT.out⟩, hpair]
        rw [hpair] at hst
        rw [← hi] at has hcase
        have hwl := (resV_written (dataS l0) l1 a n i hn1 hn2 (data_ok3 l0) hcase).2
        have hrd : rd_Tr T (k : Int) = ((a : Int), i, (n : Int)) := by
          unfold rd_Tr
          rw [Int.toNat_natCast, List.getD_eq_getElem?_getD, HEQ.out.1, hst, List.getElem?_append_right (by rw [HEQ.out.2]; exact Nat.le_refl _), HEQ.out.2, Nat.sub_self]
          rfl
        obtain ⟨ad1, e1, x0, x1, x2⟩ := at_Tr (Kd.C_below HV1.out HB4.out) (k : Int) (by omega) (by omega)
        cases e1
        rw [Int.toNat_natCast, hrd] at x0 x1 x2
        have HST := Aside0.mk hst
        have HAS := Aside0.mk has
        have HSF := Aside0.mk hsf
        have HWL := Aside0.mk hwl
        have HN := Aside0.mk (And.intro hn1 hn2)
        have hp1 : (0 ≤ (k : Int)) = True := eq_true (by omega)
        have hp2 : ((k : Int) < (T.length : Int)) = True := eq_true (by omega)
        have hdl : decide ((k : Int) < (T.length : Int)) = true := decide_eq_true (by omega)
        have hwk : wrap64 ((k : Int) + 1) = (k : Int) + 1 := by have := HTN.out; unfold wrap64; omega
        have hws : wrap64 ((l1.length : Int) - (a : Int)) = (l1.length : Int) - (a : Int) := by have := HTL.out; unfold wrap64; omega
        have hwa : wrap64 ((a : Int) + (n : Int)) = (a : Int) + (n : Int) := by have := HTL.out; unfold wrap64; omega
        clear hst hmo has ham hs hi hpair hsf hwl hrd
        have HBR := Aside0.mk (below_step HB2.out HB4.out)
        rcases hcase with ⟨rfl, rfl⟩ | ⟨j, rfl, hj, hnj⟩
        · have HWF := Aside0.mk (plWritten_none l0 l1 a 100 hal)
          have hq1 : decide ((1 : Int) > (l1.length : Int) - (a : Int)) = false := decide_eq_false (by omega)
          have hq2 : decide ((-1 : Int) ≥ ((dataS l0).length : Int)) = false := decide_eq_false (by omega)
          have hwa1 : wrap64 ((a : Int) + 1) = ((a + 1 : Nat) : Int) := by have := HTL.out; unfold wrap64; omega
          have hwe : writtenS l0 l1 (a : Int) (-1) = writtenS (dataS l0) l1 (a : Int) (-1) := rfl
          rw [hwe] at HWF
          have HLT := Aside0.mk hlt
          clear hwe hlt hal hn1 hn2
          generalize writtenS (dataS l0) l1 (a : Int) (-1) = wl at *
          go_upto_region 12 with (first | (go_at_call 13; (with_reducible refine (transduce_Step.calls A0 c0 l0 (A1) c1 l1 (a : Int) (-1) ((1 : Nat) : Int) _ (Kd.C_below HR.out HBR.out) HC.out (Kd.C_below HT.out HBR.out) HC1.out HSF.out).mono ?_); rintro e w3 ⟨rfl, hb⟩; have y0 := pw_cell_below hb x0; have y1 := pw_cell_below hb x1; have y2 := pw_cell_below hb x2; clear x0 x1 x2; have HB5 := Aside0.mk hb; clear hb) | (go_at_call 24; (with_reducible refine (unicodetextref51_Data.calls 100 _ A0 c0 l0 (dataS l0) _ (Kd.V_mk HC.out (Kd.C_F k34_heap (Kd.C_below HR.out (below_step HBR.out HB5.out)))) HDA.out).mono ?_); rintro e w4 ⟨vd, rfl, hvd, hb⟩; obtain ⟨Ad, cd, rfl⟩ := Kd.V_slice hvd; have HB6 := Aside0.mk hb; clear hb hvd))
          have HBW := Aside0.mk (below_step (below_step HBR.out HB5.out) HB6.out)
          have HB2W := Aside0.mk (below_step (below_step HB4.out HB5.out) HB6.out)
          have HOW := Aside0.mk (Kd.R_below (Kd.R_below HO.out HB5.out) HB6.out)
          skip
          go_wp2_with (first | (go_at_call 25; (with_reducible refine (unicodetextref51_Written.calls 100 _ c0 l0 A1 c1 l1 (a : Int) (-1) wl _ (Kd.C_below HR.out HBW.out) HC.out (Kd.C_below HT.out HBW.out) HC1.out HWF.out).mono ?_); rintro e w5 ⟨v5, rfl, hv5, hb⟩; obtain ⟨A5, c5, rfl⟩ := Kd.R_slice hv5; have HCW := Aside0.mk (Kd.R_reads' hv5).2.2; have HB7 := Aside0.mk hb; clear hb hv5) | (at_builtin; refine Kd.R_append_rows (Kd.int .i64) (w0 := w2) w2.heap.size rfl (.tmp 84) (.tmp 89) 23 3 (.int .i64 0) 8 rfl Try.underlying23 info3 rfl (by decide) (by omega) u6 out wl _ _ _ (fun _ => True) (fun _ => False) rfl rfl ?aO ?aR (fun _ _ h => h) (fun _ h => h.elim) ?aF ?aB ?aS ?aL ?_; (case aR => exact HCW.out); (case aB => exact below_step HB2W.out HB7.out); (case aF => exact (fun _ _ => trivial)); (case aO => exact Kd.R_below HOW.out HB7.out); (case aS => exact (below_step HB2W.out HB7.out).size); (case aL => have h1_ := HAQ.out.2; have h2_ := HWL.out; have h3_ := HTL.out; have h4_ := HK.out; have h5_ := HN.out; omega); intro v6 w6 ho hb hg hat; have HO4 := Aside0.mk ho; have HB8 := Aside0.mk hb; clear ho hb hg hat))
          go_roundw
          case rel => exact ⟨a + 1, k + 1, out ++ wl, pre ++ [((a : Int), (-1), ((1 : Nat) : Int))], by rw [hwa1], by rw [hwk]; rfl, ⟨HN.out.2, by have := HLT.out; omega⟩, ⟨by rw [HEQ.out.1, HST.out, List.append_assoc]; rfl, by rw [List.length_append, HEQ.out.2]; rfl⟩, ⟨by rw [HAQ.out.1, HAS.out, List.append_assoc], by rw [List.length_append]; have := HAQ.out.2; have := HWL.out; omega⟩, HO4, HB8⟩
          case measure => rw [hwk]; simp only [intOf]; have := HLT.out; omega
        · have hde := plData_eq l0 j hj
          have hwf := plWritten_ok (dataS l0) l1 a n (j : Int) 100 hn1 hn2 (by have := HTL.out; omega) (data_ok3 l0) (.inr ⟨j, rfl, hj, hnj⟩) (by decide)
          have hwq : unicodetextref51_Written.f 100 l0 l1 (a : Int) (j : Int) = some (writtenS (dataS l0) l1 (a : Int) (j : Int)) := by rw [hde] at hwf ⊢; exact hwf
          have HWF := Aside0.mk hwq
          have hjl : j < l0.length := by rw [hde] at hj; exact hj
          have HJL := Aside0.mk hjl
          have hnx : n = (rd_T34 l0 (j : Int)).f1.length := by
            rw [hnj, hde]
            unfold rd_T34
            rw [Int.toNat_natCast]
          have HNX := Aside0.mk hnx
          have hq0 : decide ((n : Int) < 1) = false := decide_eq_false (by omega)
          have hq1 : decide ((n : Int) > (l1.length : Int) - (a : Int)) = false := decide_eq_false (by omega)
          have hq2 : decide ((j : Int) ≥ ((dataS l0).length : Int)) = false := decide_eq_false (by omega)
          have hq3 : decide ((j : Int) < -1) = false := decide_eq_false (by omega)
          have hq6 : decide ((dataS l0).length ≤ j) = false := decide_eq_false (by omega)
          have hq7 : ((dataS l0).length ≤ j) = False := eq_false (by omega)
          have hq8 : decide (n < 1) = false := decide_eq_false (by omega)
          have hq9 : (n = 0) = False := eq_false (by omega)
          have HLT := Aside0.mk hlt
          clear hlt hal hn1 hn2 hnj hde hwf hwq hj hnx hjl
          generalize writtenS (dataS l0) l1 (a : Int) (j : Int) = wl at *
          go_upto_region 12 with (first | (go_at_call 13; (with_reducible refine (transduce_Step.calls A0 c0 l0 (A1) c1 l1 (a : Int) (j : Int) (n : Int) _ (Kd.C_below HR.out HBR.out) HC.out (Kd.C_below HT.out HBR.out) HC1.out HSF.out).mono ?_); rintro e w3 ⟨rfl, hb⟩; have y0 := pw_cell_below hb x0; have y1 := pw_cell_below hb x1; have y2 := pw_cell_below hb x2; clear x0 x1 x2; have HB5 := Aside0.mk hb; clear hb) | (go_at_call 24; (with_reducible refine (unicodetextref51_Data.calls 100 _ A0 c0 l0 (dataS l0) _ (Kd.V_mk HC.out (Kd.C_F k34_heap (Kd.C_below HR.out (below_step HBR.out HB5.out)))) HDA.out).mono ?_); rintro e w4 ⟨vd, rfl, hvd, hb⟩; obtain ⟨Ad, cd, rfl⟩ := Kd.V_slice hvd; have HB6 := Aside0.mk hb; clear hb hvd))
          obtain ⟨adr, D0, g0, D1, g1, D2, g2, D3, g3, er, z0, z1, z2, z3, _⟩ := at_T34 (Kd.C_below HR.out (below_step (below_step HBR.out HB5.out) HB6.out)) (j : Int) (by omega) (by have := HJL.out; omega)
          cases er
          rw [Int.toNat_natCast] at z0 z1 z2 z3
          rw [← HNX.out] at z1
          clear y0 y1 y2
          have hp3 : (0 ≤ (j : Int)) = True := eq_true (by omega)
          have hp4 : ((j : Int) < (l0.length : Int)) = True := eq_true (by have := HJL.out; omega)
          have hq4 : decide ((j : Int) ≥ 0) = true := decide_eq_true (by omega)
          have hq5 : decide ((j : Int) < 0) = false := decide_eq_false (by omega)
          have HBW := Aside0.mk (below_step (below_step HBR.out HB5.out) HB6.out)
          have HB2W := Aside0.mk (below_step (below_step HB4.out HB5.out) HB6.out)
          have HOW := Aside0.mk (Kd.R_below (Kd.R_below HO.out HB5.out) HB6.out)
          skip
          go_wp2_with (first | (go_at_call 25; (with_reducible refine (unicodetextref51_Written.calls 100 _ c0 l0 A1 c1 l1 (a : Int) ((j : Int)) wl _ (Kd.C_below HR.out HBW.out) HC.out (Kd.C_below HT.out HBW.out) HC1.out HWF.out).mono ?_); rintro e w5 ⟨v5, rfl, hv5, hb⟩; obtain ⟨A5, c5, rfl⟩ := Kd.R_slice hv5; have HCW := Aside0.mk (Kd.R_reads' hv5).2.2; have HB7 := Aside0.mk hb; clear hb hv5) | (at_builtin; refine Kd.R_append_rows (Kd.int .i64) (w0 := w2) w2.heap.size rfl (.tmp 84) (.tmp 89) 23 3 (.int .i64 0) 8 rfl Try.underlying23 info3 rfl (by decide) (by omega) u6 out wl _ _ _ (fun _ => True) (fun _ => False) rfl rfl ?aO ?aR (fun _ _ h => h) (fun _ h => h.elim) ?aF ?aB ?aS ?aL ?_; (case aR => exact HCW.out); (case aB => exact below_step HB2W.out HB7.out); (case aF => exact (fun _ _ => trivial)); (case aO => exact Kd.R_below HOW.out HB7.out); (case aS => exact (below_step HB2W.out HB7.out).size); (case aL => have h1_ := HAQ.out.2; have h2_ := HWL.out; have h3_ := HTL.out; have h4_ := HK.out; have h5_ := HN.out; omega); intro v6 w6 ho hb hg hat; have HO4 := Aside0.mk ho; have HB8 := Aside0.mk hb; clear ho hb hg hat))
          go_roundw
          case rel => exact ⟨a + n, k + 1, out ++ wl, pre ++ [((a : Int), ((j : Int)), ((n : Nat) : Int))], by rw [hwa]; rfl, by rw [hwk]; rfl, ⟨HN.out.2, by have := HLT.out; omega⟩, ⟨by rw [HEQ.out.1, HST.out, List.append_assoc]; rfl, by rw [List.length_append, HEQ.out.2]; rfl⟩, ⟨by rw [HAQ.out.1, HAS.out, List.append_assoc], by rw [List.length_append]; have := HAQ.out.2; have := HWL.out; omega⟩, HO4, HB8⟩
          case measure => rw [hwk]; simp only [intOf]; have := HLT.out; omega
      · obtain rfl : k = T.length := by have := HK.out.2; omega
        have hae : a = l1.length := by
          apply Decidable.byContradiction
          intro hn
          have h2 := HEQ.out.1
          have h3 := HEQ.out.2
          rw [traceS_step (dataS l0) l1 (l1.length - a) a (by have := HK.out.1; omega) (by have := HK.out.1; omega)] at h2
          have h4 := congrArg List.length h2
          simp at h4
          omega
        subst hae
        have hfin : applyS (dataS l0) l1 l1.length 0 = out := by rw [HAQ.out.1, Nat.sub_self, applyS, List.append_nil]
        have HAPO : Aside0 (transduce_Apply.f l0 l1 = some out) := ⟨by rw [HAP.out, hfin]⟩
        have HEE : Aside0 (unicodetextref01_Equal.f 2000 out out = some true) := ⟨by rw [plEqual_ok out out 2000 (by have := HAQ.out.2; have := HTL.out; omega) (by have := HAQ.out.2; have := HTL.out; omega)]; simp⟩
        obtain ⟨Ao, co, rfl⟩ := Kd.R_slice HO.out
        have HOC := Aside0.mk (Kd.R_reads' HO.out)
        have HBR := Aside0.mk (below_step HB2.out HB4.out)
        have hdl : decide ((T.length : Int) < (T.length : Int)) = false := decide_eq_false (by omega)
        go_wp2_with (first | (go_at_call 16; (with_reducible refine (transduce_Apply.calls A0 c0 l0 A1 c1 l1 out _ (Kd.C_below HR.out HBR.out) HC.out (Kd.C_below HT.out HBR.out) HC1.out HAPO.out).mono ?_); rintro e w3 ⟨v5, rfl, hv5, hb⟩; obtain ⟨A5, c5, rfl⟩ := Kd.R_slice hv5; have HCW := Aside0.mk (Kd.R_reads' hv5); have HB7 := Aside0.mk hb; clear hb hv5) | (go_at_call 15; (with_reducible refine (unicodetextref01_Equal.calls 2000 A5 c5 out Ao co out true _ HCW.out.2.2 HCW.out.2.1 (Kd.C_below HOC.out.2.2 HB7.out) HOC.out.2.1 HEE.out).mono ?_); rintro e w' ⟨rfl, ⟨nd, rfl⟩⟩) | (go_at_call 12; (with_reducible refine (unicodetextlaw51_alive.calls 100 true _ HAL.out).mono ?_); rintro e w5 ⟨rfl, hb⟩; have HB8 := Aside0.mk hb; clear hb))
        go_ret
        exact ⟨rfl, below_step (by repeat (first | (with_reducible first | exact (below_step HBR.out HB7.out) | apply below_alloc | apply pw_below_drewN | apply below_drew1) | exact (below_step HBR.out HB7.out))) HB8.out⟩
end Go.Proofs.Ytnhagghhficdpaa.Q
end
