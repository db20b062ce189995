/- Lemmas, printed and written for this claim: part 5. -/
import Derived.Test.YtnhagghhficdpaaG1
import Derived.Test.YtnhagghhficdpaaG4
import Derived.Test.YtnhagghhficdpaaG2
import Derived.IntWalk
import Derived.Deep.RegionHeld3
import Derived.Deep.RegionLaw
import Derived.WalkKit
import Derived.Test.YtnhagghhficdpaaG3
section
namespace Go.Proofs.Ytnhagghhficdpaa.Q
open Go.RowKit Go.Proofs.YtnhagghhficdpaaW.PrintWords Go.Proofs.YtnhagghhficdpaaW.PrintLast Go.Proofs.YtnhagghhficdpaaW.PrintMore
attribute [local go_sem] max2_int min2_int max_two min_two max_three min_three max_four min_four   -- for this text's walks alone
set_option linter.unusedVariables false
set_option linter.unusedSimpArgs false
mutual
def unicodetextlaw51_TransduceKeeps.l0 : Nat → List (S34) → List Int → Int → Option (Bool)
  | 0, _, _, _ => none
  | k + 1, x0, x1, x5 => if x5 < (x0.length : Int) then (unicodetextlaw51_TransduceKeeps.l1 k x0 x1 x5 0) else ((transduce_Apply.f x0 x1).bind fun t287 => ((unicodetextref01_Equal.f k t287 x1).bind fun t290 => (if t290 = true then ((unicodetextlaw51_alive.f k).bind fun t291 => (some t291)) else (some false))))
def unicodetextlaw51_TransduceKeeps.l1 : Nat → List (S34) → List Int → Int → Int → Option (Bool)
  | 0, _, _, _, _ => none
  | k + 1, x0, x1, x5, x6 => if 0 ≤ x5 then (if x5 < (x0.length : Int) then (if x6 < (((rd_T34 x0 x5).f1).length : Int) then (unicodetextlaw51_TransduceKeeps.l2 k x0 x1 x5 x6 0) else (unicodetextlaw51_TransduceKeeps.l0 k x0 x1 (wrap64 (x5 + 1)))) else (none)) else (none)
def unicodetextlaw51_TransduceKeeps.l2 : Nat → List (S34) → List Int → Int → Int → Int → Option (Bool)
  | 0, _, _, _, _, _ => none
  | k + 1, x0, x1, x5, x6, x7 => if x7 < (x1.length : Int) then (if 0 ≤ x5 then (if x5 < (x0.length : Int) then (if 0 ≤ x6 then (if x6 < (((rd_T34 x0 x5).f1).length : Int) then (if 0 ≤ x7 then ((unicodetextref02_Has.f k ((rd_T38 ((rd_T34 x0 x5).f1) x6).f0) (rd x1 x7)).bind fun t296 => (if t296 = true then ((unicodetextlaw51_alive.f k).bind fun t297 => (some t297)) else (unicodetextlaw51_TransduceKeeps.l2 k x0 x1 x5 x6 (wrap64 (x7 + 1))))) else (none)) else (none)) else (none)) else (none)) else (none)) else (unicodetextlaw51_TransduceKeeps.l1 k x0 x1 x5 (wrap64 (x6 + 1)))
end
def unicodetextlaw51_TransduceKeeps.f (k : Nat) (l0 : List (S34)) (l1 : List Int) : Option (Bool) := (unicodetextlaw51_few.f k l0 l1).bind fun t285 => (if t285 = true then (unicodetextlaw51_TransduceKeeps.l0 k l0 l1 0) else ((unicodetextlaw51_alive.f k).bind fun t286 => (some t286)))
def unicodetextlaw51_TransduceKeeps.T12 : Bool × List (List Nat × List Nat) := (true, [([], []), ([], []), ([0, 1], [0, 1]), ([2], [2]), ([3], [3]), ([], []), ([4, 5], [4, 5]), ([6], [6]), ([], []), ([], []), ([8, 9], [8, 9]), ([10], [10]), ([7, 11], [7, 11])])
def unicodetextlaw51_TransduceKeeps.B12 : List Nat := [0, 0, 3, 7, 15, 0, 63, 127, 0, 0, 768, 1792, 4095]
theorem unicodetextlaw51_TransduceKeeps.tab12 : rtab .any (opsOf Try.f5 12) = unicodetextlaw51_TransduceKeeps.T12 := by kernel_rfl
theorem unicodetextlaw51_TransduceKeeps.bits12 : waitsOk unicodetextlaw51_TransduceKeeps.T12.2 unicodetextlaw51_TransduceKeeps.B12 = true := by kernel_rfl
set_option maxHeartbeats 8000000 in
set_option maxRecDepth 100000 in
theorem unicodetextlaw51_TransduceKeeps.calls (k : Nat) (A0 : Option Addr) (c0 : Nat) (l0 : List (S34)) (A1 : Option Addr) (c1 : Nat) (l1 : List Int) (r : Bool) (w : World) (hr0 : Kd.C k34 w A0 l0.length l0) (hc0 : l0.length ≤ c0) (hr1 : Kd.C (Kd.int .i64) w A1 l1.length l1) (hc1 : l1.length ≤ c1) (h : unicodetextlaw51_TransduceKeeps.f k l0 l1 = some r) :
    Calls Try.prog 5 #[.slice A0 l0.length c0, .slice A1 l1.length c1] w fun e w' => e = .returned (.bool r) ∧ Below w.heap.size w w' := by
  have hu38 := Try.underlying38
  have HR0 := Aside0.mk hr0
  have HC0 := Aside0.mk hc0
  clear hr0 hc0
  have HR1 := Aside0.mk hr1
  have HC1 := Aside0.mk hc1
  clear hr1 hc1
  have HB := Aside0.mk (Below.refl w.heap.size w)
  have H : ((unicodetextlaw51_few.f k l0 l1).bind fun t285 => (if t285 = true then (unicodetextlaw51_TransduceKeeps.l0 k l0 l1 0) else ((unicodetextlaw51_alive.f k).bind fun t286 => (some t286)))) = some r := h
  clear h
  replace H := Option.bind_eq_some_iff.mp H
  obtain ⟨t285, A30, H⟩ := H
  replace H : (if t285 = true then (unicodetextlaw51_TransduceKeeps.l0 k l0 l1 0) else ((unicodetextlaw51_alive.f k).bind fun t286 => (some t286))) = some r := H
  have A3 := Aside0.mk A30
  clear A30
  by_cases c4 : t285 = true
  · subst c4
    have H1 : (unicodetextlaw51_TransduceKeeps.l0 k l0 l1 0) = some r := by rw [if_pos rfl] at H; exact H
    clear H
    have H := H1
    clear H1
    have H' := Aside0.mk H
    clear H
    go_enter Try.func5, Try.ntmps5
    go_wp2_with (first | ((with_reducible refine gate_callee (f := 11) rfl ?_); refine goesL_ (some 10) rfl rfl Try.func11 (by kernel_rfl) rfl #[.slice A0 l0.length c0, .slice A1 l1.length c1] rfl (by (try simp only [List.map_toArray, List.map_cons, List.map_nil]); first | done | rfl | (simp only [List.length_drop, List.length_take]; rfl)) ?_; (with_reducible refine (unicodetextlaw51_few.calls k _ _ l0 _ _ l1 true _ ?side1 ?side2 ?side3 ?side4 A3.out).mono ?_); (case side1 => repeat (first | exact HR0.out | (with_reducible refine Kd.C_alloc ?_ _) | (with_reducible refine Kd.C_drewN ?_ _) | (with_reducible refine Kd.C_drew ?_))); (case side2 => exact HC0.out); (case side3 => repeat (first | exact HR1.out | (with_reducible refine Kd.C_alloc ?_ _) | (with_reducible refine Kd.C_drewN ?_ _) | (with_reducible refine Kd.C_drew ?_))); (case side4 => exact HC1.out); rintro e w5 ⟨rfl, hb⟩; refine ⟨_, rfl, ?_⟩; have n0_ := Aside0.mk (below_step (by repeat (first | (with_reducible first | exact HB.out | apply below_alloc | apply pw_below_drewN | apply below_drew1) | exact HB.out)) hb); clear HB; have HB := n0_; clear n0_; (try clear hb); (try clear hb2); (try clear hk); (try clear hi)))
    go_loopg [5] k (fun kq v5 w' => ∃ (x5_1 : Int), v5 = .int .i64 x5_1 ∧ Aside0 (unicodetextlaw51_TransduceKeeps.l0 kq l0 l1 x5_1 = some r) ∧ Aside0 (kq ≤ k) ∧ Aside0 (Below w.heap.size w w'))
    case atStart => exact ⟨(0), (by first | rfl | (simp; done) | (simp [*]; done)), H', ⟨Nat.le_refl _⟩, ⟨by repeat (first | (with_reducible first | exact HB.out | apply below_alloc | apply pw_below_drewN | apply below_drew1) | exact HB.out)⟩⟩
    case round =>
      clear H'
      try clear c1
      try clear p2
      try clear c4
      try clear c5
      obtain ⟨x5_1, rfl, HA, HK1, HB⟩ := hrel
      cases gk with
      | zero => exact absurd HA.out (by simp [unicodetextlaw51_TransduceKeeps.l0])
      | succ k1 =>
        have H := HA.out
        clear HA
        simp only [unicodetextlaw51_TransduceKeeps.l0] at H
        by_cases c6 : x5_1 < (l0.length : Int)
        · rw [if_pos c6] at H
          have c6b0 : decide (x5_1 < (l0.length : Int)) = true := decide_eq_true c6
          clear c6
          have H' := Aside0.mk H
          clear H
          go_wp2
          go_loopg [6] k1 (fun kq v6 w' => ∃ (x6_2 : Int), v6 = .int .i64 x6_2 ∧ Aside0 (unicodetextlaw51_TransduceKeeps.l1 kq l0 l1 x5_1 x6_2 = some r) ∧ Aside0 (kq ≤ k1) ∧ Aside0 (Below w.heap.size w w'))
          case atStart => exact ⟨(0), (by first | rfl | (simp; done) | (simp [*]; done)), H', ⟨Nat.le_refl _⟩, ⟨by repeat (first | (with_reducible first | exact HB.out | apply below_alloc | apply pw_below_drewN | apply below_drew1) | exact HB.out)⟩⟩
          case round =>
            clear H'
            try clear c1
            try clear p2
            try clear c4
            try clear c5
            try clear c6
            try clear c6b0
            try clear p2
            obtain ⟨x6_2, rfl, HA, HK2, HB⟩ := hrel
            cases gk with
            | zero => exact absurd HA.out (by simp [unicodetextlaw51_TransduceKeeps.l1])
            | succ k2 =>
              have H := HA.out
              clear HA
              simp only [unicodetextlaw51_TransduceKeeps.l1] at H
              by_cases c7 : 0 ≤ x5_1
              · rw [if_pos c7] at H
                have c7b0 : decide (0 ≤ x5_1) = true := decide_eq_true c7
                clear c7
                by_cases c8 : x5_1 < (l0.length : Int)
                · rw [if_pos c8] at H
                  have c8b0 : decide (x5_1 < (l0.length : Int)) = true := decide_eq_true c8
                  clear c8
                  by_cases c9 : x6_2 < (((rd_T34 l0 x5_1).f1).length : Int)
                  · rw [if_pos c9] at H
                    have c9b0 : decide (x6_2 < (((rd_T34 l0 x5_1).f1).length : Int)) = true := decide_eq_true c9
                    clear c9
                    have H' := Aside0.mk H
                    clear H
                    have p292 : 0 ≤ (x5_1 : Int) := of_decide_eq_true (by first | (with_reducible assumption) | assumption)
                    have q292 : x5_1 < (l0.length : Int) := of_decide_eq_true (by first | (with_reducible assumption) | assumption)
                    obtain ⟨ad292, A292_0, c292_0, A292_1, c292_1, A292_2, c292_2, A292_3, c292_3, e292, hx292_0, hx292_1, hx292_2, hx292_3, hl292_0, hi292_0, hl292_1, hi292_1, hl292_2, hi292_2, hl292_3, hi292_3⟩ := at_T34 HR0.out x5_1 p292 q292
                    cases e292
                    replace hx292_0 := (HB.out.cell (World.block_lt_of_cell? w _ hx292_0)).trans hx292_0
                    replace hx292_1 := (HB.out.cell (World.block_lt_of_cell? w _ hx292_1)).trans hx292_1
                    replace hx292_2 := (HB.out.cell (World.block_lt_of_cell? w _ hx292_2)).trans hx292_2
                    replace hx292_3 := (HB.out.cell (World.block_lt_of_cell? w _ hx292_3)).trans hx292_3
                    have HR292_0 := Aside0.mk hi292_0
                    have HC292_0 := Aside0.mk hl292_0
                    clear hi292_0 hl292_0
                    have HR292_1 := Aside0.mk hi292_1
                    have HC292_1 := Aside0.mk hl292_1
                    clear hi292_1 hl292_1
                    have HR292_2 := Aside0.mk hi292_2
                    have HC292_2 := Aside0.mk hl292_2
                    clear hi292_2 hl292_2
                    have HR292_3 := Aside0.mk hi292_3
                    have HC292_3 := Aside0.mk hl292_3
                    clear hi292_3 hl292_3
                    replace p292 := eq_true p292
                    replace q292 := eq_true q292
                    go_wp2
                    go_loopg [7] k2 (fun kq v7 w' => ∃ (x7_3 : Int), v7 = .int .i64 x7_3 ∧ Aside0 (unicodetextlaw51_TransduceKeeps.l2 kq l0 l1 x5_1 x6_2 x7_3 = some r) ∧ Aside0 (kq ≤ k2) ∧ Aside0 (Below w.heap.size w w'))
                    case atStart => exact ⟨(0), (by first | rfl | (simp; done) | (simp [*]; done)), H', ⟨Nat.le_refl _⟩, ⟨by repeat (first | (with_reducible first | exact HB.out | apply below_alloc | apply pw_below_drewN | apply below_drew1) | exact HB.out)⟩⟩
                    case round =>
                      clear H'
                      try clear c1
                      try clear c2
                      try clear p2
                      try clear q2
                      try clear hx2
                      try clear c4
                      try clear c5
                      try clear c6
                      try clear c6b0
                      try clear c7
                      try clear c7b0
                      try clear c8
                      try clear c8b0
                      try clear c9
                      try clear c9b0
                      try clear hx292_0
                      try clear hx292_1
                      try clear hx292_2
                      try clear hx292_3
                      try clear p2
                      try clear p292
                      try clear q292
                      obtain ⟨x7_3, rfl, HA, HK3, HB⟩ := hrel
                      cases gk with
                      | zero => exact absurd HA.out (by simp [unicodetextlaw51_TransduceKeeps.l2])
                      | succ k3 =>
                        have H := HA.out
                        clear HA
                        simp only [unicodetextlaw51_TransduceKeeps.l2] at H
                        by_cases c10 : x7_3 < (l1.length : Int)
                        · rw [if_pos c10] at H
                          have c10b0 : decide (x7_3 < (l1.length : Int)) = true := decide_eq_true c10
                          clear c10
                          by_cases c11 : 0 ≤ x5_1
                          · rw [if_pos c11] at H
                            have c11b0 : decide (0 ≤ x5_1) = true := decide_eq_true c11
                            clear c11
                            by_cases c12 : x5_1 < (l0.length : Int)
                            · rw [if_pos c12] at H
                              have c12b0 : decide (x5_1 < (l0.length : Int)) = true := decide_eq_true c12
                              clear c12
                              by_cases c13 : 0 ≤ x6_2
                              · rw [if_pos c13] at H
                                have c13b0 : decide (0 ≤ x6_2) = true := decide_eq_true c13
                                clear c13
                                by_cases c14 : x6_2 < (((rd_T34 l0 x5_1).f1).length : Int)
                                · rw [if_pos c14] at H
                                  have c14b0 : decide (x6_2 < (((rd_T34 l0 x5_1).f1).length : Int)) = true := decide_eq_true c14
                                  clear c14
                                  by_cases c15 : 0 ≤ x7_3
                                  · rw [if_pos c15] at H
                                    have c15b0 : decide (0 ≤ x7_3) = true := decide_eq_true c15
                                    clear c15
                                    replace H := Option.bind_eq_some_iff.mp H
                                    obtain ⟨t296, A160, H⟩ := H
                                    replace H : (if t296 = true then ((unicodetextlaw51_alive.f k3).bind fun t297 => (some t297)) else (unicodetextlaw51_TransduceKeeps.l2 k3 l0 l1 x5_1 x6_2 (wrap64 (x7_3 + 1)))) = some r := H
                                    have A16 := Aside0.mk A160
                                    clear A160
                                    by_cases c17 : t296 = true
                                    · subst c17
                                      have H1 : ((unicodetextlaw51_alive.f k3).bind fun t297 => (some t297)) = some r := by rw [if_pos rfl] at H; exact H
                                      clear H
                                      have H := H1
                                      clear H1
                                      replace H := Option.bind_eq_some_iff.mp H
                                      obtain ⟨t297, A180, H⟩ := H
                                      replace H : (some t297) = some r := H
                                      have A18 := Aside0.mk A180
                                      clear A180
                                      obtain rfl := Option.some.inj H
                                      try go_wp2
                                      have n0_ := Aside0.mk (below_drew1 HB.out)
                                      clear HB
                                      have HB := n0_
                                      clear n0_
                                      have p293 : 0 ≤ (x5_1 : Int) := of_decide_eq_true (by first | (with_reducible assumption) | assumption)
                                      have q293 : x5_1 < (l0.length : Int) := of_decide_eq_true (by first | (with_reducible assumption) | assumption)
                                      obtain ⟨ad293, A293_0, c293_0, A293_1, c293_1, A293_2, c293_2, A293_3, c293_3, e293, hx293_0, hx293_1, hx293_2, hx293_3, hl293_0, hi293_0, hl293_1, hi293_1, hl293_2, hi293_2, hl293_3, hi293_3⟩ := at_T34 HR0.out x5_1 p293 q293
                                      have hw293_3 := hx293_3
                                      have hw293_2 := hx293_2
                                      have hw293_1 := hx293_1
                                      have hw293_0 := hx293_0
                                      obtain rfl : ad292 = ad293 := (by injection e293)
                                      replace hx293_0 := (HB.out.cell (World.block_lt_of_cell? w _ hx293_0)).trans hx293_0
                                      replace hx293_1 := (HB.out.cell (World.block_lt_of_cell? w _ hx293_1)).trans hx293_1
                                      replace hx293_2 := (HB.out.cell (World.block_lt_of_cell? w _ hx293_2)).trans hx293_2
                                      replace hx293_3 := (HB.out.cell (World.block_lt_of_cell? w _ hx293_3)).trans hx293_3
                                      have HR293_0 := Aside0.mk hi293_0
                                      have HC293_0 := Aside0.mk hl293_0
                                      clear hi293_0 hl293_0
                                      have HR293_1 := Aside0.mk hi293_1
                                      have HC293_1 := Aside0.mk hl293_1
                                      clear hi293_1 hl293_1
                                      have HR293_2 := Aside0.mk hi293_2
                                      have HC293_2 := Aside0.mk hl293_2
                                      clear hi293_2 hl293_2
                                      have HR293_3 := Aside0.mk hi293_3
                                      have HC293_3 := Aside0.mk hl293_3
                                      clear hi293_3 hl293_3
                                      replace p293 := eq_true p293
                                      replace q293 := eq_true q293
                                      have p294 : 0 ≤ (x6_2 : Int) := of_decide_eq_true (by first | (with_reducible assumption) | assumption)
                                      have q294 : x6_2 < (((rd_T34 l0 x5_1).f1).length : Int) := of_decide_eq_true (by first | (with_reducible assumption) | assumption)
                                      obtain ⟨ad294, A294_0, c294_0, e294, hx294_0, hl294_0, hi294_0⟩ := at_T38 HR293_1.out x6_2 p294 q294
                                      have hw294_0 := hx294_0
                                      cases e294
                                      replace hx294_0 := (HB.out.cell (World.block_lt_of_cell? w _ hx294_0)).trans hx294_0
                                      have HR294_0 := Aside0.mk hi294_0
                                      have HC294_0 := Aside0.mk hl294_0
                                      clear hi294_0 hl294_0
                                      replace p294 := eq_true p294
                                      replace q294 := eq_true q294
                                      have p295 : 0 ≤ (x7_3 : Int) := of_decide_eq_true (by first | (with_reducible assumption) | assumption)
                                      have q295 : x7_3 < (l1.length : Int) := of_decide_eq_true (by first | (with_reducible assumption) | assumption)
                                      obtain ⟨ad295, e295, hx295_0⟩ := Kd.at_int HR1.out x7_3 p295 q295
                                      have hw295_0 := hx295_0
                                      cases e295
                                      replace hx295_0 := (HB.out.cell (World.block_lt_of_cell? w _ hx295_0)).trans hx295_0
                                      replace p295 := eq_true p295
                                      replace q295 := eq_true q295
                                      refine start_ (n := 13) (S := fun w' => w'.cell? (ad292.add ((x5_1).toNat * 4)) = some (.slice A293_0 ((rd_T34 l0 x5_1).f0).length c293_0) ∧ w'.cell? ⟨(ad292.add ((x5_1).toNat * 4)).block, (ad292.add ((x5_1).toNat * 4)).off + 1, none⟩ = some (.slice (some ad294) ((rd_T34 l0 x5_1).f1).length c293_1) ∧ w'.cell? ⟨(ad292.add ((x5_1).toNat * 4)).block, (ad292.add ((x5_1).toNat * 4)).off + 2, none⟩ = some (.slice A293_2 ((rd_T34 l0 x5_1).f2).length c293_2) ∧ w'.cell? ⟨(ad292.add ((x5_1).toNat * 4)).block, (ad292.add ((x5_1).toNat * 4)).off + 3, none⟩ = some (.slice A293_3 ((rd_T34 l0 x5_1).f3).length c293_3) ∧ w'.cell? (ad294.add (x6_2).toNat) = some (.slice A294_0 ((rd_T38 ((rd_T34 l0 x5_1).f1) x6_2).f0).length c294_0) ∧ w'.cell? (ad295.add (x7_3).toNat) = some (.int .i64 (rd l1 x7_3))) (ds := []) #[false, false, false, false, false, false, false, false, false, false, false, false, false] (by kernel_rfl) rfl rfl ⟨((HB.out.cell (World.block_lt_of_cell? w _ hw293_0)).trans hw293_0), ((HB.out.cell (World.block_lt_of_cell? w _ hw293_1)).trans hw293_1), ((HB.out.cell (World.block_lt_of_cell? w _ hw293_2)).trans hw293_2), ((HB.out.cell (World.block_lt_of_cell? w _ hw293_3)).trans hw293_3), ((HB.out.cell (World.block_lt_of_cell? w _ hw294_0)).trans hw294_0), ((HB.out.cell (World.block_lt_of_cell? w _ hw295_0)).trans hw295_0)⟩ (fun hHeld => ?_); refine with_tabW unicodetextlaw51_TransduceKeeps.tab12 unicodetextlaw51_TransduceKeeps.bits12 (fun HT_ HW_ => ?_)
                                      generalize wr.drew = w19 at HB HR293_0 HR293_1 HR293_2 HR293_3 HR294_0 hx293_0 hx293_1 hx293_2 hx293_3 hx294_0 hx295_0 hHeld ⊢
                                      refine pure_ (i := 0) (N := some 35) (v := ?_) (a' := ?_) #[true, false, false, false, false, false, false, false, false, false, false, false, false] rfl rfl (any_of HT_.out (by kernel_rfl)) (fun _ _ _ h => h) (Or.inl ⟨by rfl, ?_⟩) ?_ ?_
                                      rotate_left
                                      · intro w'
                                        go_simp
                                        with_reducible rfl
                                      rotate_left
                                      · simp only [Act.put, List.setIfInBounds_toArray, List.set_cons_zero, List.set_cons_succ, i64_w, i32_w]
                                        rfl
                                      refine pure_ (i := 1) (N := some 36) (v := ?_) (a' := ?_) #[true, true, false, false, false, false, false, false, false, false, false, false, false] rfl rfl (any_of HT_.out (by kernel_rfl)) (fun _ _ _ h => h) (Or.inl ⟨by rfl, ?_⟩) ?_ ?_
                                      rotate_left
                                      · intro w'
                                        go_simp
                                        with_reducible rfl
                                      rotate_left
                                      · simp only [Act.put, List.setIfInBounds_toArray, List.set_cons_zero, List.set_cons_succ, i64_w, i32_w]
                                        rfl
                                      refine pure_ (i := 2) (N := some 37) (v := ?_) (a' := ?_) #[true, true, true, false, false, false, false, false, false, false, false, false, false] rfl rfl (any_of HT_.out (by kernel_rfl)) (fun _ _ _ h => h) (Or.inl ⟨by rfl, ?_⟩) ?_ ?_
                                      rotate_left
                                      · intro w'
                                        go_simp
                                        with_reducible rfl
                                      rotate_left
                                      · simp only [Act.put, List.setIfInBounds_toArray, List.set_cons_zero, List.set_cons_succ, i64_w, i32_w]
                                        rfl
                                      refine pure_ (i := 3) (N := some 38) (v := ?_) (a' := ?_) #[true, true, true, true, false, false, false, false, false, false, false, false, false] rfl rfl (any_of HT_.out (by kernel_rfl)) (fun _ _ _ h => h) (Or.inl ⟨by rfl, ?_⟩) ?_ ?_
                                      rotate_left
                                      · intro w'
                                        go_simp
                                        with_reducible rfl
                                      rotate_left
                                      · simp only [Act.put, List.setIfInBounds_toArray, List.set_cons_zero, List.set_cons_succ, i64_w, i32_w]
                                        rfl
                                      refine pure_ (i := 5) (N := some 40) (v := ?_) (a' := ?_) #[true, true, true, true, false, true, false, false, false, false, false, false, false] rfl rfl (any_of HT_.out (by kernel_rfl)) (fun _ _ _ h => h) (Or.inl ⟨by rfl, ?_⟩) ?_ ?_
                                      rotate_left
                                      · intro w'
                                        go_simp
                                        with_reducible rfl
                                      rotate_left
                                      · simp only [Act.put, List.setIfInBounds_toArray, List.set_cons_zero, List.set_cons_succ, i64_w, i32_w]
                                        rfl
                                      refine pure_ (i := 8) (N := some 43) (v := ?_) (a' := ?_) #[true, true, true, true, false, true, false, false, true, false, false, false, false] rfl rfl (any_of HT_.out (by kernel_rfl)) (fun _ _ _ h => h) (Or.inl ⟨by rfl, ?_⟩) ?_ ?_
                                      rotate_left
                                      · intro w'
                                        go_simp
                                        with_reducible rfl
                                      rotate_left
                                      · simp only [Act.put, List.setIfInBounds_toArray, List.set_cons_zero, List.set_cons_succ, i64_w, i32_w]
                                        rfl
                                      refine pure_ (i := 9) (N := some 44) (v := ?_) (a' := ?_) #[true, true, true, true, false, true, false, false, true, true, false, false, false] rfl rfl (any_of HT_.out (by kernel_rfl)) (fun _ _ _ h => h) (Or.inl ⟨by rfl, ?_⟩) ?_ ?_
                                      rotate_left
                                      · intro w'
                                        go_simp
                                        with_reducible rfl
                                      rotate_left
                                      · simp only [Act.put, List.setIfInBounds_toArray, List.set_cons_zero, List.set_cons_succ, i64_w, i32_w]
                                        rfl
                                      refine pure_ (i := 10) (N := some 45) (v := ?_) (a' := ?_) #[true, true, true, true, false, true, false, false, true, true, true, false, false] rfl rfl (any_of HT_.out (by kernel_rfl)) (fun _ _ _ h => h) (Or.inl ⟨by rfl, ?_⟩) ?_ ?_
                                      rotate_left
                                      · intro w'
                                        go_simp
                                        with_reducible rfl
                                      rotate_left
                                      · simp only [Act.put, List.setIfInBounds_toArray, List.set_cons_zero, List.set_cons_succ, i64_w, i32_w]
                                        rfl
                                      refine take_ (i := 4) (N := some 39) (v := ?_) (a' := ?_) #[true, true, true, true, true, true, false, false, true, true, true, false, false] rfl rfl (take_ofW HT_.out HW_.out (by kernel_rfl)) (fun _ _ _ h => h) (Or.inl ⟨by rfl, ?_⟩) hHeld ?_ ?_
                                      rotate_left
                                      · rintro w' ⟨s0, s1, s2, s3, s4, s5⟩
                                        go_simp
                                        with_reducible rfl
                                      rotate_left
                                      · simp only [Act.put, List.setIfInBounds_toArray, List.set_cons_zero, List.set_cons_succ, i64_w, i32_w]
                                        rfl
                                      refine pure_ (i := 6) (N := some 41) (v := ?_) (a' := ?_) #[true, true, true, true, true, true, true, false, true, true, true, false, false] rfl rfl (any_of HT_.out (by kernel_rfl)) (fun _ _ _ h => h) (Or.inl ⟨by rfl, ?_⟩) ?_ ?_
                                      rotate_left
                                      · intro w'
                                        go_simp
                                        with_reducible rfl
                                      rotate_left
                                      · simp only [Act.put, List.setIfInBounds_toArray, List.set_cons_zero, List.set_cons_succ, i64_w, i32_w]
                                        rfl
                                      refine take_ (i := 7) (N := some 42) (v := ?_) (a' := ?_) #[true, true, true, true, true, true, true, true, true, true, true, false, false] rfl rfl (take_ofW HT_.out HW_.out (by kernel_rfl)) (fun _ _ _ h => h) (Or.inl ⟨by rfl, ?_⟩) hHeld ?_ ?_
                                      rotate_left
                                      · rintro w' ⟨s0, s1, s2, s3, s4, s5⟩
                                        go_simp
                                        with_reducible rfl
                                      rotate_left
                                      · simp only [Act.put, List.setIfInBounds_toArray, List.set_cons_zero, List.set_cons_succ, i64_w, i32_w]
                                        rfl
                                      refine take_ (i := 11) (N := some 46) (v := ?_) (a' := ?_) #[true, true, true, true, true, true, true, true, true, true, true, true, false] rfl rfl (take_ofW HT_.out HW_.out (by kernel_rfl)) (fun _ _ _ h => h) (Or.inl ⟨by rfl, ?_⟩) hHeld ?_ ?_
                                      rotate_left
                                      · rintro w' ⟨s0, s1, s2, s3, s4, s5⟩
                                        go_simp
                                        with_reducible rfl
                                      rotate_left
                                      · simp only [Act.put, List.setIfInBounds_toArray, List.set_cons_zero, List.set_cons_succ, i64_w, i32_w]
                                        rfl
                                      refine one_ (i := 12) (N := some 47) #[true, true, true, true, true, true, true, true, true, true, true, true, true] rfl rfl (one_of HT_.out (by kernel_rfl)) (by decide) (fun K hK => ?_)
                                      refine goes_ Try.func18 (by kernel_rfl) rfl #[.agg #[.slice A294_0 ((rd_T38 ((rd_T34 l0 x5_1).f1) x6_2).f0).length c294_0], .int .i64 (rd l1 x7_3)] (by rfl) rfl rfl (by (try simp only [List.map_toArray, List.map_cons, List.map_nil]); first | done | rfl | (simp only [List.length_drop, List.length_take]; rfl)) ?_
                                      with_reducible refine (unicodetextref02_Has.calls k3 _ _ ((rd_T38 ((rd_T34 l0 x5_1).f1) x6_2).f0) (rd l1 x7_3) true _ ?side1 ?side2 A16.out).mono ?_
                                      (case side1 => repeat (first | exact (Kd.C_below HR294_0.out HB.out) | (with_reducible refine Kd.C_alloc ?_ _) | (with_reducible refine Kd.C_drewN ?_ _) | (with_reducible refine Kd.C_drew ?_)))
                                      (case side2 => exact HC294_0.out)
                                      rintro e w20 ⟨rfl, hb⟩
                                      refine ⟨_, rfl, ?_⟩
                                      have n0_ := Aside0.mk (below_step (by repeat (first | (with_reducible first | exact HB.out | apply below_alloc | apply pw_below_drewN | apply below_drew1) | exact HB.out)) hb)
                                      clear HB
                                      have HB := n0_
                                      clear n0_
                                      (try clear hb)
                                      (try clear hb2)
                                      (try clear hk)
                                      (try clear hi)
                                      refine hK.out _ _ ⟨((HB.out.cell (World.block_lt_of_cell? w _ hw293_0)).trans hw293_0), ((HB.out.cell (World.block_lt_of_cell? w _ hw293_1)).trans hw293_1), ((HB.out.cell (World.block_lt_of_cell? w _ hw293_2)).trans hw293_2), ((HB.out.cell (World.block_lt_of_cell? w _ hw293_3)).trans hw293_3), ((HB.out.cell (World.block_lt_of_cell? w _ hw294_0)).trans hw294_0), ((HB.out.cell (World.block_lt_of_cell? w _ hw295_0)).trans hw295_0)⟩ (fun hHeld => ?_)
                                      clear hK K
                                      refine norm_ (a' := ?_) ?_ ?_
                                      rotate_left
                                      · show Act.put _ (some 47) _ = _
                                        simp only [Act.put, List.setIfInBounds_toArray, List.set_cons_zero, List.set_cons_succ, i64_w, i32_w]
                                        rfl
                                      refine done_ (done_of HT_.out (by kernel_rfl)) ?_
                                      try go_wp2_with (first | ((with_reducible refine gate_callee (f := 12) rfl ?_); refine goesL_ (some 48) rfl rfl Try.func12 (by kernel_rfl) rfl #[] rfl (by (try simp only [List.map_toArray, List.map_cons, List.map_nil]); first | done | rfl | (simp only [List.length_drop, List.length_take]; rfl)) ?_; (with_reducible refine (unicodetextlaw51_alive.calls k3  t297 _ A18.out).mono ?_); rintro e w21 ⟨rfl, hb⟩; refine ⟨_, rfl, ?_⟩; have n0_ := Aside0.mk (below_step (by repeat (first | (with_reducible first | exact HB.out | apply below_alloc | apply pw_below_drewN | apply below_drew1) | exact HB.out)) hb); clear HB; have HB := n0_; clear n0_; (try clear hb); (try clear hb2); (try clear hk); (try clear hi)))
                                      go_ret
                                      exact ⟨by first | rfl | (simp [errW_none, errW_some] <;> rfl) | (simp [*, errW_none, errW_some] <;> rfl), by repeat (first | (with_reducible first | exact HB.out | apply below_alloc | apply pw_below_drewN | apply below_drew1) | exact HB.out)⟩
                                    · replace c17 := Bool.eq_false_iff.mpr c17
                                      subst c17
                                      have H1 : (unicodetextlaw51_TransduceKeeps.l2 k3 l0 l1 x5_1 x6_2 (wrap64 (x7_3 + 1))) = some r := by rw [if_neg (show ¬ (false = true) by decide)] at H; exact H
                                      clear H
                                      have H := H1
                                      clear H1
                                      have H' := Aside0.mk H
                                      clear H
                                      try go_wp2
                                      have n0_ := Aside0.mk (below_drew1 HB.out)
                                      clear HB
                                      have HB := n0_
                                      clear n0_
                                      have p293 : 0 ≤ (x5_1 : Int) := of_decide_eq_true (by first | (with_reducible assumption) | assumption)
                                      have q293 : x5_1 < (l0.length : Int) := of_decide_eq_true (by first | (with_reducible assumption) | assumption)
                                      obtain ⟨ad293, A293_0, c293_0, A293_1, c293_1, A293_2, c293_2, A293_3, c293_3, e293, hx293_0, hx293_1, hx293_2, hx293_3, hl293_0, hi293_0, hl293_1, hi293_1, hl293_2, hi293_2, hl293_3, hi293_3⟩ := at_T34 HR0.out x5_1 p293 q293
                                      have hw293_3 := hx293_3
                                      have hw293_2 := hx293_2
                                      have hw293_1 := hx293_1
                                      have hw293_0 := hx293_0
                                      obtain rfl : ad292 = ad293 := (by injection e293)
                                      replace hx293_0 := (HB.out.cell (World.block_lt_of_cell? w _ hx293_0)).trans hx293_0
                                      replace hx293_1 := (HB.out.cell (World.block_lt_of_cell? w _ hx293_1)).trans hx293_1
                                      replace hx293_2 := (HB.out.cell (World.block_lt_of_cell? w _ hx293_2)).trans hx293_2
                                      replace hx293_3 := (HB.out.cell (World.block_lt_of_cell? w _ hx293_3)).trans hx293_3
                                      have HR293_0 := Aside0.mk hi293_0
                                      have HC293_0 := Aside0.mk hl293_0
                                      clear hi293_0 hl293_0
                                      have HR293_1 := Aside0.mk hi293_1
                                      have HC293_1 := Aside0.mk hl293_1
                                      clear hi293_1 hl293_1
                                      have HR293_2 := Aside0.mk hi293_2
                                      have HC293_2 := Aside0.mk hl293_2
                                      clear hi293_2 hl293_2
                                      have HR293_3 := Aside0.mk hi293_3
                                      have HC293_3 := Aside0.mk hl293_3
                                      clear hi293_3 hl293_3
                                      replace p293 := eq_true p293
                                      replace q293 := eq_true q293
                                      have p294 : 0 ≤ (x6_2 : Int) := of_decide_eq_true (by first | (with_reducible assumption) | assumption)
                                      have q294 : x6_2 < (((rd_T34 l0 x5_1).f1).length : Int) := of_decide_eq_true (by first | (with_reducible assumption) | assumption)
                                      obtain ⟨ad294, A294_0, c294_0, e294, hx294_0, hl294_0, hi294_0⟩ := at_T38 HR293_1.out x6_2 p294 q294
                                      have hw294_0 := hx294_0
                                      cases e294
                                      replace hx294_0 := (HB.out.cell (World.block_lt_of_cell? w _ hx294_0)).trans hx294_0
                                      have HR294_0 := Aside0.mk hi294_0
                                      have HC294_0 := Aside0.mk hl294_0
                                      clear hi294_0 hl294_0
                                      replace p294 := eq_true p294
                                      replace q294 := eq_true q294
                                      have p295 : 0 ≤ (x7_3 : Int) := of_decide_eq_true (by first | (with_reducible assumption) | assumption)
                                      have q295 : x7_3 < (l1.length : Int) := of_decide_eq_true (by first | (with_reducible assumption) | assumption)
                                      obtain ⟨ad295, e295, hx295_0⟩ := Kd.at_int HR1.out x7_3 p295 q295
                                      have hw295_0 := hx295_0
                                      cases e295
                                      replace hx295_0 := (HB.out.cell (World.block_lt_of_cell? w _ hx295_0)).trans hx295_0
                                      replace p295 := eq_true p295
                                      replace q295 := eq_true q295
                                      refine start_ (n := 13) (S := fun w' => w'.cell? (ad292.add ((x5_1).toNat * 4)) = some (.slice A293_0 ((rd_T34 l0 x5_1).f0).length c293_0) ∧ w'.cell? ⟨(ad292.add ((x5_1).toNat * 4)).block, (ad292.add ((x5_1).toNat * 4)).off + 1, none⟩ = some (.slice (some ad294) ((rd_T34 l0 x5_1).f1).length c293_1) ∧ w'.cell? ⟨(ad292.add ((x5_1).toNat * 4)).block, (ad292.add ((x5_1).toNat * 4)).off + 2, none⟩ = some (.slice A293_2 ((rd_T34 l0 x5_1).f2).length c293_2) ∧ w'.cell? ⟨(ad292.add ((x5_1).toNat * 4)).block, (ad292.add ((x5_1).toNat * 4)).off + 3, none⟩ = some (.slice A293_3 ((rd_T34 l0 x5_1).f3).length c293_3) ∧ w'.cell? (ad294.add (x6_2).toNat) = some (.slice A294_0 ((rd_T38 ((rd_T34 l0 x5_1).f1) x6_2).f0).length c294_0) ∧ w'.cell? (ad295.add (x7_3).toNat) = some (.int .i64 (rd l1 x7_3))) (ds := []) #[false, false, false, false, false, false, false, false, false, false, false, false, false] (by kernel_rfl) rfl rfl ⟨((HB.out.cell (World.block_lt_of_cell? w _ hw293_0)).trans hw293_0), ((HB.out.cell (World.block_lt_of_cell? w _ hw293_1)).trans hw293_1), ((HB.out.cell (World.block_lt_of_cell? w _ hw293_2)).trans hw293_2), ((HB.out.cell (World.block_lt_of_cell? w _ hw293_3)).trans hw293_3), ((HB.out.cell (World.block_lt_of_cell? w _ hw294_0)).trans hw294_0), ((HB.out.cell (World.block_lt_of_cell? w _ hw295_0)).trans hw295_0)⟩ (fun hHeld => ?_); refine with_tabW unicodetextlaw51_TransduceKeeps.tab12 unicodetextlaw51_TransduceKeeps.bits12 (fun HT_ HW_ => ?_)
                                      generalize wr.drew = w22 at HB HR293_0 HR293_1 HR293_2 HR293_3 HR294_0 hx293_0 hx293_1 hx293_2 hx293_3 hx294_0 hx295_0 hHeld ⊢
                                      refine pure_ (i := 0) (N := some 35) (v := ?_) (a' := ?_) #[true, false, false, false, false, false, false, false, false, false, false, false, false] rfl rfl (any_of HT_.out (by kernel_rfl)) (fun _ _ _ h => h) (Or.inl ⟨by rfl, ?_⟩) ?_ ?_
                                      rotate_left
                                      · intro w'
                                        go_simp
                                        with_reducible rfl
                                      rotate_left
                                      · simp only [Act.put, List.setIfInBounds_toArray, List.set_cons_zero, List.set_cons_succ, i64_w, i32_w]
                                        rfl
                                      refine pure_ (i := 1) (N := some 36) (v := ?_) (a' := ?_) #[true, true, false, false, false, false, false, false, false, false, false, false, false] rfl rfl (any_of HT_.out (by kernel_rfl)) (fun _ _ _ h => h) (Or.inl ⟨by rfl, ?_⟩) ?_ ?_
                                      rotate_left
                                      · intro w'
                                        go_simp
                                        with_reducible rfl
                                      rotate_left
                                      · simp only [Act.put, List.setIfInBounds_toArray, List.set_cons_zero, List.set_cons_succ, i64_w, i32_w]
                                        rfl
                                      refine pure_ (i := 2) (N := some 37) (v := ?_) (a' := ?_) #[true, true, true, false, false, false, false, false, false, false, false, false, false] rfl rfl (any_of HT_.out (by kernel_rfl)) (fun _ _ _ h => h) (Or.inl ⟨by rfl, ?_⟩) ?_ ?_
                                      rotate_left
                                      · intro w'
                                        go_simp
                                        with_reducible rfl
                                      rotate_left
                                      · simp only [Act.put, List.setIfInBounds_toArray, List.set_cons_zero, List.set_cons_succ, i64_w, i32_w]
                                        rfl
                                      refine pure_ (i := 3) (N := some 38) (v := ?_) (a' := ?_) #[true, true, true, true, false, false, false, false, false, false, false, false, false] rfl rfl (any_of HT_.out (by kernel_rfl)) (fun _ _ _ h => h) (Or.inl ⟨by rfl, ?_⟩) ?_ ?_
                                      rotate_left
                                      · intro w'
                                        go_simp
                                        with_reducible rfl
                                      rotate_left
                                      · simp only [Act.put, List.setIfInBounds_toArray, List.set_cons_zero, List.set_cons_succ, i64_w, i32_w]
                                        rfl
                                      refine pure_ (i := 5) (N := some 40) (v := ?_) (a' := ?_) #[true, true, true, true, false, true, false, false, false, false, false, false, false] rfl rfl (any_of HT_.out (by kernel_rfl)) (fun _ _ _ h => h) (Or.inl ⟨by rfl, ?_⟩) ?_ ?_
                                      rotate_left
                                      · intro w'
                                        go_simp
                                        with_reducible rfl
                                      rotate_left
                                      · simp only [Act.put, List.setIfInBounds_toArray, List.set_cons_zero, List.set_cons_succ, i64_w, i32_w]
                                        rfl
                                      refine pure_ (i := 8) (N := some 43) (v := ?_) (a' := ?_) #[true, true, true, true, false, true, false, false, true, false, false, false, false] rfl rfl (any_of HT_.out (by kernel_rfl)) (fun _ _ _ h => h) (Or.inl ⟨by rfl, ?_⟩) ?_ ?_
                                      rotate_left
                                      · intro w'
                                        go_simp
                                        with_reducible rfl
                                      rotate_left
                                      · simp only [Act.put, List.setIfInBounds_toArray, List.set_cons_zero, List.set_cons_succ, i64_w, i32_w]
                                        rfl
                                      refine pure_ (i := 9) (N := some 44) (v := ?_) (a' := ?_) #[true, true, true, true, false, true, false, false, true, true, false, false, false] rfl rfl (any_of HT_.out (by kernel_rfl)) (fun _ _ _ h => h) (Or.inl ⟨by rfl, ?_⟩) ?_ ?_
                                      rotate_left
                                      · intro w'
                                        go_simp
                                        with_reducible rfl
                                      rotate_left
                                      · simp only [Act.put, List.setIfInBounds_toArray, List.set_cons_zero, List.set_cons_succ, i64_w, i32_w]
                                        rfl
                                      refine pure_ (i := 10) (N := some 45) (v := ?_) (a' := ?_) #[true, true, true, true, false, true, false, false, true, true, true, false, false] rfl rfl (any_of HT_.out (by kernel_rfl)) (fun _ _ _ h => h) (Or.inl ⟨by rfl, ?_⟩) ?_ ?_
                                      rotate_left
                                      · intro w'
                                        go_simp
                                        with_reducible rfl
                                      rotate_left
                                      · simp only [Act.put, List.setIfInBounds_toArray, List.set_cons_zero, List.set_cons_succ, i64_w, i32_w]
                                        rfl
                                      refine take_ (i := 4) (N := some 39) (v := ?_) (a' := ?_) #[true, true, true, true, true, true, false, false, true, true, true, false, false] rfl rfl (take_ofW HT_.out HW_.out (by kernel_rfl)) (fun _ _ _ h => h) (Or.inl ⟨by rfl, ?_⟩) hHeld ?_ ?_
                                      rotate_left
                                      · rintro w' ⟨s0, s1, s2, s3, s4, s5⟩
                                        go_simp
                                        with_reducible rfl
                                      rotate_left
                                      · simp only [Act.put, List.setIfInBounds_toArray, List.set_cons_zero, List.set_cons_succ, i64_w, i32_w]
                                        rfl
                                      refine pure_ (i := 6) (N := some 41) (v := ?_) (a' := ?_) #[true, true, true, true, true, true, true, false, true, true, true, false, false] rfl rfl (any_of HT_.out (by kernel_rfl)) (fun _ _ _ h => h) (Or.inl ⟨by rfl, ?_⟩) ?_ ?_
                                      rotate_left
                                      · intro w'
                                        go_simp
                                        with_reducible rfl
                                      rotate_left
                                      · simp only [Act.put, List.setIfInBounds_toArray, List.set_cons_zero, List.set_cons_succ, i64_w, i32_w]
                                        rfl
                                      refine take_ (i := 7) (N := some 42) (v := ?_) (a' := ?_) #[true, true, true, true, true, true, true, true, true, true, true, false, false] rfl rfl (take_ofW HT_.out HW_.out (by kernel_rfl)) (fun _ _ _ h => h) (Or.inl ⟨by rfl, ?_⟩) hHeld ?_ ?_
                                      rotate_left
                                      · rintro w' ⟨s0, s1, s2, s3, s4, s5⟩
                                        go_simp
                                        with_reducible rfl
                                      rotate_left
                                      · simp only [Act.put, List.setIfInBounds_toArray, List.set_cons_zero, List.set_cons_succ, i64_w, i32_w]
                                        rfl
                                      refine take_ (i := 11) (N := some 46) (v := ?_) (a' := ?_) #[true, true, true, true, true, true, true, true, true, true, true, true, false] rfl rfl (take_ofW HT_.out HW_.out (by kernel_rfl)) (fun _ _ _ h => h) (Or.inl ⟨by rfl, ?_⟩) hHeld ?_ ?_
                                      rotate_left
                                      · rintro w' ⟨s0, s1, s2, s3, s4, s5⟩
                                        go_simp
                                        with_reducible rfl
                                      rotate_left
                                      · simp only [Act.put, List.setIfInBounds_toArray, List.set_cons_zero, List.set_cons_succ, i64_w, i32_w]
                                        rfl
                                      refine one_ (i := 12) (N := some 47) #[true, true, true, true, true, true, true, true, true, true, true, true, true] rfl rfl (one_of HT_.out (by kernel_rfl)) (by decide) (fun K hK => ?_)
                                      refine goes_ Try.func18 (by kernel_rfl) rfl #[.agg #[.slice A294_0 ((rd_T38 ((rd_T34 l0 x5_1).f1) x6_2).f0).length c294_0], .int .i64 (rd l1 x7_3)] (by rfl) rfl rfl (by (try simp only [List.map_toArray, List.map_cons, List.map_nil]); first | done | rfl | (simp only [List.length_drop, List.length_take]; rfl)) ?_
                                      with_reducible refine (unicodetextref02_Has.calls k3 _ _ ((rd_T38 ((rd_T34 l0 x5_1).f1) x6_2).f0) (rd l1 x7_3) false _ ?side1 ?side2 A16.out).mono ?_
                                      (case side1 => repeat (first | exact (Kd.C_below HR294_0.out HB.out) | (with_reducible refine Kd.C_alloc ?_ _) | (with_reducible refine Kd.C_drewN ?_ _) | (with_reducible refine Kd.C_drew ?_)))
                                      (case side2 => exact HC294_0.out)
                                      rintro e w23 ⟨rfl, hb⟩
                                      refine ⟨_, rfl, ?_⟩
                                      have n0_ := Aside0.mk (below_step (by repeat (first | (with_reducible first | exact HB.out | apply below_alloc | apply pw_below_drewN | apply below_drew1) | exact HB.out)) hb)
                                      clear HB
                                      have HB := n0_
                                      clear n0_
                                      (try clear hb)
                                      (try clear hb2)
                                      (try clear hk)
                                      (try clear hi)
                                      refine hK.out _ _ ⟨((HB.out.cell (World.block_lt_of_cell? w _ hw293_0)).trans hw293_0), ((HB.out.cell (World.block_lt_of_cell? w _ hw293_1)).trans hw293_1), ((HB.out.cell (World.block_lt_of_cell? w _ hw293_2)).trans hw293_2), ((HB.out.cell (World.block_lt_of_cell? w _ hw293_3)).trans hw293_3), ((HB.out.cell (World.block_lt_of_cell? w _ hw294_0)).trans hw294_0), ((HB.out.cell (World.block_lt_of_cell? w _ hw295_0)).trans hw295_0)⟩ (fun hHeld => ?_)
                                      clear hK K
                                      refine norm_ (a' := ?_) ?_ ?_
                                      rotate_left
                                      · show Act.put _ (some 47) _ = _
                                        simp only [Act.put, List.setIfInBounds_toArray, List.set_cons_zero, List.set_cons_succ, i64_w, i32_w]
                                        rfl
                                      refine done_ (done_of HT_.out (by kernel_rfl)) ?_
                                      try go_wp2
                                      go_roundg k3
                                      case measure => have := HK1.out; have := HK2.out; have := HK3.out; omega
                                      case rel => exact ⟨(wrap64 (x7_3 + 1)), (by first | rfl | (simp; done) | (simp [*]; done)), H', ⟨by have := HK1.out; have := HK2.out; have := HK3.out; omega⟩, ⟨by repeat (first | (with_reducible first | exact HB.out | apply below_alloc | apply pw_below_drewN | apply below_drew1) | exact HB.out)⟩⟩
                                  · rw [if_neg c15] at H
                                    exact absurd H (by simp)
                                · rw [if_neg c14] at H
                                  exact absurd H (by simp)
                              · rw [if_neg c13] at H
                                exact absurd H (by simp)
                            · rw [if_neg c12] at H
                              exact absurd H (by simp)
                          · rw [if_neg c11] at H
                            exact absurd H (by simp)
                        · rw [if_neg c10] at H
                          have c10b0 : decide (x7_3 < (l1.length : Int)) = false := decide_eq_false c10
                          clear c10
                          have H' := Aside0.mk H
                          clear H
                          go_wp2
                          go_roundg k3
                          case measure => have := HK1.out; have := HK2.out; have := HK3.out; omega
                          case rel => exact ⟨(wrap64 (x6_2 + 1)), (by first | rfl | (simp; done) | (simp [*]; done)), H', ⟨by have := HK1.out; have := HK2.out; have := HK3.out; omega⟩, ⟨by repeat (first | (with_reducible first | exact HB.out | apply below_alloc | apply pw_below_drewN | apply below_drew1) | exact HB.out)⟩⟩
                  · rw [if_neg c9] at H
                    have c9b0 : decide (x6_2 < (((rd_T34 l0 x5_1).f1).length : Int)) = false := decide_eq_false c9
                    clear c9
                    have H' := Aside0.mk H
                    clear H
                    have p292 : 0 ≤ (x5_1 : Int) := of_decide_eq_true (by first | (with_reducible assumption) | assumption)
                    have q292 : x5_1 < (l0.length : Int) := of_decide_eq_true (by first | (with_reducible assumption) | assumption)
                    obtain ⟨ad292, A292_0, c292_0, A292_1, c292_1, A292_2, c292_2, A292_3, c292_3, e292, hx292_0, hx292_1, hx292_2, hx292_3, hl292_0, hi292_0, hl292_1, hi292_1, hl292_2, hi292_2, hl292_3, hi292_3⟩ := at_T34 HR0.out x5_1 p292 q292
                    cases e292
                    replace hx292_0 := (HB.out.cell (World.block_lt_of_cell? w _ hx292_0)).trans hx292_0
                    replace hx292_1 := (HB.out.cell (World.block_lt_of_cell? w _ hx292_1)).trans hx292_1
                    replace hx292_2 := (HB.out.cell (World.block_lt_of_cell? w _ hx292_2)).trans hx292_2
                    replace hx292_3 := (HB.out.cell (World.block_lt_of_cell? w _ hx292_3)).trans hx292_3
                    have HR292_0 := Aside0.mk hi292_0
                    have HC292_0 := Aside0.mk hl292_0
                    clear hi292_0 hl292_0
                    have HR292_1 := Aside0.mk hi292_1
                    have HC292_1 := Aside0.mk hl292_1
                    clear hi292_1 hl292_1
                    have HR292_2 := Aside0.mk hi292_2
                    have HC292_2 := Aside0.mk hl292_2
                    clear hi292_2 hl292_2
                    have HR292_3 := Aside0.mk hi292_3
                    have HC292_3 := Aside0.mk hl292_3
                    clear hi292_3 hl292_3
                    replace p292 := eq_true p292
                    replace q292 := eq_true q292
                    go_wp2
                    go_roundg k2
                    case measure => have := HK1.out; have := HK2.out; omega
                    case rel => exact ⟨(wrap64 (x5_1 + 1)), (by first | rfl | (simp; done) | (simp [*]; done)), H', ⟨by have := HK1.out; have := HK2.out; omega⟩, ⟨by repeat (first | (with_reducible first | exact HB.out | apply below_alloc | apply pw_below_drewN | apply below_drew1) | exact HB.out)⟩⟩
                · rw [if_neg c8] at H
                  exact absurd H (by simp)
              · rw [if_neg c7] at H
                exact absurd H (by simp)
        · rw [if_neg c6] at H
          have c6b0 : decide (x5_1 < (l0.length : Int)) = false := decide_eq_false c6
          clear c6
          replace H := Option.bind_eq_some_iff.mp H
          obtain ⟨t287, A240, H⟩ := H
          replace H : ((unicodetextref01_Equal.f k1 t287 l1).bind fun t290 => (if t290 = true then ((unicodetextlaw51_alive.f k1).bind fun t291 => (some t291)) else (some false))) = some r := H
          have A24 := Aside0.mk A240
          clear A240
          replace H := Option.bind_eq_some_iff.mp H
          obtain ⟨t290, A250, H⟩ := H
          replace H : (if t290 = true then ((unicodetextlaw51_alive.f k1).bind fun t291 => (some t291)) else (some false)) = some r := H
          have A25 := Aside0.mk A250
          clear A250
          by_cases c26 : t290 = true
          · subst c26
            have H1 : ((unicodetextlaw51_alive.f k1).bind fun t291 => (some t291)) = some r := by rw [if_pos rfl] at H; exact H
            clear H
            have H := H1
            clear H1
            replace H := Option.bind_eq_some_iff.mp H
            obtain ⟨t291, A270, H⟩ := H
            replace H : (some t291) = some r := H
            have A27 := Aside0.mk A270
            clear A270
            obtain rfl := Option.some.inj H
            go_wp2_with (first | ((with_reducible refine gate_callee (f := 16) rfl ?_); refine goesL_ (some 51) rfl rfl Try.func16 (by kernel_rfl) rfl #[.slice A0 l0.length c0, .slice A1 l1.length c1] rfl (by (try simp only [List.map_toArray, List.map_cons, List.map_nil]); first | done | rfl | (simp only [List.length_drop, List.length_take]; rfl)) ?_; (with_reducible refine (transduce_Apply.calls _ _ l0 _ _ l1 t287 _ ?side1 ?side2 ?side3 ?side4 A24.out).mono ?_); (case side1 => repeat (first | exact (Kd.C_below HR0.out HB.out) | (with_reducible refine Kd.C_alloc ?_ _) | (with_reducible refine Kd.C_drewN ?_ _) | (with_reducible refine Kd.C_drew ?_))); (case side2 => exact HC0.out); (case side3 => repeat (first | exact (Kd.C_below HR1.out HB.out) | (with_reducible refine Kd.C_alloc ?_ _) | (with_reducible refine Kd.C_drewN ?_ _) | (with_reducible refine Kd.C_drew ?_))); (case side4 => exact HC1.out); rintro e w28 ⟨v288, rfl, ho0, hb⟩; refine ⟨_, rfl, ?_⟩; have n0_ := Aside0.mk (Kd.R_lower ho0 (below_size (by repeat (first | (with_reducible first | exact HB.out | apply below_alloc | apply pw_below_drewN | apply below_drew1) | exact HB.out)))); have n1_ := Aside0.mk (below_step (by repeat (first | (with_reducible first | exact HB.out | apply below_alloc | apply pw_below_drewN | apply below_drew1) | exact HB.out)) hb); clear HB; have HO289 := n0_; have HB := n1_; clear n0_ n1_; (try clear hb); (try clear hb2); (try clear hk); (try clear hi); (try clear ho0); obtain ⟨Ao29, co29, eo29⟩ := Kd.R_slice HO289.out; subst eo29) | ((with_reducible refine gate_callee (f := 15) rfl ?_); refine goesL_ (some 53) rfl rfl Try.func15 (by kernel_rfl) rfl #[.slice Ao29 t287.length co29, .slice A1 l1.length c1] rfl (by (try simp only [List.map_toArray, List.map_cons, List.map_nil]); first | done | rfl | (simp only [List.length_drop, List.length_take]; rfl)) ?_; (with_reducible refine (unicodetextref01_Equal.calls k1 _ _ t287 _ _ l1 true _ ?side1 ?side2 ?side3 ?side4 A25.out).mono ?_); (case side1 => repeat (first | exact (Kd.R_reads' HO289.out).2.2 | (with_reducible refine Kd.C_alloc ?_ _) | (with_reducible refine Kd.C_drewN ?_ _) | (with_reducible refine Kd.C_drew ?_))); (case side2 => exact (Kd.R_reads' HO289.out).2.1); (case side3 => repeat (first | exact (Kd.C_below HR1.out HB.out) | (with_reducible refine Kd.C_alloc ?_ _) | (with_reducible refine Kd.C_drewN ?_ _) | (with_reducible refine Kd.C_drew ?_))); (case side4 => exact HC1.out); rintro e w' ⟨rfl, ⟨nd, rfl⟩⟩; refine ⟨_, rfl, ?_⟩) | (go_at_call 12; (with_reducible refine (unicodetextlaw51_alive.calls k1  t291 _ A27.out).mono ?_); rintro e w30 ⟨rfl, hb⟩; have n0_ := Aside0.mk (Kd.R_below (by (with_reducible repeat (first | apply Kd.R_alloc | apply Kd.R_drewN | apply Kd.R_drew)); exact HO289.out) hb); have n1_ := Aside0.mk (below_step (by repeat (first | (with_reducible first | exact HB.out | apply below_alloc | apply pw_below_drewN | apply below_drew1) | exact HB.out)) hb); clear HO289; clear HB; have HO289 := n0_; have HB := n1_; clear n0_ n1_; (try clear hb); (try clear hb2); (try clear hk); (try clear hi)))
            go_ret
            exact ⟨by first | rfl | (simp [errW_none, errW_some] <;> rfl) | (simp [*, errW_none, errW_some] <;> rfl), by repeat (first | (with_reducible first | exact HB.out | apply below_alloc | apply pw_below_drewN | apply below_drew1) | exact HB.out)⟩
          · replace c26 := Bool.eq_false_iff.mpr c26
            subst c26
            have H1 : (some false) = some r := by rw [if_neg (show ¬ (false = true) by decide)] at H; exact H
            clear H
            have H := H1
            clear H1
            obtain rfl := Option.some.inj H
            go_wp2_with (first | ((with_reducible refine gate_callee (f := 16) rfl ?_); refine goesL_ (some 51) rfl rfl Try.func16 (by kernel_rfl) rfl #[.slice A0 l0.length c0, .slice A1 l1.length c1] rfl (by (try simp only [List.map_toArray, List.map_cons, List.map_nil]); first | done | rfl | (simp only [List.length_drop, List.length_take]; rfl)) ?_; (with_reducible refine (transduce_Apply.calls _ _ l0 _ _ l1 t287 _ ?side1 ?side2 ?side3 ?side4 A24.out).mono ?_); (case side1 => repeat (first | exact (Kd.C_below HR0.out HB.out) | (with_reducible refine Kd.C_alloc ?_ _) | (with_reducible refine Kd.C_drewN ?_ _) | (with_reducible refine Kd.C_drew ?_))); (case side2 => exact HC0.out); (case side3 => repeat (first | exact (Kd.C_below HR1.out HB.out) | (with_reducible refine Kd.C_alloc ?_ _) | (with_reducible refine Kd.C_drewN ?_ _) | (with_reducible refine Kd.C_drew ?_))); (case side4 => exact HC1.out); rintro e w31 ⟨v288, rfl, ho0, hb⟩; refine ⟨_, rfl, ?_⟩; have n0_ := Aside0.mk (Kd.R_lower ho0 (below_size (by repeat (first | (with_reducible first | exact HB.out | apply below_alloc | apply pw_below_drewN | apply below_drew1) | exact HB.out)))); have n1_ := Aside0.mk (below_step (by repeat (first | (with_reducible first | exact HB.out | apply below_alloc | apply pw_below_drewN | apply below_drew1) | exact HB.out)) hb); clear HB; have HO289 := n0_; have HB := n1_; clear n0_ n1_; (try clear hb); (try clear hb2); (try clear hk); (try clear hi); (try clear ho0); obtain ⟨Ao32, co32, eo32⟩ := Kd.R_slice HO289.out; subst eo32) | ((with_reducible refine gate_callee (f := 15) rfl ?_); refine goesL_ (some 53) rfl rfl Try.func15 (by kernel_rfl) rfl #[.slice Ao32 t287.length co32, .slice A1 l1.length c1] rfl (by (try simp only [List.map_toArray, List.map_cons, List.map_nil]); first | done | rfl | (simp only [List.length_drop, List.length_take]; rfl)) ?_; (with_reducible refine (unicodetextref01_Equal.calls k1 _ _ t287 _ _ l1 false _ ?side1 ?side2 ?side3 ?side4 A25.out).mono ?_); (case side1 => repeat (first | exact (Kd.R_reads' HO289.out).2.2 | (with_reducible refine Kd.C_alloc ?_ _) | (with_reducible refine Kd.C_drewN ?_ _) | (with_reducible refine Kd.C_drew ?_))); (case side2 => exact (Kd.R_reads' HO289.out).2.1); (case side3 => repeat (first | exact (Kd.C_below HR1.out HB.out) | (with_reducible refine Kd.C_alloc ?_ _) | (with_reducible refine Kd.C_drewN ?_ _) | (with_reducible refine Kd.C_drew ?_))); (case side4 => exact HC1.out); rintro e w' ⟨rfl, ⟨nd, rfl⟩⟩; refine ⟨_, rfl, ?_⟩))
            go_ret
            exact ⟨by first | rfl | (simp [errW_none, errW_some] <;> rfl) | (simp [*, errW_none, errW_some] <;> rfl), by repeat (first | (with_reducible first | exact HB.out | apply below_alloc | apply pw_below_drewN | apply below_drew1) | exact HB.out)⟩
  · replace c4 := Bool.eq_false_iff.mpr c4
    subst c4
    have H1 : ((unicodetextlaw51_alive.f k).bind fun t286 => (some t286)) = some r := by rw [if_neg (show ¬ (false = true) by decide)] at H; exact H
    clear H
    have H := H1
    clear H1
    replace H := Option.bind_eq_some_iff.mp H
    obtain ⟨t286, A330, H⟩ := H
    replace H : (some t286) = some r := H
    have A33 := Aside0.mk A330
    clear A330
    obtain rfl := Option.some.inj H
    go_enter Try.func5, Try.ntmps5
    go_wp2_with (first | ((with_reducible refine gate_callee (f := 11) rfl ?_); refine goesL_ (some 10) rfl rfl Try.func11 (by kernel_rfl) rfl #[.slice A0 l0.length c0, .slice A1 l1.length c1] rfl (by (try simp only [List.map_toArray, List.map_cons, List.map_nil]); first | done | rfl | (simp only [List.length_drop, List.length_take]; rfl)) ?_; (with_reducible refine (unicodetextlaw51_few.calls k _ _ l0 _ _ l1 false _ ?side1 ?side2 ?side3 ?side4 A3.out).mono ?_); (case side1 => repeat (first | exact HR0.out | (with_reducible refine Kd.C_alloc ?_ _) | (with_reducible refine Kd.C_drewN ?_ _) | (with_reducible refine Kd.C_drew ?_))); (case side2 => exact HC0.out); (case side3 => repeat (first | exact HR1.out | (with_reducible refine Kd.C_alloc ?_ _) | (with_reducible refine Kd.C_drewN ?_ _) | (with_reducible refine Kd.C_drew ?_))); (case side4 => exact HC1.out); rintro e w34 ⟨rfl, hb⟩; refine ⟨_, rfl, ?_⟩; have n0_ := Aside0.mk (below_step (by repeat (first | (with_reducible first | exact HB.out | apply below_alloc | apply pw_below_drewN | apply below_drew1) | exact HB.out)) hb); clear HB; have HB := n0_; clear n0_; (try clear hb); (try clear hb2); (try clear hk); (try clear hi)) | ((with_reducible refine gate_callee (f := 12) rfl ?_); refine goesL_ (some 12) rfl rfl Try.func12 (by kernel_rfl) rfl #[] rfl (by (try simp only [List.map_toArray, List.map_cons, List.map_nil]); first | done | rfl | (simp only [List.length_drop, List.length_take]; rfl)) ?_; (with_reducible refine (unicodetextlaw51_alive.calls k  t286 _ A33.out).mono ?_); rintro e w35 ⟨rfl, hb⟩; refine ⟨_, rfl, ?_⟩; have n0_ := Aside0.mk (below_step (by repeat (first | (with_reducible first | exact HB.out | apply below_alloc | apply pw_below_drewN | apply below_drew1) | exact HB.out)) hb); clear HB; have HB := n0_; clear n0_; (try clear hb); (try clear hb2); (try clear hk); (try clear hi)))
    go_ret
    exact ⟨by first | rfl | (simp [errW_none, errW_some] <;> rfl) | (simp [*, errW_none, errW_some] <;> rfl), by repeat (first | (with_reducible first | exact HB.out | apply below_alloc | apply pw_below_drewN | apply below_drew1) | exact HB.out)⟩
end Go.Proofs.Ytnhagghhficdpaa.Q
end
section
namespace Go.Proofs.Ytnhagghhficdpaa.Q
open Go.RowKit Go.Proofs.YtnhagghhficdpaaW.PrintWords Go.Proofs.YtnhagghhficdpaaW.PrintLast Go.Proofs.YtnhagghhficdpaaW.PrintMore
attribute [local go_sem] max2_int min2_int max_two min_two max_three min_three max_four min_four   -- for this text's walks alone
set_option linter.unusedVariables false
set_option linter.unusedSimpArgs false
mutual
def unicodetextref02_place.l0 : Nat → List Int → Int → List Int → Bool → Int → Option (List Int)
  | 0, _, _, _, _, _ => none
  | k + 1, x0, x1, x5, x6, x7 => if x7 < (x0.length : Int) then (if x6 = true then (unicodetextref02_place.j1 k x0 x1 x5 x6 x7 false) else (if 0 ≤ x7 then (unicodetextref02_place.j1 k x0 x1 x5 x6 x7 (decide ((rd x0 x7) ≥ x1))) else (none))) else (if x6 = true then (some x5) else (if x5.length < 17592186044416 then (some (x5 ++ [x1])) else (none)))
def unicodetextref02_place.j1 : Nat → List Int → Int → List Int → Bool → Int → Bool → Option (List Int)
  | 0, _, _, _, _, _, _ => none
  | k + 1, x0, x1, x5, x6, x7, x23 => if x23 = true then (if 0 ≤ x7 then (if x7 < (x0.length : Int) then (if (rd x0 x7) > x1 then (if x5.length < 17592186044416 then ((some (x5 ++ [x1] : List Int)).bind fun y191 => (if y191.length < 17592186044416 then (unicodetextref02_place.l0 k x0 x1 (y191 ++ [rd x0 x7]) true (wrap64 (x7 + 1))) else (none))) else (none)) else (if x5.length < 17592186044416 then (unicodetextref02_place.l0 k x0 x1 (x5 ++ [rd x0 x7]) true (wrap64 (x7 + 1))) else (none))) else (none)) else (none)) else (if 0 ≤ x7 then (if x7 < (x0.length : Int) then (if x5.length < 17592186044416 then (unicodetextref02_place.l0 k x0 x1 (x5 ++ [rd x0 x7]) x6 (wrap64 (x7 + 1))) else (none)) else (none)) else (none))
end
def unicodetextref02_place.f (k : Nat) (l0 : List Int) (a1 : Int) : Option (List Int) := unicodetextref02_place.l0 k l0 a1 ([] : List Int) false 0
def unicodetextref02_keeps.f (a0 : Int) (a1 : Bool) (a2 : Bool) : Option (Bool) := if a0 = 1 then (if a1 = true then (some true) else (some a2)) else (if a0 = 2 then (if a1 = true then (some a2) else (some false)) else (if a1 = true then (some (!a2)) else (some false)))
end Go.Proofs.Ytnhagghhficdpaa.Q
end
section
namespace Go.Proofs.Ytnhagghhficdpaa.Q
open Go.RowKit Go.Proofs.YtnhagghhficdpaaW.PrintWords Go.Proofs.YtnhagghhficdpaaW.PrintLast Go.Proofs.YtnhagghhficdpaaW.PrintMore
set_option linter.unusedVariables false
theorem rd_mid (pre : List Int) (x : Int) (rest : List Int) : rd (pre ++ x :: rest) (pre.length : Int) = x := by
  unfold rd
  rw [Int.toNat_natCast, List.getD_eq_getElem?_getD, List.getElem?_append_right (Nat.le_refl _), Nat.sub_self]
  rfl
theorem wrap_succ {n : Nat} (h : n < 1000000000) : wrap64 ((n : Int) + 1) = ((n + 1 : Nat) : Int) := by unfold wrap64; omega
theorem valid_eq (c : Int) : unicodetextref01_Valid.f c = some (decide (0 ≤ c ∧ c ≤ 1114111)) := by
  unfold unicodetextref01_Valid.f
  split
  · rename_i h; simp only [ge_iff_le] at h; simp [h]
  · rename_i h; simp only [ge_iff_le] at h; simp [h]
def unicodetextref02_Cuts.f (l0 : List Int) (l1_0 : List S59) : Option (List Int) := if l0.length + l1_0.length * 2 < 100000000 then some (CpM.cuts l0 (l1_0.map toP)) else none
abbrev kInt : Kd Int := Kd.int .i64
end Go.Proofs.Ytnhagghhficdpaa.Q
end
section
namespace Go.Proofs.Ytnhagghhficdpaa.Q
open Go.RowKit Go.Proofs.YtnhagghhficdpaaW.PrintWords Go.Proofs.YtnhagghhficdpaaW.PrintLast Go.Proofs.YtnhagghhficdpaaW.PrintMore
set_option linter.unusedVariables false
theorem rdR_mid (pre : List Rg) (x : Rg) (rest : List Rg) : rd_T59 (pre ++ x :: rest) (pre.length : Int) = x := by
  unfold rd_T59
  rw [Int.toNat_natCast, List.getD_eq_getElem?_getD, List.getElem?_append_right (Nat.le_refl _), Nat.sub_self]
  rfl
theorem hasB_cons (r : Int × Int) (l : List (Int × Int)) (c : Int) : CpM.hasB (r :: l) c = ((decide (0 ≤ c ∧ c ≤ 1114111) && (decide (r.1 ≤ c) && decide (c ≤ r.2))) || CpM.hasB l c) := by
  unfold CpM.hasB
  rw [List.any_cons, Bool.decide_and]
theorem has_go : ∀ (rest pre : List Rg) (c : Int) (k : Nat), (pre ++ rest).length < 1000000000 → rest.length + 1 ≤ k →
    unicodetextref02_Has.l0 k c (pre.length : Int) (pre ++ rest) = some (CpM.hasB (rest.map toP) c)
  | [], pre, c, k, h1, h2 => by
    obtain ⟨k, rfl⟩ : ∃ j, k = j + 1 := ⟨k - 1, by omega⟩
    rw [unicodetextref02_Has.l0, List.append_nil, if_neg (by omega)]
    rfl
  | x :: rest, pre, c, k, h1, h2 => by
    obtain ⟨k, rfl⟩ : ∃ j, k = j + 1 := ⟨k - 1, by omega⟩
    have hp : pre.length < 1000000000 := by simp at h1; omega
    have e2 : pre ++ x :: rest = (pre ++ [x]) ++ rest := by simp
    have e3 : (((pre.length + 1 : Nat)) : Int) = ((pre ++ [x]).length : Int) := by simp
    have ih := has_go rest (pre ++ [x]) c k (by simpa using h1) (by simp at h2; omega)
    rw [← e2, ← e3] at ih
    rw [unicodetextref02_Has.l0, if_pos (by simp; omega), valid_eq, rdR_mid, wrap_succ hp, ih, List.map_cons, hasB_cons]
    show (if decide (0 ≤ c ∧ c ≤ 1114111) = true then _ else _) = _
    by_cases hv : 0 ≤ c ∧ c ≤ 1114111
    · rw [decide_eq_true hv, if_pos rfl, if_pos (by omega)]
      unfold toP
      by_cases h3 : x.f0 ≤ c
      · by_cases h4 : c ≤ x.f1
        · simp [h3, h4]
        · simp [h3, h4]
      · simp [h3]
    · rw [decide_eq_false hv, if_neg (by decide)]
      rfl
def keepsB (op : Int) (x y : Bool) : Bool := if op = 1 then x || y else if op = 2 then x && y else x && !y
def keepAB (l0 l1 : List Rg) (op : Int) (c : Int) : Bool := keepsB op (CpM.hasB (l0.map toP) c) (CpM.hasB (l1.map toP) c)
def cutsAB (l0 l1 : List Rg) : List Int := CpM.cuts (CpM.cuts [] (l0.map toP)) (l1.map toP)
def combS (l0 l1 : List Rg) (op : Int) : List (Int × Int) := CpM.runs (keepAB l0 l1 op) none (CpM.segs (cutsAB l0 l1))
def unicodetextref02_combine.f (l0_0 : List S59) (l1_0 : List S59) (a2 : Int) : Option (List S59) := if l0_0.length + l1_0.length < 10000000 then some ((combS l0_0 l1_0 a2).map ofP) else none
def hiOf (rest : List Int) : Int := match rest with | [] => 1114111 | y :: _ => y - 1
end Go.Proofs.Ytnhagghhficdpaa.Q
end
section
namespace Go.Proofs.Ytnhagghhficdpaa.Q
open Go.RowKit Go.Proofs.YtnhagghhficdpaaW.PrintWords Go.Proofs.YtnhagghhficdpaaW.PrintLast Go.Proofs.YtnhagghhficdpaaW.PrintMore
attribute [local go_sem] max2_int min2_int max_two min_two max_three min_three max_four min_four   -- for this text's walks alone
set_option linter.unusedVariables false
set_option linter.unusedSimpArgs false
def unicodetextref02_Make.f (l0 : List (S59)) : Option ((List (S59))) := (unicodetextref02_combine.f l0 ([] : List (S59)) 1).bind fun t207 => (some t207)
def unicodetextref02_Valid.f (k : Nat) (l0_0 : List (S59)) : Option (Bool) := (unicodetextref02_Make.f l0_0).bind fun t211 => ((unicodetextref02_Same.f k l0_0 t211).bind fun t214 => (some t214))
def unicodetextref50_right.l0 : Nat → List (S38) → Int → Option (Bool)
  | 0, _, _ => none
  | k + 1, x0, x3 => if x3 < (x0.length : Int) then (if 0 ≤ x3 then ((unicodetextref02_Valid.f k ((rd_T38 x0 x3).f0)).bind fun t216 => (if t216 = true then (if (((rd_T38 x0 x3).f0).length : Int) = 0 then (some false) else (unicodetextref50_right.l0 k x0 (wrap64 (x3 + 1)))) else (some false))) else (none)) else (some true)
def unicodetextref50_right.f (k : Nat) (l0 : List (S38)) : Option (Bool) := unicodetextref50_right.l0 k l0 0
end Go.Proofs.Ytnhagghhficdpaa.Q
end
section
namespace Go.Proofs.Ytnhagghhficdpaa.Q
open Go.RowKit Go.Proofs.YtnhagghhficdpaaW.PrintWords Go.Proofs.YtnhagghhficdpaaW.PrintLast Go.Proofs.YtnhagghhficdpaaW.PrintMore
attribute [local go_sem] max2_int min2_int max_two min_two max_three min_three max_four min_four   -- for this text's walks alone
set_option linter.unusedVariables false
set_option linter.unusedSimpArgs false
mutual
def unicodetextref50_one.j0 : Nat → Bool → List (S38) → List (S38) → List (S38) → List (S51) → Option (Int)
  | 0, _, _, _, _, _ => none
  | k + 1, x34, x219000, x219001, x219002, x219003 => if x34 = true then (some 2) else ((unicodetextref50_right.f k x219000).bind fun t219 => (if t219 = true then ((unicodetextref50_right.f k x219001).bind fun t220 => (if t220 = true then ((unicodetextref50_right.f k x219002).bind fun t221 => (unicodetextref50_one.j1 k (!t221) x219000 x219001 x219002 x219003)) else (unicodetextref50_one.j1 k true x219000 x219001 x219002 x219003))) else (unicodetextref50_one.j1 k true x219000 x219001 x219002 x219003)))
def unicodetextref50_one.j1 : Nat → Bool → List (S38) → List (S38) → List (S38) → List (S51) → Option (Int)
  | 0, _, _, _, _, _ => none
  | k + 1, x50, x219000, x219001, x219002, x219003 => if x50 = true then (some 11) else (unicodetextref50_one.l0 k 0 x219000 x219001 x219002 x219003)
def unicodetextref50_one.l0 : Nat → Int → List (S38) → List (S38) → List (S38) → List (S51) → Option (Int)
  | 0, _, _, _, _, _ => none
  | k + 1, x3, x219000, x219001, x219002, x219003 => if x3 < (x219003.length : Int) then (if 0 ≤ x3 then (if ((rd_T51 x219003 x3).f1) = 0 then ((unicodetextref01_Valid.f ((rd_T51 x219003 x3).f0)).bind fun t224 => (if ((rd_T51 x219003 x3).f0) = 0 then (if ((rd_T51 x219003 x3).f1) ≥ 1 then (if t224 = true then (unicodetextref50_one.l0 k (wrap64 (x3 + 1)) x219000 x219001 x219002 x219003) else (if (((rd_T51 x219003 x3).f1) ≤ (x219001.length : Int)) then (unicodetextref50_one.l0 k (wrap64 (x3 + 1)) x219000 x219001 x219002 x219003) else (some 1))) else (if t224 = true then (unicodetextref50_one.l0 k (wrap64 (x3 + 1)) x219000 x219001 x219002 x219003) else (some 1))) else (if t224 = true then (unicodetextref50_one.l0 k (wrap64 (x3 + 1)) x219000 x219001 x219002 x219003) else (some 1)))) else (if ((rd_T51 x219003 x3).f0) = 0 then (if ((rd_T51 x219003 x3).f1) ≥ 1 then (if (((rd_T51 x219003 x3).f1) ≤ (x219001.length : Int)) then (unicodetextref50_one.l0 k (wrap64 (x3 + 1)) x219000 x219001 x219002 x219003) else (some 1)) else (some 1)) else (some 1))) else (none)) else (some 0)
end
def unicodetextref50_one.f (k : Nat) (l0_0 : List (S38)) (l0_1 : List (S38)) (l0_2 : List (S38)) (l0_3 : List (S51)) : Option (Int) := if (l0_1.length : Int) < 1 then (unicodetextref50_one.j0 k true l0_0 l0_1 l0_2 l0_3) else (if (l0_1.length : Int) > 8 then (unicodetextref50_one.j0 k true l0_0 l0_1 l0_2 l0_3) else (if (l0_0.length : Int) > 8 then (unicodetextref50_one.j0 k true l0_0 l0_1 l0_2 l0_3) else (if (l0_2.length : Int) > 8 then (unicodetextref50_one.j0 k true l0_0 l0_1 l0_2 l0_3) else (unicodetextref50_one.j0 k (decide ((l0_3.length : Int) > 16)) l0_0 l0_1 l0_2 l0_3))))
end Go.Proofs.Ytnhagghhficdpaa.Q
end
section
namespace Go.Proofs.Ytnhagghhficdpaa.Q
open Go.RowKit Go.Proofs.YtnhagghhficdpaaW.PrintWords Go.Proofs.YtnhagghhficdpaaW.PrintLast Go.Proofs.YtnhagghhficdpaaW.PrintMore
attribute [local go_sem] max2_int min2_int max_two min_two max_three min_three max_four min_four   -- for this text's walks alone
set_option linter.unusedVariables false
set_option linter.unusedSimpArgs false
def unicodetextref50_Check.l0 : Nat → List (S34) → Int → Option (Int)
  | 0, _, _ => none
  | k + 1, x0, x3 => if x3 < (x0.length : Int) then (if 0 ≤ x3 then ((unicodetextref50_one.f k ((rd_T34 x0 x3).f0) ((rd_T34 x0 x3).f1) ((rd_T34 x0 x3).f2) ((rd_T34 x0 x3).f3)).bind fun t226 => (if t226 = 0 then (unicodetextref50_Check.l0 k x0 (wrap64 (x3 + 1))) else (some t226))) else (none)) else (some 0)
def unicodetextref50_Check.f (k : Nat) (l0 : List (S34)) : Option (Int) := if (l0.length : Int) > 200 then (some 2) else (unicodetextref50_Check.l0 k l0 0)
end Go.Proofs.Ytnhagghhficdpaa.Q
end
section
namespace Go.Proofs.Ytnhagghhficdpaa.Q
open Go.RowKit Go.Proofs.YtnhagghhficdpaaW.PrintWords Go.Proofs.YtnhagghhficdpaaW.PrintLast Go.Proofs.YtnhagghhficdpaaW.PrintMore
set_option linter.unusedVariables false
def unicodetextref51_Data.f (k : Nat) (l0 : List S34) : Option (List S34) := (unicodetextref50_Check.f k l0).bind fun t => if t = 0 then some l0 else some []
end Go.Proofs.Ytnhagghhficdpaa.Q
end
section
namespace Go.Proofs.Ytnhagghhficdpaa.Q
open Go.RowKit Go.Proofs.YtnhagghhficdpaaW.PrintWords Go.Proofs.YtnhagghhficdpaaW.PrintLast Go.Proofs.YtnhagghhficdpaaW.PrintMore
set_option linter.unusedVariables false
def plFewS (l : List St) : Prop := l.length ≤ 10 ∧ ∀ s ∈ l, s.f0.length ≤ 12
def plFewU (x : Ru) : Prop := plFewS x.f0 ∧ plFewS x.f1 ∧ plFewS x.f2 ∧ x.f3.length ≤ 20
def plFewL (l : List Ru) : Prop := l.length ≤ 6 ∧ ∀ x ∈ l, plFewU x
def plBad (s : St) : Bool := !validS s || decide (s.f0.length = 0)
end Go.Proofs.Ytnhagghhficdpaa.Q
end
section
namespace Go.Proofs.Ytnhagghhficdpaa.Q
open Go.RowKit Go.Proofs.YtnhagghhficdpaaW.PrintWords Go.Proofs.YtnhagghhficdpaaW.PrintLast Go.Proofs.YtnhagghhficdpaaW.PrintMore
attribute [local go_sem] max2_int min2_int max_two min_two max_three min_three max_four min_four   -- for this text's walks alone
set_option linter.unusedVariables false
set_option linter.unusedSimpArgs false
mutual
def unicodetextref51_inside.j0 : Nat → List (S38) → List Int → Int → Bool → Option (Bool)
  | 0, _, _, _, _ => none
  | k + 1, x0, x1, x2, x18 => if x18 = true then (some false) else (unicodetextref51_inside.l0 k x0 x1 x2 0)
def unicodetextref51_inside.l0 : Nat → List (S38) → List Int → Int → Int → Option (Bool)
  | 0, _, _, _, _ => none
  | k + 1, x0, x1, x2, x7 => if x7 < (x0.length : Int) then (if 0 ≤ x7 then (if 0 ≤ (wrap64 (x2 + x7)) then (if (wrap64 (x2 + x7)) < (x1.length : Int) then ((unicodetextref02_Has.f k ((rd_T38 x0 x7).f0) (rd x1 (wrap64 (x2 + x7)))).bind fun t229 => (if t229 = true then (unicodetextref51_inside.l0 k x0 x1 x2 (wrap64 (x7 + 1))) else (some false))) else (none)) else (none)) else (none)) else (some true)
end
def unicodetextref51_inside.f (k : Nat) (l0 : List (S38)) (l1 : List Int) (a2 : Int) : Option (Bool) := if a2 < 0 then (unicodetextref51_inside.j0 k l0 l1 a2 true) else (unicodetextref51_inside.j0 k l0 l1 a2 (decide ((wrap64 (a2 + (l0.length : Int))) > (l1.length : Int))))
def unicodetextref51_inside.T6 : Bool × List (List Nat × List Nat) := (true, [([], []), ([], []), ([0, 1], [0, 1]), ([2], [2]), ([], []), ([], []), ([], []), ([5, 6], [5, 6]), ([4, 7], [4, 7]), ([8], [8]), ([3, 9], [3, 9]), ([10], [10])])
def unicodetextref51_inside.B6 : List Nat := [0, 0, 3, 7, 0, 0, 0, 96, 240, 496, 1023, 2047]
end Go.Proofs.Ytnhagghhficdpaa.Q
end
section
namespace Go.Proofs.Ytnhagghhficdpaa.Q
open Go.RowKit Go.Proofs.YtnhagghhficdpaaW.PrintWords Go.Proofs.YtnhagghhficdpaaW.PrintLast Go.Proofs.YtnhagghhficdpaaW.PrintMore
attribute [local go_sem] max2_int min2_int max_two min_two max_three min_three max_four min_four   -- for this text's walks alone
set_option linter.unusedVariables false
set_option linter.unusedSimpArgs false
def unicodetextref51_applies.f (k : Nat) (l0_0 : List (S38)) (l0_1 : List (S38)) (l0_2 : List (S38)) (l0_3 : List (S51)) (l1 : List Int) (a2 : Int) : Option (Bool) := (unicodetextref51_inside.f k l0_1 l1 a2).bind fun t231 => (if t231 = true then ((unicodetextref51_inside.f k l0_2 l1 (wrap64 (a2 + (l0_1.length : Int)))).bind fun t232 => (if t232 = true then ((unicodetextref51_inside.f k l0_0 l1 (wrap64 (a2 - (l0_0.length : Int)))).bind fun t233 => (some t233)) else (some false))) else (some false))
mutual
def unicodetextref51_step.j0 : Nat → List (S34) → List Int → Int → Bool → Option (Int × Int)
  | 0, _, _, _, _ => none
  | k + 1, x0, x1, x2, x16 => if x16 = true then (some ((-1), 0)) else (unicodetextref51_step.l0 k x0 x1 x2 0)
def unicodetextref51_step.l0 : Nat → List (S34) → List Int → Int → Int → Option (Int × Int)
  | 0, _, _, _, _ => none
  | k + 1, x0, x1, x2, x8 => if x8 < (x0.length : Int) then (if 0 ≤ x8 then ((unicodetextref51_applies.f k ((rd_T34 x0 x8).f0) ((rd_T34 x0 x8).f1) ((rd_T34 x0 x8).f2) ((rd_T34 x0 x8).f3) x1 x2).bind fun t235 => (if t235 = true then (some (x8, (((rd_T34 x0 x8).f1).length : Int))) else (unicodetextref51_step.l0 k x0 x1 x2 (wrap64 (x8 + 1))))) else (none)) else (some ((-1), 1))
end
def unicodetextref51_step.f (k : Nat) (l0 : List (S34)) (l1 : List Int) (a2 : Int) : Option (Int × Int) := if a2 < 0 then (unicodetextref51_step.j0 k l0 l1 a2 true) else (unicodetextref51_step.j0 k l0 l1 a2 (decide (a2 ≥ (l1.length : Int))))
def unicodetextref51_Step.f (k : Nat) (l0 : List (S34)) (l1 : List Int) (a2 : Int) : Option (Int × Int) := (unicodetextref51_Data.f k l0).bind fun t237 => ((unicodetextref51_step.f k t237 l1 a2).bind fun bt240 => (some (bt240.1, bt240.2)))
end Go.Proofs.Ytnhagghhficdpaa.Q
end
section
namespace Go.Proofs.Ytnhagghhficdpaa.Q
open Go.RowKit Go.Proofs.YtnhagghhficdpaaW.PrintWords Go.Proofs.YtnhagghhficdpaaW.PrintLast Go.Proofs.YtnhagghhficdpaaW.PrintMore
set_option linter.unusedVariables false
theorem plSets_go : ∀ (d : Nat) (rest pre : List St) (k : Nat), pre.length + d = 20 → 2 * d + 2 ≤ k →
    ∃ b, unicodetextref50_sets.l0 k (pre ++ rest) (pre.length : Int) = some b ∧ (b = true → (pre ++ rest).length ≤ 10 ∧ ∀ s ∈ rest, s.f0.length ≤ 12)
  | d, [], pre, k, h1, h2 => by
    obtain ⟨k, rfl⟩ : ∃ j, k = j + 2 := ⟨k - 2, by omega⟩
    rw [unicodetextref50_sets.l0, if_neg (by simp), unicodetextref50_sets.j1, if_neg (by decide)]
    refine ⟨_, rfl, fun h => ⟨?_, fun s hs => by cases hs⟩⟩
    have := of_decide_eq_true h
    omega
  | 0, s :: rest, pre, k, h1, h2 => by
    obtain ⟨k, rfl⟩ : ∃ j, k = j + 2 := ⟨k - 2, by omega⟩
    rw [unicodetextref50_sets.l0, if_pos (by simp; omega), decide_eq_false (by omega), unicodetextref50_sets.j1, if_neg (by decide)]
    refine ⟨_, rfl, fun h => ?_⟩
    have := of_decide_eq_true h
    simp at this
    omega
  | d + 1, s :: rest, pre, k, h1, h2 => by
    obtain ⟨k, rfl⟩ : ∃ j, k = j + 2 := ⟨k - 2, by omega⟩
    obtain ⟨b, ih, hb⟩ := plSets_go d rest (pre ++ [s]) k (by simp; omega) (by omega)
    have ex : (pre ++ [s]) ++ rest = pre ++ s :: rest := by simp
    have el : ((pre ++ [s]).length : Int) = ((pre.length + 1 : Nat) : Int) := by simp
    rw [ex, el] at ih
    rw [ex] at hb
    rw [unicodetextref50_sets.l0, if_pos (by simp; omega), decide_eq_true (by omega), unicodetextref50_sets.j1, if_pos rfl, if_pos (by omega), if_pos (by simp; omega), rdS_mid, wrap_suc (by omega : pre.length < 1000000000), ih]
    show ∃ b_, (if decide ((s.f0.length : Int) ≤ 12) = true then _ else _) = _ ∧ _
    by_cases hs : s.f0.length ≤ 12
    · rw [decide_eq_true (by omega), if_pos rfl]
      exact ⟨b, rfl, fun h => ⟨(hb h).1, fun x hx => by
        rcases List.mem_cons.1 hx with rfl | hx
        · exact hs
        · exact (hb h).2 x hx⟩⟩
    · rw [decide_eq_false (by omega), if_neg (by decide)]
      exact ⟨false, rfl, fun h => by cases h⟩
theorem plSets_ok (l : List St) (k : Nat) (hk : 42 ≤ k) : ∃ b, unicodetextref50_sets.f k l = some b ∧ (b = true → plFewS l) := plSets_go 20 l [] k rfl (by omega)
theorem plSmall_go : ∀ (d : Nat) (rest pre : List Ru) (k : Nat), pre.length + d = 10 → 2 * d + 44 ≤ k →
    ∃ b, unicodetextref50_Small.l0 k (pre ++ rest) (pre.length : Int) = some b ∧ (b = true → (pre ++ rest).length ≤ 6 ∧ ∀ s ∈ rest, plFewU s)
  | d, [], pre, k, h1, h2 => by
    obtain ⟨k, rfl⟩ : ∃ j, k = j + 2 := ⟨k - 2, by omega⟩
    rw [unicodetextref50_Small.l0, if_neg (by simp), unicodetextref50_Small.j1, if_neg (by decide)]
    refine ⟨_, rfl, fun h => ⟨?_, fun s hs => by cases hs⟩⟩
    have := of_decide_eq_true h
    omega
  | 0, s :: rest, pre, k, h1, h2 => by
    obtain ⟨k, rfl⟩ : ∃ j, k = j + 2 := ⟨k - 2, by omega⟩
    rw [unicodetextref50_Small.l0, if_pos (by simp; omega), decide_eq_false (by omega), unicodetextref50_Small.j1, if_neg (by decide)]
    refine ⟨_, rfl, fun h => ?_⟩
    have := of_decide_eq_true h
    simp at this
    omega
  | d + 1, s :: rest, pre, k, h1, h2 => by
    obtain ⟨k, rfl⟩ : ∃ j, k = j + 2 := ⟨k - 2, by omega⟩
    obtain ⟨b, ih, hb⟩ := plSmall_go d rest (pre ++ [s]) k (by simp; omega) (by omega)
    have ex : (pre ++ [s]) ++ rest = pre ++ s :: rest := by simp
    have el : ((pre ++ [s]).length : Int) = ((pre.length + 1 : Nat) : Int) := by simp
    rw [ex, el] at ih
    rw [ex] at hb
    obtain ⟨b0, e0, g0⟩ := plSets_ok s.f0 k (by omega)
    obtain ⟨b1, e1, g1⟩ := plSets_ok s.f1 k (by omega)
    obtain ⟨b2, e2, g2⟩ := plSets_ok s.f2 k (by omega)
    rw [unicodetextref50_Small.l0, if_pos (by simp; omega), decide_eq_true (by omega), unicodetextref50_Small.j1, if_pos rfl, if_pos (by omega), if_pos (by simp; omega), rdU_mid, wrap_suc (by omega : pre.length < 1000000000), ih, e0, e1, e2]
    simp only [Option.bind_some]
    cases b0 with
    | false => exact ⟨false, rfl, fun h => by cases h⟩
    | true => cases b1 with
      | false => exact ⟨false, rfl, fun h => by cases h⟩
      | true => cases b2 with
        | false => exact ⟨false, rfl, fun h => by cases h⟩
        | true =>
          simp only [if_true]
          by_cases hs : (s.f3.length : Int) > 20
          · rw [if_pos hs]
            exact ⟨false, rfl, fun h => by cases h⟩
          · rw [if_neg hs]
            exact ⟨b, rfl, fun h => ⟨(hb h).1, fun x hx => by
              rcases List.mem_cons.1 hx with rfl | hx
              · exact ⟨g0 rfl, g1 rfl, g2 rfl, by omega⟩
              · exact (hb h).2 x hx⟩⟩
theorem plSmall_ok (l : List Ru) (k : Nat) (hk : 64 ≤ k) : ∃ b, unicodetextref50_Small.f k l = some b ∧ (b = true → plFewL l) := plSmall_go 10 l [] k rfl (by omega)
theorem plFew_ok (l : List Ru) (text : List Int) (k : Nat) (hk : 64 ≤ k) : ∃ b, unicodetextlaw51_few.f k l text = some b ∧ (b = true → plFewL l ∧ text.length ≤ 40) := by
  obtain ⟨b, e, h⟩ := plSmall_ok l k hk
  unfold unicodetextlaw51_few.f
  rw [e]
  cases b with
  | false => exact ⟨false, rfl, fun h => by cases h⟩
  | true => exact ⟨_, rfl, fun h2 => ⟨h rfl, by have := of_decide_eq_true h2; omega⟩⟩
theorem plOkSets {l : List St} (h : plFewS l) : l.all okSet = true := List.all_eq_true.2 fun s hs => decide_eq_true (h.2 s hs)
theorem plOkRules {l : List Ru} (h : plFewL l) : okRules l = true := by
  unfold okRules
  rw [Bool.and_eq_true, decide_eq_true_eq, List.all_eq_true]
  refine ⟨by have := h.1; omega, fun x hx => ?_⟩
  obtain ⟨h0, h1, h2, h3⟩ := h.2 x hx
  unfold okRule
  rw [plOkSets h0, plOkSets h1, plOkSets h2, decide_eq_true (by have := h0.1; omega), decide_eq_true (by have := h1.1; omega), decide_eq_true (by have := h2.1; omega), decide_eq_true (by omega)]
  rfl
theorem plCmp_go : ∀ (xs ys px py : List Int) (k : Nat), px.length = py.length → (px ++ xs).length < 1000000000 → 2 * xs.length + 2 ≤ k →
    ∃ c, unicodetextref01_Compare.l0 k (px ++ xs) (py ++ ys) (px.length : Int) = some c ∧ (c = 0 ↔ xs = ys)
  | [], [], px, py, k, h1, h2, h3 => by
    obtain ⟨k, rfl⟩ : ∃ j, k = j + 2 := ⟨k - 2, by omega⟩
    rw [unicodetextref01_Compare.l0, if_neg (by simp), unicodetextref01_Compare.j1, if_neg (by decide), if_neg (by simp [h1]), if_neg (by simp [h1])]
    exact ⟨0, rfl, by simp⟩
  | [], y :: ys, px, py, k, h1, h2, h3 => by
    obtain ⟨k, rfl⟩ : ∃ j, k = j + 2 := ⟨k - 2, by omega⟩
    rw [unicodetextref01_Compare.l0, if_neg (by simp), unicodetextref01_Compare.j1, if_neg (by decide), if_pos (by simp [h1]; omega)]
    exact ⟨-1, rfl, by simp⟩
  | x :: xs, [], px, py, k, h1, h2, h3 => by
    obtain ⟨k, rfl⟩ : ∃ j, k = j + 2 := ⟨k - 2, by omega⟩
    rw [unicodetextref01_Compare.l0, if_pos (by simp; omega), decide_eq_false (by simp [h1]), unicodetextref01_Compare.j1, if_neg (by decide), if_neg (by simp [h1]; omega), if_pos (by simp [h1]; omega)]
    exact ⟨1, rfl, by simp⟩
  | x :: xs, y :: ys, px, py, k, h1, h2, h3 => by
    obtain ⟨k, rfl⟩ : ∃ j, k = j + 2 := ⟨k - 2, by omega⟩
    have hp : px.length < 1000000000 := by simp at h2; omega
    obtain ⟨c, ih, hc⟩ := plCmp_go xs ys (px ++ [x]) (py ++ [y]) k (by simp [h1]) (by simpa using h2) (by simp at h3; omega)
    have ex : (px ++ [x]) ++ xs = px ++ x :: xs := by simp
    have ey : (py ++ [y]) ++ ys = py ++ y :: ys := by simp
    have el : ((px ++ [x]).length : Int) = ((px.length + 1 : Nat) : Int) := by simp
    rw [ex, ey, el] at ih
    have e1 : rd (py ++ y :: ys) (px.length : Int) = y := by rw [h1]; exact rd_mid _ _ _
    rw [unicodetextref01_Compare.l0, if_pos (by simp; omega), decide_eq_true (by simp [h1]; omega), unicodetextref01_Compare.j1, if_pos rfl, if_pos (by omega), if_pos (by simp; omega), if_pos (by simp [h1]; omega), rd_mid, e1, wrap_suc hp, ih]
    by_cases a : x < y
    · rw [if_pos a]
      exact ⟨-1, rfl, ⟨fun h => absurd h (by decide), fun h => by injection h with h; omega⟩⟩
    · rw [if_neg a]
      by_cases b : x > y
      · rw [if_pos b]
        exact ⟨1, rfl, ⟨fun h => absurd h (by decide), fun h => by injection h with h; omega⟩⟩
      · rw [if_neg b]
        obtain rfl : x = y := by omega
        exact ⟨c, rfl, by rw [hc]; simp⟩
theorem plEqual_ok (a b : List Int) (k : Nat) (h : a.length < 1000000000) (hk : 2 * a.length + 2 ≤ k) : unicodetextref01_Equal.f k a b = some (decide (a = b)) := by
  obtain ⟨c, e, hc⟩ := plCmp_go a b [] [] k rfl (by simpa using h) hk
  unfold unicodetextref01_Equal.f unicodetextref01_Compare.f
  refine (congrArg (fun o => Option.bind o _) e).trans ?_
  show some (c == 0) = _
  congr 1
  rw [Bool.eq_iff_iff]
  simp [hc]
def plRules : List Ru := [⟨[], [⟨[⟨97, 97⟩]⟩, ⟨[⟨98, 98⟩]⟩], [], [⟨120, 0⟩]⟩, ⟨[], [⟨[⟨97, 97⟩]⟩], [], [⟨121, 0⟩]⟩]
theorem plAlive_step : transduce_Step.f plRules [97, 97, 98] 1 = some (0, 2) := by kernel_rfl
theorem plAlive_apply : transduce_Apply.f plRules [97, 97, 98] = some [121, 120] := by kernel_rfl
theorem plAlive_ok (k : Nat) (hk : 20 ≤ k) : unicodetextlaw51_alive.f k = some true := by
  obtain ⟨k, rfl⟩ : ∃ j, k = j + 20 := ⟨k - 20, by omega⟩
  show (transduce_Step.f plRules [97, 97, 98] 1).bind (fun bt166 => (transduce_Apply.f plRules [97, 97, 98]).bind fun t171 => (unicodetextref01_Equal.f (k + 20) t171 [121, 120]).bind fun t177 => if t177 = true then (if bt166.1 = 0 then (some (bt166.2 == 2)) else (some false)) else (some false)) = some true
  rw [plAlive_step, plAlive_apply]
  simp only [Option.bind_some]
  rw [plEqual_ok _ _ _ (by decide) (by simp)]
  rfl
end Go.Proofs.Ytnhagghhficdpaa.Q
end
section
namespace Go.Proofs.Ytnhagghhficdpaa.Q
open Go.RowKit Go.Proofs.YtnhagghhficdpaaW.PrintWords Go.Proofs.YtnhagghhficdpaaW.PrintLast Go.Proofs.YtnhagghhficdpaaW.PrintMore
attribute [local go_sem] max2_int min2_int max_two min_two max_three min_three max_four min_four   -- for this text's walks alone
set_option linter.unusedVariables false
set_option linter.unusedSimpArgs false
def unicodetextlaw51_TransduceSteps.f (k : Nat) (l0 : List (S34)) (l1 : List Int) (a2 : Int) : Option (Bool) := (unicodetextlaw51_few.f k l0 l1).bind fun t242 => (if t242 = true then ((transduce_Step.f l0 l1 a2).bind fun bt243 => ((unicodetextref51_Step.f k l0 l1 a2).bind fun bt245 => (if bt243.1 = bt245.1 then (if bt243.2 = bt245.2 then ((unicodetextlaw51_alive.f k).bind fun t247 => (some t247)) else (some false)) else (some false)))) else ((unicodetextlaw51_alive.f k).bind fun t248 => (some t248)))
end Go.Proofs.Ytnhagghhficdpaa.Q
end
section
namespace Go.Proofs.Ytnhagghhficdpaa.Q
open Go.RowKit Go.Proofs.YtnhagghhficdpaaW.PrintWords Go.Proofs.YtnhagghhficdpaaW.PrintLast Go.Proofs.YtnhagghhficdpaaW.PrintMore
set_option linter.unusedVariables false
theorem plOkText {l : List Int} (h : wfT l) (hl : l.length < 100000000) : okText l = true := by
  unfold okText
  rw [Bool.and_eq_true, decide_eq_true_eq, List.all_eq_true]
  exact ⟨hl, h.2⟩
end Go.Proofs.Ytnhagghhficdpaa.Q
end
section
namespace Go.Proofs.Ytnhagghhficdpaa.Q
open Go.RowKit Go.Proofs.YtnhagghhficdpaaW.PrintWords Go.Proofs.YtnhagghhficdpaaW.PrintLast Go.Proofs.YtnhagghhficdpaaW.PrintMore
attribute [local go_sem] max2_int min2_int max_two min_two max_three min_three max_four min_four   -- for this text's walks alone
set_option linter.unusedVariables false
set_option linter.unusedSimpArgs false
def unicodetextref51_Written.l0 : Nat → List (S34) → List Int → Int → Int → List Int → Int → Option (List Int)
  | 0, _, _, _, _, _, _ => none
  | k + 1, x0, x1, x2, x3, x9, x10 => if 0 ≤ x3 then (if x3 < (x0.length : Int) then (if x10 < (((rd_T34 x0 x3).f3).length : Int) then (if 0 ≤ x10 then (if ((rd_T51 ((rd_T34 x0 x3).f3) x10).f1) > 0 then (if 0 ≤ (wrap64 ((wrap64 (x2 + ((rd_T51 ((rd_T34 x0 x3).f3) x10).f1))) - 1)) then (if (wrap64 ((wrap64 (x2 + ((rd_T51 ((rd_T34 x0 x3).f3) x10).f1))) - 1)) < (x1.length : Int) then (if x9.length < 17592186044416 then (unicodetextref51_Written.l0 k x0 x1 x2 x3 (x9 ++ [rd x1 (wrap64 ((wrap64 (x2 + ((rd_T51 ((rd_T34 x0 x3).f3) x10).f1))) - 1))]) (wrap64 (x10 + 1))) else (none)) else (none)) else (none)) else (if x9.length < 17592186044416 then (unicodetextref51_Written.l0 k x0 x1 x2 x3 (x9 ++ [(rd_T51 ((rd_T34 x0 x3).f3) x10).f0]) (wrap64 (x10 + 1))) else (none))) else (none)) else (some x9)) else (none)) else (none)
def unicodetextref51_Written.f (k : Nat) (l0 : List (S34)) (l1 : List Int) (a2 : Int) (a3 : Int) : Option (List Int) := if a3 < 0 then (if 0 ≤ a2 then (if a2 < (l1.length : Int) then (some (([rd l1 a2] : List Int))) else (none)) else (none)) else (unicodetextref51_Written.l0 k l0 l1 a2 a3 ([] : List Int) 0)
end Go.Proofs.Ytnhagghhficdpaa.Q
end
section
namespace Go.Proofs.Ytnhagghhficdpaa.Q
open Go.RowKit Go.Proofs.YtnhagghhficdpaaW.PrintWords Go.Proofs.YtnhagghhficdpaaW.PrintLast Go.Proofs.YtnhagghhficdpaaW.PrintMore
attribute [local go_sem] max2_int min2_int max_two min_two max_three min_three max_four min_four   -- for this text's walks alone
set_option linter.unusedVariables false
set_option linter.unusedSimpArgs false
def unicodetextref51_Apply.l0 : Nat → List Int → List (S34) → List Int → Int → Option (List Int)
  | 0, _, _, _, _ => none
  | k + 1, x1, x5, x6, x7 => if x7 < (x1.length : Int) then ((unicodetextref51_step.f k x5 x1 x7).bind fun bt267 => ((unicodetextref51_Written.f k x5 x1 x7 bt267.1).bind fun t269 => (if x6.length + t269.length < 17592186044416 then (unicodetextref51_Apply.l0 k x1 x5 (x6 ++ t269) (wrap64 (x7 + bt267.2))) else (none)))) else (some x6)
def unicodetextref51_Apply.f (k : Nat) (l0 : List (S34)) (l1 : List Int) : Option (List Int) := (unicodetextref51_Data.f k l0).bind fun t264 => (unicodetextref51_Apply.l0 k l1 t264 ([] : List Int) 0)
def unicodetextlaw51_TransduceApplies.f (k : Nat) (l0 : List (S34)) (l1 : List Int) : Option (Bool) := (unicodetextlaw51_few.f k l0 l1).bind fun t275 => (if t275 = true then ((transduce_Apply.f l0 l1).bind fun t276 => ((unicodetextref51_Apply.f k l0 l1).bind fun t279 => ((unicodetextref01_Equal.f k t276 t279).bind fun t282 => (if t282 = true then ((unicodetextlaw51_alive.f k).bind fun t283 => (some t283)) else (some false))))) else ((unicodetextlaw51_alive.f k).bind fun t284 => (some t284)))
end Go.Proofs.Ytnhagghhficdpaa.Q
end
section
namespace Go.Proofs.Ytnhagghhficdpaa.Q
open Go.RowKit Go.Proofs.YtnhagghhficdpaaW.PrintWords Go.Proofs.YtnhagghhficdpaaW.PrintLast Go.Proofs.YtnhagghhficdpaaW.PrintMore
set_option linter.unusedVariables false
theorem plApplyT (l : List Ru) (text : List Int) (h : plFewL l) (ht : okText text = true) : transduce_Apply.f l text = some (applyS (dataS l) text text.length 0) := by
  unfold transduce_Apply.f
  rw [if_pos ⟨plOkRules h, ht⟩]
theorem plData1 (l : List Ru) : ∀ x ∈ dataS l, 1 ≤ x.f1.length := fun x hx => (oneS_ok x (data_one l x hx)).1
def plNoHas (text : List Int) (s : St) : Prop := ∀ c ∈ text, hasS s c = false
theorem plRd_T34 (l : List Ru) (i : Nat) (x : Ru) (h : l[i]? = some x) : rd_T34 l (i : Int) = x := by
  unfold rd_T34
  rw [Int.toNat_natCast, List.getD_eq_getElem?_getD, h]
  rfl
theorem plRd_T38 (l : List St) (i : Nat) (x : St) (h : l[i]? = some x) : rd_T38 l (i : Int) = x := by
  unfold rd_T38
  rw [Int.toNat_natCast, List.getD_eq_getElem?_getD, h]
  rfl
theorem plK2 (l0 : List Ru) (text : List Int) (i j : Nat) (x : Ru) (s : St) (hi : l0[i]? = some x) (hj : x.f1[j]? = some s) (hs : s.f0.length ≤ 12) (K : Nat) (hT : text.length ≤ 40) (hJ : j < 1000000)
    (hcont : plNoHas text s → ∀ k, K ≤ k → unicodetextlaw51_TransduceKeeps.l1 k l0 text (i : Int) ((j + 1 : Nat) : Int) = some true) : ∀ (rest pre : List Int) (k : Nat), pre ++ rest = text → (∀ c ∈ pre, hasS s c = false) → K + rest.length + 40 ≤ k →
    unicodetextlaw51_TransduceKeeps.l2 k l0 text (i : Int) (j : Int) (pre.length : Int) = some true
  | [], pre, k, h0, h1, h2 => by
    obtain ⟨k, rfl⟩ : ∃ j, k = j + 1 := ⟨k - 1, by omega⟩
    rw [List.append_nil] at h0
    rw [unicodetextlaw51_TransduceKeeps.l2, if_neg (by rw [h0]; omega), wrap_suc (by omega : j < 1000000000)]
    exact hcont (fun c hc => h1 c (by rw [h0]; exact hc)) k (by omega)
  | c :: rest, pre, k, h0, h1, h2 => by
    obtain ⟨k, rfl⟩ : ∃ j, k = j + 1 := ⟨k - 1, by omega⟩
    have hl : text.length = pre.length + (rest.length + 1) := by rw [← h0]; simp
    have hil := (List.getElem?_eq_some_iff.1 hi).1
    have hjl := (List.getElem?_eq_some_iff.1 hj).1
    have hrd : rd text (pre.length : Int) = c := by rw [← h0]; exact rd_mid _ _ _
    have hh : unicodetextref02_Has.f k s.f0 c = some (hasS s c) := has_go s.f0 [] _ k (by simp; omega) (by omega)
    have e1 := plRd_T34 l0 i x hi
    have e2 := plRd_T38 x.f1 j s hj
    rw [unicodetextlaw51_TransduceKeeps.l2, if_pos (by omega), if_pos (by omega), if_pos (by omega), if_pos (by omega), e1, if_pos (by omega), if_pos (by omega), e2, hrd, hh]
    simp only [Option.bind_some]
    cases hv : hasS s c with
    | true => rw [if_pos rfl, plAlive_ok k (by omega)]; rfl
    | false =>
      rw [if_neg (by decide), wrap_suc (by omega : pre.length < 1000000000)]
      have ih := plK2 l0 text i j x s hi hj hs K hT hJ hcont rest (pre ++ [c]) k (by simpa using h0) (fun d hd => by
        rcases List.mem_append.1 hd with hd | hd
        · exact h1 d hd
        · rw [List.mem_singleton.1 hd]; exact hv) (by simp at h2; omega)
      rw [show ((pre ++ [c]).length : Int) = ((pre.length + 1 : Nat) : Int) by simp] at ih
      exact ih
theorem plK1 (l0 : List Ru) (text : List Int) (i : Nat) (x : Ru) (hi : l0[i]? = some x) (hf : plFewS x.f1) (K : Nat) (hT : text.length ≤ 40) (hI : i < 1000000)
    (hcont : (∀ s ∈ x.f1, plNoHas text s) → ∀ k, K ≤ k → unicodetextlaw51_TransduceKeeps.l0 k l0 text ((i + 1 : Nat) : Int) = some true) : ∀ (rest pre : List St) (k : Nat), pre ++ rest = x.f1 → (∀ s ∈ pre, plNoHas text s) → K + rest.length * 100 + 1 ≤ k →
    unicodetextlaw51_TransduceKeeps.l1 k l0 text (i : Int) (pre.length : Int) = some true
  | [], pre, k, h0, h1, h2 => by
    obtain ⟨k, rfl⟩ : ∃ j, k = j + 1 := ⟨k - 1, by omega⟩
    rw [List.append_nil] at h0
    have hil := (List.getElem?_eq_some_iff.1 hi).1
    rw [unicodetextlaw51_TransduceKeeps.l1, if_pos (by omega), if_pos (by omega), plRd_T34 l0 i x hi, if_neg (by rw [h0]; omega), wrap_suc (by omega : i < 1000000000)]
    exact hcont (fun s hs => h1 s (by rw [h0]; exact hs)) k (by omega)
  | s :: rest, pre, k, h0, h1, h2 => by
    obtain ⟨k, rfl⟩ : ∃ j, k = j + 1 := ⟨k - 1, by omega⟩
    have hl : x.f1.length = pre.length + (rest.length + 1) := by rw [← h0]; simp
    have hil := (List.getElem?_eq_some_iff.1 hi).1
    have hj : x.f1[pre.length]? = some s := by rw [← h0]; simp
    have hsf := hf.2 s (List.mem_of_getElem? hj)
    have hfl := hf.1
    rw [unicodetextlaw51_TransduceKeeps.l1, if_pos (by omega), if_pos (by omega), plRd_T34 l0 i x hi, if_pos (by omega)]
    refine plK2 l0 text i pre.length x s hi hj hsf (K + rest.length * 100 + 1) hT (by omega) (fun hno k' hk' => ?_) text [] k rfl (fun c hc => by cases hc) (by simp at h2; omega)
    have ih := plK1 l0 text i x hi hf K hT hI hcont rest (pre ++ [s]) k' (by simpa using h0) (fun d hd => by
      rcases List.mem_append.1 hd with hd | hd
      · exact h1 d hd
      · rw [List.mem_singleton.1 hd]; exact hno) (by omega)
    rw [show ((pre ++ [s]).length : Int) = ((pre.length + 1 : Nat) : Int) by simp] at ih
    exact ih
theorem plK0 (l0 : List Ru) (text : List Int) (hf : plFewL l0) (F : Nat → Nat) (hF0 : 200 ≤ F 0) (hF : ∀ n, F (n + 1) = F n + 2000) (hT : text.length ≤ 40) (ht : okText text = true)
    (hfin : (∀ x ∈ l0, ∀ s ∈ x.f1, plNoHas text s) → applyS (dataS l0) text text.length 0 = text) : ∀ (rest pre : List Ru) (k : Nat), pre ++ rest = l0 → (∀ x ∈ pre, ∀ s ∈ x.f1, plNoHas text s) → F rest.length ≤ k →
    unicodetextlaw51_TransduceKeeps.l0 k l0 text (pre.length : Int) = some true
  | [], pre, k, h0, h1, h2 => by
    have h2 : F 0 ≤ k := h2
    obtain ⟨k, rfl⟩ : ∃ j, k = j + 1 := ⟨k - 1, by omega⟩
    rw [List.append_nil] at h0
    rw [unicodetextlaw51_TransduceKeeps.l0, if_neg (by rw [h0]; omega), plApplyT l0 text hf ht, hfin (fun x hx => h1 x (by rw [h0]; exact hx))]
    simp only [Option.bind_some]
    rw [plEqual_ok _ _ k (by omega) (by omega), plAlive_ok k (by omega)]
    simp
  | x :: rest, pre, k, h0, h1, h2 => by
    have h2 : F (rest.length + 1) ≤ k := h2
    rw [hF] at h2
    obtain ⟨k, rfl⟩ : ∃ j, k = j + 1 := ⟨k - 1, by omega⟩
    have hl : l0.length = pre.length + (rest.length + 1) := by rw [← h0]; simp
    have hi : l0[pre.length]? = some x := by rw [← h0]; simp
    have hxf := (hf.2 x (List.mem_of_getElem? hi)).2.1
    have hfl := hf.1
    have hx1 := hxf.1
    rw [unicodetextlaw51_TransduceKeeps.l0, if_pos (by omega)]
    refine plK1 l0 text pre.length x hi hxf (F rest.length) hT (by omega) (fun hno k' hk' => ?_) x.f1 [] k rfl (fun c hc => by cases hc) (by omega)
    have ih := plK0 l0 text hf F hF0 hF hT ht hfin rest (pre ++ [x]) k' (by simpa using h0) (fun d hd => by
      rcases List.mem_append.1 hd with hd | hd
      · exact h1 d hd
      · rw [List.mem_singleton.1 hd]; exact hno) (by omega)
    rw [show ((pre ++ [x]).length : Int) = ((pre.length + 1 : Nat) : Int) by simp] at ih
    exact ih
theorem plKeep_go (l : List Ru) (text : List Int) (h1 : ∀ x ∈ l, 1 ≤ x.f1.length) (hno : ∀ x ∈ l, ∀ s ∈ x.f1, plNoHas text s) : ∀ (n a : Nat), text.length - a = n → applyS l text n (a : Int) = text.drop a
  | 0, a, h => by rw [applyS, List.drop_eq_nil_of_le (by omega)]
  | n + 1, a, h => by
    have hs : stepS l text (a : Int) = (-1, 1) := by
      unfold stepS
      rw [if_neg (by omega)]
      have hnone : l.findIdx? (fun x => appliesS x text (a : Int)) = none := by
        rw [List.findIdx?_eq_none_iff]
        intro x hx
        have hx1 := h1 x hx
        have hxn := hno x hx
        unfold appliesS coversS
        cases hf : x.f1 with
        | nil => rw [hf] at hx1; simp at hx1
        | cons s rest =>
          have hd : text.drop ((a : Int)).toNat = text.getD a 0 :: text.drop (a + 1) := by
            rw [Int.toNat_natCast, List.drop_eq_getElem_cons (by omega), List.getD_eq_getElem?_getD, List.getElem?_eq_getElem (by omega)]
            rfl
          have hfalse : insideS (s :: rest) (text.drop ((a : Int)).toNat) = false := by
            rw [hd, insideS, hxn s (by rw [hf]; exact List.mem_cons_self) _ (by rw [List.getD_eq_getElem?_getD, List.getElem?_eq_getElem (by omega : a < text.length)]; exact List.getElem_mem _)]
            rfl
          rw [hfalse]
          simp
      simp only [hnone]
    rw [applyS, if_pos (by omega), hs]
    show writtenS l text (a : Int) (-1) ++ applyS l text n ((a : Int) + 1) = _
    rw [show (a : Int) + 1 = ((a + 1 : Nat) : Int) by omega, plKeep_go l text h1 hno n (a + 1) (by omega)]
    unfold writtenS
    rw [if_pos (by decide), Int.toNat_natCast, List.drop_eq_getElem_cons (show a < text.length by omega), List.getD_eq_getElem?_getD, List.getElem?_eq_getElem (show a < text.length by omega)]
    rfl
theorem transduceKeeps_pure (l0 : List Ru) (l1 : List Int) (h0 : wfL l0) (h1 : wfT l1) : ∃ k, unicodetextlaw51_TransduceKeeps.f k l0 l1 = some true := by
  refine ⟨20000, ?_⟩
  obtain ⟨b, e, hb⟩ := plFew_ok l0 l1 20000 (by decide)
  unfold unicodetextlaw51_TransduceKeeps.f
  rw [e]
  cases b with
  | false =>
    simp only [Option.bind_some]
    rw [if_neg (by decide), plAlive_ok 20000 (by decide)]
    rfl
  | true =>
    obtain ⟨hl, ht⟩ := hb rfl
    simp only [Option.bind_some, if_true]
    refine plK0 l0 l1 hl (fun n => 200 + n * 2000) (by decide) (fun n => by show 200 + (n + 1) * 2000 = 200 + n * 2000 + 2000; omega) ht (plOkText h1 (by omega)) (fun hno => ?_) l0 [] 20000 rfl (fun x hx => by cases hx) (by have := hl.1; show 200 + l0.length * 2000 ≤ 20000; omega)
    have := plKeep_go (dataS l0) l1 (plData1 l0) (fun x hx => hno x (by
      unfold dataS at hx
      split at hx
      · exact hx
      · cases hx)) l1.length 0 (by omega)
    exact this
end Go.Proofs.Ytnhagghhficdpaa.Q
end
