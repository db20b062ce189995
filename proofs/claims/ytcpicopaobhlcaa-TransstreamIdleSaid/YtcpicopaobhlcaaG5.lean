/- Lemmas, printed and written for this claim: part 5. -/
import Derived.Test.YtcpicopaobhlcaaG2
import Derived.Test.YtcpicopaobhlcaaG4
import Derived.WalkKit
import Derived.WalkMore
import Derived.Test.YtcpicopaobhlcaaG3
import Derived.IntWalk
import Derived.WalkSpells
import Derived.Deep.RegionHeld3
import Derived.Deep.RegionLaw
section
namespace Go.Proofs.Ytcpicopaobhlcaa.Q
open Go.RowKit Go.Proofs.YtcpicopaobhlcaaW.PrintWords Go.Proofs.YtcpicopaobhlcaaW.PrintLast Go.Proofs.YtcpicopaobhlcaaW.PrintMore
attribute [local go_sem] max2_int min2_int max_two min_two max_three min_three max_four min_four   -- for this text's walks alone
set_option linter.unusedVariables false
set_option linter.unusedSimpArgs false
mutual
def transduce_covers.j0 : Nat → List (S45) → List Int → Int → Bool → Option (Bool)
  | 0, _, _, _, _ => none
  | k + 1, x0, x1, x2, x19 => if x19 = true then (some false) else (transduce_covers.l0 k x1 x2 x0 (x0.length : Int) 0)
def transduce_covers.l0 : Nat → List Int → Int → List (S45) → Int → Int → Option (Bool)
  | 0, _, _, _, _, _ => none
  | k + 1, x1, x2, x20, x21, x22 => if x22 < x21 then (if 0 ≤ x22 then (if x22 < (x20.length : Int) then (if 0 ≤ (wrap64 (x2 + x22)) then (if (wrap64 (x2 + x22)) < (x1.length : Int) then ((cpset_Has.f ((rd_T45 x20 x22).f0) (rd x1 (wrap64 (x2 + x22)))).bind fun t120 => (if t120 = true then (transduce_covers.l0 k x1 x2 x20 x21 (wrap64 (x22 + 1))) else (some false))) else (none)) else (none)) else (none)) else (none)) else (some true)
end
def transduce_covers.f (k : Nat) (l0 : List (S45)) (l1 : List Int) (a2 : Int) : Option (Bool) := if a2 < 0 then (transduce_covers.j0 k l0 l1 a2 true) else (transduce_covers.j0 k l0 l1 a2 (decide ((wrap64 (a2 + (l0.length : Int))) > (l1.length : Int))))
def transduce_covers.T6 : Bool × List (List Nat × List Nat) := (true, [([], []), ([], []), ([], []), ([], []), ([2, 3], [2, 3]), ([1, 4], [1, 4]), ([5], [5]), ([0, 6], [0, 6]), ([7], [7])])
def transduce_covers.B6 : List Nat := [0, 0, 0, 0, 12, 30, 62, 127, 255]
theorem transduce_covers.tab6 : rtab .any (opsOf Try.f67 6) = transduce_covers.T6 := by kernel_rfl
theorem transduce_covers.bits6 : waitsOk transduce_covers.T6.2 transduce_covers.B6 = true := by kernel_rfl
set_option maxHeartbeats 8000000 in
set_option maxRecDepth 100000 in
theorem transduce_covers.calls (k : Nat) (A0 : Option Addr) (c0 : Nat) (l0 : List (S45)) (A1 : Option Addr) (c1 : Nat) (l1 : List Int) (a2 : Int) (r : Bool) (w : World) (hr0 : Kd.C k45 w A0 l0.length l0) (hc0 : l0.length ≤ c0) (hr1 : Kd.C (Kd.int .i64) w A1 l1.length l1) (hc1 : l1.length ≤ c1) (h : transduce_covers.f k l0 l1 a2 = some r) :
    Calls Try.prog 67 #[.slice A0 l0.length c0, .slice A1 l1.length c1, .int .i64 a2] w fun e w' => e = .returned (.bool r) ∧ Below w.heap.size w w' := by
  have hu45 := Try.underlying45
  have HR0 := Aside0.mk hr0
  have HC0 := Aside0.mk hc0
  clear hr0 hc0
  have HR1 := Aside0.mk hr1
  have HC1 := Aside0.mk hc1
  clear hr1 hc1
  have HB := Aside0.mk (Below.refl w.heap.size w)
  have H : (if a2 < 0 then (transduce_covers.j0 k l0 l1 a2 true) else (transduce_covers.j0 k l0 l1 a2 (decide ((wrap64 (a2 + (l0.length : Int))) > (l1.length : Int))))) = some r := h
  clear h
  have HC4 := Aside0.mk H
  clear H
  go_enter Try.func67, Try.ntmps67
  go_upto_region 1 with (fail)
  go_cut [19] (fun v19 wc => ∃ (kq : Nat) (x19_3 : Bool), v19 = .bool x19_3 ∧ Aside0 (transduce_covers.j0 kq l0 l1 a2 x19_3 = some r) ∧ Aside0 (kq ≤ k) ∧ Aside0 (Below w.heap.size w wc))
  case first =>
    have H := HC4.out
    clear HC4
    by_cases c5 : a2 < 0
    · rw [if_pos c5] at H
      have c5b0 : decide (a2 < 0) = true := decide_eq_true c5
      clear c5
      (first | rw [c5b0] | (simp only [i64_w, i32_w]; rw [c5b0]) | skip)
      have H' := Aside0.mk H
      clear H
      go_wp2
      go_meet
      case rel => exact ⟨_, (true), (by first | rfl | (simp; done) | (simp [*]; done)), H', ⟨by first | omega | exact Nat.le_refl _⟩, ⟨by repeat (first | (with_reducible first | exact HB.out | apply below_alloc | apply pw_below_drewN | apply below_drew1) | exact HB.out)⟩⟩
    · rw [if_neg c5] at H
      have c5b0 : decide (a2 < 0) = false := decide_eq_false c5
      clear c5
      (first | rw [c5b0] | (simp only [i64_w, i32_w]; rw [c5b0]) | skip)
      have H' := Aside0.mk H
      clear H
      go_wp2
      go_meet
      case rel => exact ⟨_, (decide ((wrap64 (a2 + (l0.length : Int))) > (l1.length : Int))), (by first | rfl | (simp; done) | (simp [*]; done)), H', ⟨by first | omega | exact Nat.le_refl _⟩, ⟨by repeat (first | (with_reducible first | exact HB.out | apply below_alloc | apply pw_below_drewN | apply below_drew1) | exact HB.out)⟩⟩
  case rest =>
    clear HC4
    try clear c1
    try clear p2
    try clear c5
    try clear c5b0
    obtain ⟨kq, x19_3, rfl, HA, HJ3, HB⟩ := hcut
    cases kq with
    | zero => exact absurd HA.out (by simp [transduce_covers.j0])
    | succ kj3 =>
      have H := HA.out
      clear HA
      simp only [transduce_covers.j0] at H
      by_cases c6 : x19_3 = true
      · subst c6
        have H1 : (some false) = some r := by rw [if_pos rfl] at H; exact H
        clear H
        have H := H1
        clear H1
        obtain rfl := Option.some.inj H
        go_wp2
        go_ret
        exact ⟨by first | rfl | (simp [errW_none, errW_some] <;> rfl) | (simp [*, errW_none, errW_some] <;> rfl), by repeat (first | (with_reducible first | exact HB.out | apply below_alloc | apply pw_below_drewN | apply below_drew1) | exact HB.out)⟩
      · replace c6 := Bool.eq_false_iff.mpr c6
        subst c6
        have H1 : (transduce_covers.l0 kj3 l1 a2 l0 (l0.length : Int) 0) = some r := by rw [if_neg (show ¬ (false = true) by decide)] at H; exact H
        clear H
        have H := H1
        clear H1
        have H' := Aside0.mk H
        clear H
        go_wp2
        go_loopg [22] kj3 (fun kq v22 w' => ∃ (x22_2 : Int), v22 = .int .i64 x22_2 ∧ Aside0 (transduce_covers.l0 kq l1 a2 l0 (l0.length : Int) x22_2 = some r) ∧ Aside0 (kq ≤ kj3) ∧ Aside0 (Below w.heap.size w w'))
        case atStart => exact ⟨(0), (by first | rfl | (simp; done) | (simp [*]; done)), H', ⟨Nat.le_refl _⟩, ⟨by repeat (first | (with_reducible first | exact HB.out | apply below_alloc | apply pw_below_drewN | apply below_drew1) | exact HB.out)⟩⟩
        case round =>
          clear H'
          try clear c1
          try clear p2
          try clear c5
          try clear c5b0
          try clear c6
          try clear p6
          try clear p2
          obtain ⟨x22_2, rfl, HA, HK2, HB⟩ := hrel
          cases gk with
          | zero => exact absurd HA.out (by simp [transduce_covers.l0])
          | succ k2 =>
            have H := HA.out
            clear HA
            simp only [transduce_covers.l0] at H
            by_cases c7 : x22_2 < (l0.length : Int)
            · rw [if_pos c7] at H
              have c7b0 : decide (x22_2 < (l0.length : Int)) = true := decide_eq_true c7
              clear c7
              by_cases c8 : 0 ≤ x22_2
              · rw [if_pos c8] at H
                have c8b0 : decide (0 ≤ x22_2) = true := decide_eq_true c8
                clear c8
                by_cases c9 : x22_2 < (l0.length : Int)
                · rw [if_pos c9] at H
                  have c9b0 : decide (x22_2 < (l0.length : Int)) = true := decide_eq_true c9
                  clear c9
                  obtain ⟨ji10, hji10⟩ : ∃ j_ : Int, (wrap64 (a2 + x22_2)) = j_ := ⟨_, rfl⟩
                  replace H : (if 0 ≤ (ji10) then (if (ji10) < (l1.length : Int) then ((cpset_Has.f ((rd_T45 l0 x22_2).f0) (rd l1 (ji10))).bind fun t120 => (if t120 = true then (transduce_covers.l0 k2 l1 a2 l0 (l0.length : Int) (wrap64 (x22_2 + 1))) else (some false))) else (none)) else (none)) = some r := by first | (rw [hji10] at H; exact H) | (simp only [hji10] at H ⊢; exact H)
                  have hji10w : (IntKind.i64.wrap (a2 + x22_2)) = ji10 := (i64_w _).trans hji10
                  by_cases c11 : 0 ≤ (ji10)
                  · rw [if_pos c11] at H
                    have c11b0 : decide (0 ≤ (ji10)) = true := decide_eq_true c11
                    clear c11
                    by_cases c12 : (ji10) < (l1.length : Int)
                    · rw [if_pos c12] at H
                      have c12b0 : decide ((ji10) < (l1.length : Int)) = true := decide_eq_true c12
                      clear c12
                      replace H := Option.bind_eq_some_iff.mp H
                      obtain ⟨t120, A130, H⟩ := H
                      replace H : (if t120 = true then (transduce_covers.l0 k2 l1 a2 l0 (l0.length : Int) (wrap64 (x22_2 + 1))) else (some false)) = some r := H
                      have A13 := Aside0.mk A130
                      clear A130
                      by_cases c14 : t120 = true
                      · subst c14
                        have H1 : (transduce_covers.l0 k2 l1 a2 l0 (l0.length : Int) (wrap64 (x22_2 + 1))) = some r := by rw [if_pos rfl] at H; exact H
                        clear H
                        have H := H1
                        clear H1
                        have H' := Aside0.mk H
                        clear H
                        have p117 : 0 ≤ (x22_2 : Int) := of_decide_eq_true (by first | (with_reducible assumption) | assumption)
                        have q117 : x22_2 < (l0.length : Int) := of_decide_eq_true (by first | (with_reducible assumption) | assumption)
                        obtain ⟨ad117, A117_0, c117_0, e117, hx117_0, hl117_0, hi117_0⟩ := at_T45 HR0.out x22_2 p117 q117
                        cases e117
                        replace hx117_0 := (HB.out.cell (World.block_lt_of_cell? w _ hx117_0)).trans hx117_0
                        have HR117_0 := Aside0.mk hi117_0
                        have HC117_0 := Aside0.mk hl117_0
                        clear hi117_0 hl117_0
                        replace p117 := eq_true p117
                        replace q117 := eq_true q117
                        try go_wp2_with (first | ((with_reducible refine gate_dst (N := 8) rfl ?_); (try (refine gate_guard (by rfl) ?_; dsimp only)); refine box_event ?hg (N := 8) ?hd (cs := #[.slice none 0 0]) (t := 45) ?hr ?_; (case hd => rfl); (case hg => rfl); (case hr => first | (go_simp; done) | (go_simp; rfl)); intro gb118 hg w15 hbox hb; have n0_ := Aside0.mk (below_step (by repeat (first | (with_reducible first | exact HB.out | apply below_alloc | apply pw_below_drewN | apply below_drew1) | exact HB.out)) hb); have n1_ := Aside0.mk (hbox); have n2_ := Aside0.mk ((by rw [hg]; exact (below_size (by repeat (first | (with_reducible first | exact HB.out | apply below_alloc | apply pw_below_drewN | apply below_drew1) | exact HB.out))) : w.heap.size ≤ gb118)); have n3_ := Aside0.mk ((by rw [hg]; exact (below_size (by repeat (first | (with_reducible first | exact HB.out | apply below_alloc | apply pw_below_drewN | apply below_drew1) | exact HB.out))) : w.heap.size ≤ gb118)); clear HB; have HB := n0_; have BK118 := n1_; have GW118 := n2_; have GE118 := n3_; clear n0_ n1_ n2_ n3_; clear hb hbox hg; have hcz16_0 : w15.cell? ⟨gb118, 0, none⟩ = some (.slice none 0 0) := (blk_cell BK118.out 0).trans rfl; have hfz16_0 := blk_frozen BK118.out 0))
                        have n0_ : Aside0 ((w15.setCell ⟨gb118, 0, none⟩ (.slice A117_0 ((rd_T45 l0 x22_2).f0).length c117_0)).heap[gb118]? = some (.cells #[.slice A117_0 ((rd_T45 l0 x22_2).f0).length c117_0] 45 (0, 0))) := ⟨by (with_reducible repeat (first | refine blk_drewN ?_ _ | refine blk_drew ?_ | refine blk_alloc ?_ _)); refine blk_put (cs := #[.slice none 0 0]) ?_ 0 _ rfl; (with_reducible repeat (first | refine blk_drewN ?_ _ | refine blk_drew ?_ | refine blk_alloc ?_ _)); exact BK118.out⟩
                        have n1_ : Aside0 (Below w.heap.size w (w15.setCell ⟨gb118, 0, none⟩ (.slice A117_0 ((rd_T45 l0 x22_2).f0).length c117_0))) := ⟨by repeat (first | (with_reducible first | exact HB.out | apply below_alloc | apply pw_below_drewN | apply below_drew1 | refine below_set ?_ GE118.out) | exact HB.out)⟩
                        (try clear BK118)
                        (try clear HB)
                        generalize (w15.setCell ⟨gb118, 0, none⟩ (.slice A117_0 ((rd_T45 l0 x22_2).f0).length c117_0)) = w17 at n0_ n1_ ⊢
                        have BK118 := n0_
                        have HB := n1_
                        clear n0_ n1_
                        have n0_ := Aside0.mk (blk_drew BK118.out)
                        have n1_ := Aside0.mk (below_drew1 HB.out)
                        clear BK118
                        clear HB
                        have BK118 := n0_
                        have HB := n1_
                        clear n0_ n1_
                        have p119 : 0 ≤ ((ji10) : Int) := of_decide_eq_true (by first | (with_reducible assumption) | assumption)
                        have q119 : (ji10) < (l1.length : Int) := of_decide_eq_true (by first | (with_reducible assumption) | assumption)
                        obtain ⟨ad119, e119, hx119_0⟩ := Kd.at_int HR1.out (ji10) p119 q119
                        have hw119_0 := hx119_0
                        cases e119
                        replace hx119_0 := (HB.out.cell (World.block_lt_of_cell? w _ hx119_0)).trans hx119_0
                        replace p119 := eq_true p119
                        replace q119 := eq_true q119
                        refine start_ (n := 9) (S := fun w' => w'.cell? ⟨gb118, 0, none⟩ = some (.slice A117_0 ((rd_T45 l0 x22_2).f0).length c117_0) ∧ w'.cell? (ad119.add ((ji10)).toNat) = some (.int .i64 (rd l1 (ji10)))) (ds := []) #[false, false, false, false, false, false, false, false, false] (by kernel_rfl) rfl rfl ⟨(blk_cell BK118.out 0).trans rfl, ((HB.out.cell (World.block_lt_of_cell? w _ hw119_0)).trans hw119_0)⟩ (fun hHeld => ?_); refine with_tabW transduce_covers.tab6 transduce_covers.bits6 (fun HT_ HW_ => ?_)
                        generalize w17.drew = w18 at BK118 HB hx119_0 hHeld ⊢
                        refine pure_ (i := 1) (N := some 28) (v := ?_) (a' := ?_) #[false, true, false, false, false, false, false, false, false] rfl rfl (any_of HT_.out (by kernel_rfl)) (fun _ _ _ h => h) (Or.inl ⟨by rfl, ?_⟩) ?_ ?_
                        rotate_left
                        · intro w'
                          go_simp
                          with_reducible rfl
                        rotate_left
                        · simp only [Act.put, List.setIfInBounds_toArray, List.set_cons_zero, List.set_cons_succ, i64_w, i32_w]
                          rfl
                        refine pure_ (i := 2) (N := some 29) (v := ?_) (a' := ?_) #[false, true, true, false, false, false, false, false, false] rfl rfl (any_of HT_.out (by kernel_rfl)) (fun _ _ _ h => h) (Or.inl ⟨by rfl, ?_⟩) ?_ ?_
                        rotate_left
                        · intro w'
                          go_simp
                          with_reducible rfl
                        rotate_left
                        · simp only [Act.put, List.setIfInBounds_toArray, List.set_cons_zero, List.set_cons_succ, i64_w, i32_w]
                          rfl
                        refine pure_ (i := 3) (N := some 30) (v := ?_) (a' := ?_) #[false, true, true, true, false, false, false, false, false] rfl rfl (any_of HT_.out (by kernel_rfl)) (fun _ _ _ h => h) (Or.inl ⟨by rfl, ?_⟩) ?_ ?_
                        rotate_left
                        · intro w'
                          go_simp
                          with_reducible rfl
                        rotate_left
                        · simp only [Act.put, List.setIfInBounds_toArray, List.set_cons_zero, List.set_cons_succ, i64_w, i32_w]
                          rfl
                        refine pure_ (i := 4) (N := some 31) (v := ?_) (a' := ?_) #[false, true, true, true, true, false, false, false, false] rfl rfl (any_of HT_.out (by kernel_rfl)) (fun _ _ _ h => h) (Or.inl ⟨by rfl, ?_⟩) ?_ ?_
                        rotate_left
                        · intro w'
                          go_simp
                          with_reducible rfl
                        rotate_left
                        · simp only [Act.put, List.setIfInBounds_toArray, List.set_cons_zero, List.set_cons_succ, i64_w, i32_w]
                          rfl
                        refine pure_ (i := 5) (N := some 32) (v := ?_) (a' := ?_) #[false, true, true, true, true, true, false, false, false] rfl rfl (any_of HT_.out (by kernel_rfl)) (fun _ _ _ h => h) (Or.inl ⟨by rfl, ?_⟩) ?_ ?_
                        rotate_left
                        · intro w'
                          go_simp
                          with_reducible rfl
                        rotate_left
                        · simp only [Act.put, List.setIfInBounds_toArray, List.set_cons_zero, List.set_cons_succ, i64_w, i32_w]
                          rfl
                        refine take_ (i := 0) (N := some 27) (v := ?_) (a' := ?_) #[true, true, true, true, true, true, false, false, false] rfl rfl (take_ofW HT_.out HW_.out (by kernel_rfl)) (fun _ _ _ h => h) (Or.inl ⟨by rfl, ?_⟩) hHeld ?_ ?_
                        rotate_left
                        · rintro w' ⟨s0, s1⟩
                          go_simp
                          with_reducible rfl
                        rotate_left
                        · simp only [Act.put, List.setIfInBounds_toArray, List.set_cons_zero, List.set_cons_succ, i64_w, i32_w]
                          rfl
                        refine take_ (i := 6) (N := some 33) (v := ?_) (a' := ?_) #[true, true, true, true, true, true, true, false, false] rfl rfl (take_ofW HT_.out HW_.out (by kernel_rfl)) (fun _ _ _ h => h) (Or.inl ⟨by rfl, ?_⟩) hHeld ?_ ?_
                        rotate_left
                        · rintro w' ⟨s0, s1⟩
                          go_simp
                          with_reducible rfl
                        rotate_left
                        · simp only [Act.put, List.setIfInBounds_toArray, List.set_cons_zero, List.set_cons_succ, i64_w, i32_w]
                          rfl
                        refine one_ (i := 7) (N := some 34) #[true, true, true, true, true, true, true, true, false] rfl rfl (one_of HT_.out (by kernel_rfl)) (by decide) (fun K hK => ?_)
                        refine goes_ Try.func73 (by kernel_rfl) rfl #[.agg #[.slice A117_0 ((rd_T45 l0 x22_2).f0).length c117_0], .int .i64 (rd l1 (ji10))] (by rfl) rfl rfl (by (try simp only [List.map_toArray, List.map_cons, List.map_nil]); first | done | (simp only [hji10]; rfl) | rfl | (simp only [List.length_drop, List.length_take]; rfl)) ?_
                        with_reducible refine (cpset_Has.calls _ _ ((rd_T45 l0 x22_2).f0) (rd l1 (ji10)) true _ ?side1 ?side2 A13.out).mono ?_
                        (case side1 => repeat (first | exact (Kd.C_below HR117_0.out HB.out) | (with_reducible refine Kd.C_alloc ?_ _) | (with_reducible refine Kd.C_drewN ?_ _) | (with_reducible refine Kd.C_drew ?_)))
                        (case side2 => exact HC117_0.out)
                        rintro e w19 ⟨rfl, hb⟩
                        refine ⟨_, rfl, ?_⟩
                        have n0_ := Aside0.mk (blk_below (g := gb118) (o := .cells #[.slice A117_0 ((rd_T45 l0 x22_2).f0).length c117_0] 45 (0, 0)) (by (with_reducible repeat (first | refine blk_drewN ?_ _ | refine blk_drew ?_ | refine blk_alloc ?_ _)); exact BK118.out) hb)
                        have n1_ := Aside0.mk (below_step (by repeat (first | (with_reducible first | exact HB.out | apply below_alloc | apply pw_below_drewN | apply below_drew1 | refine below_set ?_ GE118.out) | exact HB.out)) hb)
                        clear BK118
                        clear HB
                        have BK118 := n0_
                        have HB := n1_
                        clear n0_ n1_
                        (try clear hb)
                        (try clear hb2)
                        (try clear hk)
                        (try clear hi)
                        refine hK.out _ _ ⟨(blk_cell BK118.out 0).trans rfl, ((HB.out.cell (World.block_lt_of_cell? w _ hw119_0)).trans hw119_0)⟩ (fun hHeld => ?_)
                        clear hK K
                        refine norm_ (a' := ?_) ?_ ?_
                        rotate_left
                        · show Act.put _ (some 34) _ = _
                          simp only [Act.put, List.setIfInBounds_toArray, List.set_cons_zero, List.set_cons_succ, i64_w, i32_w]
                          rfl
                        refine pure_ (i := 8) (N := some 35) (v := ?_) (a' := ?_) #[true, true, true, true, true, true, true, true, true] rfl rfl (any_of HT_.out (by kernel_rfl)) (fun _ _ _ h => h) (Or.inl ⟨by rfl, ?_⟩) ?_ ?_
                        rotate_left
                        · intro w'
                          go_simp
                          with_reducible rfl
                        rotate_left
                        · simp only [Act.put, List.setIfInBounds_toArray, List.set_cons_zero, List.set_cons_succ, i64_w, i32_w]
                          rfl
                        refine done_ (done_of HT_.out (by kernel_rfl)) ?_
                        try go_wp2
                        go_roundg k2
                        case measure => have := HJ3.out; have := HK2.out; omega
                        case rel => exact ⟨(wrap64 (x22_2 + 1)), (by first | rfl | (simp; done) | (simp [*]; done)), H', ⟨by have := HJ3.out; have := HK2.out; omega⟩, ⟨by repeat (first | (with_reducible first | exact HB.out | apply below_alloc | apply pw_below_drewN | apply below_drew1 | refine below_set ?_ GE118.out) | exact HB.out)⟩⟩
                      · replace c14 := Bool.eq_false_iff.mpr c14
                        subst c14
                        have H1 : (some false) = some r := by rw [if_neg (show ¬ (false = true) by decide)] at H; exact H
                        clear H
                        have H := H1
                        clear H1
                        obtain rfl := Option.some.inj H
                        have p117 : 0 ≤ (x22_2 : Int) := of_decide_eq_true (by first | (with_reducible assumption) | assumption)
                        have q117 : x22_2 < (l0.length : Int) := of_decide_eq_true (by first | (with_reducible assumption) | assumption)
                        obtain ⟨ad117, A117_0, c117_0, e117, hx117_0, hl117_0, hi117_0⟩ := at_T45 HR0.out x22_2 p117 q117
                        cases e117
                        replace hx117_0 := (HB.out.cell (World.block_lt_of_cell? w _ hx117_0)).trans hx117_0
                        have HR117_0 := Aside0.mk hi117_0
                        have HC117_0 := Aside0.mk hl117_0
                        clear hi117_0 hl117_0
                        replace p117 := eq_true p117
                        replace q117 := eq_true q117
                        try go_wp2_with (first | ((with_reducible refine gate_dst (N := 8) rfl ?_); (try (refine gate_guard (by rfl) ?_; dsimp only)); refine box_event ?hg (N := 8) ?hd (cs := #[.slice none 0 0]) (t := 45) ?hr ?_; (case hd => rfl); (case hg => rfl); (case hr => first | (go_simp; done) | (go_simp; rfl)); intro gb118 hg w20 hbox hb; have n0_ := Aside0.mk (below_step (by repeat (first | (with_reducible first | exact HB.out | apply below_alloc | apply pw_below_drewN | apply below_drew1) | exact HB.out)) hb); have n1_ := Aside0.mk (hbox); have n2_ := Aside0.mk ((by rw [hg]; exact (below_size (by repeat (first | (with_reducible first | exact HB.out | apply below_alloc | apply pw_below_drewN | apply below_drew1) | exact HB.out))) : w.heap.size ≤ gb118)); have n3_ := Aside0.mk ((by rw [hg]; exact (below_size (by repeat (first | (with_reducible first | exact HB.out | apply below_alloc | apply pw_below_drewN | apply below_drew1) | exact HB.out))) : w.heap.size ≤ gb118)); clear HB; have HB := n0_; have BK118 := n1_; have GW118 := n2_; have GE118 := n3_; clear n0_ n1_ n2_ n3_; clear hb hbox hg; have hcz21_0 : w20.cell? ⟨gb118, 0, none⟩ = some (.slice none 0 0) := (blk_cell BK118.out 0).trans rfl; have hfz21_0 := blk_frozen BK118.out 0))
                        have n0_ : Aside0 ((w20.setCell ⟨gb118, 0, none⟩ (.slice A117_0 ((rd_T45 l0 x22_2).f0).length c117_0)).heap[gb118]? = some (.cells #[.slice A117_0 ((rd_T45 l0 x22_2).f0).length c117_0] 45 (0, 0))) := ⟨by (with_reducible repeat (first | refine blk_drewN ?_ _ | refine blk_drew ?_ | refine blk_alloc ?_ _)); refine blk_put (cs := #[.slice none 0 0]) ?_ 0 _ rfl; (with_reducible repeat (first | refine blk_drewN ?_ _ | refine blk_drew ?_ | refine blk_alloc ?_ _)); exact BK118.out⟩
                        have n1_ : Aside0 (Below w.heap.size w (w20.setCell ⟨gb118, 0, none⟩ (.slice A117_0 ((rd_T45 l0 x22_2).f0).length c117_0))) := ⟨by repeat (first | (with_reducible first | exact HB.out | apply below_alloc | apply pw_below_drewN | apply below_drew1 | refine below_set ?_ GE118.out) | exact HB.out)⟩
                        (try clear BK118)
                        (try clear HB)
                        generalize (w20.setCell ⟨gb118, 0, none⟩ (.slice A117_0 ((rd_T45 l0 x22_2).f0).length c117_0)) = w22 at n0_ n1_ ⊢
                        have BK118 := n0_
                        have HB := n1_
                        clear n0_ n1_
                        have n0_ := Aside0.mk (blk_drew BK118.out)
                        have n1_ := Aside0.mk (below_drew1 HB.out)
                        clear BK118
                        clear HB
                        have BK118 := n0_
                        have HB := n1_
                        clear n0_ n1_
                        have p119 : 0 ≤ ((ji10) : Int) := of_decide_eq_true (by first | (with_reducible assumption) | assumption)
                        have q119 : (ji10) < (l1.length : Int) := of_decide_eq_true (by first | (with_reducible assumption) | assumption)
                        obtain ⟨ad119, e119, hx119_0⟩ := Kd.at_int HR1.out (ji10) p119 q119
                        have hw119_0 := hx119_0
                        cases e119
                        replace hx119_0 := (HB.out.cell (World.block_lt_of_cell? w _ hx119_0)).trans hx119_0
                        replace p119 := eq_true p119
                        replace q119 := eq_true q119
                        refine start_ (n := 9) (S := fun w' => w'.cell? ⟨gb118, 0, none⟩ = some (.slice A117_0 ((rd_T45 l0 x22_2).f0).length c117_0) ∧ w'.cell? (ad119.add ((ji10)).toNat) = some (.int .i64 (rd l1 (ji10)))) (ds := []) #[false, false, false, false, false, false, false, false, false] (by kernel_rfl) rfl rfl ⟨(blk_cell BK118.out 0).trans rfl, ((HB.out.cell (World.block_lt_of_cell? w _ hw119_0)).trans hw119_0)⟩ (fun hHeld => ?_); refine with_tabW transduce_covers.tab6 transduce_covers.bits6 (fun HT_ HW_ => ?_)
                        generalize w22.drew = w23 at BK118 HB hx119_0 hHeld ⊢
                        refine pure_ (i := 1) (N := some 28) (v := ?_) (a' := ?_) #[false, true, false, false, false, false, false, false, false] rfl rfl (any_of HT_.out (by kernel_rfl)) (fun _ _ _ h => h) (Or.inl ⟨by rfl, ?_⟩) ?_ ?_
                        rotate_left
                        · intro w'
                          go_simp
                          with_reducible rfl
                        rotate_left
                        · simp only [Act.put, List.setIfInBounds_toArray, List.set_cons_zero, List.set_cons_succ, i64_w, i32_w]
                          rfl
                        refine pure_ (i := 2) (N := some 29) (v := ?_) (a' := ?_) #[false, true, true, false, false, false, false, false, false] rfl rfl (any_of HT_.out (by kernel_rfl)) (fun _ _ _ h => h) (Or.inl ⟨by rfl, ?_⟩) ?_ ?_
                        rotate_left
                        · intro w'
                          go_simp
                          with_reducible rfl
                        rotate_left
                        · simp only [Act.put, List.setIfInBounds_toArray, List.set_cons_zero, List.set_cons_succ, i64_w, i32_w]
                          rfl
                        refine pure_ (i := 3) (N := some 30) (v := ?_) (a' := ?_) #[false, true, true, true, false, false, false, false, false] rfl rfl (any_of HT_.out (by kernel_rfl)) (fun _ _ _ h => h) (Or.inl ⟨by rfl, ?_⟩) ?_ ?_
                        rotate_left
                        · intro w'
                          go_simp
                          with_reducible rfl
                        rotate_left
                        · simp only [Act.put, List.setIfInBounds_toArray, List.set_cons_zero, List.set_cons_succ, i64_w, i32_w]
                          rfl
                        refine pure_ (i := 4) (N := some 31) (v := ?_) (a' := ?_) #[false, true, true, true, true, false, false, false, false] rfl rfl (any_of HT_.out (by kernel_rfl)) (fun _ _ _ h => h) (Or.inl ⟨by rfl, ?_⟩) ?_ ?_
                        rotate_left
                        · intro w'
                          go_simp
                          with_reducible rfl
                        rotate_left
                        · simp only [Act.put, List.setIfInBounds_toArray, List.set_cons_zero, List.set_cons_succ, i64_w, i32_w]
                          rfl
                        refine pure_ (i := 5) (N := some 32) (v := ?_) (a' := ?_) #[false, true, true, true, true, true, false, false, false] rfl rfl (any_of HT_.out (by kernel_rfl)) (fun _ _ _ h => h) (Or.inl ⟨by rfl, ?_⟩) ?_ ?_
                        rotate_left
                        · intro w'
                          go_simp
                          with_reducible rfl
                        rotate_left
                        · simp only [Act.put, List.setIfInBounds_toArray, List.set_cons_zero, List.set_cons_succ, i64_w, i32_w]
                          rfl
                        refine take_ (i := 0) (N := some 27) (v := ?_) (a' := ?_) #[true, true, true, true, true, true, false, false, false] rfl rfl (take_ofW HT_.out HW_.out (by kernel_rfl)) (fun _ _ _ h => h) (Or.inl ⟨by rfl, ?_⟩) hHeld ?_ ?_
                        rotate_left
                        · rintro w' ⟨s0, s1⟩
                          go_simp
                          with_reducible rfl
                        rotate_left
                        · simp only [Act.put, List.setIfInBounds_toArray, List.set_cons_zero, List.set_cons_succ, i64_w, i32_w]
                          rfl
                        refine take_ (i := 6) (N := some 33) (v := ?_) (a' := ?_) #[true, true, true, true, true, true, true, false, false] rfl rfl (take_ofW HT_.out HW_.out (by kernel_rfl)) (fun _ _ _ h => h) (Or.inl ⟨by rfl, ?_⟩) hHeld ?_ ?_
                        rotate_left
                        · rintro w' ⟨s0, s1⟩
                          go_simp
                          with_reducible rfl
                        rotate_left
                        · simp only [Act.put, List.setIfInBounds_toArray, List.set_cons_zero, List.set_cons_succ, i64_w, i32_w]
                          rfl
                        refine one_ (i := 7) (N := some 34) #[true, true, true, true, true, true, true, true, false] rfl rfl (one_of HT_.out (by kernel_rfl)) (by decide) (fun K hK => ?_)
                        refine goes_ Try.func73 (by kernel_rfl) rfl #[.agg #[.slice A117_0 ((rd_T45 l0 x22_2).f0).length c117_0], .int .i64 (rd l1 (ji10))] (by rfl) rfl rfl (by (try simp only [List.map_toArray, List.map_cons, List.map_nil]); first | done | (simp only [hji10]; rfl) | rfl | (simp only [List.length_drop, List.length_take]; rfl)) ?_
                        with_reducible refine (cpset_Has.calls _ _ ((rd_T45 l0 x22_2).f0) (rd l1 (ji10)) false _ ?side1 ?side2 A13.out).mono ?_
                        (case side1 => repeat (first | exact (Kd.C_below HR117_0.out HB.out) | (with_reducible refine Kd.C_alloc ?_ _) | (with_reducible refine Kd.C_drewN ?_ _) | (with_reducible refine Kd.C_drew ?_)))
                        (case side2 => exact HC117_0.out)
                        rintro e w24 ⟨rfl, hb⟩
                        refine ⟨_, rfl, ?_⟩
                        have n0_ := Aside0.mk (blk_below (g := gb118) (o := .cells #[.slice A117_0 ((rd_T45 l0 x22_2).f0).length c117_0] 45 (0, 0)) (by (with_reducible repeat (first | refine blk_drewN ?_ _ | refine blk_drew ?_ | refine blk_alloc ?_ _)); exact BK118.out) hb)
                        have n1_ := Aside0.mk (below_step (by repeat (first | (with_reducible first | exact HB.out | apply below_alloc | apply pw_below_drewN | apply below_drew1 | refine below_set ?_ GE118.out) | exact HB.out)) hb)
                        clear BK118
                        clear HB
                        have BK118 := n0_
                        have HB := n1_
                        clear n0_ n1_
                        (try clear hb)
                        (try clear hb2)
                        (try clear hk)
                        (try clear hi)
                        refine hK.out _ _ ⟨(blk_cell BK118.out 0).trans rfl, ((HB.out.cell (World.block_lt_of_cell? w _ hw119_0)).trans hw119_0)⟩ (fun hHeld => ?_)
                        clear hK K
                        refine norm_ (a' := ?_) ?_ ?_
                        rotate_left
                        · show Act.put _ (some 34) _ = _
                          simp only [Act.put, List.setIfInBounds_toArray, List.set_cons_zero, List.set_cons_succ, i64_w, i32_w]
                          rfl
                        refine pure_ (i := 8) (N := some 35) (v := ?_) (a' := ?_) #[true, true, true, true, true, true, true, true, true] rfl rfl (any_of HT_.out (by kernel_rfl)) (fun _ _ _ h => h) (Or.inl ⟨by rfl, ?_⟩) ?_ ?_
                        rotate_left
                        · intro w'
                          go_simp
                          with_reducible rfl
                        rotate_left
                        · simp only [Act.put, List.setIfInBounds_toArray, List.set_cons_zero, List.set_cons_succ, i64_w, i32_w]
                          rfl
                        refine done_ (done_of HT_.out (by kernel_rfl)) ?_
                        try go_wp2
                        go_ret
                        exact ⟨by first | rfl | (simp [errW_none, errW_some] <;> rfl) | (simp only [← hji10]; first | rfl | (simp [errW_none, errW_some] <;> rfl)) | (simp [*, errW_none, errW_some] <;> rfl), by repeat (first | (with_reducible first | exact HB.out | apply below_alloc | apply pw_below_drewN | apply below_drew1 | refine below_set ?_ GE118.out) | exact HB.out)⟩
                    · rw [if_neg c12] at H
                      exact absurd H (by simp)
                  · rw [if_neg c11] at H
                    exact absurd H (by simp)
                · rw [if_neg c9] at H
                  exact absurd H (by simp)
              · rw [if_neg c8] at H
                exact absurd H (by simp)
            · rw [if_neg c7] at H
              have c7b0 : decide (x22_2 < (l0.length : Int)) = false := decide_eq_false c7
              clear c7
              obtain rfl := Option.some.inj H
              go_wp2
              go_ret
              exact ⟨by first | rfl | (simp [errW_none, errW_some] <;> rfl) | (simp [*, errW_none, errW_some] <;> rfl), by repeat (first | (with_reducible first | exact HB.out | apply below_alloc | apply pw_below_drewN | apply below_drew1) | exact HB.out)⟩
end Go.Proofs.Ytcpicopaobhlcaa.Q
end
section
namespace Go.Proofs.Ytcpicopaobhlcaa.Q
open Go.RowKit Go.Maps Go.Proofs.YtcpicopaobhlcaaW.PrintWords Go.Proofs.YtcpicopaobhlcaaW.PrintLast Go.Proofs.YtcpicopaobhlcaaW.PrintMore
set_option linter.unusedVariables false
theorem rdS_mid (pre : List St) (x : St) (rest : List St) : rd_T45 (pre ++ x :: rest) (pre.length : Int) = x := by
  unfold rd_T45
  rw [Int.toNat_natCast, List.getD_eq_getElem?_getD, List.getElem?_append_right (Nat.le_refl _), Nat.sub_self]
  rfl
theorem drop_rdI (l : List Int) (k : Nat) (h : k < l.length) : l.drop k = rd l (k : Int) :: l.drop (k + 1) := by
  rw [List.drop_eq_getElem_cons h]
  unfold rd
  rw [Int.toNat_natCast, List.getD_eq_getElem?_getD, List.getElem?_eq_getElem h]
  rfl
theorem cov_go (text : List Int) (a : Nat) (hT : text.length < 1000000000) : ∀ (rest pre : List St) (k : Nat), (∀ s ∈ rest, s.f0.length < 1000) → a + (pre ++ rest).length ≤ text.length → rest.length + 1 ≤ k →
    transduce_covers.l0 k text (a : Int) (pre ++ rest) ((pre ++ rest).length : Int) (pre.length : Int) = some (insideS rest (text.drop (a + pre.length)))
  | [], pre, k, h0, h1, h2 => by
    obtain ⟨k, rfl⟩ : ∃ j, k = j + 1 := ⟨k - 1, by omega⟩
    rw [transduce_covers.l0, if_neg (by simp)]
    rfl
  | s :: rest, pre, k, h0, h1, h2 => by
    obtain ⟨k, rfl⟩ : ∃ j, k = j + 1 := ⟨k - 1, by omega⟩
    have hp : a + pre.length < text.length := by simp at h1; omega
    have ih := cov_go text a hT rest (pre ++ [s]) k (fun y hy => h0 y (List.mem_cons_of_mem _ hy)) (by simpa using h1) (by simp at h2; omega)
    have ex : (pre ++ [s]) ++ rest = pre ++ s :: rest := by simp
    have el : ((pre ++ [s]).length : Int) = ((pre.length + 1 : Nat) : Int) := by simp
    have en : (pre ++ [s]).length = pre.length + 1 := by simp
    rw [ex, el, en] at ih
    have hw : wrap64 ((a : Int) + (pre.length : Int)) = ((a + pre.length : Nat) : Int) := by unfold wrap64; omega
    have hs : cpset_Has.f s.f0 (rd text ((a + pre.length : Nat) : Int)) = some (hasS s (rd text ((a + pre.length : Nat) : Int))) := by
      unfold cpset_Has.f
      rw [if_pos (by have := h0 s List.mem_cons_self; omega)]
      rfl
    rw [transduce_covers.l0, if_pos (by simp; omega), if_pos (by omega), if_pos (by simp; omega), rdS_mid, hw, if_pos (by omega), if_pos (by omega), hs, wrap_suc (by omega : pre.length < 1000000000), drop_rdI _ _ hp]
    show (if hasS s _ = true then _ else _) = _
    rw [ih, insideS]
    cases hasS s (rd text ((a + pre.length : Nat) : Int)) <;> rfl
theorem cov_ok (sets : List St) (text : List Int) (i : Int) (h0 : ∀ s ∈ sets, s.f0.length < 1000) (hT : text.length < 1000000000) (hS : sets.length < 1000000000) (hi : -1000000000000 < i ∧ i < 1000000000000) :
    transduce_covers.f (sets.length + 2) sets text i = some (coversS sets text i) := by
  unfold transduce_covers.f coversS
  by_cases hn : i < 0
  · rw [if_pos hn, transduce_covers.j0, if_pos rfl, decide_eq_false (by omega)]
    rfl
  · have hw : wrap64 (i + (sets.length : Int)) = i + (sets.length : Int) := by unfold wrap64; omega
    rw [if_neg hn, hw, transduce_covers.j0, decide_eq_true (by omega : 0 ≤ i)]
    by_cases hl : i + (sets.length : Int) ≤ (text.length : Int)
    · rw [if_neg (by simp; omega), decide_eq_true hl]
      obtain ⟨a, rfl⟩ : ∃ a : Nat, i = (a : Int) := ⟨i.toNat, by omega⟩
      have := cov_go text a hT sets [] (sets.length + 1) h0 (by simpa using by omega) (Nat.le_refl _)
      rw [Int.toNat_natCast]
      exact this
    · rw [if_pos (by simp; omega), decide_eq_false hl]
      rfl
theorem find_begin (c : Int) (P : Int → Bool) (Q : Ru → Bool) : ∀ (l : List Ru) (i : Nat), (∀ x ∈ l, Q x = true → startsS x c = true) → (∀ (j : Nat) (x : Ru), l[j]? = some x → P ((i + j : Nat) : Int) = Q x) →
    (beginS l i c).find? P = (l.findIdx? Q).map (fun j => ((i + j : Nat) : Int))
  | [], i, _, h => rfl
  | x :: l, i, hQ, h => by
    have h0 := h 0 x rfl
    rw [Nat.add_zero] at h0
    have ih := find_begin c P Q l (i + 1) (fun y hy => hQ y (List.mem_cons_of_mem _ hy)) fun j y hy => by
      have := h (j + 1) y (by simpa using hy)
      rw [show i + (j + 1) = i + 1 + j by omega] at this
      exact this
    rw [beginS, List.findIdx?_cons]
    by_cases hq : Q x = true
    · rw [if_pos (hQ x List.mem_cons_self hq), List.find?_cons, h0, hq]
      simp
    · have hq' : Q x = false := by simpa using hq
      rw [hq']
      have hrest : (l.findIdx? Q).map (fun j => ((i + 1 + j : Nat) : Int)) = ((l.findIdx? Q).map (· + 1)).map (fun j => ((i + j : Nat) : Int)) := by
        cases l.findIdx? Q with
        | none => rfl
        | some j => simp; omega
      split
      · rw [List.find?_cons, h0, hq', ih, hrest]; rfl
      · rw [ih, hrest]; rfl
theorem starts_of (x : Ru) (text : List Int) (i : Int) (h1 : 1 ≤ x.f1.length) (h2 : 0 ≤ i) (h3 : i < (text.length : Int)) (h : appliesS x text i = true) : startsS x (rd text i) = true := by
  unfold appliesS coversS at h
  simp only [Bool.and_eq_true] at h
  have h4 := h.1.2.2
  obtain ⟨a, rfl⟩ : ∃ a : Nat, i = (a : Int) := ⟨i.toNat, by omega⟩
  rw [Int.toNat_natCast, drop_rdI text a (by omega)] at h4
  unfold startsS
  cases hf : x.f1 with
  | nil => rw [hf] at h1; simp at h1
  | cons s r =>
    rw [hf, insideS, Bool.and_eq_true] at h4
    exact h4.1
theorem find_hit (P : Int → Bool) (bs : List Int) (k : Nat) (hk : k < bs.length) (h : ∀ y ∈ bs.take k, P y = false) (hp : P (rd bs (k : Int)) = true) : bs.find? P = some (rd bs (k : Int)) := by
  have h1 : bs = bs.take k ++ bs.drop k := (List.take_append_drop k bs).symm
  have h2 : (bs.take k).find? P = none := List.find?_eq_none.2 fun y hy => by rw [h y hy]; decide
  have h3 := drop_rdI bs k hk
  generalize hq : rd bs (k : Int) = q at *
  rw [h1, List.find?_append, h2, h3, List.find?_cons, hp]
  rfl
theorem beginS_mem (c : Int) : ∀ (l : List Ru) (i : Nat) (y : Int), y ∈ beginS l i c → (i : Int) ≤ y ∧ y < ((i + l.length : Nat) : Int)
  | [], i, y, h => by simp [beginS] at h
  | x :: l, i, y, h => by
    rw [beginS] at h
    split at h
    · rcases List.mem_cons.1 h with rfl | h
      · simp only [List.length_cons]; omega
      · have := beginS_mem c l (i + 1) y h
        simp only [List.length_cons]; omega
    · have := beginS_mem c l (i + 1) y h
      simp only [List.length_cons]; omega
theorem Mach.below {w w' : World} {g : Option Nat} {bm mb cA n : Nat} {A : Option Addr} {l : List Ru} (h : Mach w g bm mb A cA l n) (hb : Below w.heap.size w w') : Mach w' g bm mb A cA l n := by
  obtain ⟨D, h1, h2⟩ := h.map
  refine ⟨blk_below h.blk hb, D, h1.kept (grown_of_below hb none) (by simp), fun c hc => ?_⟩
  obtain ⟨A', cap, e1, e2, e3, e4⟩ := h2 c hc
  exact ⟨A', cap, e1, e2, Kd.C_below e3 hb, e4⟩
theorem Mach.mono {w : World} {g : Option Nat} {bm mb cA n m : Nat} {A : Option Addr} {l : List Ru} (h : Mach w g bm mb A cA l n) (hm : n ≤ m) : Mach w g bm mb A cA l m := ⟨h.blk, h.map.elim fun D h => ⟨D, h.1.mono hm, h.2⟩⟩
/-- A row that is kept apart may grow. -/
theorem Mach.grown {w w' : World} {g g' : Option Nat} {bm mb cA n : Nat} {A : Option Addr} {l : List Ru} {e0 : TypeId} (he0 : e0 ≠ 76) (h : Mach w g bm mb A cA l n) (hg : w.grownBy w' g) (hty : ∀ k, g = some k → ∃ cells, w.heap[k]? = some (.cells cells e0 (0, 0)))
    (hat : g' = g ∨ ∃ b, g' = some b ∧ w.heap.size ≤ b) : Mach w' g' bm mb A cA l n := by
  obtain ⟨D, h1, h2⟩ := h.map
  obtain ⟨es, clock, hmp⟩ := ownsMap_at h1
  have hnb : some bm ≠ g := fun e => by
    obtain ⟨cells, hc⟩ := hty bm e.symm
    rw [h.blk] at hc
    injection hc with hc
    injection hc with hc1 hc2
    exact absurd hc2.symm he0
  have hnm : some mb ≠ g := fun e => by
    obtain ⟨cells, hc⟩ := hty mb e.symm
    rw [hmp] at hc
    cases hc
  refine ⟨blk_grown h.blk hg hnb, D, h1.kept hg hnm, fun c hc => ?_⟩
  obtain ⟨A', cap, e1, e2, e3, e4⟩ := h2 c hc
  refine ⟨A', cap, e1, e2, mach_grownC e3 hg e4, fun ad ea h0 => ?_⟩
  rcases hat with rfl | ⟨b, rfl, hb⟩
  · exact e4 ad ea h0
  · have := mach_blockC e3 ad ea h0
    intro e
    injection e with e
    omega
set_option maxHeartbeats 4000000 in
set_option maxRecDepth 100000 in
theorem step_calls (w0 w : World) (bm mb : Nat) (A : Option Addr) (cA : Nat) (l : List Ru) (n : Nat) (A1 : Option Addr) (c1 : Nat) (text : List Int) (at_ : Int) (g : Option Nat) (hg0 : ∀ k, g = some k → k < w.heap.size) (hM : Mach w g bm mb A cA l n) (hb0 : Below w0.heap.size w0 w) (hmb : w0.heap.size ≤ mb) (hR : Kd.C k41 w0 A l.length l) (hc : l.length ≤ cA)
    (hl : l.length < 100000000) (hm1 : ∀ x ∈ l, 1 ≤ x.f1.length ∧ (∀ s ∈ x.f0, s.f0.length < 1000) ∧ (∀ s ∈ x.f1, s.f0.length < 1000) ∧ (∀ s ∈ x.f2, s.f0.length < 1000) ∧ x.f0.length < 100000000 ∧ x.f1.length < 100000000 ∧ x.f2.length < 100000000) (hn : n < 1000000000)
    (hT : Kd.C (Kd.int .i64) w0 A1 text.length text) (hc1 : text.length ≤ c1) (hTl : text.length < 100000000) (hwf : ∀ c ∈ text, (Lit.int .i64 c).wf = true) :
    Calls Try.prog 60 #[.pointer (some ⟨bm, 0, none⟩), .slice A1 text.length c1, .int .i64 at_] w fun e w' => e = .returned (.tuple #[.int .i64 (stepS l text at_).1, .int .i64 (stepS l text at_).2]) ∧ Mach w' g bm mb A cA l (n + 1) ∧ Below w0.heap.size w0 w' ∧ (∀ k o, w.heap[k]? = some o → k ≠ mb → w'.heap[k]? = some o) := by
  have HM := Aside0.mk hM
  have HG0 := Aside0.mk hg0
  have HB0 := Aside0.mk hb0
  have HMB := Aside0.mk hmb
  have HR := Aside0.mk hR
  have HC := Aside0.mk hc
  have HL := Aside0.mk hl
  have HM1 := Aside0.mk hm1
  have HN := Aside0.mk hn
  have HT0 := Aside0.mk hT
  have HC1 := Aside0.mk hc1
  have HTL := Aside0.mk hTl
  have HWF := Aside0.mk hwf
  clear hg0 hM hb0 hmb hR hc hl hm1 hn hT hc1 hTl hwf
  by_cases hneg : at_ < 0
  · have hd : decide (at_ < 0) = true := decide_eq_true hneg
    have HS := Aside0.mk (show stepS l text at_ = (-1, 0) by unfold stepS; rw [if_pos (.inl hneg)])
    clear hneg
    go_enter Try.func60, Try.ntmps60
    go_wp2
    go_step3
    go_wp2
    rw [Exit.noGoto_ret]
    go_ret2
    exact ⟨by rw [HS.out]; rfl, ⟨HM.out.blk, HM.out.map.elim fun D h => ⟨D, h.1.mono (Nat.le_succ n), h.2⟩⟩, HB0.out, fun k o h _ => h⟩
  · by_cases hge : (text.length : Int) ≤ at_
    · have hd : decide (at_ < 0) = false := decide_eq_false hneg
      have hd2 : decide (at_ ≥ (text.length : Int)) = true := decide_eq_true hge
      have HS := Aside0.mk (show stepS l text at_ = (-1, 0) by unfold stepS; rw [if_pos (.inr hge)])
      clear hneg hge
      go_enter Try.func60, Try.ntmps60
      go_wp2
      go_step3
      go_wp2
      rw [Exit.noGoto_ret]
      go_ret2
      exact ⟨by rw [HS.out]; rfl, ⟨HM.out.blk, HM.out.map.elim fun D h => ⟨D, h.1.mono (Nat.le_succ n), h.2⟩⟩, HB0.out, fun k o h _ => h⟩
    · have hd : decide (at_ < 0) = false := decide_eq_false hneg
      have hd2 : decide (at_ ≥ (text.length : Int)) = false := decide_eq_false hge
      obtain ⟨ad, e, hx0⟩ := Kd.at_int (Kd.C_below HT0.out HB0.out) at_ (by omega) (by omega)
      cases e
      have hp : (0 ≤ at_) = True := eq_true (by omega)
      have hp2 : (at_ < (text.length : Int)) = True := eq_true (by omega)
      have hmem : rd text at_ ∈ text := by unfold rd; rw [List.getD_eq_getElem?_getD, List.getElem?_eq_getElem (by omega : at_.toNat < text.length)]; exact List.getElem_mem _
      have HSN : Aside0 (l.findIdx? (fun x => appliesS x text at_) = none → stepS l text at_ = (-1, 1)) := ⟨fun h => by unfold stepS; rw [if_neg (by omega)]; simp only [h]⟩
      have HSS : Aside0 (∀ j, l.findIdx? (fun x => appliesS x text at_) = some j → stepS l text at_ = ((j : Int), (((l.getD j z41).f1.length : Nat) : Int))) := ⟨fun j h => by unfold stepS; rw [if_neg (by omega)]; simp only [h]⟩
      have hfb := find_begin (rd text at_) (fun y => appliesS (rd_T41 l y) text at_) (fun x => appliesS x text at_) l 0 (fun x hx h => starts_of x text at_ (HM1.out x hx).1 (by omega) (by omega) h) (fun j x hj => by
        show appliesS (rd_T41 l ((0 + j : Nat) : Int)) text at_ = _
        unfold rd_T41
        rw [Nat.zero_add, Int.toNat_natCast, List.getD_eq_getElem?_getD, hj]
        rfl)
      have HFB := Aside0.mk hfb
      have HBM := Aside0.mk (beginS_mem (rd text at_) l 0)
      have HLB : Aside0 ((beginS l 0 (rd text at_)).length < 1000000000) := ⟨by have := beginS_length (rd text at_) l 0; have := HL.out; omega⟩
      clear hfb
      have HBG := Aside0.mk (begin_calls w0 w bm mb A cA l n (rd text at_) g HG0.out HM.out HB0.out HMB.out HR.out HC.out HL.out (fun x hx => ⟨(HM1.out x hx).1, (HM1.out x hx).2.2.1⟩) HN.out (HWF.out _ hmem))
      have HRNG : Aside0 (0 ≤ at_ ∧ at_ < (text.length : Int)) := ⟨by omega⟩
      clear hmem hneg hge
      go_enter Try.func60, Try.ntmps60
      go_wp2
      go_step3
      go_wp2
      go_step3
      go_wp2_with (go_at_call 66; (with_reducible refine HBG.out.mono ?_); rintro e w1 ⟨A', cap, rfl, hcap, hC, hM', hbw, hkp⟩; have HCAP := Aside0.mk hcap; have HBC := Aside0.mk hC; have HM' := Aside0.mk hM'; have HBW := Aside0.mk hbw; have HKP := Aside0.mk hkp; clear hcap hC hM' hbw hkp)
      generalize rd text at_ = c at *
      generalize hbs : beginS l 0 c = bs at HBC HCAP HFB HBM HLB ⊢
      go_loopw [27] (fun i wr => ∃ k : Nat, i = .int .i64 k ∧ Aside0 (k ≤ bs.length) ∧ Aside0 (∀ y ∈ bs.take k, appliesS (rd_T41 l y) text at_ = false) ∧ Aside0 (Below w1.heap.size w1 wr)) (fun i _ => bs.length - (intOf i).toNat)
      case atStart => exact ⟨0, rfl, ⟨Nat.zero_le _⟩, ⟨fun y hy => by simp at hy⟩, ⟨Below.refl _ _⟩⟩
      case round =>
        obtain ⟨k, rfl, HK, HNO, HB⟩ := hrel
        by_cases hlt : k < bs.length
        · have hy : rd bs (k : Int) ∈ bs := by unfold rd; rw [Int.toNat_natCast, List.getD_eq_getElem?_getD, List.getElem?_eq_getElem hlt]; exact List.getElem_mem hlt
          have hyr := HBM.out _ hy
          obtain ⟨adb, eb, hb0⟩ := Kd.at_int (Kd.C_below HBC.out HB.out) (k : Int) (by omega) (by omega)
          cases eb
          rw [Int.toNat_natCast] at hb0
          have hkp2 : (0 ≤ (k : Int)) = True := eq_true (by omega)
          have hwk : wrap64 ((k : Int) + 1) = (k : Int) + 1 := by have := HLB.out; unfold wrap64; omega
          have hst : bs.take (k + 1) = bs.take k ++ [rd bs (k : Int)] := by
            unfold rd
            rw [Int.toNat_natCast, List.getD_eq_getElem?_getD, List.take_add_one, List.getElem?_eq_getElem hlt]
            rfl
          have hmb' := blk_below HM'.out.blk HB.out
          have hml : wr.cell? ⟨bm, 0, none⟩ = some (.slice A l.length cA) := (blk_cell hmb' 0).trans rfl
          have HHIT : Aside0 (appliesS (rd_T41 l (rd bs (k : Int))) text at_ = true → stepS l text at_ = (rd bs (k : Int), ((rd_T41 l (rd bs (k : Int))).f1.length : Int))) := ⟨fun h => by
            have h1 := find_hit (fun y => appliesS (rd_T41 l y) text at_) bs k hlt HNO.out h
            rw [HFB.out] at h1
            cases hj : l.findIdx? (fun x => appliesS x text at_) with
            | none => rw [hj] at h1; simp at h1
            | some j =>
              rw [hj] at h1
              simp only [Option.map_some, Option.some.injEq, Nat.zero_add] at h1
              rw [HSS.out j hj, ← h1]
              unfold rd_T41
              rw [Int.toNat_natCast]⟩
          have HMISS0 : Aside0 (appliesS (rd_T41 l (rd bs (k : Int))) text at_ = false → ∀ y ∈ bs.take (k + 1), appliesS (rd_T41 l y) text at_ = false) := ⟨fun h y hy => by
            rw [hst, List.mem_append, List.mem_singleton] at hy
            rcases hy with hy | rfl
            · exact HNO.out y hy
            · exact h⟩
          clear hst hy hmb'
          generalize rd bs (k : Int) = y at *
          have hRw := Kd.C_below HR.out (below_step HBW.out HB.out)
          obtain ⟨adr, B0, d0, B1, d1, B2, d2, B3, d3, er, x0, x1, x2, x3, y0, z0, y1, z1, y2, z2, y3, z3⟩ := at_T41 hRw y (by omega) (by omega)
          cases er
          have hmemx : rd_T41 l y ∈ l := by unfold rd_T41; rw [List.getD_eq_getElem?_getD, List.getElem?_eq_getElem (by omega : y.toNat < l.length)]; exact List.getElem_mem _
          obtain ⟨q1, q2, q3, q4, q5, q6, q7⟩ := HM1.out _ hmemx
          clear hRw hmemx y3 z3
          generalize rd_T41 l y = x at *
          have hyp : (0 ≤ y) = True := eq_true (by omega)
          have hyp2 : (y < (l.length : Int)) = True := eq_true (by omega)
          have HV1 := Aside0.mk (cov_ok x.f1 text at_ q3 (by have := HTL.out; omega) (by omega) (by have := HRNG.out; have := HTL.out; omega))
          have HV2 := Aside0.mk (cov_ok x.f2 text (at_ + (x.f1.length : Int)) q4 (by have := HTL.out; omega) (by omega) (by have := HRNG.out; have := HTL.out; omega))
          have HV3 := Aside0.mk (cov_ok x.f0 text (at_ - (x.f0.length : Int)) q2 (by have := HTL.out; omega) (by omega) (by have := HRNG.out; have := HTL.out; omega))
          have hwa : wrap64 (at_ + (x.f1.length : Int)) = at_ + (x.f1.length : Int) := by have := HRNG.out; have := HTL.out; unfold wrap64; omega
          have hwb : wrap64 (at_ - (x.f0.length : Int)) = at_ - (x.f0.length : Int) := by have := HRNG.out; have := HTL.out; unfold wrap64; omega
          have hap : appliesS x text at_ = (coversS x.f1 text at_ && (coversS x.f2 text (at_ + (x.f1.length : Int)) && coversS x.f0 text (at_ - (x.f0.length : Int)))) := rfl
          rw [hap] at HHIT HMISS0
          have L1 := Aside0.mk y1
          have L2 := Aside0.mk y2
          have L0 := Aside0.mk y0
          have Y1 := Aside0.mk z1
          have Y2 := Aside0.mk z2
          have Y0 := Aside0.mk z0
          have HTR := Aside0.mk (Kd.C_below HT0.out (below_step HBW.out HB.out))
          have HBQ := Aside0.mk (Below.refl wr.heap.size wr)
          have X0 : (wr.alloc (.cells #[.slice B0 x.f0.length d0, .slice B1 x.f1.length d1, .slice B2 x.f2.length d2, .slice B3 x.f3.length d3] 41)).cell? ⟨wr.heap.size, 0, none⟩ = some (.slice B0 x.f0.length d0) := (blk_cell (heap_alloc_new wr (.cells #[.slice B0 x.f0.length d0, .slice B1 x.f1.length d1, .slice B2 x.f2.length d2, .slice B3 x.f3.length d3] 41)) 0).trans rfl
          have X1 : (wr.alloc (.cells #[.slice B0 x.f0.length d0, .slice B1 x.f1.length d1, .slice B2 x.f2.length d2, .slice B3 x.f3.length d3] 41)).cell? ⟨wr.heap.size, 1, none⟩ = some (.slice B1 x.f1.length d1) := (blk_cell (heap_alloc_new wr (.cells #[.slice B0 x.f0.length d0, .slice B1 x.f1.length d1, .slice B2 x.f2.length d2, .slice B3 x.f3.length d3] 41)) 1).trans rfl
          have X2 : (wr.alloc (.cells #[.slice B0 x.f0.length d0, .slice B1 x.f1.length d1, .slice B2 x.f2.length d2, .slice B3 x.f3.length d3] 41)).cell? ⟨wr.heap.size, 2, none⟩ = some (.slice B2 x.f2.length d2) := (blk_cell (heap_alloc_new wr (.cells #[.slice B0 x.f0.length d0, .slice B1 x.f1.length d1, .slice B2 x.f2.length d2, .slice B3 x.f3.length d3] 41)) 2).trans rfl
          clear q1 q2 q3 q4 q5 q6 q7 hap z0 z1 z2 y0 y1 y2 hyr
          generalize coversS x.f1 text at_ = b1 at *
          generalize coversS x.f2 text (at_ + (x.f1.length : Int)) = b2 at *
          generalize coversS x.f0 text (at_ - (x.f0.length : Int)) = b3 at *
          cases b1 with
          | false =>
            have HMISS := Aside0.mk (HMISS0.out rfl)
            go_wp2_with (first | (go_at_call 67; (with_reducible refine (transduce_covers.calls (x.f1.length + 2) B1 d1 x.f1 (some ad) c1 text (at_) false _ ?sma L1.out ?smb HC1.out HV1.out).mono ?_); (case sma => exact Kd.C_below Y1.out (by repeat (first | (with_reducible first | exact HBQ.out | apply below_alloc | apply pw_below_drewN | apply below_drew1) | exact HBQ.out))); (case smb => exact Kd.C_below HTR.out (by repeat (first | (with_reducible first | exact HBQ.out | apply below_alloc | apply pw_below_drewN | apply below_drew1) | exact HBQ.out))); rintro e w3 ⟨rfl, hb⟩; have Z0 := pw_cell_below hb X0; have Z1 := pw_cell_below hb X1; have Z2 := pw_cell_below hb X2; clear X0 X1 X2; have X0 := Z0; have X1 := Z1; have X2 := Z2; clear Z0 Z1 Z2; have n0_ := Aside0.mk (below_step (by repeat (first | (with_reducible first | exact HBQ.out | apply below_alloc | apply pw_below_drewN | apply below_drew1) | exact HBQ.out)) hb); clear HBQ hb; have HBQ := n0_; clear n0_))
            go_roundw
            case rel => exact ⟨k + 1, by rw [hwk]; rfl, ⟨hlt⟩, HMISS, ⟨below_step HB.out HBQ.out⟩⟩
            case measure => rw [hwk]; simp only [intOf]; omega
          | true => cases b2 with
            | false =>
              have HMISS := Aside0.mk (HMISS0.out rfl)
              go_wp2_with (first | (go_at_call 67; (with_reducible refine (transduce_covers.calls (x.f1.length + 2) B1 d1 x.f1 (some ad) c1 text (at_) true _ ?sma L1.out ?smb HC1.out HV1.out).mono ?_); (case sma => exact Kd.C_below Y1.out (by repeat (first | (with_reducible first | exact HBQ.out | apply below_alloc | apply pw_below_drewN | apply below_drew1) | exact HBQ.out))); (case smb => exact Kd.C_below HTR.out (by repeat (first | (with_reducible first | exact HBQ.out | apply below_alloc | apply pw_below_drewN | apply below_drew1) | exact HBQ.out))); rintro e w3 ⟨rfl, hb⟩; have Z0 := pw_cell_below hb X0; have Z1 := pw_cell_below hb X1; have Z2 := pw_cell_below hb X2; clear X0 X1 X2; have X0 := Z0; have X1 := Z1; have X2 := Z2; clear Z0 Z1 Z2; have n0_ := Aside0.mk (below_step (by repeat (first | (with_reducible first | exact HBQ.out | apply below_alloc | apply pw_below_drewN | apply below_drew1) | exact HBQ.out)) hb); clear HBQ hb; have HBQ := n0_; clear n0_) | (go_at_call 67; (with_reducible refine (transduce_covers.calls (x.f2.length + 2) B2 d2 x.f2 (some ad) c1 text (at_ + (x.f1.length : Int)) false _ ?saa L2.out ?sab HC1.out HV2.out).mono ?_); (case saa => exact Kd.C_below Y2.out (by repeat (first | (with_reducible first | exact HBQ.out | apply below_alloc | apply pw_below_drewN | apply below_drew1) | exact HBQ.out))); (case sab => exact Kd.C_below HTR.out (by repeat (first | (with_reducible first | exact HBQ.out | apply below_alloc | apply pw_below_drewN | apply below_drew1) | exact HBQ.out))); rintro e w3 ⟨rfl, hb⟩; have Z0 := pw_cell_below hb X0; have Z1 := pw_cell_below hb X1; have Z2 := pw_cell_below hb X2; clear X0 X1 X2; have X0 := Z0; have X1 := Z1; have X2 := Z2; clear Z0 Z1 Z2; have n0_ := Aside0.mk (below_step (by repeat (first | (with_reducible first | exact HBQ.out | apply below_alloc | apply pw_below_drewN | apply below_drew1) | exact HBQ.out)) hb); clear HBQ hb; have HBQ := n0_; clear n0_))
              go_roundw
              case rel => exact ⟨k + 1, by rw [hwk]; rfl, ⟨hlt⟩, HMISS, ⟨below_step HB.out HBQ.out⟩⟩
              case measure => rw [hwk]; simp only [intOf]; omega
            | true => cases b3 with
              | false =>
                have HMISS := Aside0.mk (HMISS0.out rfl)
                go_wp2_with (first | (go_at_call 67; (with_reducible refine (transduce_covers.calls (x.f1.length + 2) B1 d1 x.f1 (some ad) c1 text (at_) true _ ?sma L1.out ?smb HC1.out HV1.out).mono ?_); (case sma => exact Kd.C_below Y1.out (by repeat (first | (with_reducible first | exact HBQ.out | apply below_alloc | apply pw_below_drewN | apply below_drew1) | exact HBQ.out))); (case smb => exact Kd.C_below HTR.out (by repeat (first | (with_reducible first | exact HBQ.out | apply below_alloc | apply pw_below_drewN | apply below_drew1) | exact HBQ.out))); rintro e w3 ⟨rfl, hb⟩; have Z0 := pw_cell_below hb X0; have Z1 := pw_cell_below hb X1; have Z2 := pw_cell_below hb X2; clear X0 X1 X2; have X0 := Z0; have X1 := Z1; have X2 := Z2; clear Z0 Z1 Z2; have n0_ := Aside0.mk (below_step (by repeat (first | (with_reducible first | exact HBQ.out | apply below_alloc | apply pw_below_drewN | apply below_drew1) | exact HBQ.out)) hb); clear HBQ hb; have HBQ := n0_; clear n0_) | (go_at_call 67; (with_reducible refine (transduce_covers.calls (x.f2.length + 2) B2 d2 x.f2 (some ad) c1 text (at_ + (x.f1.length : Int)) true _ ?saa L2.out ?sab HC1.out HV2.out).mono ?_); (case saa => exact Kd.C_below Y2.out (by repeat (first | (with_reducible first | exact HBQ.out | apply below_alloc | apply pw_below_drewN | apply below_drew1) | exact HBQ.out))); (case sab => exact Kd.C_below HTR.out (by repeat (first | (with_reducible first | exact HBQ.out | apply below_alloc | apply pw_below_drewN | apply below_drew1) | exact HBQ.out))); rintro e w3 ⟨rfl, hb⟩; have Z0 := pw_cell_below hb X0; have Z1 := pw_cell_below hb X1; have Z2 := pw_cell_below hb X2; clear X0 X1 X2; have X0 := Z0; have X1 := Z1; have X2 := Z2; clear Z0 Z1 Z2; have n0_ := Aside0.mk (below_step (by repeat (first | (with_reducible first | exact HBQ.out | apply below_alloc | apply pw_below_drewN | apply below_drew1) | exact HBQ.out)) hb); clear HBQ hb; have HBQ := n0_; clear n0_) | (go_at_call 67; (with_reducible refine (transduce_covers.calls (x.f0.length + 2) B0 d0 x.f0 (some ad) c1 text (at_ - (x.f0.length : Int)) false _ ?sba L0.out ?sbb HC1.out HV3.out).mono ?_); (case sba => exact Kd.C_below Y0.out (by repeat (first | (with_reducible first | exact HBQ.out | apply below_alloc | apply pw_below_drewN | apply below_drew1) | exact HBQ.out))); (case sbb => exact Kd.C_below HTR.out (by repeat (first | (with_reducible first | exact HBQ.out | apply below_alloc | apply pw_below_drewN | apply below_drew1) | exact HBQ.out))); rintro e w3 ⟨rfl, hb⟩; have Z0 := pw_cell_below hb X0; have Z1 := pw_cell_below hb X1; have Z2 := pw_cell_below hb X2; clear X0 X1 X2; have X0 := Z0; have X1 := Z1; have X2 := Z2; clear Z0 Z1 Z2; have n0_ := Aside0.mk (below_step (by repeat (first | (with_reducible first | exact HBQ.out | apply below_alloc | apply pw_below_drewN | apply below_drew1) | exact HBQ.out)) hb); clear HBQ hb; have HBQ := n0_; clear n0_))
                go_roundw
                case rel => exact ⟨k + 1, by rw [hwk]; rfl, ⟨hlt⟩, HMISS, ⟨below_step HB.out HBQ.out⟩⟩
                case measure => rw [hwk]; simp only [intOf]; omega
              | true =>
                have HS := Aside0.mk (HHIT.out rfl)
                go_wp2_with (first | (go_at_call 67; (with_reducible refine (transduce_covers.calls (x.f1.length + 2) B1 d1 x.f1 (some ad) c1 text (at_) true _ ?sma L1.out ?smb HC1.out HV1.out).mono ?_); (case sma => exact Kd.C_below Y1.out (by repeat (first | (with_reducible first | exact HBQ.out | apply below_alloc | apply pw_below_drewN | apply below_drew1) | exact HBQ.out))); (case smb => exact Kd.C_below HTR.out (by repeat (first | (with_reducible first | exact HBQ.out | apply below_alloc | apply pw_below_drewN | apply below_drew1) | exact HBQ.out))); rintro e w3 ⟨rfl, hb⟩; have Z0 := pw_cell_below hb X0; have Z1 := pw_cell_below hb X1; have Z2 := pw_cell_below hb X2; clear X0 X1 X2; have X0 := Z0; have X1 := Z1; have X2 := Z2; clear Z0 Z1 Z2; have n0_ := Aside0.mk (below_step (by repeat (first | (with_reducible first | exact HBQ.out | apply below_alloc | apply pw_below_drewN | apply below_drew1) | exact HBQ.out)) hb); clear HBQ hb; have HBQ := n0_; clear n0_) | (go_at_call 67; (with_reducible refine (transduce_covers.calls (x.f2.length + 2) B2 d2 x.f2 (some ad) c1 text (at_ + (x.f1.length : Int)) true _ ?saa L2.out ?sab HC1.out HV2.out).mono ?_); (case saa => exact Kd.C_below Y2.out (by repeat (first | (with_reducible first | exact HBQ.out | apply below_alloc | apply pw_below_drewN | apply below_drew1) | exact HBQ.out))); (case sab => exact Kd.C_below HTR.out (by repeat (first | (with_reducible first | exact HBQ.out | apply below_alloc | apply pw_below_drewN | apply below_drew1) | exact HBQ.out))); rintro e w3 ⟨rfl, hb⟩; have Z0 := pw_cell_below hb X0; have Z1 := pw_cell_below hb X1; have Z2 := pw_cell_below hb X2; clear X0 X1 X2; have X0 := Z0; have X1 := Z1; have X2 := Z2; clear Z0 Z1 Z2; have n0_ := Aside0.mk (below_step (by repeat (first | (with_reducible first | exact HBQ.out | apply below_alloc | apply pw_below_drewN | apply below_drew1) | exact HBQ.out)) hb); clear HBQ hb; have HBQ := n0_; clear n0_) | (go_at_call 67; (with_reducible refine (transduce_covers.calls (x.f0.length + 2) B0 d0 x.f0 (some ad) c1 text (at_ - (x.f0.length : Int)) true _ ?sba L0.out ?sbb HC1.out HV3.out).mono ?_); (case sba => exact Kd.C_below Y0.out (by repeat (first | (with_reducible first | exact HBQ.out | apply below_alloc | apply pw_below_drewN | apply below_drew1) | exact HBQ.out))); (case sbb => exact Kd.C_below HTR.out (by repeat (first | (with_reducible first | exact HBQ.out | apply below_alloc | apply pw_below_drewN | apply below_drew1) | exact HBQ.out))); rintro e w3 ⟨rfl, hb⟩; have Z0 := pw_cell_below hb X0; have Z1 := pw_cell_below hb X1; have Z2 := pw_cell_below hb X2; clear X0 X1 X2; have X0 := Z0; have X1 := Z1; have X2 := Z2; clear Z0 Z1 Z2; have n0_ := Aside0.mk (below_step (by repeat (first | (with_reducible first | exact HBQ.out | apply below_alloc | apply pw_below_drewN | apply below_drew1) | exact HBQ.out)) hb); clear HBQ hb; have HBQ := n0_; clear n0_))
                first | rw [Exit.noGoto_ret] | skip
                go_ret2
                exact ⟨by rw [HS.out]; rfl, HM'.out.below (below_step HB.out HBQ.out), below_step (below_step HBW.out HB.out) HBQ.out, fun k o h hk => blk_below (blk_below (HKP.out k o h hk) HB.out) HBQ.out⟩
        · obtain rfl : k = bs.length := by have := HK.out; omega
          rw [List.take_length] at HNO
          have HS : Aside0 (stepS l text at_ = (-1, 1)) := ⟨HSN.out (by
            have h1 : bs.find? (fun y => appliesS (rd_T41 l y) text at_) = none := List.find?_eq_none.2 fun y hy => by rw [HNO.out y hy]; decide
            rw [HFB.out] at h1
            simpa using h1)⟩
          go_wp2
          first | rw [Exit.noGoto_ret] | skip
          go_ret2
          exact ⟨by rw [HS.out]; rfl, HM'.out.below HB.out, below_step HBW.out HB.out, fun k o h hk => blk_below (HKP.out k o h hk) HB.out⟩
end Go.Proofs.Ytcpicopaobhlcaa.Q
end
section
namespace Go.Proofs.Ytcpicopaobhlcaa.Q
open Go.RowKit Go.Proofs.YtcpicopaobhlcaaW.PrintWords Go.Proofs.YtcpicopaobhlcaaW.PrintLast Go.Proofs.YtcpicopaobhlcaaW.PrintMore
set_option linter.unusedVariables false
def plFewS (l : List St) : Prop := l.length ≤ 20 ∧ ∀ s ∈ l, s.f0.length ≤ 12
def plFewU (x : Ru) : Prop := plFewS x.f0 ∧ plFewS x.f1 ∧ plFewS x.f2 ∧ x.f3.length ≤ 20
def plFewL (l : List Ru) : Prop := l.length ≤ 220 ∧ ∀ x ∈ l, plFewU x
def plBad (s : St) : Bool := !validS s || decide (s.f0.length = 0)
end Go.Proofs.Ytcpicopaobhlcaa.Q
end
section
namespace Go.Proofs.Ytcpicopaobhlcaa.Q
open Go.RowKit Go.Proofs.YtcpicopaobhlcaaW.PrintWords Go.Proofs.YtcpicopaobhlcaaW.PrintLast Go.Proofs.YtcpicopaobhlcaaW.PrintMore
attribute [local go_sem] max2_int min2_int max_two min_two max_three min_three max_four min_four   -- for this text's walks alone
set_option linter.unusedVariables false
set_option linter.unusedSimpArgs false
mutual
def unicodetextref51_inside.j0 : Nat → List (S45) → List Int → Int → Bool → Option (Bool)
  | 0, _, _, _, _ => none
  | k + 1, x0, x1, x2, x18 => if x18 = true then (some false) else (unicodetextref51_inside.l0 k x0 x1 x2 0)
def unicodetextref51_inside.l0 : Nat → List (S45) → List Int → Int → Int → Option (Bool)
  | 0, _, _, _, _ => none
  | k + 1, x0, x1, x2, x7 => if x7 < (x0.length : Int) then (if 0 ≤ x7 then (if 0 ≤ (wrap64 (x2 + x7)) then (if (wrap64 (x2 + x7)) < (x1.length : Int) then ((unicodetextref02_Has.f k ((rd_T45 x0 x7).f0) (rd x1 (wrap64 (x2 + x7)))).bind fun t205 => (if t205 = true then (unicodetextref51_inside.l0 k x0 x1 x2 (wrap64 (x7 + 1))) else (some false))) else (none)) else (none)) else (none)) else (some true)
end
def unicodetextref51_inside.f (k : Nat) (l0 : List (S45)) (l1 : List Int) (a2 : Int) : Option (Bool) := if a2 < 0 then (unicodetextref51_inside.j0 k l0 l1 a2 true) else (unicodetextref51_inside.j0 k l0 l1 a2 (decide ((wrap64 (a2 + (l0.length : Int))) > (l1.length : Int))))
def unicodetextref51_inside.T6 : Bool × List (List Nat × List Nat) := (true, [([], []), ([], []), ([0, 1], [0, 1]), ([2], [2]), ([], []), ([], []), ([], []), ([5, 6], [5, 6]), ([4, 7], [4, 7]), ([8], [8]), ([3, 9], [3, 9]), ([10], [10])])
def unicodetextref51_inside.B6 : List Nat := [0, 0, 3, 7, 0, 0, 0, 96, 240, 496, 1023, 2047]
end Go.Proofs.Ytcpicopaobhlcaa.Q
end
section
namespace Go.Proofs.Ytcpicopaobhlcaa.Q
open Go.RowKit Go.Proofs.YtcpicopaobhlcaaW.PrintWords Go.Proofs.YtcpicopaobhlcaaW.PrintLast Go.Proofs.YtcpicopaobhlcaaW.PrintMore
attribute [local go_sem] max2_int min2_int max_two min_two max_three min_three max_four min_four   -- for this text's walks alone
set_option linter.unusedVariables false
set_option linter.unusedSimpArgs false
def unicodetextref51_applies.f (k : Nat) (l0_0 : List (S45)) (l0_1 : List (S45)) (l0_2 : List (S45)) (l0_3 : List (S59)) (l1 : List Int) (a2 : Int) : Option (Bool) := (unicodetextref51_inside.f k l0_1 l1 a2).bind fun t207 => (if t207 = true then ((unicodetextref51_inside.f k l0_2 l1 (wrap64 (a2 + (l0_1.length : Int)))).bind fun t208 => (if t208 = true then ((unicodetextref51_inside.f k l0_0 l1 (wrap64 (a2 - (l0_0.length : Int)))).bind fun t209 => (some t209)) else (some false))) else (some false))
mutual
def unicodetextref51_step.j0 : Nat → List (S41) → List Int → Int → Bool → Option (Int × Int)
  | 0, _, _, _, _ => none
  | k + 1, x0, x1, x2, x16 => if x16 = true then (some ((-1), 0)) else (unicodetextref51_step.l0 k x0 x1 x2 0)
def unicodetextref51_step.l0 : Nat → List (S41) → List Int → Int → Int → Option (Int × Int)
  | 0, _, _, _, _ => none
  | k + 1, x0, x1, x2, x8 => if x8 < (x0.length : Int) then (if 0 ≤ x8 then ((unicodetextref51_applies.f k ((rd_T41 x0 x8).f0) ((rd_T41 x0 x8).f1) ((rd_T41 x0 x8).f2) ((rd_T41 x0 x8).f3) x1 x2).bind fun t211 => (if t211 = true then (some (x8, (((rd_T41 x0 x8).f1).length : Int))) else (unicodetextref51_step.l0 k x0 x1 x2 (wrap64 (x8 + 1))))) else (none)) else (some ((-1), 1))
end
def unicodetextref51_step.f (k : Nat) (l0 : List (S41)) (l1 : List Int) (a2 : Int) : Option (Int × Int) := if a2 < 0 then (unicodetextref51_step.j0 k l0 l1 a2 true) else (unicodetextref51_step.j0 k l0 l1 a2 (decide (a2 ≥ (l1.length : Int))))
def unicodetextref51_Step.f (k : Nat) (l0 : List (S41)) (l1 : List Int) (a2 : Int) : Option (Int × Int) := (unicodetextref51_Data.f k l0).bind fun t213 => ((unicodetextref51_step.f k t213 l1 a2).bind fun bt216 => (some (bt216.1, bt216.2)))
end Go.Proofs.Ytcpicopaobhlcaa.Q
end
section
namespace Go.Proofs.Ytcpicopaobhlcaa.Q
open Go.RowKit Go.Proofs.YtcpicopaobhlcaaW.PrintWords Go.Proofs.YtcpicopaobhlcaaW.PrintLast Go.Proofs.YtcpicopaobhlcaaW.PrintMore
set_option linter.unusedVariables false
theorem plOkSets {l : List St} (h : plFewS l) : l.all okSet = true := List.all_eq_true.2 fun s hs => decide_eq_true (h.2 s hs)
theorem plOkRules {l : List Ru} (h : plFewL l) : okRules l = true := by
  unfold okRules
  rw [Bool.and_eq_true, decide_eq_true_eq, List.all_eq_true]
  refine ⟨by have := h.1; omega, fun x hx => ?_⟩
  obtain ⟨h0, h1, h2, h3⟩ := h.2 x hx
  unfold okRule
  rw [plOkSets h0, plOkSets h1, plOkSets h2, decide_eq_true (by have := h0.1; omega), decide_eq_true (by have := h1.1; omega), decide_eq_true (by have := h2.1; omega), decide_eq_true (by omega)]
  rfl
theorem plCmp_go : ∀ (xs ys px py : List Int) (k : Nat), px.length = py.length → (px ++ xs).length < 1000000000 → 2 * xs.length + 2 ≤ k →
    ∃ c, unicodetextref01_Compare.l0 k (px ++ xs) (py ++ ys) (px.length : Int) = some c ∧ (c = 0 ↔ xs = ys)
  | [], [], px, py, k, h1, h2, h3 => by
    obtain ⟨k, rfl⟩ : ∃ j, k = j + 2 := ⟨k - 2, by omega⟩
    rw [unicodetextref01_Compare.l0, if_neg (by simp), unicodetextref01_Compare.j1, if_neg (by decide), if_neg (by simp [h1]), if_neg (by simp [h1])]
    exact ⟨0, rfl, by simp⟩
  | [], y :: ys, px, py, k, h1, h2, h3 => by
    obtain ⟨k, rfl⟩ : ∃ j, k = j + 2 := ⟨k - 2, by omega⟩
    rw [unicodetextref01_Compare.l0, if_neg (by simp), unicodetextref01_Compare.j1, if_neg (by decide), if_pos (by simp [h1]; omega)]
    exact ⟨-1, rfl, by simp⟩
  | x :: xs, [], px, py, k, h1, h2, h3 => by
    obtain ⟨k, rfl⟩ : ∃ j, k = j + 2 := ⟨k - 2, by omega⟩
    rw [unicodetextref01_Compare.l0, if_pos (by simp; omega), decide_eq_false (by simp [h1]), unicodetextref01_Compare.j1, if_neg (by decide), if_neg (by simp [h1]; omega), if_pos (by simp [h1]; omega)]
    exact ⟨1, rfl, by simp⟩
  | x :: xs, y :: ys, px, py, k, h1, h2, h3 => by
    obtain ⟨k, rfl⟩ : ∃ j, k = j + 2 := ⟨k - 2, by omega⟩
    have hp : px.length < 1000000000 := by simp at h2; omega
    obtain ⟨c, ih, hc⟩ := plCmp_go xs ys (px ++ [x]) (py ++ [y]) k (by simp [h1]) (by simpa using h2) (by simp at h3; omega)
    have ex : (px ++ [x]) ++ xs = px ++ x :: xs := by simp
    have ey : (py ++ [y]) ++ ys = py ++ y :: ys := by simp
    have el : ((px ++ [x]).length : Int) = ((px.length + 1 : Nat) : Int) := by simp
    rw [ex, ey, el] at ih
    have e1 : rd (py ++ y :: ys) (px.length : Int) = y := by rw [h1]; exact rd_mid _ _ _
    rw [unicodetextref01_Compare.l0, if_pos (by simp; omega), decide_eq_true (by simp [h1]; omega), unicodetextref01_Compare.j1, if_pos rfl, if_pos (by omega), if_pos (by simp; omega), if_pos (by simp [h1]; omega), rd_mid, e1, wrap_suc hp, ih]
    by_cases a : x < y
    · rw [if_pos a]
      exact ⟨-1, rfl, ⟨fun h => absurd h (by decide), fun h => by injection h with h; omega⟩⟩
    · rw [if_neg a]
      by_cases b : x > y
      · rw [if_pos b]
        exact ⟨1, rfl, ⟨fun h => absurd h (by decide), fun h => by injection h with h; omega⟩⟩
      · rw [if_neg b]
        obtain rfl : x = y := by omega
        exact ⟨c, rfl, by rw [hc]; simp⟩
theorem plEqual_ok (a b : List Int) (k : Nat) (h : a.length < 1000000000) (hk : 2 * a.length + 2 ≤ k) : unicodetextref01_Equal.f k a b = some (decide (a = b)) := by
  obtain ⟨c, e, hc⟩ := plCmp_go a b [] [] k rfl (by simpa using h) hk
  unfold unicodetextref01_Equal.f unicodetextref01_Compare.f
  refine (congrArg (fun o => Option.bind o _) e).trans ?_
  show some (c == 0) = _
  congr 1
  rw [Bool.eq_iff_iff]
  simp [hc]
end Go.Proofs.Ytcpicopaobhlcaa.Q
end
section
namespace Go.Proofs.Ytcpicopaobhlcaa.Q
open Go.RowKit Go.Proofs.YtcpicopaobhlcaaW.PrintWords Go.Proofs.YtcpicopaobhlcaaW.PrintLast Go.Proofs.YtcpicopaobhlcaaW.PrintMore
attribute [local go_sem] max2_int min2_int max_two min_two max_three min_three max_four min_four   -- for this text's walks alone
set_option linter.unusedVariables false
set_option linter.unusedSimpArgs false
def unicodetextref51_Reach.l0 : Nat → List (S41) → Int → Int → Int → Option (Int × Int)
  | 0, _, _, _, _ => none
  | k + 1, x4, x5, x6, x7 => if x7 < (x4.length : Int) then (if 0 ≤ x7 then (unicodetextref51_Reach.l0 k x4 (mx x5 (((rd_T41 x4 x7).f0).length : Int)) (mx x6 (wrap64 ((((rd_T41 x4 x7).f1).length : Int) + (((rd_T41 x4 x7).f2).length : Int)))) (wrap64 (x7 + 1))) else (none)) else (some (x5, x6))
def unicodetextref51_Reach.f (k : Nat) (l0 : List (S41)) : Option (Int × Int) := (unicodetextref51_Data.f k l0).bind fun t196 => (unicodetextref51_Reach.l0 k t196 0 0 0)
def unicodetextlaw52_few.l0 : Nat → List (List Int) → Int → Option (Bool)
  | 0, _, _ => none
  | k + 1, x0, x3 => if x3 < (x0.length : Int) then (if 0 ≤ x3 then (if ((rd_L10 x0 x3).length : Int) > 30 then (some false) else (unicodetextlaw52_few.l0 k x0 (wrap64 (x3 + 1)))) else (none)) else (some true)
def unicodetextlaw52_few.f (k : Nat) (l0 : List (List Int)) : Option (Bool) := if (l0.length : Int) > 8 then (some false) else (unicodetextlaw52_few.l0 k l0 0)
end Go.Proofs.Ytcpicopaobhlcaa.Q
end
section
namespace Go.Proofs.Ytcpicopaobhlcaa.Q
open Go.RowKit Go.Maps Go.Proofs.YtcpicopaobhlcaaW.PrintWords Go.Proofs.YtcpicopaobhlcaaW.PrintLast Go.Proofs.YtcpicopaobhlcaaW.PrintMore
set_option linter.unusedVariables false
def okText (l : List Int) : Bool := decide (l.length < 100000000) && l.all fun c => (Lit.int .i64 c).wf
theorem firstErr_ok : ∀ l : List Ru, firstErr l = 0 → ∀ x ∈ l, oneS x = 0
  | [], _, x, h => by cases h
  | y :: l, h, x, hx => by
    rw [firstErr] at h
    split at h
    · rename_i h0
      rcases List.mem_cons.1 hx with rfl | hx
      · exact h0
      · exact firstErr_ok l h x hx
    · rename_i h0; exact absurd h h0
theorem oneS_ok (x : Ru) (h : oneS x = 0) : 1 ≤ x.f1.length ∧ x.f1.length ≤ 8 ∧ x.f0.length ≤ 8 ∧ x.f2.length ≤ 8 ∧ x.f3.length ≤ 16 := by
  unfold oneS at h
  split at h
  · cases h
  · omega
theorem data_ok (l : List Ru) (h : okRules l = true) : (dataS l).length < 100000000 ∧ ∀ x ∈ dataS l, 1 ≤ x.f1.length ∧ (∀ s ∈ x.f0, s.f0.length < 1000) ∧ (∀ s ∈ x.f1, s.f0.length < 1000) ∧ (∀ s ∈ x.f2, s.f0.length < 1000) ∧ x.f0.length < 100000000 ∧ x.f1.length < 100000000 ∧ x.f2.length < 100000000 := by
  unfold okRules at h
  rw [Bool.and_eq_true, decide_eq_true_eq, List.all_eq_true] at h
  unfold dataS
  split
  · rename_i hc
    refine ⟨h.1, fun x hx => ?_⟩
    have h1 : oneS x = 0 := by
      unfold checkS at hc
      split at hc
      · cases hc
      · exact firstErr_ok l hc x hx
    have h2 := oneS_ok x h1
    have h3 := h.2 x hx
    simp only [okRule, Bool.and_eq_true, List.all_eq_true, okSet, decide_eq_true_eq] at h3
    refine ⟨h2.1, fun s hs => ?_, fun s hs => ?_, fun s hs => ?_, by omega, by omega, by omega⟩
    · have := h3.2.1 s hs; omega
    · have := h3.2.2.1 s hs; omega
    · have := h3.2.2.2 s hs; omega
  · exact ⟨by simp, fun x hx => by cases hx⟩
theorem oneS_pieces (x : Ru) (h : oneS x = 0) : ∀ p ∈ x.f3, p.f1 ≤ (x.f1.length : Int) := by
  unfold oneS at h
  split at h
  · cases h
  · split at h
    · cases h
    · split at h
      · cases h
      · rename_i h3
        intro p hp
        have h4 : pieceBad x.f1.length p = false := by
          cases hb : pieceBad x.f1.length p with
          | false => rfl
          | true => exact absurd (List.any_eq_true.2 ⟨p, hp, hb⟩) h3
        unfold pieceBad at h4
        simp only [Bool.not_eq_false', Bool.or_eq_true, Bool.and_eq_true, decide_eq_true_eq] at h4
        omega
theorem data_one (l : List Ru) : ∀ x ∈ dataS l, oneS x = 0 := by
  unfold dataS
  split
  · rename_i hc
    intro x hx
    unfold checkS at hc
    split at hc
    · cases hc
    · exact firstErr_ok l hc x hx
  · intro x hx; cases hx
def transduce_Step.f (l0 : List Ru) (l1 : List Int) (a2 : Int) : Option (Int × Int) := if okRules l0 = true ∧ okText l1 = true then some (stepS (dataS l0) l1 a2) else none
def transduce_Reach.f (l0 : List Ru) : Option (Int × Int) := if okRules l0 = true then some (reachS (dataS l0)) else none
set_option maxHeartbeats 4000000 in
set_option maxRecDepth 100000 in
theorem transduce_Step.calls (A0 : Option Addr) (c0 : Nat) (l0 : List (S41)) (A1 : Option Addr) (c1 : Nat) (l1 : List Int) (a2 : Int) (r1 : Int) (r2 : Int) (w : World) (hr0 : Kd.C k41 w A0 l0.length l0) (hc0 : l0.length ≤ c0) (hr1 : Kd.C (Kd.int .i64) w A1 l1.length l1) (hc1 : l1.length ≤ c1) (h : transduce_Step.f l0 l1 a2 = some (r1, r2)) :
    Calls Try.prog 55 #[.slice A0 l0.length c0, .slice A1 l1.length c1, .int .i64 a2] w fun e w' => e = .returned (.tuple #[.int .i64 r1, .int .i64 r2]) ∧ Below w.heap.size w w' := by
  have hn : (okRules l0 = true ∧ okText l1 = true) ∧ stepS (dataS l0) l1 a2 = (r1, r2) := by
    unfold transduce_Step.f at h
    split at h
    · rename_i hl; exact ⟨hl, Option.some.inj h⟩
    · cases h
  obtain ⟨⟨hok, htx⟩, hres⟩ := hn
  unfold okText at htx
  rw [Bool.and_eq_true, decide_eq_true_eq, List.all_eq_true] at htx
  have HOK := Aside0.mk hok
  have HTX := Aside0.mk htx
  have HDO := Aside0.mk (data_ok l0 hok)
  have HRES := Aside0.mk hres
  have HR := Aside0.mk hr0
  have HC := Aside0.mk hc0
  have HT := Aside0.mk hr1
  have HC1 := Aside0.mk hc1
  clear hok htx hres hr0 hc0 hr1 hc1 h
  go_enter Try.func55, Try.ntmps55
  go_wp2_with (first | (go_at_call 42; (with_reducible refine (open_calls A0 c0 l0 _ HOK.out HR.out HC.out).mono ?_); rintro e w1 ⟨bm, mb, A, cA, rfl, hM, hCR, hcA, hmb, hbm, hne, hb⟩; have HM := Aside0.mk hM; have HCR := Aside0.mk hCR; have HCA := Aside0.mk hcA; have HMB := Aside0.mk hmb; have HB := Aside0.mk hb; clear hM hCR hcA hmb hbm hne hb) | (go_at_call 60; (with_reducible refine (step_calls w w1 bm mb A cA (dataS l0) 0 A1 c1 l1 a2 none (fun _ h => by cases h) (HM.out none) HB.out HMB.out HCR.out HCA.out HDO.out.1 HDO.out.2 (by decide) HT.out HC1.out HTX.out.1 HTX.out.2).mono ?_); rintro e w2 ⟨rfl, hM2, hb2, hk2⟩; have HB2 := Aside0.mk hb2; clear hM2 hb2 hk2))
  go_ret2
  exact ⟨by rw [HRES.out]; rfl, HB2.out⟩
attribute [local go_sem] max2_int max_two
set_option maxHeartbeats 4000000 in
set_option maxRecDepth 100000 in
theorem transduce_Reach.calls (A0 : Option Addr) (c0 : Nat) (l0 : List (S41)) (r1 : Int) (r2 : Int) (w : World) (hr0 : Kd.C k41 w A0 l0.length l0) (hc0 : l0.length ≤ c0) (h : transduce_Reach.f l0 = some (r1, r2)) :
    Calls Try.prog 27 #[.slice A0 l0.length c0] w fun e w' => e = .returned (.tuple #[.int .i64 r1, .int .i64 r2]) ∧ Below w.heap.size w w' := by
  have hn : okRules l0 = true ∧ reachS (dataS l0) = (r1, r2) := by
    unfold transduce_Reach.f at h
    split at h
    · rename_i hl; exact ⟨hl, Option.some.inj h⟩
    · cases h
  have HOK := Aside0.mk hn.1
  have HRES := Aside0.mk hn.2
  have HDO := Aside0.mk (data_ok l0 hn.1)
  have HR := Aside0.mk hr0
  have HC := Aside0.mk hc0
  clear hn hr0 hc0 h
  go_enter Try.func27, Try.ntmps27
  go_upto_region 2 with (fail)
  generalize hl : dataS l0 = l at HRES HDO
  have HLL := Aside0.mk hl
  clear hl
  go_wp2_with (go_at_call 42; (with_reducible refine (open_calls A0 c0 l0 _ HOK.out HR.out HC.out).mono ?_); rintro e w1 ⟨bm, mb, A, cA, rfl, hM, hCR, hcA, hmb, hbm, hne, hb⟩; rw [HLL.out] at hM hCR hcA; have hcl : w1.cell? ⟨bm, 0, none⟩ = some (.slice A l.length cA) := (blk_cell (hM none).blk 0).trans rfl; have HCR := Aside0.mk hCR; have HB := Aside0.mk hb; clear hM hCR hcA hmb hbm hne hb)
  go_loopw [4, 5, 14] (fun bv av i wr => ∃ k : Nat, bv = .int .i64 (reachS (l.take k)).1 ∧ av = .int .i64 (reachS (l.take k)).2 ∧ i = .int .i64 k ∧ Aside0 (k ≤ l.length) ∧ Aside0 (Below w.heap.size w wr)) (fun _ _ i _ => l.length - (intOf i).toNat)
  case atStart => exact ⟨0, rfl, rfl, rfl, ⟨Nat.zero_le _⟩, HB⟩
  case round =>
    clear HB
    obtain ⟨k, rfl, rfl, rfl, HK, HB⟩ := hrel
    by_cases hlt : k < l.length
    · have hRw := Kd.C_below HCR.out HB.out
      obtain ⟨ad, B0, d0, B1, d1, B2, d2, B3, d3, e, x0, x1, x2, x3, y0, z0, y1, z1, y2, z2, y3, z3⟩ := at_T41 hRw (k : Int) (by omega) (by omega)
      cases e
      rw [Int.toNat_natCast] at x0 x1 x2 x3
      have hst : l.take (k + 1) = l.take k ++ [rd_T41 l (k : Int)] := by
        unfold rd_T41
        rw [Int.toNat_natCast, List.getD_eq_getElem?_getD, List.take_add_one, List.getElem?_eq_getElem hlt]
        rfl
      have hmem : rd_T41 l (k : Int) ∈ l := by unfold rd_T41; rw [Int.toNat_natCast, List.getD_eq_getElem?_getD, List.getElem?_eq_getElem hlt]; exact List.getElem_mem hlt
      obtain ⟨q1, q2, q3, q4, q5, q6, q7⟩ := HDO.out.2 _ hmem
      clear hRw y0 z0 y1 z1 y2 z2 y3 z3 hmem q1 q2 q3 q4
      have hrs : reachS (l.take (k + 1)) = (max (reachS (l.take k)).1 ((rd_T41 l (k : Int)).f0.length : Int), max (reachS (l.take k)).2 (((rd_T41 l (k : Int)).f1.length : Int) + (rd_T41 l (k : Int)).f2.length)) := by
        rw [hst]; unfold reachS; rw [List.foldl_append, List.foldl_append]; rfl
      have HRS := Aside0.mk hrs
      clear hst hrs
      generalize rd_T41 l (k : Int) = x at *
      generalize (reachS (l.take k)).1 = m1 at *
      generalize (reachS (l.take k)).2 = m2 at *
      have hp : (0 ≤ (k : Int)) = True := eq_true (by omega)
      have hw : wrap64 ((k : Int) + 1) = (k : Int) + 1 := by have := HDO.out.1; unfold wrap64; omega
      have hw2 : wrap64 ((x.f1.length : Int) + (x.f2.length : Int)) = (x.f1.length : Int) + (x.f2.length : Int) := by unfold wrap64; omega
      have hw3 : IntKind.i64.wrap ((x.f1.length : Int) + (x.f2.length : Int)) = (x.f1.length : Int) + (x.f2.length : Int) := by rw [IntWalk.i64_in _ (by omega)]
      have X0 : (wr.alloc (.cells #[.slice B0 x.f0.length d0, .slice B1 x.f1.length d1, .slice B2 x.f2.length d2, .slice B3 x.f3.length d3] 41)).cell? ⟨wr.heap.size, 0, none⟩ = some (.slice B0 x.f0.length d0) := (blk_cell (heap_alloc_new wr (.cells #[.slice B0 x.f0.length d0, .slice B1 x.f1.length d1, .slice B2 x.f2.length d2, .slice B3 x.f3.length d3] 41)) 0).trans rfl
      have X1 : (wr.alloc (.cells #[.slice B0 x.f0.length d0, .slice B1 x.f1.length d1, .slice B2 x.f2.length d2, .slice B3 x.f3.length d3] 41)).cell? ⟨wr.heap.size, 1, none⟩ = some (.slice B1 x.f1.length d1) := (blk_cell (heap_alloc_new wr (.cells #[.slice B0 x.f0.length d0, .slice B1 x.f1.length d1, .slice B2 x.f2.length d2, .slice B3 x.f3.length d3] 41)) 1).trans rfl
      have X2 : (wr.alloc (.cells #[.slice B0 x.f0.length d0, .slice B1 x.f1.length d1, .slice B2 x.f2.length d2, .slice B3 x.f3.length d3] 41)).cell? ⟨wr.heap.size, 2, none⟩ = some (.slice B2 x.f2.length d2) := (blk_cell (heap_alloc_new wr (.cells #[.slice B0 x.f0.length d0, .slice B1 x.f1.length d1, .slice B2 x.f2.length d2, .slice B3 x.f3.length d3] 41)) 2).trans rfl
      clear q5 q6 q7
      go_wp2
      go_quiet (fail)
      go_wp2
      go_roundw
      case rel => exact ⟨k + 1, by rw [HRS.out]; exact congrArg (Value.int .i64) (by split <;> omega), by rw [HRS.out]; exact congrArg (Value.int .i64) (by split <;> omega), by rw [hw]; rfl, ⟨hlt⟩, ⟨pw_below_drewN (below_alloc HB.out _) _⟩⟩
      case measure => rw [hw]; simp only [intOf]; omega
    · obtain rfl : k = l.length := by have := HK.out; omega
      rw [List.take_length, HRES.out]
      go_wp2
      go_ret2
      exact ⟨rfl, HB.out⟩
end Go.Proofs.Ytcpicopaobhlcaa.Q
end
section
namespace Go.Proofs.Ytcpicopaobhlcaa.Q
open Go.RowKit Go.Proofs.YtcpicopaobhlcaaW.PrintWords Go.Proofs.YtcpicopaobhlcaaW.PrintLast Go.Proofs.YtcpicopaobhlcaaW.PrintMore
set_option linter.unusedVariables false
theorem plReachT (l : List Ru) (h : plFewL l) : transduce_Reach.f l = some (reachS (dataS l)) := by
  unfold transduce_Reach.f
  rw [if_pos (plOkRules h)]
theorem plInside_take : ∀ (l : List St) (t : List Int) (n : Nat), l.length ≤ n → insideS l t = insideS l (t.take n)
  | [], t, n, h => rfl
  | s :: l, [], n, h => by rw [List.take_nil]
  | s :: l, c :: t, 0, h => by simp at h
  | s :: l, c :: t, n + 1, h => by
    rw [List.take_succ_cons, insideS, insideS, plInside_take l t n (by simpa using h)]
theorem plCovers_win (l : List St) (text : List Int) (lo hi : Nat) (i : Int) (h : hi ≤ text.length) (h0 : lo ≤ hi) (h1 : (0 ≤ i ↔ (lo : Int) ≤ i)) (h2 : (i + l.length ≤ (text.length : Int) ↔ i + l.length ≤ (hi : Int))) :
    coversS l ((text.take hi).drop lo) (i - lo) = coversS l text i := by
  have hlen : ((text.take hi).drop lo).length = hi - lo := by rw [List.length_drop, List.length_take]; omega
  unfold coversS
  rw [hlen]
  by_cases ha : 0 ≤ i
  · have ha' := h1.1 ha
    rw [decide_eq_true ha, decide_eq_true (by omega : 0 ≤ i - (lo : Int))]
    by_cases hb : i + l.length ≤ (text.length : Int)
    · have hb' := h2.1 hb
      rw [decide_eq_true hb, decide_eq_true (by omega : i - (lo : Int) + l.length ≤ ((hi - lo : Nat) : Int))]
      simp only [Bool.true_and]
      obtain ⟨a, rfl⟩ : ∃ a : Nat, i = (a : Int) := ⟨i.toNat, by omega⟩
      rw [show (a : Int) - (lo : Int) = ((a - lo : Nat) : Int) by omega, Int.toNat_natCast, Int.toNat_natCast, List.drop_drop, show lo + (a - lo) = a by omega]
      rw [plInside_take l (text.drop a) l.length (Nat.le_refl _), plInside_take l ((text.take hi).drop a) l.length (Nat.le_refl _)]
      congr 1
      rw [List.drop_take, List.take_take, Nat.min_eq_left (by omega)]
    · rw [decide_eq_false hb, decide_eq_false (by omega : ¬ i - (lo : Int) + l.length ≤ ((hi - lo : Nat) : Int))]
      simp
  · rw [decide_eq_false ha, decide_eq_false (by omega : ¬ 0 ≤ i - (lo : Int))]
    simp
theorem plFindIdx_congr {p q : Ru → Bool} : ∀ (l : List Ru), (∀ x ∈ l, p x = q x) → l.findIdx? p = l.findIdx? q
  | [], h => rfl
  | x :: l, h => by
    rw [List.findIdx?_cons, List.findIdx?_cons, h x List.mem_cons_self, plFindIdx_congr l (fun y hy => h y (List.mem_cons_of_mem _ hy))]
theorem plFold_ge (f : Ru → Int) : ∀ (l : List Ru) (a : Int), a ≤ l.foldl (fun m x => max m (f x)) a ∧ ∀ x ∈ l, f x ≤ l.foldl (fun m x => max m (f x)) a
  | [], a => ⟨Int.le_refl _, fun x hx => by cases hx⟩
  | y :: l, a => by
    obtain ⟨h1, h2⟩ := plFold_ge f l (max a (f y))
    rw [List.foldl_cons]
    refine ⟨by omega, fun x hx => ?_⟩
    rcases List.mem_cons.1 hx with rfl | hx
    · omega
    · exact h2 x hx
theorem plFold_le (f : Ru → Int) (B : Int) : ∀ (l : List Ru) (a : Int), a ≤ B → (∀ x ∈ l, f x ≤ B) → l.foldl (fun m x => max m (f x)) a ≤ B
  | [], a, h, _ => h
  | y :: l, a, h, h2 => by
    rw [List.foldl_cons]
    have := h2 y List.mem_cons_self
    exact plFold_le f B l _ (by omega) (fun x hx => h2 x (List.mem_cons_of_mem _ hx))
theorem plReach_bounds (l : List Ru) (h : plFewL l) : (0 ≤ (reachS l).1 ∧ (reachS l).1 ≤ 1000) ∧ (0 ≤ (reachS l).2 ∧ (reachS l).2 ≤ 1000) ∧ ∀ x ∈ l, (x.f0.length : Int) ≤ (reachS l).1 ∧ (x.f1.length : Int) + x.f2.length ≤ (reachS l).2 := by
  have a := plFold_ge (fun x => (x.f0.length : Int)) l 0
  have b := plFold_ge (fun x => (x.f1.length : Int) + x.f2.length) l 0
  have c := plFold_le (fun x => (x.f0.length : Int)) 1000 l 0 (by decide) (fun x hx => by have := (h.2 x hx).1.1; omega)
  have d := plFold_le (fun x => (x.f1.length : Int) + x.f2.length) 1000 l 0 (by decide) (fun x hx => by have := (h.2 x hx).2.1.1; have := (h.2 x hx).2.2.1.1; omega)
  exact ⟨⟨a.1, c⟩, ⟨b.1, d⟩, fun x hx => ⟨a.2 x hx, b.2 x hx⟩⟩
theorem plWin (l : List Ru) (text : List Int) (a lo hi : Nat) (b f : Int) (hr : ∀ x ∈ l, (x.f0.length : Int) ≤ b ∧ (x.f1.length : Int) + x.f2.length ≤ f) (ha : a < hi) (hhi : hi ≤ text.length) (hlo : lo ≤ a) (h1 : lo = 0 ∨ (lo : Int) + b ≤ a) (h2 : hi = text.length ∨ (a : Int) + f ≤ hi) :
    stepS l ((text.take hi).drop lo) ((a - lo : Nat) : Int) = stepS l text a := by
  have hlen : ((text.take hi).drop lo).length = hi - lo := by rw [List.length_drop, List.length_take]; omega
  have e : ((a - lo : Nat) : Int) = (a : Int) - lo := by omega
  rw [e]
  have hx : l.findIdx? (fun x => appliesS x ((text.take hi).drop lo) ((a : Int) - lo)) = l.findIdx? (fun x => appliesS x text a) := by
    refine plFindIdx_congr l fun x hx => ?_
    obtain ⟨r1, r2⟩ := hr x hx
    unfold appliesS
    rw [plCovers_win x.f1 text lo hi a (by omega) (by omega) (by omega) (by omega)]
    rw [show (a : Int) - lo + x.f1.length = ((a : Int) + x.f1.length) - lo by omega, plCovers_win x.f2 text lo hi _ (by omega) (by omega) (by omega) (by omega)]
    rw [show (a : Int) - lo - x.f0.length = ((a : Int) - x.f0.length) - lo by omega, plCovers_win x.f0 text lo hi _ (by omega) (by omega) (by omega) (by omega)]
  unfold stepS
  rw [hlen, if_neg (by omega), if_neg (by omega), hx]
end Go.Proofs.Ytcpicopaobhlcaa.Q
end
section
namespace Go.Proofs.Ytcpicopaobhlcaa.Q
open Go.RowKit Go.Proofs.YtcpicopaobhlcaaW.PrintWords Go.Proofs.YtcpicopaobhlcaaW.PrintLast Go.Proofs.YtcpicopaobhlcaaW.PrintMore
set_option linter.unusedVariables false
theorem spGetD_drop (T : List Int) (d k : Nat) : (T.drop d).getD k 0 = T.getD (d + k) 0 := by
  rw [List.getD_eq_getElem?_getD, List.getD_eq_getElem?_getD, List.getElem?_drop]
theorem spWr_suf (l : List Ru) (T : List Int) (a d : Nat) (i : Int) (hd : d ≤ a) : writtenS l (T.drop d) ((a - d : Nat) : Int) i = writtenS l T (a : Int) i := by
  unfold writtenS
  split
  · rw [Int.toNat_natCast, Int.toNat_natCast, spGetD_drop, show d + (a - d) = a by omega]
  · apply List.map_congr_left
    intro p hp
    split
    · obtain ⟨q, hq⟩ : ∃ q : Nat, p.f1 = (q : Int) + 1 := ⟨(p.f1 - 1).toNat, by omega⟩
      rw [show ((a - d : Nat) : Int) + (p.f1 - 1) = ((a - d + q : Nat) : Int) by omega, show (a : Int) + (p.f1 - 1) = ((a + q : Nat) : Int) by omega, Int.toNat_natCast, Int.toNat_natCast, spGetD_drop, show d + (a - d + q) = a + q by omega]
    · rfl
theorem spGetD_app (p q : List Int) (k : Nat) (h : k < p.length) : (p ++ q).getD k 0 = p.getD k 0 := by
  rw [List.getD_eq_getElem?_getD, List.getD_eq_getElem?_getD, List.getElem?_append_left h]
theorem spWr_pre (l : List Ru) (p q : List Int) (a n : Nat) (i : Int) (ha : a + n ≤ p.length) (hl : ∀ x ∈ l, ∀ p ∈ x.f3, p.f1 ≤ (x.f1.length : Int))
    (hc : i = -1 ∧ n = 1 ∨ ∃ j : Nat, i = (j : Int) ∧ j < l.length ∧ n = (l.getD j z41).f1.length) : writtenS l (p ++ q) (a : Int) i = writtenS l p (a : Int) i := by
  rcases hc with ⟨rfl, rfl⟩ | ⟨j, rfl, hj, hnj⟩
  · unfold writtenS
    rw [if_pos (by decide), if_pos (by decide), Int.toNat_natCast, spGetD_app _ _ _ (by omega)]
  · have hm : l.getD j z41 ∈ l := by
      rw [List.getD_eq_getElem?_getD, List.getElem?_eq_getElem hj]; exact List.getElem_mem hj
    have h2 := hl _ hm
    unfold writtenS
    rw [if_neg (by omega), if_neg (by omega), Int.toNat_natCast]
    apply List.map_congr_left
    intro x hx
    have h3 := h2 x hx
    split
    · obtain ⟨k, hk⟩ : ∃ k : Nat, x.f1 = (k : Int) + 1 := ⟨(x.f1 - 1).toNat, by omega⟩
      rw [show (a : Int) + (x.f1 - 1) = ((a + k : Nat) : Int) by omega, Int.toNat_natCast, spGetD_app _ _ _ (by omega)]
    · rfl
theorem spRun_suf (l : List Ru) (T : List Int) (least d : Nat) (b f : Int) (h1 : ∀ x ∈ l, 1 ≤ x.f1.length) (hl : 1 ≤ least) (hr : ∀ x ∈ l, (x.f0.length : Int) ≤ b ∧ (x.f1.length : Int) + x.f2.length ≤ f) (a : Nat) (hd : d ≤ a) (hb : d = 0 ∨ (d : Int) + b ≤ a) :
    spRun l (T.drop d) least (a - d) = ((spRun l T least a).1, (spRun l T least a).2 - d) := by
  refine spRun_ind l T least h1 hl (fun a r => d ≤ a → (d = 0 ∨ (d : Int) + b ≤ a) → spRun l (T.drop d) least (a - d) = (r.1, r.2 - d)) (fun a h h2 _ => ?_) (fun a n r h hs hn hn2 hc hr' hP h2 h3 => ?_) _ a (Nat.le_refl _) hd hb
  · exact spRun_stop l (T.drop d) least (a - d) (by rw [List.length_drop]; omega)
  · have hw := plWin l T a d T.length b f hr (by omega) (Nat.le_refl _) h2 h3 (.inl rfl)
    rw [List.take_length] at hw
    have hlen : (T.drop d).length = T.length - d := List.length_drop
    rw [spRun_step l (T.drop d) least h1 hl (a - d) n (by omega) (by rw [hw, hs]) hn, hw, spWr_suf l T a d _ h2, show a - d + n = a + n - d by omega, hP (by omega) (by omega)]
theorem spRun_app (l : List Ru) (p q : List Int) (m least : Nat) (b f : Int) (h1 : ∀ x ∈ l, 1 ≤ x.f1.length) (hl : 1 ≤ m) (hm : m ≤ least) (hr : ∀ x ∈ l, (x.f0.length : Int) ≤ b ∧ (x.f1.length : Int) + x.f2.length ≤ f) (hf : f ≤ (least : Int))
    (hp : ∀ x ∈ l, ∀ p ∈ x.f3, p.f1 ≤ (x.f1.length : Int)) (a : Nat) :
    spRun l (p ++ q) m a = ((spRun l p least a).1 ++ (spRun l (p ++ q) m (spRun l p least a).2).1, (spRun l (p ++ q) m (spRun l p least a).2).2) := by
  refine spRun_ind l p least h1 (by omega) (fun a r => spRun l (p ++ q) m a = (r.1 ++ (spRun l (p ++ q) m r.2).1, (spRun l (p ++ q) m r.2).2)) (fun a h => by simp) (fun a n r h hs hn hn2 hc hr' hP => ?_) _ a (Nat.le_refl _)
  have hw := plWin l (p ++ q) a 0 p.length b f hr (by omega) (by simp) (Nat.zero_le _) (.inl rfl) (.inr (by omega))
  rw [List.take_left, List.drop_zero, Nat.sub_zero] at hw
  rw [spRun_step l (p ++ q) m h1 hl a n (by rw [List.length_append]; omega) (by rw [← hw, hs]) hn, ← hw, spWr_pre l p q a n _ hn2 hp hc, hP, List.append_assoc]
end Go.Proofs.Ytcpicopaobhlcaa.Q
end
section
namespace Go.Proofs.Ytcpicopaobhlcaa.Q
open Go.RowKit Go.Proofs.YtcpicopaobhlcaaW.PrintWords Go.Proofs.YtcpicopaobhlcaaW.PrintLast Go.Proofs.YtcpicopaobhlcaaW.PrintMore
set_option linter.unusedVariables false
/-- What is asked of the rules of a stream: be, ah its two numbers. -/
structure SpOk (l : List Ru) (be ah : Nat) : Prop where
  one : ∀ x ∈ l, 1 ≤ x.f1.length
  ahp : 1 ≤ ah
  far : ∀ x ∈ l, (x.f0.length : Int) ≤ (be : Int) ∧ (x.f1.length : Int) + x.f2.length ≤ (ah : Int)
  pcs : ∀ x ∈ l, x.f3.length ≤ 16 ∧ ∀ p ∈ x.f3, p.f1 ≤ (x.f1.length : Int)
/-- What Write hands back, and the state behind it: the text that is kept, and the position in it. -/
def spWrite (l : List Ru) (be ah : Nat) (s : List Int × Nat) (text : List Int) : List Int × (List Int × Nat) :=
  ((spRun l (s.1 ++ text) ah s.2).1, ((s.1 ++ text).drop ((spRun l (s.1 ++ text) ah s.2).2 - be), (spRun l (s.1 ++ text) ah s.2).2 - ((spRun l (s.1 ++ text) ah s.2).2 - be)))
def SpRel (be : Nat) (T : List Int) (a : Nat) (s : List Int × Nat) : Prop := ∃ d, s.1 = T.drop d ∧ s.2 = a - d ∧ d ≤ a ∧ a ≤ T.length ∧ (d = 0 ∨ d + be ≤ a)
theorem SpRel.start (be : Nat) : SpRel be [] 0 ([], 0) := ⟨0, rfl, rfl, Nat.le_refl _, Nat.le_refl _, .inl rfl⟩
theorem SpRel.run {l : List Ru} {be ah : Nat} (ok : SpOk l be ah) {T : List Int} {a : Nat} {s : List Int × Nat} (h : SpRel be T a s) (m : Nat) (hm : 1 ≤ m) (text : List Int) : (spRun l (s.1 ++ text) m s.2).1 = (spRun l (T ++ text) m a).1 := by
  obtain ⟨d, h1, h2, h3, h4, h5⟩ := h
  have e : s.1 ++ text = (T ++ text).drop d := by rw [h1, List.drop_append_of_le_length (by omega)]
  rw [e, h2, spRun_suf l (T ++ text) m d be ah ok.one hm ok.far a h3 (by omega)]
theorem SpRel.write {l : List Ru} {be ah : Nat} (ok : SpOk l be ah) {T : List Int} {a : Nat} {s : List Int × Nat} (h : SpRel be T a s) (text : List Int) :
    (spWrite l be ah s text).1 = (spRun l (T ++ text) ah a).1 ∧ SpRel be (T ++ text) (spRun l (T ++ text) ah a).2 (spWrite l be ah s text).2 := by
  refine ⟨h.run ok ah ok.ahp text, ?_⟩
  obtain ⟨d, h1, h2, h3, h4, h5⟩ := h
  have e : s.1 ++ text = (T ++ text).drop d := by rw [h1, List.drop_append_of_le_length (by omega)]
  have hs := spRun_suf l (T ++ text) ah d be ah ok.one ok.ahp ok.far a h3 (by omega)
  obtain ⟨q1, q2, q3⟩ := spRun_end l (T ++ text) ah ok.one ok.ahp a (by rw [List.length_append]; omega)
  unfold spWrite
  rw [e, h2, hs]
  generalize (spRun l (T ++ text) ah a).2 = a' at *
  refine ⟨d + (a' - d - be), ?_, ?_, by omega, q3, by omega⟩
  · show ((T ++ text).drop d).drop (a' - d - be) = _
    rw [List.drop_drop]
  · show a' - d - (a' - d - be) = _
    omega
/-- What was written so far, as the beginning of what the whole writes. -/
def SpOut (l : List Ru) (m : Nat) (T : List Int) (a : Nat) (out : List Int) : Prop := ∀ q, spRun l (T ++ q) m 0 = (out ++ (spRun l (T ++ q) m a).1, (spRun l (T ++ q) m a).2)
theorem SpOut.start (l : List Ru) (m : Nat) : SpOut l m [] 0 [] := fun q => by simp
theorem SpOut.write {l : List Ru} {be ah m : Nat} (ok : SpOk l be ah) (hm : 1 ≤ m) (hma : m ≤ ah) {T : List Int} {a : Nat} {out : List Int} (h : SpOut l m T a out) (text : List Int) : SpOut l m (T ++ text) (spRun l (T ++ text) ah a).2 (out ++ (spRun l (T ++ text) ah a).1) := by
  intro q
  have h1 := h (text ++ q)
  rw [← List.append_assoc] at h1
  rw [h1, spRun_app l (T ++ text) q m ah be ah ok.one hm hma ok.far (Int.le_refl _) (fun x hx => (ok.pcs x hx).2) a]
  simp only [List.append_assoc]
theorem SpOut.all {l : List Ru} {be ah : Nat} (ok : SpOk l be ah) {T : List Int} {a : Nat} {out : List Int} (h : SpOut l ah T a out) (hs : T.length < a + ah) : spRun l T ah 0 = (out, a) := by
  have h1 := h []
  rw [List.append_nil, spRun_stop l T ah a hs, List.append_nil] at h1
  exact h1
/-- Where no rule applies a run writes the elements themselves. -/
theorem spRun_idle (l : List Ru) (T : List Int) (m : Nat) (h1 : ∀ x ∈ l, 1 ≤ x.f1.length) (hm : 1 ≤ m) (hno : ∀ a : Nat, a < T.length → stepS l T (a : Int) = (-1, 1)) (a : Nat) : (spRun l T m a).1 = (T.drop a).take ((spRun l T m a).2 - a) ∧ a ≤ (spRun l T m a).2 := by
  refine spRun_ind l T m h1 hm (fun a r => r.1 = (T.drop a).take (r.2 - a) ∧ a ≤ r.2) (fun a h => by simp) (fun a n r h hs hn hn2 hc hr hP => ?_) _ a (Nat.le_refl _)
  obtain ⟨p1, p2⟩ := hP
  have hst := hno a (by omega)
  rw [hst] at hs
  obtain rfl : n = 1 := by have : (1 : Int) = (n : Int) := hs; omega
  rw [hst]
  refine ⟨?_, by show a ≤ r.2; omega⟩
  show writtenS l T (a : Int) (-1) ++ r.1 = (T.drop a).take (r.2 - a)
  unfold writtenS
  rw [if_pos (by decide), Int.toNat_natCast, p1, List.drop_eq_getElem_cons (show a < T.length by omega), List.getD_eq_getElem?_getD, List.getElem?_eq_getElem (show a < T.length by omega), show r.2 - a = (r.2 - (a + 1)) + 1 by omega, List.take_succ_cons]
  rfl
end Go.Proofs.Ytcpicopaobhlcaa.Q
end
section
namespace Go.Proofs.Ytcpicopaobhlcaa.Q
open Go.RowKit Go.Proofs.YtcpicopaobhlcaaW.PrintWords Go.Proofs.YtcpicopaobhlcaaW.PrintLast Go.Proofs.YtcpicopaobhlcaaW.PrintMore
set_option linter.unusedVariables false
def spBe (l : List Ru) : Nat := (reachS l).1.toNat
def spAh (l : List Ru) : Nat := (max 1 (reachS l).2).toNat
theorem spOk (l : List Ru) (hf : plFewL l) (hd : dataS l = l) : SpOk l (spBe l) (spAh l) := by
  obtain ⟨⟨b1, b2⟩, ⟨f1, f2⟩, hr⟩ := plReach_bounds l hf
  refine ⟨fun x hx => (oneS_ok x (data_one l x (by rw [hd]; exact hx))).1, by unfold spAh; omega, fun x hx => ?_, fun x hx => ?_⟩
  · obtain ⟨q1, q2⟩ := hr x hx
    unfold spBe spAh
    omega
  · have := data_one l x (by rw [hd]; exact hx)
    exact ⟨(oneS_ok x this).2.2.2.2, oneS_pieces x this⟩
theorem spLens_few (l : List Ru) (hf : plFewL l) : ∀ x ∈ l, spLens x := by
  intro x hx
  obtain ⟨h0, h1, h2, h3⟩ := hf.2 x hx
  exact ⟨⟨by have := h0.1; omega, fun s hs => by have := h0.2 s hs; omega⟩, ⟨by have := h1.1; omega, fun s hs => by have := h1.2 s hs; omega⟩, ⟨by have := h2.1; omega, fun s hs => by have := h2.2 s hs; omega⟩, by omega⟩
attribute [local go_sem] max2_int max_two
set_option maxHeartbeats 4000000 in
set_option maxRecDepth 100000 in
theorem sNew_bad (A0 : Option Addr) (c0 : Nat) (l : List Ru) (w : World) (hf : plFewL l) (hr : Kd.C k41 w A0 l.length l) (hc : l.length ≤ c0) (hd : checkS l ≠ 0) :
    Calls Try.prog 13 #[.slice A0 l.length c0] w fun e w' => e = .returned (.tuple #[.pointer none, .int .i64 (checkS l)]) ∧ Below w.heap.size w w' := by
  have HR := Aside0.mk hr
  have HC := Aside0.mk hc
  have HCK := Aside0.mk (check_ok l (plOkRules hf))
  have hq : (checkS l != 0) = true := by simpa using hd
  have hq2 : (!decide (checkS l = 0)) = true := by simpa using hd
  have hq3 : decide (checkS l = 0) = false := decide_eq_false hd
  have hq4 : (checkS l == 0) = false := by simpa using hd
  clear hr hc hd hf
  generalize checkS l = e0 at *
  go_enter Try.func13, Try.ntmps13
  go_wp2_with (go_at_call 26; (with_reducible refine (transrule_Check.calls (l.length + 1) A0 c0 l e0 _ HR.out HC.out HCK.out).mono ?_); rintro e w1 ⟨rfl, hb⟩; have HB := Aside0.mk hb; clear hb)
  go_ret2
  exact ⟨rfl, HB.out⟩
set_option maxHeartbeats 4000000 in
set_option maxRecDepth 100000 in
theorem sNew_calls (A0 : Option Addr) (c0 : Nat) (l : List Ru) (w : World) (hf : plFewL l) (hr : Kd.C k41 w A0 l.length l) (hc : l.length ≤ c0) (hd : checkS l = 0) :
    Calls Try.prog 13 #[.slice A0 l.length c0] w fun e w' => ∃ b, e = .returned (.tuple #[.pointer (some ⟨b, 0, none⟩), .int .i64 0]) ∧ Strm w' b (fun k => w.heap.size ≤ k ∧ k ≠ b) [] 0 l (spBe l) (spAh l) ∧ w.heap.size ≤ b ∧ Below w.heap.size w w' := by
  have HR := Aside0.mk hr
  have HC := Aside0.mk hc
  have hck := check_ok l (plOkRules hf)
  rw [hd] at hck
  have HCK := Aside0.mk hck
  have hde : dataS l = l := by unfold dataS; rw [if_pos hd]
  obtain ⟨⟨b1, b2⟩, ⟨f1, f2⟩, _⟩ := plReach_bounds l hf
  have hre : transduce_Reach.f l = some ((spBe l : Int), (reachS l).2) := by
    rw [plReachT l hf, hde]
    unfold spBe
    rw [show ((reachS l).1.toNat : Int) = (reachS l).1 by omega]
  have hmx : (if (1 : Int) < (reachS l).2 then (reachS l).2 else 1) = (spAh l : Int) := by unfold spAh; split <;> omega
  have HRE := Aside0.mk hre
  have HMX := Aside0.mk hmx
  have HLN := Aside0.mk (show l.length < 1000000 by have := hf.1; omega)
  have HLS := Aside0.mk (spLens_few l hf)
  clear hr hc hd hck hde b1 b2 f1 f2 hre hmx hf
  generalize (reachS l).2 = ahead at *
  have hu1 := Try.underlying53
  go_enter Try.func13, Try.ntmps13
  by_cases h1 : (1 : Int) < ahead
  · have HAH : Aside0 (ahead = (spAh l : Int)) := ⟨by have := HMX.out; rwa [if_pos h1] at this⟩
    go_wp2_with (first | (go_at_call 26; (with_reducible refine (transrule_Check.calls (l.length + 1) A0 c0 l 0 _ HR.out HC.out HCK.out).mono ?_); rintro e w1 ⟨rfl, hb⟩; have HB := Aside0.mk hb; clear hb) | (go_at_call 27; (with_reducible refine (transduce_Reach.calls A0 c0 l (spBe l) ahead _ (Kd.C_below HR.out HB.out) HC.out HRE.out).mono ?_); rintro e w2 ⟨rfl, hb⟩; have HB2 := Aside0.mk (below_step HB.out hb); clear hb) | (go_at_call 28; (with_reducible refine (spClone_calls A0 c0 l _ (Kd.C_below HR.out HB2.out) HC.out HLN.out HLS.out).mono ?_); rintro e w3 ⟨v3, rfl, hv3, hb⟩; obtain ⟨A3, c3, rfl⟩ := Kd.R_slice hv3; have HV3 := Aside0.mk hv3; have HB3 := Aside0.mk hb; clear hb hv3))
    go_ret2
    have hbk := heap_alloc_new w3 (.cells #[.slice none 0 0, .int .i64 0, .slice A3 l.length c3, .int .i64 (spBe l), .int .i64 ahead] 53)
    refine ⟨w3.heap.size, rfl, ⟨none, 0, A3, c3, ?_, Nat.le_refl _, Kd.F_nil _ _ _, (Kd.R_reads' HV3.out).2.1, Kd.F_mono (Kd.F_alloc (Kd.R_F (Kd.R_bound HV3.out)) _) (fun k hk => ⟨Nat.le_trans HB2.out.size hk.2.1, by have := hk.2.2.1; omega⟩)⟩, Nat.le_trans HB2.out.size HB3.out.size, below_alloc (below_step HB2.out HB3.out) _⟩
    unfold StrmB
    rw [← HAH.out]
    exact hbk
  · have HAH : Aside0 ((1 : Int) = (spAh l : Int)) := ⟨by have := HMX.out; rwa [if_neg h1] at this⟩
    go_wp2_with (first | (go_at_call 26; (with_reducible refine (transrule_Check.calls (l.length + 1) A0 c0 l 0 _ HR.out HC.out HCK.out).mono ?_); rintro e w1 ⟨rfl, hb⟩; have HB := Aside0.mk hb; clear hb) | (go_at_call 27; (with_reducible refine (transduce_Reach.calls A0 c0 l (spBe l) ahead _ (Kd.C_below HR.out HB.out) HC.out HRE.out).mono ?_); rintro e w2 ⟨rfl, hb⟩; have HB2 := Aside0.mk (below_step HB.out hb); clear hb) | (go_at_call 28; (with_reducible refine (spClone_calls A0 c0 l _ (Kd.C_below HR.out HB2.out) HC.out HLN.out HLS.out).mono ?_); rintro e w3 ⟨v3, rfl, hv3, hb⟩; obtain ⟨A3, c3, rfl⟩ := Kd.R_slice hv3; have HV3 := Aside0.mk hv3; have HB3 := Aside0.mk hb; clear hb hv3))
    go_ret2
    have hbk := heap_alloc_new w3 (.cells #[.slice none 0 0, .int .i64 0, .slice A3 l.length c3, .int .i64 (spBe l), .int .i64 1] 53)
    refine ⟨w3.heap.size, rfl, ⟨none, 0, A3, c3, ?_, Nat.le_refl _, Kd.F_nil _ _ _, (Kd.R_reads' HV3.out).2.1, Kd.F_mono (Kd.F_alloc (Kd.R_F (Kd.R_bound HV3.out)) _) (fun k hk => ⟨Nat.le_trans HB2.out.size hk.2.1, by have := hk.2.2.1; omega⟩)⟩, Nat.le_trans HB2.out.size HB3.out.size, below_alloc (below_step HB2.out HB3.out) _⟩
    unfold StrmB
    rw [← HAH.out]
    exact hbk
end Go.Proofs.Ytcpicopaobhlcaa.Q
end
section
namespace Go.Proofs.Ytcpicopaobhlcaa.Q
open Go.RowKit Go.Proofs.YtcpicopaobhlcaaW.PrintWords Go.Proofs.YtcpicopaobhlcaaW.PrintLast Go.Proofs.YtcpicopaobhlcaaW.PrintMore
set_option linter.unusedVariables false
def pieceV (cov : List Int) (p : Pc) : Int := if 0 < p.f1 then rd cov (p.f1 - 1) else p.f0
def resV (l : List Ru) (i : Int) (cov : List Int) : List Int := if i < 0 then cov else (rd_T41 l i).f3.map (pieceV cov)
theorem cov_len (text : List Int) (a n : Nat) (h : a + n ≤ text.length) : ((text.take (a + n)).drop a).length = n := by
  rw [List.length_drop, List.length_take]; omega
theorem cov_getD (text : List Int) (a n k : Nat) (hk : k < n) : ((text.take (a + n)).drop a).getD k 0 = text.getD (a + k) 0 := by
  rw [List.getD_eq_getElem?_getD, List.getD_eq_getElem?_getD, List.getElem?_drop, List.getElem?_take, if_pos (by omega)]
theorem resV_written (l : List Ru) (text : List Int) (a n : Nat) (i : Int) (hn : 1 ≤ n) (ha : a + n ≤ text.length) (hl : ∀ x ∈ l, x.f3.length ≤ 16 ∧ ∀ p ∈ x.f3, p.f1 ≤ (x.f1.length : Int))
    (hc : i = -1 ∧ n = 1 ∨ ∃ j : Nat, i = (j : Int) ∧ j < l.length ∧ n = (l.getD j z41).f1.length) :
    resV l i ((text.take (a + n)).drop a) = writtenS l text (a : Int) i ∧ (writtenS l text (a : Int) i).length ≤ 16 * n := by
  rcases hc with ⟨rfl, rfl⟩ | ⟨j, rfl, hj, hnj⟩
  · unfold resV writtenS
    rw [if_pos (by decide), if_pos (by decide)]
    refine ⟨?_, by simp⟩
    apply List.ext_getElem
    · rw [cov_len _ _ _ ha]; rfl
    · intro k h1 h2
      simp only [List.length_cons, List.length_nil, Nat.zero_add, Nat.lt_one_iff] at h2
      subst h2
      have := cov_getD text a 1 0 (by omega)
      rw [List.getD_eq_getElem?_getD, List.getElem?_eq_getElem h1] at this
      simpa using this
  · have hm : l.getD j z41 ∈ l := by
      rw [List.getD_eq_getElem?_getD, List.getElem?_eq_getElem hj]; exact List.getElem_mem hj
    have h2 := hl _ hm
    unfold resV writtenS
    rw [if_neg (by omega), if_neg (by omega)]
    have e : rd_T41 l (j : Int) = l.getD j z41 := by
      unfold rd_T41
      rw [Int.toNat_natCast]
    rw [e, Int.toNat_natCast]
    refine ⟨?_, by rw [List.length_map]; omega⟩
    apply List.map_congr_left
    intro p hp
    have h3 := h2.2 p hp
    unfold pieceV
    by_cases h0 : 0 < p.f1
    · rw [if_pos h0, if_pos h0]
      obtain ⟨q, hq⟩ : ∃ q : Nat, p.f1 = (q : Int) + 1 := ⟨(p.f1 - 1).toNat, by omega⟩
      rw [hq, show (q : Int) + 1 - 1 = (q : Int) by omega, show (a : Int) + (q : Int) = ((a + q : Nat) : Int) by omega]
      unfold rd
      rw [Int.toNat_natCast, Int.toNat_natCast]
      exact cov_getD text a n q (by omega)
    · rw [if_neg h0, if_neg h0]
set_option maxHeartbeats 4000000 in
set_option maxRecDepth 100000 in
theorem sStep_calls (b : Nat) (ok : Nat → Prop) (t : List Int) (a : Nat) (l : List Ru) (be ah n : Nat) (w : World) (hS : Strm w b ok t a l be ah) (hok : ¬ ok b) (hnew : ∀ k, w.heap.size ≤ k → ok k) (ht : t.length < 10000000) (ha : a < t.length) (htx : okText t = true)
    (hrl : okRules l = true) (hd : dataS l = l) (hs : (stepS l t (a : Int)).2 = (n : Int)) (hn1 : 1 ≤ n) (hn2 : a + n ≤ t.length)
    (hpc : ∀ x ∈ l, x.f3.length ≤ 16 ∧ ∀ p ∈ x.f3, p.f1 ≤ (x.f1.length : Int)) (hcase : (stepS l t (a : Int)).1 = -1 ∧ n = 1 ∨ ∃ j : Nat, (stepS l t (a : Int)).1 = (j : Int) ∧ j < l.length ∧ n = (l.getD j z41).f1.length) :
    Calls Try.prog 46 #[.pointer (some ⟨b, 0, none⟩)] w fun e w' => ∃ A' c', e = .returned (.slice A' (writtenS l t (a : Int) (stepS l t (a : Int)).1).length c') ∧ (writtenS l t (a : Int) (stepS l t (a : Int)).1).length ≤ c' ∧ Kd.F (Kd.int .i64) w' ok A' (writtenS l t (a : Int) (stepS l t (a : Int)).1).length (writtenS l t (a : Int) (stepS l t (a : Int)).1) ∧ Strm w' b ok t (a + n) l be ah ∧ w.grownBy w' (some b) := by
  obtain ⟨At, ct, Al, cl, hB, h2, h3, h4, h5⟩ := hS
  obtain ⟨i, hi⟩ : ∃ i, i = (stepS l t (a : Int)).1 := ⟨_, rfl⟩
  have hpair : stepS l t (a : Int) = (i, (n : Int)) := by rw [hi, ← hs]
  have hsf : transduce_Step.f l t (a : Int) = some (i, (n : Int)) := by
    unfold transduce_Step.f
    rw [if_pos ⟨hrl, htx⟩, hd, hpair]
  rw [← hi] at hcase ⊢
  have c0 := hB.c0
  have c1 := hB.c1
  have c2 := hB.c2
  have HBK := Aside0.mk hB
  have H3 := Aside0.mk h3
  have H5 := Aside0.mk h5
  have H2 := Aside0.mk h2
  have H4 := Aside0.mk h4
  have HSF := Aside0.mk hsf
  have HNEW := Aside0.mk hnew
  have HPC := Aside0.mk hpc
  have HCS := Aside0.mk hcase
  have HN := Aside0.mk (And.intro ha hn2)
  have HTL := Aside0.mk ht
  have HOKB : Aside0 (∀ k, ok k → k ≠ b) := ⟨fun k hk e => hok (e ▸ hk)⟩
  have HBX := Aside0.mk (Below.refl w.heap.size w)
  clear hB h3 h5 h2 h4 hsf hnew hpc hcase hs hd hrl htx hi hpair hok ht ha hn2
  go_enter Try.func46, Try.ntmps46
  go_wp2
  go_region_held3 (fun w' => w'.cell? ⟨b, 0, none⟩ = some (.slice At t.length ct) ∧ w'.cell? ⟨b, 1, none⟩ = some (.int .i64 a) ∧ w'.cell? ⟨b, 2, none⟩ = some (.slice Al l.length cl)) (first | go_keep | (go_split_ands; refine ⟨?_, ?_, ?_⟩; (refine pw_cell_below hb ?_; assumption); (refine pw_cell_below hb ?_; assumption); (refine pw_cell_below hb ?_; assumption)))
    (first | (go_at_call 55; (with_reducible refine (transduce_Step.calls Al cl l At ct t (a : Int) i (n : Int) _ ?s1 H4.out ?s2 H2.out HSF.out).mono ?_); (case s1 => exact Kd.C_below (Kd.F_now H5.out) (by repeat (first | (with_reducible first | exact HBX.out | apply below_alloc | apply pw_below_drewN | apply below_drew1) | exact HBX.out))); (case s2 => exact Kd.C_below (Kd.F_now H3.out) (by repeat (first | (with_reducible first | exact HBX.out | apply below_alloc | apply pw_below_drewN | apply below_drew1) | exact HBX.out))); rintro e w1 ⟨rfl, hb⟩; have HB1 := Aside0.mk (below_step (by repeat (first | (with_reducible first | exact HBX.out | apply below_alloc | apply pw_below_drewN | apply below_drew1) | exact HBX.out)) hb)))
  have HBK1 := Aside0.mk (HBK.out.below HB1.out)
  have d0 := HBK1.out.c0
  have d1 := HBK1.out.c1
  have d2 := HBK1.out.c2
  have f1 := HBK1.out.fz 1
  clear c0 c1 c2 hb
  have HF3 := Aside0.mk (Kd.F_below H3.out HB1.out)
  have HF5 := Aside0.mk (Kd.F_below H5.out HB1.out)
  have HCV := Kd.F_mid (lo := a) (hi := a + n) HF3.out (by omega) HN.out.2 H2.out
  rw [cov_len _ _ _ HN.out.2, if_neg (by have := H2.out; have := HN.out.1; omega), show a * (Kd.int .i64).sz = a from Nat.mul_one a] at HCV
  obtain ⟨ad, e, _⟩ := Kd.at_int (Kd.F_now HF3.out) (a : Int) (by omega) (by have := HN.out.1; omega)
  cases e
  have HCV := Aside0.mk HCV
  have hw : wrap64 ((a : Int) + (n : Int)) = (a : Int) + (n : Int) := by have := HTL.out; have := HN.out.2; unfold wrap64; omega
  have hx1 : (ct = a) = False := eq_false (by have := H2.out; have := HN.out.1; omega)
  have hx2 : (0 ≤ (a : Int) + (n : Int)) = True := eq_true (by omega)
  have hx3 : ((a : Int) + (n : Int) ≤ (ct : Int)) = True := eq_true (by have := H2.out; have := HN.out.2; omega)
  have hx4 : ((a : Int) ≤ (a : Int) + (n : Int)) = True := eq_true (by omega)
  have hx5 : a + n - a = n := by omega
  rcases HCS.out with ⟨rfl, hn1'⟩ | ⟨j, rfl, hj, hnj⟩
  · have HWE := Aside0.mk (resV_written l t a n (-1) (by omega) HN.out.2 HPC.out (.inl ⟨rfl, hn1'⟩)).1
    clear hn1 hn1'
    go_wp2
    go_quiet (fail)
    go_wp2
    go_ret
    have hWc : writtenS l t (a : Int) (-1) = (t.take (a + n)).drop a := by rw [← HWE.out]; exact if_pos (by decide)
    rw [hWc, cov_len _ _ _ HN.out.2]
    refine ⟨some (ad.add a), ct - a, ?_, by have := H2.out; have := HN.out.2; omega, Kd.F_far (Kd.F_drewN HCV.out nq) HOKB.out _, ⟨some ad, ct, Al, cl, (HBK1.out.below (pw_below_drewN (Below.refl _ _) nq)).set1 _, H2.out, Kd.F_far (Kd.F_drewN HF3.out nq) HOKB.out _, H4.out, Kd.F_far (Kd.F_drewN HF5.out nq) HOKB.out _⟩, (grown_of_below (pw_below_drewN HB1.out nq) _).trans (gbSet _ _ _ _)⟩
    show Ending.returned (Value.slice (some (ad.add a)) (a + n - a) (ct - a)) = _
    rw [hx5]
  · have hm : l.getD j z41 ∈ l := by
      rw [List.getD_eq_getElem?_getD, List.getElem?_eq_getElem hj]; exact List.getElem_mem hj
    have hpj := HPC.out _ hm
    have e : rd_T41 l (j : Int) = l.getD j z41 := by
      unfold rd_T41
      rw [Int.toNat_natCast]
    rw [← e] at hpj hnj
    have HWE := Aside0.mk (resV_written l t a n (j : Int) hn1 HN.out.2 HPC.out (.inr ⟨j, rfl, hj, by rw [hnj, e]⟩)).1
    have hWc : writtenS l t (a : Int) (j : Int) = (rd_T41 l (j : Int)).f3.map (pieceV ((t.take (a + n)).drop a)) := by rw [← HWE.out]; exact if_neg (by omega)
    have HWC := Aside0.mk hWc
    have HL3 : Aside0 ((rd_T41 l (j : Int)).f3.length < 1000000) := ⟨by omega⟩
    have HP : Aside0 (∀ p ∈ (rd_T41 l (j : Int)).f3, p.f1 ≤ (n : Int)) := ⟨by rw [hnj]; exact hpj.2⟩
    have HJ := Aside0.mk hj
    clear hpj hnj hm e hWc hj hn1
    go_wp2
    go_quiet (fail)
    go_upto_region 4 with (fail)
    obtain ⟨w2, hw2⟩ : ∃ w2, w2 = (w1.drewN nq).setCell ⟨b, 1, none⟩ (.int .i64 ((a : Int) + (n : Int))) := ⟨_, rfl⟩
    rw [← hw2, hx5]
    simp only [hw]
    have hB2 : StrmB w2 b (some ad) t.length ct ((a : Int) + (n : Int)) Al l.length cl be ah := by rw [hw2]; exact (HBK1.out.below (pw_below_drewN (Below.refl _ _) nq)).set1 _
    have hF3 : Kd.F (Kd.int .i64) w2 ok (some ad) t.length t := by rw [hw2]; exact Kd.F_far (Kd.F_drewN HF3.out nq) HOKB.out _
    have hF5 : Kd.F k41 w2 ok Al l.length l := by rw [hw2]; exact Kd.F_far (Kd.F_drewN HF5.out nq) HOKB.out _
    have hCV : Kd.F (Kd.int .i64) w2 ok (some (ad.add a)) n ((t.take (a + n)).drop a) := by rw [hw2]; exact Kd.F_far (Kd.F_drewN HCV.out nq) HOKB.out _
    have hg2 : w.grownBy w2 (some b) := by rw [hw2]; exact (grown_of_below (pw_below_drewN HB1.out nq) _).trans (gbSet _ _ _ _)
    have HBK2 := Aside0.mk hB2
    have G3 := Aside0.mk hF3
    have G5 := Aside0.mk hF5
    have GC := Aside0.mk (Kd.F_now hCV)
    have GG := Aside0.mk hg2
    clear HBK1 d0 d1 d2 f1 HF3 HF5 HCV hB2 hF3 hF5 hCV hg2 hw2
    have q2 := HBK2.out.c2
    obtain ⟨adr, D0, g0, D1, g1, D2, g2, D3, g3, er, y0, y1, y2, y3, u0, v0, u1, v1, u2, v2, u3, v3⟩ := at_T41 (Kd.F_now G5.out) (j : Int) (by omega) (by have := HJ.out; omega)
    cases er
    rw [Int.toNat_natCast] at y0 y1 y2 y3
    have H3P := Aside0.mk v3
    clear y0 y1 y2 u0 v0 u1 v1 u2 v2 u3 v3
    have hp3 : (0 ≤ (j : Int)) = True := eq_true (by omega)
    have hp4 : ((j : Int) < (l.length : Int)) = True := eq_true (by have := HJ.out; omega)
    have hq5 : decide ((j : Int) < 0) = false := decide_eq_false (by omega)
    generalize rd_T41 l (j : Int) = x at *
    generalize hcov : (t.take (a + n)).drop a = cov at *
    have HCL : Aside0 (cov.length = n) := ⟨by rw [← hcov]; exact cov_len _ _ _ HN.out.2⟩
    clear hcov
    go_wp2
    go_loopw [6, 67] (fun lv j wr => ∃ k : Nat, j = .int .i64 k ∧ Aside0 (k ≤ x.f3.length) ∧ Aside0 (Kd.R (Kd.int .i64) 3 wr w2.heap.size (fun _ => True) lv ((x.f3.take k).map (pieceV cov))) ∧ Aside0 (Below w2.heap.size w2 wr)) (fun _ j _ => x.f3.length - (intOf j).toNat)
    case atStart => exact ⟨0, rfl, ⟨Nat.zero_le _⟩, ⟨Kd.R_nil _ _ _ _ _⟩, ⟨Below.refl _ _⟩⟩
    case round =>
      obtain ⟨k, rfl, HK, HO, HB⟩ := hrel
      by_cases hlt : k < x.f3.length
      · obtain ⟨adp, e, hy0, hy1⟩ := at_T59 H3P.out (k : Int) (by omega) (by omega)
        cases e
        rw [Int.toNat_natCast] at hy0 hy1
        have hc0 := (HB.out.cell (World.block_lt_of_cell? w2 _ hy0)).trans hy0
        have hc1 := (HB.out.cell (World.block_lt_of_cell? w2 _ hy1)).trans hy1
        have hmem : rd_T59 x.f3 (k : Int) ∈ x.f3 := by unfold rd_T59; rw [Int.toNat_natCast, List.getD_eq_getElem?_getD, List.getElem?_eq_getElem hlt]; exact List.getElem_mem hlt
        have hst : (x.f3.take (k + 1)).map (pieceV cov) = (x.f3.take k).map (pieceV cov) ++ [pieceV cov (rd_T59 x.f3 (k : Int))] := by
          unfold rd_T59
          rw [Int.toNat_natCast, List.getD_eq_getElem?_getD, List.take_add_one, List.getElem?_eq_getElem hlt, List.map_append]
          rfl
        have hpl := HP.out _ hmem
        have HST := Aside0.mk hst
        clear hy0 hy1 hst hmem
        generalize rd_T59 x.f3 (k : Int) = p at *
        have hp1 : (0 ≤ (k : Int)) = True := eq_true (by omega)
        have hw : wrap64 ((k : Int) + 1) = (k : Int) + 1 := by have := HL3.out; unfold wrap64; omega
        have HLN : Aside0 (((x.f3.take k).map (pieceV cov)).length < 1000000) := ⟨by rw [List.length_map, List.length_take]; have := HL3.out; omega⟩
        by_cases hg : 0 < p.f1
        · obtain ⟨adc, e2, hz⟩ := Kd.at_int (Kd.C_below GC.out HB.out) (p.f1 - 1) (by omega) (by have := HCL.out; omega)
          cases e2
          rw [show (p.f1 - 1).toNat = p.f1.toNat - 1 by omega] at hz
          have hdg : decide (p.f1 > 0) = true := decide_eq_true hg
          have hpv : pieceV cov p = rd cov (p.f1 - 1) := by unfold pieceV; rw [if_pos hg]
          have hwp : wrap64 (p.f1 - 1) = p.f1 - 1 := by have := HTL.out; have := HN.out.2; unfold wrap64; omega
          have hq1 : (0 ≤ p.f1 - 1) = True := eq_true (by omega)
          have hq3 : (1 ≤ p.f1) = True := eq_true (by omega)
          have hq4 : (p.f1 < 1) = False := eq_false (by omega)
          have hq2 : (p.f1 - 1 < (n : Int)) = True := eq_true (by omega)
          have hzb := pw_cell_below (below_alloc (Below.refl _ wr) (.cells #[.int .i64 p.f0, .int .i64 p.f1] 59)) hz
          rw [hpv] at HST
          clear hpv hg hz
          generalize rd cov (p.f1 - 1) = q at *
          go_wp2_with (at_builtin; refine Kd.R_append (Kd.int .i64) (w0 := w2) w2.heap.size rfl (.tmp 74) (.tmp 81) 31 3 (.int .i64 0) 8 rfl Try.underlying31 info3 rfl (by decide) (by omega) _ ((x.f3.take k).map (pieceV cov)) q [.int .i64 q] (fun _ => True) (fun _ => False) rfl (by first | (go_simp; done) | (go_simp; rfl)) ?aP (fun _ hk => hk.elim) ?aF ?aO ?aB ?aS ?aL ?_; (case aP => exact rfl); (case aB => exact (by repeat (first | (with_reducible first | exact HB.out | apply below_alloc | apply pw_below_drewN | apply below_drew1) | exact HB.out))); (case aF => exact (fun _ _ => trivial)); (case aO => exact (by (with_reducible repeat (first | apply Kd.R_alloc | apply Kd.R_drewN | apply Kd.R_drew)); exact HO.out)); (case aS => exact (below_size (by repeat (first | (with_reducible first | exact HB.out | apply below_alloc | apply pw_below_drewN | apply below_drew1) | exact HB.out)))); (case aL => have h1_ := HLN.out; omega); intro v3 w4 ho hb hg hat; have HB4 := Aside0.mk hb; have HO4 := Aside0.mk ho; clear ho hb hg hat)
          go_roundw
          case rel => exact ⟨k + 1, by rw [hw]; rfl, ⟨hlt⟩, ⟨by rw [HST.out]; exact HO4.out⟩, HB4⟩
          case measure => rw [hw]; simp only [intOf]; omega
        · have hdg : decide (p.f1 > 0) = false := decide_eq_false hg
          have hpv : pieceV cov p = p.f0 := by unfold pieceV; rw [if_neg hg]
          rw [hpv] at HST
          clear hpv hg
          go_wp2_with (at_builtin; refine Kd.R_append (Kd.int .i64) (w0 := w2) w2.heap.size rfl (.tmp 83) (.tmp 86) 31 3 (.int .i64 0) 8 rfl Try.underlying31 info3 rfl (by decide) (by omega) _ ((x.f3.take k).map (pieceV cov)) p.f0 [.int .i64 p.f0] (fun _ => True) (fun _ => False) rfl (by first | (go_simp; done) | (go_simp; rfl)) ?aP (fun _ hk => hk.elim) ?aF ?aO ?aB ?aS ?aL ?_; (case aP => exact rfl); (case aB => exact (by repeat (first | (with_reducible first | exact HB.out | apply below_alloc | apply pw_below_drewN | apply below_drew1) | exact HB.out))); (case aF => exact (fun _ _ => trivial)); (case aO => exact (by (with_reducible repeat (first | apply Kd.R_alloc | apply Kd.R_drewN | apply Kd.R_drew)); exact HO.out)); (case aS => exact (below_size (by repeat (first | (with_reducible first | exact HB.out | apply below_alloc | apply pw_below_drewN | apply below_drew1) | exact HB.out)))); (case aL => have h1_ := HLN.out; omega); intro v3 w4 ho hb hg hat; have HB4 := Aside0.mk hb; have HO4 := Aside0.mk ho; clear ho hb hg hat)
          go_roundw
          case rel => exact ⟨k + 1, by rw [hw]; rfl, ⟨hlt⟩, ⟨by rw [HST.out]; exact HO4.out⟩, HB4⟩
          case measure => rw [hw]; simp only [intOf]; omega
      · obtain rfl : k = x.f3.length := by have := HK.out; omega
        rw [List.take_length] at HO
        go_wp2
        go_ret
        rw [HWC.out]
        obtain ⟨A6, c6, rfl⟩ := Kd.R_slice HO.out
        refine ⟨A6, c6, rfl, (Kd.R_reads' HO.out).2.1, Kd.F_mono (Kd.R_F (Kd.R_bound HO.out)) (fun k hk => HNEW.out k (Nat.le_trans GG.out.size hk.2.1)), ?_, gbBelow GG.out HB.out⟩
        exact Strm.below ⟨some ad, ct, _, cl, HBK2.out, H2.out, G3.out, H4.out, G5.out⟩ HB.out
end Go.Proofs.Ytcpicopaobhlcaa.Q
end
