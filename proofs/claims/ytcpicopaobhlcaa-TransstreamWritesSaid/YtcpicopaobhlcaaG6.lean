/- Lemmas, printed and written for this claim: part 6. -/
import Derived.Test.YtcpicopaobhlcaaG2
import Derived.Test.YtcpicopaobhlcaaG3
import Derived.Maps.AppendAt
import Derived.WalkKit
import Derived.IntWalk
section
namespace Go.Proofs.Ytcpicopaobhlcaa.Q
open Go.RowKit Go.Proofs.YtcpicopaobhlcaaW.PrintWords Go.Proofs.YtcpicopaobhlcaaW.PrintLast Go.Proofs.YtcpicopaobhlcaaW.PrintMore
attribute [local go_sem] max2_int min2_int max_two min_two max_three min_three max_four min_four   -- for this text's walks alone
set_option linter.unusedVariables false
set_option linter.unusedSimpArgs false
attribute [local go_sem high] eqA69
-- NOT PRINTED: function 10 (unicodetextref52_Small)
def cpset_Valid.l0 : Nat → List (S69) → Int → Int → List (S69) → Option (Bool)
  | 0, _, _, _, _ => none
  | k + 1, x16, x17, x18, x108000 => if x18 < x17 then (if 0 ≤ x18 then (if x18 < (x16.length : Int) then (if x18 < (x108000.length : Int) then (if (!(((rd_T69 x16 x18).f0) == ((rd_T69 x108000 x18).f0)) || (!(((rd_T69 x16 x18).f1) == ((rd_T69 x108000 x18).f1)))) = true then (some false) else (cpset_Valid.l0 k x16 x17 (wrap64 (x18 + 1)) x108000)) else (none)) else (none)) else (none)) else (some true)
def cpset_Valid.f (k : Nat) (l0_0 : List (S69)) : Option (Bool) := (cpset_Make.f l0_0).bind fun t108 => (if (t108.length : Int) = (l0_0.length : Int) then (cpset_Valid.l0 k t108 (t108.length : Int) 0 l0_0) else (some false))
set_option maxHeartbeats 8000000 in
set_option maxRecDepth 100000 in
theorem cpset_Valid.calls (k : Nat) (A0_0 : Option Addr) (c0_0 : Nat) (l0_0 : List (S69)) (r : Bool) (w : World) (hr0_0 : Kd.C k69 w A0_0 l0_0.length l0_0) (hc0_0 : l0_0.length ≤ c0_0) (h : cpset_Valid.f k l0_0 = some r) :
    Calls Try.prog 52 #[.agg #[.slice A0_0 l0_0.length c0_0]] w fun e w' => e = .returned (.bool r) ∧ Below w.heap.size w w' := by
  have hu45 := Try.underlying45
  have hu69 := Try.underlying69
  have HR0_0 := Aside0.mk hr0_0
  have HC0_0 := Aside0.mk hc0_0
  clear hr0_0 hc0_0
  have HB := Aside0.mk (Below.refl w.heap.size w)
  have H : ((cpset_Make.f l0_0).bind fun t108 => (if (t108.length : Int) = (l0_0.length : Int) then (cpset_Valid.l0 k t108 (t108.length : Int) 0 l0_0) else (some false))) = some r := h
  clear h
  replace H := Option.bind_eq_some_iff.mp H
  obtain ⟨t108, A20, H⟩ := H
  replace H : (if (t108.length : Int) = (l0_0.length : Int) then (cpset_Valid.l0 k t108 (t108.length : Int) 0 l0_0) else (some false)) = some r := H
  have A2 := Aside0.mk A20
  clear A20
  by_cases c3 : (t108.length : Int) = (l0_0.length : Int)
  · rw [if_pos c3] at H
    have c3b0 : ((t108.length : Int) == (l0_0.length : Int)) = true := beq_iff_eq.mpr c3
    have c3b1 : ((t108.length : Int) != (l0_0.length : Int)) = false := bne_eq_false_iff_eq.mpr c3
    have c3b2 : (t108.length == l0_0.length) = true := by first | simpa using c3 | (simp at c3 ⊢; omega)
    clear c3
    have H' := Aside0.mk H
    clear H
    go_enter Try.func52, Try.ntmps52
    go_wp2_with (first | ((with_reducible refine gate_dst (N := 1) rfl ?_); refine box_event ?hg (N := 1) ?hd (cs := #[.slice A0_0 l0_0.length c0_0]) (t := 45) ?hr ?_; (case hd => rfl); (case hg => rfl); (case hr => first | (go_simp; done) | (go_simp; rfl)); intro gb107 hg w4 hbox hb; have n0_ := Aside0.mk (below_step (by repeat (first | (with_reducible first | exact HB.out | apply below_alloc | apply pw_below_drewN | apply below_drew1) | exact HB.out)) hb); have n1_ := Aside0.mk (hbox); have n2_ := Aside0.mk ((by rw [hg]; exact (below_size (by repeat (first | (with_reducible first | exact HB.out | apply below_alloc | apply pw_below_drewN | apply below_drew1) | exact HB.out))) : w.heap.size ≤ gb107)); have n3_ := Aside0.mk ((by rw [hg]; exact (below_size (by repeat (first | (with_reducible first | exact HB.out | apply below_alloc | apply pw_below_drewN | apply below_drew1) | exact HB.out))) : w.heap.size ≤ gb107)); clear HB; have HB := n0_; have BK107 := n1_; have GW107 := n2_; have GE107 := n3_; clear n0_ n1_ n2_ n3_; clear hb hbox hg; have hcz5_0 : w4.cell? ⟨gb107, 0, none⟩ = some (.slice A0_0 l0_0.length c0_0) := (blk_cell BK107.out 0).trans rfl; have hfz5_0 := blk_frozen BK107.out 0) | (go_at_call 59; (with_reducible refine (cpset_Make.calls _ _ l0_0 t108 _ ?side1 ?side2 A2.out).mono ?_); (case side1 => repeat (first | exact (Kd.C_below HR0_0.out HB.out) | (with_reducible refine Kd.C_alloc ?_ _) | (with_reducible refine Kd.C_drewN ?_ _) | (with_reducible refine Kd.C_drew ?_))); (case side2 => exact HC0_0.out); rintro e w6 ⟨v109, rfl, ho0, hb⟩; have n0_ := Aside0.mk (Kd.R_lower ho0 (below_size (by repeat (first | (with_reducible first | exact HB.out | apply below_alloc | apply pw_below_drewN | apply below_drew1 | refine below_set ?_ GE107.out) | exact HB.out)))); have n1_ := Aside0.mk (blk_below (g := gb107) (o := .cells #[.slice A0_0 l0_0.length c0_0] 45 (0, 0)) (by (with_reducible repeat (first | refine blk_drewN ?_ _ | refine blk_drew ?_ | refine blk_alloc ?_ _)); exact BK107.out) hb); have n2_ := Aside0.mk (below_step (by repeat (first | (with_reducible first | exact HB.out | apply below_alloc | apply pw_below_drewN | apply below_drew1 | refine below_set ?_ GE107.out) | exact HB.out)) hb); clear BK107; clear HB; have HO110 := n0_; have BK107 := n1_; have HB := n2_; clear n0_ n1_ n2_; (try clear hb); (try clear hb2); (try clear hk); (try clear hi); (try clear ho0); obtain ⟨Ao7, co7, eo7⟩ := Kd.R_slice HO110.out; subst eo7; have hcz8_0 : w6.cell? ⟨gb107, 0, none⟩ = some (.slice A0_0 l0_0.length c0_0) := (blk_cell BK107.out 0).trans rfl; have hfz8_0 := blk_frozen BK107.out 0))
    repeat (go_quiet (first | ((with_reducible refine gate_dst (N := 1) rfl ?_); refine box_event ?hg (N := 1) ?hd (cs := #[.slice A0_0 l0_0.length c0_0]) (t := 45) ?hr ?_; (case hd => rfl); (case hg => rfl); (case hr => first | (go_simp; done) | (go_simp; rfl)); intro gb107 hg w4 hbox hb; have n0_ := Aside0.mk (below_step (by repeat (first | (with_reducible first | exact HB.out | apply below_alloc | apply pw_below_drewN | apply below_drew1) | exact HB.out)) hb); have n1_ := Aside0.mk (hbox); have n2_ := Aside0.mk ((by rw [hg]; exact (below_size (by repeat (first | (with_reducible first | exact HB.out | apply below_alloc | apply pw_below_drewN | apply below_drew1) | exact HB.out))) : w.heap.size ≤ gb107)); have n3_ := Aside0.mk ((by rw [hg]; exact (below_size (by repeat (first | (with_reducible first | exact HB.out | apply below_alloc | apply pw_below_drewN | apply below_drew1) | exact HB.out))) : w.heap.size ≤ gb107)); clear HB; have HB := n0_; have BK107 := n1_; have GW107 := n2_; have GE107 := n3_; clear n0_ n1_ n2_ n3_; clear hb hbox hg; have hcz5_0 : w4.cell? ⟨gb107, 0, none⟩ = some (.slice A0_0 l0_0.length c0_0) := (blk_cell BK107.out 0).trans rfl; have hfz5_0 := blk_frozen BK107.out 0) | (go_at_call 59; (with_reducible refine (cpset_Make.calls _ _ l0_0 t108 _ ?side1 ?side2 A2.out).mono ?_); (case side1 => repeat (first | exact (Kd.C_below HR0_0.out HB.out) | (with_reducible refine Kd.C_alloc ?_ _) | (with_reducible refine Kd.C_drewN ?_ _) | (with_reducible refine Kd.C_drew ?_))); (case side2 => exact HC0_0.out); rintro e w6 ⟨v109, rfl, ho0, hb⟩; have n0_ := Aside0.mk (Kd.R_lower ho0 (below_size (by repeat (first | (with_reducible first | exact HB.out | apply below_alloc | apply pw_below_drewN | apply below_drew1 | refine below_set ?_ GE107.out) | exact HB.out)))); have n1_ := Aside0.mk (blk_below (g := gb107) (o := .cells #[.slice A0_0 l0_0.length c0_0] 45 (0, 0)) (by (with_reducible repeat (first | refine blk_drewN ?_ _ | refine blk_drew ?_ | refine blk_alloc ?_ _)); exact BK107.out) hb); have n2_ := Aside0.mk (below_step (by repeat (first | (with_reducible first | exact HB.out | apply below_alloc | apply pw_below_drewN | apply below_drew1 | refine below_set ?_ GE107.out) | exact HB.out)) hb); clear BK107; clear HB; have HO110 := n0_; have BK107 := n1_; have HB := n2_; clear n0_ n1_ n2_; (try clear hb); (try clear hb2); (try clear hk); (try clear hi); (try clear ho0); obtain ⟨Ao7, co7, eo7⟩ := Kd.R_slice HO110.out; subst eo7; have hcz8_0 : w6.cell? ⟨gb107, 0, none⟩ = some (.slice A0_0 l0_0.length c0_0) := (blk_cell BK107.out 0).trans rfl; have hfz8_0 := blk_frozen BK107.out 0)); try go_wp2_with (first | ((with_reducible refine gate_dst (N := 1) rfl ?_); refine box_event ?hg (N := 1) ?hd (cs := #[.slice A0_0 l0_0.length c0_0]) (t := 45) ?hr ?_; (case hd => rfl); (case hg => rfl); (case hr => first | (go_simp; done) | (go_simp; rfl)); intro gb107 hg w4 hbox hb; have n0_ := Aside0.mk (below_step (by repeat (first | (with_reducible first | exact HB.out | apply below_alloc | apply pw_below_drewN | apply below_drew1) | exact HB.out)) hb); have n1_ := Aside0.mk (hbox); have n2_ := Aside0.mk ((by rw [hg]; exact (below_size (by repeat (first | (with_reducible first | exact HB.out | apply below_alloc | apply pw_below_drewN | apply below_drew1) | exact HB.out))) : w.heap.size ≤ gb107)); have n3_ := Aside0.mk ((by rw [hg]; exact (below_size (by repeat (first | (with_reducible first | exact HB.out | apply below_alloc | apply pw_below_drewN | apply below_drew1) | exact HB.out))) : w.heap.size ≤ gb107)); clear HB; have HB := n0_; have BK107 := n1_; have GW107 := n2_; have GE107 := n3_; clear n0_ n1_ n2_ n3_; clear hb hbox hg; have hcz5_0 : w4.cell? ⟨gb107, 0, none⟩ = some (.slice A0_0 l0_0.length c0_0) := (blk_cell BK107.out 0).trans rfl; have hfz5_0 := blk_frozen BK107.out 0) | (go_at_call 59; (with_reducible refine (cpset_Make.calls _ _ l0_0 t108 _ ?side1 ?side2 A2.out).mono ?_); (case side1 => repeat (first | exact (Kd.C_below HR0_0.out HB.out) | (with_reducible refine Kd.C_alloc ?_ _) | (with_reducible refine Kd.C_drewN ?_ _) | (with_reducible refine Kd.C_drew ?_))); (case side2 => exact HC0_0.out); rintro e w6 ⟨v109, rfl, ho0, hb⟩; have n0_ := Aside0.mk (Kd.R_lower ho0 (below_size (by repeat (first | (with_reducible first | exact HB.out | apply below_alloc | apply pw_below_drewN | apply below_drew1 | refine below_set ?_ GE107.out) | exact HB.out)))); have n1_ := Aside0.mk (blk_below (g := gb107) (o := .cells #[.slice A0_0 l0_0.length c0_0] 45 (0, 0)) (by (with_reducible repeat (first | refine blk_drewN ?_ _ | refine blk_drew ?_ | refine blk_alloc ?_ _)); exact BK107.out) hb); have n2_ := Aside0.mk (below_step (by repeat (first | (with_reducible first | exact HB.out | apply below_alloc | apply pw_below_drewN | apply below_drew1 | refine below_set ?_ GE107.out) | exact HB.out)) hb); clear BK107; clear HB; have HO110 := n0_; have BK107 := n1_; have HB := n2_; clear n0_ n1_ n2_; (try clear hb); (try clear hb2); (try clear hk); (try clear hi); (try clear ho0); obtain ⟨Ao7, co7, eo7⟩ := Kd.R_slice HO110.out; subst eo7; have hcz8_0 : w6.cell? ⟨gb107, 0, none⟩ = some (.slice A0_0 l0_0.length c0_0) := (blk_cell BK107.out 0).trans rfl; have hfz8_0 := blk_frozen BK107.out 0)))
    go_loopg [18] k (fun kq v18 w' => ∃ (x18_1 : Int), v18 = .int .i64 x18_1 ∧ Aside0 (cpset_Valid.l0 kq t108 (t108.length : Int) x18_1 l0_0 = some r) ∧ Aside0 (kq ≤ k) ∧ Aside0 (Kd.R k69 69 w' w.heap.size (fun _ => True) (.slice Ao7 t108.length co7) t108) ∧ Aside0 (w'.heap[gb107]? = some (.cells #[(.slice A0_0 l0_0.length c0_0)] 45 (0, 0))) ∧ Aside0 (Below w.heap.size w w'))
    case atStart => exact ⟨(0), (by first | rfl | (simp; done) | (simp [*]; done)), H', ⟨Nat.le_refl _⟩, ⟨by (with_reducible repeat (first | apply Kd.R_alloc | apply Kd.R_drewN | apply Kd.R_drew)); exact HO110.out⟩, ⟨by (with_reducible repeat (first | refine blk_drewN ?_ _ | refine blk_drew ?_ | refine blk_alloc ?_ _)); exact BK107.out⟩, ⟨by repeat (first | (with_reducible first | exact HB.out | apply below_alloc | apply pw_below_drewN | apply below_drew1 | refine below_set ?_ GE107.out) | exact HB.out)⟩⟩
    case round =>
      clear H'
      try clear p2
      try clear c3
      try clear c3b0
      try clear c3b1
      try clear c3b2
      try clear c5
      try clear hcz5_0
      try clear hcz8_0
      try clear hfz5_0
      try clear hfz8_0
      obtain ⟨x18_1, rfl, HA, HK1, HO_16, BK107, HB⟩ := hrel
      cases gk with
      | zero => exact absurd HA.out (by simp [cpset_Valid.l0])
      | succ k1 =>
        have H := HA.out
        clear HA
        simp only [cpset_Valid.l0] at H
        by_cases c9 : x18_1 < (t108.length : Int)
        · rw [if_pos c9] at H
          have c9b0 : decide (x18_1 < (t108.length : Int)) = true := decide_eq_true c9
          clear c9
          by_cases c10 : 0 ≤ x18_1
          · rw [if_pos c10] at H
            have c10b0 : decide (0 ≤ x18_1) = true := decide_eq_true c10
            clear c10
            by_cases c11 : x18_1 < (t108.length : Int)
            · rw [if_pos c11] at H
              have c11b0 : decide (x18_1 < (t108.length : Int)) = true := decide_eq_true c11
              clear c11
              by_cases c12 : x18_1 < (l0_0.length : Int)
              · rw [if_pos c12] at H
                have c12b0 : decide (x18_1 < (l0_0.length : Int)) = true := decide_eq_true c12
                clear c12
                by_cases c13 : (!(((rd_T69 t108 x18_1).f0) == ((rd_T69 l0_0 x18_1).f0)) || (!(((rd_T69 t108 x18_1).f1) == ((rd_T69 l0_0 x18_1).f1)))) = true
                · rw [if_pos c13] at H
                  have c13b0 : (!(((rd_T69 t108 x18_1).f0) == ((rd_T69 l0_0 x18_1).f0)) || (!(((rd_T69 t108 x18_1).f1) == ((rd_T69 l0_0 x18_1).f1)))) = true := c13
                  clear c13
                  obtain rfl := Option.some.inj H
                  have p111 : 0 ≤ (x18_1 : Int) := of_decide_eq_true (by first | (with_reducible assumption) | assumption)
                  have q111 : x18_1 < (t108.length : Int) := of_decide_eq_true (by first | (with_reducible assumption) | assumption)
                  obtain ⟨ad111, e111, hx111_0, hx111_1⟩ := at_T69 (Kd.R_reads' HO_16.out).2.2 x18_1 p111 q111
                  cases e111
                  replace p111 := eq_true p111
                  replace q111 := eq_true q111
                  go_wp2_with (first | ((with_reducible refine gate_dst (N := 5) rfl ?_); refine box_event ?hg (N := 5) ?hd (cs := #[.int .i64 0, .int .i64 0]) (t := 69) ?hr ?_; (case hd => rfl); (case hg => rfl); (case hr => first | (go_simp; done) | (go_simp; rfl)); intro gb112 hg w14 hbox hb; have n0_ := Aside0.mk (Kd.R_below (Kd.R_elderB (by (with_reducible repeat (first | apply Kd.R_alloc | apply Kd.R_drewN | apply Kd.R_drew)); exact HO_16.out) gb112 (Nat.le_of_eq hg.symm)) hb); have n1_ := Aside0.mk (blk_below (g := gb107) (o := .cells #[.slice A0_0 l0_0.length c0_0] 45 (0, 0)) (by (with_reducible repeat (first | refine blk_drewN ?_ _ | refine blk_drew ?_ | refine blk_alloc ?_ _)); exact BK107.out) hb); have n2_ := Aside0.mk (below_step (by repeat (first | (with_reducible first | exact HB.out | apply below_alloc | apply pw_below_drewN | apply below_drew1 | refine below_set ?_ GE107.out) | exact HB.out)) hb); have n3_ := Aside0.mk (hbox); have n4_ := Aside0.mk ((by rw [hg]; exact (below_size (by repeat (first | (with_reducible first | exact HB.out | apply below_alloc | apply pw_below_drewN | apply below_drew1 | refine below_set ?_ GE107.out) | exact HB.out))) : w.heap.size ≤ gb112)); have n5_ := Aside0.mk ((by rw [hg]; exact (below_size (by repeat (first | (with_reducible first | exact HB.out | apply below_alloc | apply pw_below_drewN | apply below_drew1 | refine below_set ?_ GE107.out) | exact HB.out))) : w.heap.size ≤ gb112)); have n6_ := Aside0.mk ((by rw [hg]; exact Nat.ne_of_lt (blk_lt (g := gb107) (o := .cells #[.slice A0_0 l0_0.length c0_0] 45 (0, 0)) (by (with_reducible repeat (first | refine blk_drewN ?_ _ | refine blk_drew ?_ | refine blk_alloc ?_ _)); exact BK107.out)) : gb107 ≠ gb112)); have n7_ := Aside0.mk ((by rw [hg]; exact Nat.ne_of_gt (blk_lt (g := gb107) (o := .cells #[.slice A0_0 l0_0.length c0_0] 45 (0, 0)) (by (with_reducible repeat (first | refine blk_drewN ?_ _ | refine blk_drew ?_ | refine blk_alloc ?_ _)); exact BK107.out)) : gb112 ≠ gb107)); clear HO_16; clear BK107; clear HB; have HO_16 := n0_; have BK107 := n1_; have HB := n2_; have BK112 := n3_; have GW112 := n4_; have GE112 := n5_; have NB107_112 := n6_; have NB112_107 := n7_; clear n0_ n1_ n2_ n3_ n4_ n5_ n6_ n7_; clear hb hbox hg; have hnb15 := NB112_107.out; have hnc15 := NB107_112.out; have hcz16_0 : w14.cell? ⟨gb112, 0, none⟩ = some (.int .i64 0) := (blk_cell BK112.out 0).trans rfl; have hcz16_1 : w14.cell? ⟨gb112, 1, none⟩ = some (.int .i64 0) := (blk_cell BK112.out 1).trans rfl; have hfz16_0 := blk_frozen BK112.out 0; have hfz16_1 := blk_frozen BK112.out 1; have hcz17_0 : w14.cell? ⟨gb107, 0, none⟩ = some (.slice A0_0 l0_0.length c0_0) := (blk_cell BK107.out 0).trans rfl; have hfz17_0 := blk_frozen BK107.out 0; have p113 : 0 ≤ (x18_1 : Int) := of_decide_eq_true (by first | (with_reducible assumption) | assumption); have q113 : x18_1 < (l0_0.length : Int) := of_decide_eq_true (by first | (with_reducible assumption) | assumption); obtain ⟨ad113, e113, hx113_0, hx113_1⟩ := at_T69 HR0_0.out x18_1 p113 q113; cases e113; have hn113_0 : ad113.block ≠ gb112 := Nat.ne_of_lt (Nat.lt_of_lt_of_le (by have := World.block_lt_of_cell? _ _ hx113_0; first | rwa [add_block] at this | exact this) GW112.out); have hn113_1 : ad113.block ≠ gb112 := Nat.ne_of_lt (Nat.lt_of_lt_of_le (by have := World.block_lt_of_cell? _ _ hx113_0; first | rwa [add_block] at this | exact this) GW112.out); replace hx113_0 := (HB.out.cell (World.block_lt_of_cell? w _ hx113_0)).trans hx113_0; replace hx113_1 := (HB.out.cell (World.block_lt_of_cell? w _ hx113_1)).trans hx113_1; replace hx113_0 := (cell_far (p := ⟨gb112, 0, none⟩) (by first | (rw [add_block]; exact hn113_0) | (show (Addr.add _ _).block ≠ _; rw [add_block]; exact hn113_0) | exact hn113_0) (.int .i64 ((rd_T69 t108 x18_1).f0))).trans hx113_0; replace hx113_1 := (cell_far (p := ⟨gb112, 0, none⟩) (by first | (rw [add_block]; exact hn113_0) | (show (Addr.add _ _).block ≠ _; rw [add_block]; exact hn113_0) | exact hn113_0) (.int .i64 ((rd_T69 t108 x18_1).f0))).trans hx113_1; replace hx113_0 := (cell_far (p := ⟨gb112, 1, none⟩) (by first | (rw [add_block]; exact hn113_1) | (show (Addr.add _ _).block ≠ _; rw [add_block]; exact hn113_1) | exact hn113_1) (.int .i64 ((rd_T69 t108 x18_1).f1))).trans hx113_0; replace hx113_1 := (cell_far (p := ⟨gb112, 1, none⟩) (by first | (rw [add_block]; exact hn113_1) | (show (Addr.add _ _).block ≠ _; rw [add_block]; exact hn113_1) | exact hn113_1) (.int .i64 ((rd_T69 t108 x18_1).f1))).trans hx113_1; (try have hy113_0 := fun (n_ : Nat) => (show ((((w14.drewN n_).setCell ⟨gb112, 0, none⟩ (.int .i64 ((rd_T69 t108 x18_1).f0))).setCell ⟨gb112, 1, none⟩ (.int .i64 ((rd_T69 t108 x18_1).f1)))).cell? _ = some _ from hx113_0)); (try have hy113_1 := fun (n_ : Nat) => (show ((((w14.drewN n_).setCell ⟨gb112, 0, none⟩ (.int .i64 ((rd_T69 t108 x18_1).f0))).setCell ⟨gb112, 1, none⟩ (.int .i64 ((rd_T69 t108 x18_1).f1)))).cell? _ = some _ from hx113_1)); clear hn113_0; clear hn113_1; replace p113 := eq_true p113; replace q113 := eq_true q113))
                  repeat (go_quiet (first | ((with_reducible refine gate_dst (N := 5) rfl ?_); refine box_event ?hg (N := 5) ?hd (cs := #[.int .i64 0, .int .i64 0]) (t := 69) ?hr ?_; (case hd => rfl); (case hg => rfl); (case hr => first | (go_simp; done) | (go_simp; rfl)); intro gb112 hg w14 hbox hb; have n0_ := Aside0.mk (Kd.R_below (Kd.R_elderB (by (with_reducible repeat (first | apply Kd.R_alloc | apply Kd.R_drewN | apply Kd.R_drew)); exact HO_16.out) gb112 (Nat.le_of_eq hg.symm)) hb); have n1_ := Aside0.mk (blk_below (g := gb107) (o := .cells #[.slice A0_0 l0_0.length c0_0] 45 (0, 0)) (by (with_reducible repeat (first | refine blk_drewN ?_ _ | refine blk_drew ?_ | refine blk_alloc ?_ _)); exact BK107.out) hb); have n2_ := Aside0.mk (below_step (by repeat (first | (with_reducible first | exact HB.out | apply below_alloc | apply pw_below_drewN | apply below_drew1 | refine below_set ?_ GE107.out) | exact HB.out)) hb); have n3_ := Aside0.mk (hbox); have n4_ := Aside0.mk ((by rw [hg]; exact (below_size (by repeat (first | (with_reducible first | exact HB.out | apply below_alloc | apply pw_below_drewN | apply below_drew1 | refine below_set ?_ GE107.out) | exact HB.out))) : w.heap.size ≤ gb112)); have n5_ := Aside0.mk ((by rw [hg]; exact (below_size (by repeat (first | (with_reducible first | exact HB.out | apply below_alloc | apply pw_below_drewN | apply below_drew1 | refine below_set ?_ GE107.out) | exact HB.out))) : w.heap.size ≤ gb112)); have n6_ := Aside0.mk ((by rw [hg]; exact Nat.ne_of_lt (blk_lt (g := gb107) (o := .cells #[.slice A0_0 l0_0.length c0_0] 45 (0, 0)) (by (with_reducible repeat (first | refine blk_drewN ?_ _ | refine blk_drew ?_ | refine blk_alloc ?_ _)); exact BK107.out)) : gb107 ≠ gb112)); have n7_ := Aside0.mk ((by rw [hg]; exact Nat.ne_of_gt (blk_lt (g := gb107) (o := .cells #[.slice A0_0 l0_0.length c0_0] 45 (0, 0)) (by (with_reducible repeat (first | refine blk_drewN ?_ _ | refine blk_drew ?_ | refine blk_alloc ?_ _)); exact BK107.out)) : gb112 ≠ gb107)); clear HO_16; clear BK107; clear HB; have HO_16 := n0_; have BK107 := n1_; have HB := n2_; have BK112 := n3_; have GW112 := n4_; have GE112 := n5_; have NB107_112 := n6_; have NB112_107 := n7_; clear n0_ n1_ n2_ n3_ n4_ n5_ n6_ n7_; clear hb hbox hg; have hnb15 := NB112_107.out; have hnc15 := NB107_112.out; have hcz16_0 : w14.cell? ⟨gb112, 0, none⟩ = some (.int .i64 0) := (blk_cell BK112.out 0).trans rfl; have hcz16_1 : w14.cell? ⟨gb112, 1, none⟩ = some (.int .i64 0) := (blk_cell BK112.out 1).trans rfl; have hfz16_0 := blk_frozen BK112.out 0; have hfz16_1 := blk_frozen BK112.out 1; have hcz17_0 : w14.cell? ⟨gb107, 0, none⟩ = some (.slice A0_0 l0_0.length c0_0) := (blk_cell BK107.out 0).trans rfl; have hfz17_0 := blk_frozen BK107.out 0; have p113 : 0 ≤ (x18_1 : Int) := of_decide_eq_true (by first | (with_reducible assumption) | assumption); have q113 : x18_1 < (l0_0.length : Int) := of_decide_eq_true (by first | (with_reducible assumption) | assumption); obtain ⟨ad113, e113, hx113_0, hx113_1⟩ := at_T69 HR0_0.out x18_1 p113 q113; cases e113; have hn113_0 : ad113.block ≠ gb112 := Nat.ne_of_lt (Nat.lt_of_lt_of_le (by have := World.block_lt_of_cell? _ _ hx113_0; first | rwa [add_block] at this | exact this) GW112.out); have hn113_1 : ad113.block ≠ gb112 := Nat.ne_of_lt (Nat.lt_of_lt_of_le (by have := World.block_lt_of_cell? _ _ hx113_0; first | rwa [add_block] at this | exact this) GW112.out); replace hx113_0 := (HB.out.cell (World.block_lt_of_cell? w _ hx113_0)).trans hx113_0; replace hx113_1 := (HB.out.cell (World.block_lt_of_cell? w _ hx113_1)).trans hx113_1; replace hx113_0 := (cell_far (p := ⟨gb112, 0, none⟩) (by first | (rw [add_block]; exact hn113_0) | (show (Addr.add _ _).block ≠ _; rw [add_block]; exact hn113_0) | exact hn113_0) (.int .i64 ((rd_T69 t108 x18_1).f0))).trans hx113_0; replace hx113_1 := (cell_far (p := ⟨gb112, 0, none⟩) (by first | (rw [add_block]; exact hn113_0) | (show (Addr.add _ _).block ≠ _; rw [add_block]; exact hn113_0) | exact hn113_0) (.int .i64 ((rd_T69 t108 x18_1).f0))).trans hx113_1; replace hx113_0 := (cell_far (p := ⟨gb112, 1, none⟩) (by first | (rw [add_block]; exact hn113_1) | (show (Addr.add _ _).block ≠ _; rw [add_block]; exact hn113_1) | exact hn113_1) (.int .i64 ((rd_T69 t108 x18_1).f1))).trans hx113_0; replace hx113_1 := (cell_far (p := ⟨gb112, 1, none⟩) (by first | (rw [add_block]; exact hn113_1) | (show (Addr.add _ _).block ≠ _; rw [add_block]; exact hn113_1) | exact hn113_1) (.int .i64 ((rd_T69 t108 x18_1).f1))).trans hx113_1; (try have hy113_0 := fun (n_ : Nat) => (show ((((w14.drewN n_).setCell ⟨gb112, 0, none⟩ (.int .i64 ((rd_T69 t108 x18_1).f0))).setCell ⟨gb112, 1, none⟩ (.int .i64 ((rd_T69 t108 x18_1).f1)))).cell? _ = some _ from hx113_0)); (try have hy113_1 := fun (n_ : Nat) => (show ((((w14.drewN n_).setCell ⟨gb112, 0, none⟩ (.int .i64 ((rd_T69 t108 x18_1).f0))).setCell ⟨gb112, 1, none⟩ (.int .i64 ((rd_T69 t108 x18_1).f1)))).cell? _ = some _ from hx113_1)); clear hn113_0; clear hn113_1; replace p113 := eq_true p113; replace q113 := eq_true q113)); try go_wp2_with (first | ((with_reducible refine gate_dst (N := 5) rfl ?_); refine box_event ?hg (N := 5) ?hd (cs := #[.int .i64 0, .int .i64 0]) (t := 69) ?hr ?_; (case hd => rfl); (case hg => rfl); (case hr => first | (go_simp; done) | (go_simp; rfl)); intro gb112 hg w14 hbox hb; have n0_ := Aside0.mk (Kd.R_below (Kd.R_elderB (by (with_reducible repeat (first | apply Kd.R_alloc | apply Kd.R_drewN | apply Kd.R_drew)); exact HO_16.out) gb112 (Nat.le_of_eq hg.symm)) hb); have n1_ := Aside0.mk (blk_below (g := gb107) (o := .cells #[.slice A0_0 l0_0.length c0_0] 45 (0, 0)) (by (with_reducible repeat (first | refine blk_drewN ?_ _ | refine blk_drew ?_ | refine blk_alloc ?_ _)); exact BK107.out) hb); have n2_ := Aside0.mk (below_step (by repeat (first | (with_reducible first | exact HB.out | apply below_alloc | apply pw_below_drewN | apply below_drew1 | refine below_set ?_ GE107.out) | exact HB.out)) hb); have n3_ := Aside0.mk (hbox); have n4_ := Aside0.mk ((by rw [hg]; exact (below_size (by repeat (first | (with_reducible first | exact HB.out | apply below_alloc | apply pw_below_drewN | apply below_drew1 | refine below_set ?_ GE107.out) | exact HB.out))) : w.heap.size ≤ gb112)); have n5_ := Aside0.mk ((by rw [hg]; exact (below_size (by repeat (first | (with_reducible first | exact HB.out | apply below_alloc | apply pw_below_drewN | apply below_drew1 | refine below_set ?_ GE107.out) | exact HB.out))) : w.heap.size ≤ gb112)); have n6_ := Aside0.mk ((by rw [hg]; exact Nat.ne_of_lt (blk_lt (g := gb107) (o := .cells #[.slice A0_0 l0_0.length c0_0] 45 (0, 0)) (by (with_reducible repeat (first | refine blk_drewN ?_ _ | refine blk_drew ?_ | refine blk_alloc ?_ _)); exact BK107.out)) : gb107 ≠ gb112)); have n7_ := Aside0.mk ((by rw [hg]; exact Nat.ne_of_gt (blk_lt (g := gb107) (o := .cells #[.slice A0_0 l0_0.length c0_0] 45 (0, 0)) (by (with_reducible repeat (first | refine blk_drewN ?_ _ | refine blk_drew ?_ | refine blk_alloc ?_ _)); exact BK107.out)) : gb112 ≠ gb107)); clear HO_16; clear BK107; clear HB; have HO_16 := n0_; have BK107 := n1_; have HB := n2_; have BK112 := n3_; have GW112 := n4_; have GE112 := n5_; have NB107_112 := n6_; have NB112_107 := n7_; clear n0_ n1_ n2_ n3_ n4_ n5_ n6_ n7_; clear hb hbox hg; have hnb15 := NB112_107.out; have hnc15 := NB107_112.out; have hcz16_0 : w14.cell? ⟨gb112, 0, none⟩ = some (.int .i64 0) := (blk_cell BK112.out 0).trans rfl; have hcz16_1 : w14.cell? ⟨gb112, 1, none⟩ = some (.int .i64 0) := (blk_cell BK112.out 1).trans rfl; have hfz16_0 := blk_frozen BK112.out 0; have hfz16_1 := blk_frozen BK112.out 1; have hcz17_0 : w14.cell? ⟨gb107, 0, none⟩ = some (.slice A0_0 l0_0.length c0_0) := (blk_cell BK107.out 0).trans rfl; have hfz17_0 := blk_frozen BK107.out 0; have p113 : 0 ≤ (x18_1 : Int) := of_decide_eq_true (by first | (with_reducible assumption) | assumption); have q113 : x18_1 < (l0_0.length : Int) := of_decide_eq_true (by first | (with_reducible assumption) | assumption); obtain ⟨ad113, e113, hx113_0, hx113_1⟩ := at_T69 HR0_0.out x18_1 p113 q113; cases e113; have hn113_0 : ad113.block ≠ gb112 := Nat.ne_of_lt (Nat.lt_of_lt_of_le (by have := World.block_lt_of_cell? _ _ hx113_0; first | rwa [add_block] at this | exact this) GW112.out); have hn113_1 : ad113.block ≠ gb112 := Nat.ne_of_lt (Nat.lt_of_lt_of_le (by have := World.block_lt_of_cell? _ _ hx113_0; first | rwa [add_block] at this | exact this) GW112.out); replace hx113_0 := (HB.out.cell (World.block_lt_of_cell? w _ hx113_0)).trans hx113_0; replace hx113_1 := (HB.out.cell (World.block_lt_of_cell? w _ hx113_1)).trans hx113_1; replace hx113_0 := (cell_far (p := ⟨gb112, 0, none⟩) (by first | (rw [add_block]; exact hn113_0) | (show (Addr.add _ _).block ≠ _; rw [add_block]; exact hn113_0) | exact hn113_0) (.int .i64 ((rd_T69 t108 x18_1).f0))).trans hx113_0; replace hx113_1 := (cell_far (p := ⟨gb112, 0, none⟩) (by first | (rw [add_block]; exact hn113_0) | (show (Addr.add _ _).block ≠ _; rw [add_block]; exact hn113_0) | exact hn113_0) (.int .i64 ((rd_T69 t108 x18_1).f0))).trans hx113_1; replace hx113_0 := (cell_far (p := ⟨gb112, 1, none⟩) (by first | (rw [add_block]; exact hn113_1) | (show (Addr.add _ _).block ≠ _; rw [add_block]; exact hn113_1) | exact hn113_1) (.int .i64 ((rd_T69 t108 x18_1).f1))).trans hx113_0; replace hx113_1 := (cell_far (p := ⟨gb112, 1, none⟩) (by first | (rw [add_block]; exact hn113_1) | (show (Addr.add _ _).block ≠ _; rw [add_block]; exact hn113_1) | exact hn113_1) (.int .i64 ((rd_T69 t108 x18_1).f1))).trans hx113_1; (try have hy113_0 := fun (n_ : Nat) => (show ((((w14.drewN n_).setCell ⟨gb112, 0, none⟩ (.int .i64 ((rd_T69 t108 x18_1).f0))).setCell ⟨gb112, 1, none⟩ (.int .i64 ((rd_T69 t108 x18_1).f1)))).cell? _ = some _ from hx113_0)); (try have hy113_1 := fun (n_ : Nat) => (show ((((w14.drewN n_).setCell ⟨gb112, 0, none⟩ (.int .i64 ((rd_T69 t108 x18_1).f0))).setCell ⟨gb112, 1, none⟩ (.int .i64 ((rd_T69 t108 x18_1).f1)))).cell? _ = some _ from hx113_1)); clear hn113_0; clear hn113_1; replace p113 := eq_true p113; replace q113 := eq_true q113)))
                  go_ret
                  exact ⟨by first | rfl | (simp [errW_none, errW_some] <;> rfl) | (simp [*, errW_none, errW_some] <;> rfl), by repeat (first | (with_reducible first | exact HB.out | apply below_alloc | apply pw_below_drewN | apply below_drew1 | refine below_set ?_ GE107.out | refine below_set ?_ GE112.out) | exact HB.out)⟩
                · rw [if_neg c13] at H
                  have c13b0 : (!(((rd_T69 t108 x18_1).f0) == ((rd_T69 l0_0 x18_1).f0)) || (!(((rd_T69 t108 x18_1).f1) == ((rd_T69 l0_0 x18_1).f1)))) = false := by simpa using c13
                  clear c13
                  have H' := Aside0.mk H
                  clear H
                  have p111 : 0 ≤ (x18_1 : Int) := of_decide_eq_true (by first | (with_reducible assumption) | assumption)
                  have q111 : x18_1 < (t108.length : Int) := of_decide_eq_true (by first | (with_reducible assumption) | assumption)
                  obtain ⟨ad111, e111, hx111_0, hx111_1⟩ := at_T69 (Kd.R_reads' HO_16.out).2.2 x18_1 p111 q111
                  cases e111
                  replace p111 := eq_true p111
                  replace q111 := eq_true q111
                  go_wp2_with (first | ((with_reducible refine gate_dst (N := 5) rfl ?_); refine box_event ?hg (N := 5) ?hd (cs := #[.int .i64 0, .int .i64 0]) (t := 69) ?hr ?_; (case hd => rfl); (case hg => rfl); (case hr => first | (go_simp; done) | (go_simp; rfl)); intro gb112 hg w18 hbox hb; have n0_ := Aside0.mk (Kd.R_below (Kd.R_elderB (by (with_reducible repeat (first | apply Kd.R_alloc | apply Kd.R_drewN | apply Kd.R_drew)); exact HO_16.out) gb112 (Nat.le_of_eq hg.symm)) hb); have n1_ := Aside0.mk (blk_below (g := gb107) (o := .cells #[.slice A0_0 l0_0.length c0_0] 45 (0, 0)) (by (with_reducible repeat (first | refine blk_drewN ?_ _ | refine blk_drew ?_ | refine blk_alloc ?_ _)); exact BK107.out) hb); have n2_ := Aside0.mk (below_step (by repeat (first | (with_reducible first | exact HB.out | apply below_alloc | apply pw_below_drewN | apply below_drew1 | refine below_set ?_ GE107.out) | exact HB.out)) hb); have n3_ := Aside0.mk (hbox); have n4_ := Aside0.mk ((by rw [hg]; exact (below_size (by repeat (first | (with_reducible first | exact HB.out | apply below_alloc | apply pw_below_drewN | apply below_drew1 | refine below_set ?_ GE107.out) | exact HB.out))) : w.heap.size ≤ gb112)); have n5_ := Aside0.mk ((by rw [hg]; exact (below_size (by repeat (first | (with_reducible first | exact HB.out | apply below_alloc | apply pw_below_drewN | apply below_drew1 | refine below_set ?_ GE107.out) | exact HB.out))) : w.heap.size ≤ gb112)); have n6_ := Aside0.mk ((by rw [hg]; exact Nat.ne_of_lt (blk_lt (g := gb107) (o := .cells #[.slice A0_0 l0_0.length c0_0] 45 (0, 0)) (by (with_reducible repeat (first | refine blk_drewN ?_ _ | refine blk_drew ?_ | refine blk_alloc ?_ _)); exact BK107.out)) : gb107 ≠ gb112)); have n7_ := Aside0.mk ((by rw [hg]; exact Nat.ne_of_gt (blk_lt (g := gb107) (o := .cells #[.slice A0_0 l0_0.length c0_0] 45 (0, 0)) (by (with_reducible repeat (first | refine blk_drewN ?_ _ | refine blk_drew ?_ | refine blk_alloc ?_ _)); exact BK107.out)) : gb112 ≠ gb107)); clear HO_16; clear BK107; clear HB; have HO_16 := n0_; have BK107 := n1_; have HB := n2_; have BK112 := n3_; have GW112 := n4_; have GE112 := n5_; have NB107_112 := n6_; have NB112_107 := n7_; clear n0_ n1_ n2_ n3_ n4_ n5_ n6_ n7_; clear hb hbox hg; have hnb19 := NB112_107.out; have hnc19 := NB107_112.out; have hcz20_0 : w18.cell? ⟨gb112, 0, none⟩ = some (.int .i64 0) := (blk_cell BK112.out 0).trans rfl; have hcz20_1 : w18.cell? ⟨gb112, 1, none⟩ = some (.int .i64 0) := (blk_cell BK112.out 1).trans rfl; have hfz20_0 := blk_frozen BK112.out 0; have hfz20_1 := blk_frozen BK112.out 1; have hcz21_0 : w18.cell? ⟨gb107, 0, none⟩ = some (.slice A0_0 l0_0.length c0_0) := (blk_cell BK107.out 0).trans rfl; have hfz21_0 := blk_frozen BK107.out 0; have p113 : 0 ≤ (x18_1 : Int) := of_decide_eq_true (by first | (with_reducible assumption) | assumption); have q113 : x18_1 < (l0_0.length : Int) := of_decide_eq_true (by first | (with_reducible assumption) | assumption); obtain ⟨ad113, e113, hx113_0, hx113_1⟩ := at_T69 HR0_0.out x18_1 p113 q113; cases e113; have hn113_0 : ad113.block ≠ gb112 := Nat.ne_of_lt (Nat.lt_of_lt_of_le (by have := World.block_lt_of_cell? _ _ hx113_0; first | rwa [add_block] at this | exact this) GW112.out); have hn113_1 : ad113.block ≠ gb112 := Nat.ne_of_lt (Nat.lt_of_lt_of_le (by have := World.block_lt_of_cell? _ _ hx113_0; first | rwa [add_block] at this | exact this) GW112.out); replace hx113_0 := (HB.out.cell (World.block_lt_of_cell? w _ hx113_0)).trans hx113_0; replace hx113_1 := (HB.out.cell (World.block_lt_of_cell? w _ hx113_1)).trans hx113_1; replace hx113_0 := (cell_far (p := ⟨gb112, 0, none⟩) (by first | (rw [add_block]; exact hn113_0) | (show (Addr.add _ _).block ≠ _; rw [add_block]; exact hn113_0) | exact hn113_0) (.int .i64 ((rd_T69 t108 x18_1).f0))).trans hx113_0; replace hx113_1 := (cell_far (p := ⟨gb112, 0, none⟩) (by first | (rw [add_block]; exact hn113_0) | (show (Addr.add _ _).block ≠ _; rw [add_block]; exact hn113_0) | exact hn113_0) (.int .i64 ((rd_T69 t108 x18_1).f0))).trans hx113_1; replace hx113_0 := (cell_far (p := ⟨gb112, 1, none⟩) (by first | (rw [add_block]; exact hn113_1) | (show (Addr.add _ _).block ≠ _; rw [add_block]; exact hn113_1) | exact hn113_1) (.int .i64 ((rd_T69 t108 x18_1).f1))).trans hx113_0; replace hx113_1 := (cell_far (p := ⟨gb112, 1, none⟩) (by first | (rw [add_block]; exact hn113_1) | (show (Addr.add _ _).block ≠ _; rw [add_block]; exact hn113_1) | exact hn113_1) (.int .i64 ((rd_T69 t108 x18_1).f1))).trans hx113_1; (try have hy113_0 := fun (n_ : Nat) => (show ((((w18.drewN n_).setCell ⟨gb112, 0, none⟩ (.int .i64 ((rd_T69 t108 x18_1).f0))).setCell ⟨gb112, 1, none⟩ (.int .i64 ((rd_T69 t108 x18_1).f1)))).cell? _ = some _ from hx113_0)); (try have hy113_1 := fun (n_ : Nat) => (show ((((w18.drewN n_).setCell ⟨gb112, 0, none⟩ (.int .i64 ((rd_T69 t108 x18_1).f0))).setCell ⟨gb112, 1, none⟩ (.int .i64 ((rd_T69 t108 x18_1).f1)))).cell? _ = some _ from hx113_1)); clear hn113_0; clear hn113_1; replace p113 := eq_true p113; replace q113 := eq_true q113))
                  repeat (go_quiet (first | ((with_reducible refine gate_dst (N := 5) rfl ?_); refine box_event ?hg (N := 5) ?hd (cs := #[.int .i64 0, .int .i64 0]) (t := 69) ?hr ?_; (case hd => rfl); (case hg => rfl); (case hr => first | (go_simp; done) | (go_simp; rfl)); intro gb112 hg w18 hbox hb; have n0_ := Aside0.mk (Kd.R_below (Kd.R_elderB (by (with_reducible repeat (first | apply Kd.R_alloc | apply Kd.R_drewN | apply Kd.R_drew)); exact HO_16.out) gb112 (Nat.le_of_eq hg.symm)) hb); have n1_ := Aside0.mk (blk_below (g := gb107) (o := .cells #[.slice A0_0 l0_0.length c0_0] 45 (0, 0)) (by (with_reducible repeat (first | refine blk_drewN ?_ _ | refine blk_drew ?_ | refine blk_alloc ?_ _)); exact BK107.out) hb); have n2_ := Aside0.mk (below_step (by repeat (first | (with_reducible first | exact HB.out | apply below_alloc | apply pw_below_drewN | apply below_drew1 | refine below_set ?_ GE107.out) | exact HB.out)) hb); have n3_ := Aside0.mk (hbox); have n4_ := Aside0.mk ((by rw [hg]; exact (below_size (by repeat (first | (with_reducible first | exact HB.out | apply below_alloc | apply pw_below_drewN | apply below_drew1 | refine below_set ?_ GE107.out) | exact HB.out))) : w.heap.size ≤ gb112)); have n5_ := Aside0.mk ((by rw [hg]; exact (below_size (by repeat (first | (with_reducible first | exact HB.out | apply below_alloc | apply pw_below_drewN | apply below_drew1 | refine below_set ?_ GE107.out) | exact HB.out))) : w.heap.size ≤ gb112)); have n6_ := Aside0.mk ((by rw [hg]; exact Nat.ne_of_lt (blk_lt (g := gb107) (o := .cells #[.slice A0_0 l0_0.length c0_0] 45 (0, 0)) (by (with_reducible repeat (first | refine blk_drewN ?_ _ | refine blk_drew ?_ | refine blk_alloc ?_ _)); exact BK107.out)) : gb107 ≠ gb112)); have n7_ := Aside0.mk ((by rw [hg]; exact Nat.ne_of_gt (blk_lt (g := gb107) (o := .cells #[.slice A0_0 l0_0.length c0_0] 45 (0, 0)) (by (with_reducible repeat (first | refine blk_drewN ?_ _ | refine blk_drew ?_ | refine blk_alloc ?_ _)); exact BK107.out)) : gb112 ≠ gb107)); clear HO_16; clear BK107; clear HB; have HO_16 := n0_; have BK107 := n1_; have HB := n2_; have BK112 := n3_; have GW112 := n4_; have GE112 := n5_; have NB107_112 := n6_; have NB112_107 := n7_; clear n0_ n1_ n2_ n3_ n4_ n5_ n6_ n7_; clear hb hbox hg; have hnb19 := NB112_107.out; have hnc19 := NB107_112.out; have hcz20_0 : w18.cell? ⟨gb112, 0, none⟩ = some (.int .i64 0) := (blk_cell BK112.out 0).trans rfl; have hcz20_1 : w18.cell? ⟨gb112, 1, none⟩ = some (.int .i64 0) := (blk_cell BK112.out 1).trans rfl; have hfz20_0 := blk_frozen BK112.out 0; have hfz20_1 := blk_frozen BK112.out 1; have hcz21_0 : w18.cell? ⟨gb107, 0, none⟩ = some (.slice A0_0 l0_0.length c0_0) := (blk_cell BK107.out 0).trans rfl; have hfz21_0 := blk_frozen BK107.out 0; have p113 : 0 ≤ (x18_1 : Int) := of_decide_eq_true (by first | (with_reducible assumption) | assumption); have q113 : x18_1 < (l0_0.length : Int) := of_decide_eq_true (by first | (with_reducible assumption) | assumption); obtain ⟨ad113, e113, hx113_0, hx113_1⟩ := at_T69 HR0_0.out x18_1 p113 q113; cases e113; have hn113_0 : ad113.block ≠ gb112 := Nat.ne_of_lt (Nat.lt_of_lt_of_le (by have := World.block_lt_of_cell? _ _ hx113_0; first | rwa [add_block] at this | exact this) GW112.out); have hn113_1 : ad113.block ≠ gb112 := Nat.ne_of_lt (Nat.lt_of_lt_of_le (by have := World.block_lt_of_cell? _ _ hx113_0; first | rwa [add_block] at this | exact this) GW112.out); replace hx113_0 := (HB.out.cell (World.block_lt_of_cell? w _ hx113_0)).trans hx113_0; replace hx113_1 := (HB.out.cell (World.block_lt_of_cell? w _ hx113_1)).trans hx113_1; replace hx113_0 := (cell_far (p := ⟨gb112, 0, none⟩) (by first | (rw [add_block]; exact hn113_0) | (show (Addr.add _ _).block ≠ _; rw [add_block]; exact hn113_0) | exact hn113_0) (.int .i64 ((rd_T69 t108 x18_1).f0))).trans hx113_0; replace hx113_1 := (cell_far (p := ⟨gb112, 0, none⟩) (by first | (rw [add_block]; exact hn113_0) | (show (Addr.add _ _).block ≠ _; rw [add_block]; exact hn113_0) | exact hn113_0) (.int .i64 ((rd_T69 t108 x18_1).f0))).trans hx113_1; replace hx113_0 := (cell_far (p := ⟨gb112, 1, none⟩) (by first | (rw [add_block]; exact hn113_1) | (show (Addr.add _ _).block ≠ _; rw [add_block]; exact hn113_1) | exact hn113_1) (.int .i64 ((rd_T69 t108 x18_1).f1))).trans hx113_0; replace hx113_1 := (cell_far (p := ⟨gb112, 1, none⟩) (by first | (rw [add_block]; exact hn113_1) | (show (Addr.add _ _).block ≠ _; rw [add_block]; exact hn113_1) | exact hn113_1) (.int .i64 ((rd_T69 t108 x18_1).f1))).trans hx113_1; (try have hy113_0 := fun (n_ : Nat) => (show ((((w18.drewN n_).setCell ⟨gb112, 0, none⟩ (.int .i64 ((rd_T69 t108 x18_1).f0))).setCell ⟨gb112, 1, none⟩ (.int .i64 ((rd_T69 t108 x18_1).f1)))).cell? _ = some _ from hx113_0)); (try have hy113_1 := fun (n_ : Nat) => (show ((((w18.drewN n_).setCell ⟨gb112, 0, none⟩ (.int .i64 ((rd_T69 t108 x18_1).f0))).setCell ⟨gb112, 1, none⟩ (.int .i64 ((rd_T69 t108 x18_1).f1)))).cell? _ = some _ from hx113_1)); clear hn113_0; clear hn113_1; replace p113 := eq_true p113; replace q113 := eq_true q113)); try go_wp2_with (first | ((with_reducible refine gate_dst (N := 5) rfl ?_); refine box_event ?hg (N := 5) ?hd (cs := #[.int .i64 0, .int .i64 0]) (t := 69) ?hr ?_; (case hd => rfl); (case hg => rfl); (case hr => first | (go_simp; done) | (go_simp; rfl)); intro gb112 hg w18 hbox hb; have n0_ := Aside0.mk (Kd.R_below (Kd.R_elderB (by (with_reducible repeat (first | apply Kd.R_alloc | apply Kd.R_drewN | apply Kd.R_drew)); exact HO_16.out) gb112 (Nat.le_of_eq hg.symm)) hb); have n1_ := Aside0.mk (blk_below (g := gb107) (o := .cells #[.slice A0_0 l0_0.length c0_0] 45 (0, 0)) (by (with_reducible repeat (first | refine blk_drewN ?_ _ | refine blk_drew ?_ | refine blk_alloc ?_ _)); exact BK107.out) hb); have n2_ := Aside0.mk (below_step (by repeat (first | (with_reducible first | exact HB.out | apply below_alloc | apply pw_below_drewN | apply below_drew1 | refine below_set ?_ GE107.out) | exact HB.out)) hb); have n3_ := Aside0.mk (hbox); have n4_ := Aside0.mk ((by rw [hg]; exact (below_size (by repeat (first | (with_reducible first | exact HB.out | apply below_alloc | apply pw_below_drewN | apply below_drew1 | refine below_set ?_ GE107.out) | exact HB.out))) : w.heap.size ≤ gb112)); have n5_ := Aside0.mk ((by rw [hg]; exact (below_size (by repeat (first | (with_reducible first | exact HB.out | apply below_alloc | apply pw_below_drewN | apply below_drew1 | refine below_set ?_ GE107.out) | exact HB.out))) : w.heap.size ≤ gb112)); have n6_ := Aside0.mk ((by rw [hg]; exact Nat.ne_of_lt (blk_lt (g := gb107) (o := .cells #[.slice A0_0 l0_0.length c0_0] 45 (0, 0)) (by (with_reducible repeat (first | refine blk_drewN ?_ _ | refine blk_drew ?_ | refine blk_alloc ?_ _)); exact BK107.out)) : gb107 ≠ gb112)); have n7_ := Aside0.mk ((by rw [hg]; exact Nat.ne_of_gt (blk_lt (g := gb107) (o := .cells #[.slice A0_0 l0_0.length c0_0] 45 (0, 0)) (by (with_reducible repeat (first | refine blk_drewN ?_ _ | refine blk_drew ?_ | refine blk_alloc ?_ _)); exact BK107.out)) : gb112 ≠ gb107)); clear HO_16; clear BK107; clear HB; have HO_16 := n0_; have BK107 := n1_; have HB := n2_; have BK112 := n3_; have GW112 := n4_; have GE112 := n5_; have NB107_112 := n6_; have NB112_107 := n7_; clear n0_ n1_ n2_ n3_ n4_ n5_ n6_ n7_; clear hb hbox hg; have hnb19 := NB112_107.out; have hnc19 := NB107_112.out; have hcz20_0 : w18.cell? ⟨gb112, 0, none⟩ = some (.int .i64 0) := (blk_cell BK112.out 0).trans rfl; have hcz20_1 : w18.cell? ⟨gb112, 1, none⟩ = some (.int .i64 0) := (blk_cell BK112.out 1).trans rfl; have hfz20_0 := blk_frozen BK112.out 0; have hfz20_1 := blk_frozen BK112.out 1; have hcz21_0 : w18.cell? ⟨gb107, 0, none⟩ = some (.slice A0_0 l0_0.length c0_0) := (blk_cell BK107.out 0).trans rfl; have hfz21_0 := blk_frozen BK107.out 0; have p113 : 0 ≤ (x18_1 : Int) := of_decide_eq_true (by first | (with_reducible assumption) | assumption); have q113 : x18_1 < (l0_0.length : Int) := of_decide_eq_true (by first | (with_reducible assumption) | assumption); obtain ⟨ad113, e113, hx113_0, hx113_1⟩ := at_T69 HR0_0.out x18_1 p113 q113; cases e113; have hn113_0 : ad113.block ≠ gb112 := Nat.ne_of_lt (Nat.lt_of_lt_of_le (by have := World.block_lt_of_cell? _ _ hx113_0; first | rwa [add_block] at this | exact this) GW112.out); have hn113_1 : ad113.block ≠ gb112 := Nat.ne_of_lt (Nat.lt_of_lt_of_le (by have := World.block_lt_of_cell? _ _ hx113_0; first | rwa [add_block] at this | exact this) GW112.out); replace hx113_0 := (HB.out.cell (World.block_lt_of_cell? w _ hx113_0)).trans hx113_0; replace hx113_1 := (HB.out.cell (World.block_lt_of_cell? w _ hx113_1)).trans hx113_1; replace hx113_0 := (cell_far (p := ⟨gb112, 0, none⟩) (by first | (rw [add_block]; exact hn113_0) | (show (Addr.add _ _).block ≠ _; rw [add_block]; exact hn113_0) | exact hn113_0) (.int .i64 ((rd_T69 t108 x18_1).f0))).trans hx113_0; replace hx113_1 := (cell_far (p := ⟨gb112, 0, none⟩) (by first | (rw [add_block]; exact hn113_0) | (show (Addr.add _ _).block ≠ _; rw [add_block]; exact hn113_0) | exact hn113_0) (.int .i64 ((rd_T69 t108 x18_1).f0))).trans hx113_1; replace hx113_0 := (cell_far (p := ⟨gb112, 1, none⟩) (by first | (rw [add_block]; exact hn113_1) | (show (Addr.add _ _).block ≠ _; rw [add_block]; exact hn113_1) | exact hn113_1) (.int .i64 ((rd_T69 t108 x18_1).f1))).trans hx113_0; replace hx113_1 := (cell_far (p := ⟨gb112, 1, none⟩) (by first | (rw [add_block]; exact hn113_1) | (show (Addr.add _ _).block ≠ _; rw [add_block]; exact hn113_1) | exact hn113_1) (.int .i64 ((rd_T69 t108 x18_1).f1))).trans hx113_1; (try have hy113_0 := fun (n_ : Nat) => (show ((((w18.drewN n_).setCell ⟨gb112, 0, none⟩ (.int .i64 ((rd_T69 t108 x18_1).f0))).setCell ⟨gb112, 1, none⟩ (.int .i64 ((rd_T69 t108 x18_1).f1)))).cell? _ = some _ from hx113_0)); (try have hy113_1 := fun (n_ : Nat) => (show ((((w18.drewN n_).setCell ⟨gb112, 0, none⟩ (.int .i64 ((rd_T69 t108 x18_1).f0))).setCell ⟨gb112, 1, none⟩ (.int .i64 ((rd_T69 t108 x18_1).f1)))).cell? _ = some _ from hx113_1)); clear hn113_0; clear hn113_1; replace p113 := eq_true p113; replace q113 := eq_true q113)))
                  go_roundg k1
                  case measure => have := HK1.out; omega
                  case rel => exact ⟨(wrap64 (x18_1 + 1)), (by first | rfl | (simp; done) | (simp [*]; done)), H', ⟨by have := HK1.out; omega⟩, ⟨by (with_reducible repeat (first | apply Kd.R_alloc | apply Kd.R_drewN | apply Kd.R_drew)); exact Kd.R_mono (Kd.R_far (p := ⟨gb112, 1, none⟩) (Kd.R_far (p := ⟨gb112, 0, none⟩) (Kd.R_mono HO_16.out (fun k_ hk => (⟨hk, hk.2⟩ : _ ∧ k_ ≠ gb112))) (fun _ hk => hk.2) (.int .i64 ((rd_T69 t108 x18_1).f0))) (fun _ hk => hk.2) (.int .i64 ((rd_T69 t108 x18_1).f1))) (fun _ hk => trivial)⟩, ⟨by (with_reducible repeat (first | refine blk_drewN ?_ _ | refine blk_drew ?_ | refine blk_alloc ?_ _)); refine blk_far ?_ NB107_112.out _; (with_reducible repeat (first | refine blk_drewN ?_ _ | refine blk_drew ?_ | refine blk_alloc ?_ _)); refine blk_far ?_ NB107_112.out _; (with_reducible repeat (first | refine blk_drewN ?_ _ | refine blk_drew ?_ | refine blk_alloc ?_ _)); exact BK107.out⟩, ⟨by repeat (first | (with_reducible first | exact HB.out | apply below_alloc | apply pw_below_drewN | apply below_drew1 | refine below_set ?_ GE107.out | refine below_set ?_ GE112.out) | exact HB.out)⟩⟩
              · rw [if_neg c12] at H
                exact absurd H (by simp)
            · rw [if_neg c11] at H
              exact absurd H (by simp)
          · rw [if_neg c10] at H
            exact absurd H (by simp)
        · rw [if_neg c9] at H
          have c9b0 : decide (x18_1 < (t108.length : Int)) = false := decide_eq_false c9
          clear c9
          obtain rfl := Option.some.inj H
          go_wp2
          repeat (go_quiet (fail); try go_wp2)
          go_ret
          exact ⟨by first | rfl | (simp [errW_none, errW_some] <;> rfl) | (simp [*, errW_none, errW_some] <;> rfl), by repeat (first | (with_reducible first | exact HB.out | apply below_alloc | apply pw_below_drewN | apply below_drew1 | refine below_set ?_ GE107.out) | exact HB.out)⟩
  · rw [if_neg c3] at H
    have c3b0 : ((t108.length : Int) == (l0_0.length : Int)) = false := beq_eq_false_iff_ne.mpr c3
    have c3b1 : ((t108.length : Int) != (l0_0.length : Int)) = true := bne_iff_ne.mpr c3
    have c3b2 : (t108.length == l0_0.length) = false := by first | simpa using c3 | (simp at c3 ⊢; omega)
    obtain rfl := Option.some.inj H
    go_enter Try.func52, Try.ntmps52
    go_wp2_with (first | ((with_reducible refine gate_dst (N := 1) rfl ?_); refine box_event ?hg (N := 1) ?hd (cs := #[.slice A0_0 l0_0.length c0_0]) (t := 45) ?hr ?_; (case hd => rfl); (case hg => rfl); (case hr => first | (go_simp; done) | (go_simp; rfl)); intro gb107 hg w22 hbox hb; have n0_ := Aside0.mk (below_step (by repeat (first | (with_reducible first | exact HB.out | apply below_alloc | apply pw_below_drewN | apply below_drew1) | exact HB.out)) hb); have n1_ := Aside0.mk (hbox); have n2_ := Aside0.mk ((by rw [hg]; exact (below_size (by repeat (first | (with_reducible first | exact HB.out | apply below_alloc | apply pw_below_drewN | apply below_drew1) | exact HB.out))) : w.heap.size ≤ gb107)); have n3_ := Aside0.mk ((by rw [hg]; exact (below_size (by repeat (first | (with_reducible first | exact HB.out | apply below_alloc | apply pw_below_drewN | apply below_drew1) | exact HB.out))) : w.heap.size ≤ gb107)); clear HB; have HB := n0_; have BK107 := n1_; have GW107 := n2_; have GE107 := n3_; clear n0_ n1_ n2_ n3_; clear hb hbox hg; have hcz23_0 : w22.cell? ⟨gb107, 0, none⟩ = some (.slice A0_0 l0_0.length c0_0) := (blk_cell BK107.out 0).trans rfl; have hfz23_0 := blk_frozen BK107.out 0) | (go_at_call 59; (with_reducible refine (cpset_Make.calls _ _ l0_0 t108 _ ?side1 ?side2 A2.out).mono ?_); (case side1 => repeat (first | exact (Kd.C_below HR0_0.out HB.out) | (with_reducible refine Kd.C_alloc ?_ _) | (with_reducible refine Kd.C_drewN ?_ _) | (with_reducible refine Kd.C_drew ?_))); (case side2 => exact HC0_0.out); rintro e w24 ⟨v109, rfl, ho0, hb⟩; have n0_ := Aside0.mk (Kd.R_lower ho0 (below_size (by repeat (first | (with_reducible first | exact HB.out | apply below_alloc | apply pw_below_drewN | apply below_drew1 | refine below_set ?_ GE107.out) | exact HB.out)))); have n1_ := Aside0.mk (blk_below (g := gb107) (o := .cells #[.slice A0_0 l0_0.length c0_0] 45 (0, 0)) (by (with_reducible repeat (first | refine blk_drewN ?_ _ | refine blk_drew ?_ | refine blk_alloc ?_ _)); exact BK107.out) hb); have n2_ := Aside0.mk (below_step (by repeat (first | (with_reducible first | exact HB.out | apply below_alloc | apply pw_below_drewN | apply below_drew1 | refine below_set ?_ GE107.out) | exact HB.out)) hb); clear BK107; clear HB; have HO110 := n0_; have BK107 := n1_; have HB := n2_; clear n0_ n1_ n2_; (try clear hb); (try clear hb2); (try clear hk); (try clear hi); (try clear ho0); obtain ⟨Ao25, co25, eo25⟩ := Kd.R_slice HO110.out; subst eo25; have hcz26_0 : w24.cell? ⟨gb107, 0, none⟩ = some (.slice A0_0 l0_0.length c0_0) := (blk_cell BK107.out 0).trans rfl; have hfz26_0 := blk_frozen BK107.out 0))
    repeat (go_quiet (first | ((with_reducible refine gate_dst (N := 1) rfl ?_); refine box_event ?hg (N := 1) ?hd (cs := #[.slice A0_0 l0_0.length c0_0]) (t := 45) ?hr ?_; (case hd => rfl); (case hg => rfl); (case hr => first | (go_simp; done) | (go_simp; rfl)); intro gb107 hg w22 hbox hb; have n0_ := Aside0.mk (below_step (by repeat (first | (with_reducible first | exact HB.out | apply below_alloc | apply pw_below_drewN | apply below_drew1) | exact HB.out)) hb); have n1_ := Aside0.mk (hbox); have n2_ := Aside0.mk ((by rw [hg]; exact (below_size (by repeat (first | (with_reducible first | exact HB.out | apply below_alloc | apply pw_below_drewN | apply below_drew1) | exact HB.out))) : w.heap.size ≤ gb107)); have n3_ := Aside0.mk ((by rw [hg]; exact (below_size (by repeat (first | (with_reducible first | exact HB.out | apply below_alloc | apply pw_below_drewN | apply below_drew1) | exact HB.out))) : w.heap.size ≤ gb107)); clear HB; have HB := n0_; have BK107 := n1_; have GW107 := n2_; have GE107 := n3_; clear n0_ n1_ n2_ n3_; clear hb hbox hg; have hcz23_0 : w22.cell? ⟨gb107, 0, none⟩ = some (.slice A0_0 l0_0.length c0_0) := (blk_cell BK107.out 0).trans rfl; have hfz23_0 := blk_frozen BK107.out 0) | (go_at_call 59; (with_reducible refine (cpset_Make.calls _ _ l0_0 t108 _ ?side1 ?side2 A2.out).mono ?_); (case side1 => repeat (first | exact (Kd.C_below HR0_0.out HB.out) | (with_reducible refine Kd.C_alloc ?_ _) | (with_reducible refine Kd.C_drewN ?_ _) | (with_reducible refine Kd.C_drew ?_))); (case side2 => exact HC0_0.out); rintro e w24 ⟨v109, rfl, ho0, hb⟩; have n0_ := Aside0.mk (Kd.R_lower ho0 (below_size (by repeat (first | (with_reducible first | exact HB.out | apply below_alloc | apply pw_below_drewN | apply below_drew1 | refine below_set ?_ GE107.out) | exact HB.out)))); have n1_ := Aside0.mk (blk_below (g := gb107) (o := .cells #[.slice A0_0 l0_0.length c0_0] 45 (0, 0)) (by (with_reducible repeat (first | refine blk_drewN ?_ _ | refine blk_drew ?_ | refine blk_alloc ?_ _)); exact BK107.out) hb); have n2_ := Aside0.mk (below_step (by repeat (first | (with_reducible first | exact HB.out | apply below_alloc | apply pw_below_drewN | apply below_drew1 | refine below_set ?_ GE107.out) | exact HB.out)) hb); clear BK107; clear HB; have HO110 := n0_; have BK107 := n1_; have HB := n2_; clear n0_ n1_ n2_; (try clear hb); (try clear hb2); (try clear hk); (try clear hi); (try clear ho0); obtain ⟨Ao25, co25, eo25⟩ := Kd.R_slice HO110.out; subst eo25; have hcz26_0 : w24.cell? ⟨gb107, 0, none⟩ = some (.slice A0_0 l0_0.length c0_0) := (blk_cell BK107.out 0).trans rfl; have hfz26_0 := blk_frozen BK107.out 0)); try go_wp2_with (first | ((with_reducible refine gate_dst (N := 1) rfl ?_); refine box_event ?hg (N := 1) ?hd (cs := #[.slice A0_0 l0_0.length c0_0]) (t := 45) ?hr ?_; (case hd => rfl); (case hg => rfl); (case hr => first | (go_simp; done) | (go_simp; rfl)); intro gb107 hg w22 hbox hb; have n0_ := Aside0.mk (below_step (by repeat (first | (with_reducible first | exact HB.out | apply below_alloc | apply pw_below_drewN | apply below_drew1) | exact HB.out)) hb); have n1_ := Aside0.mk (hbox); have n2_ := Aside0.mk ((by rw [hg]; exact (below_size (by repeat (first | (with_reducible first | exact HB.out | apply below_alloc | apply pw_below_drewN | apply below_drew1) | exact HB.out))) : w.heap.size ≤ gb107)); have n3_ := Aside0.mk ((by rw [hg]; exact (below_size (by repeat (first | (with_reducible first | exact HB.out | apply below_alloc | apply pw_below_drewN | apply below_drew1) | exact HB.out))) : w.heap.size ≤ gb107)); clear HB; have HB := n0_; have BK107 := n1_; have GW107 := n2_; have GE107 := n3_; clear n0_ n1_ n2_ n3_; clear hb hbox hg; have hcz23_0 : w22.cell? ⟨gb107, 0, none⟩ = some (.slice A0_0 l0_0.length c0_0) := (blk_cell BK107.out 0).trans rfl; have hfz23_0 := blk_frozen BK107.out 0) | (go_at_call 59; (with_reducible refine (cpset_Make.calls _ _ l0_0 t108 _ ?side1 ?side2 A2.out).mono ?_); (case side1 => repeat (first | exact (Kd.C_below HR0_0.out HB.out) | (with_reducible refine Kd.C_alloc ?_ _) | (with_reducible refine Kd.C_drewN ?_ _) | (with_reducible refine Kd.C_drew ?_))); (case side2 => exact HC0_0.out); rintro e w24 ⟨v109, rfl, ho0, hb⟩; have n0_ := Aside0.mk (Kd.R_lower ho0 (below_size (by repeat (first | (with_reducible first | exact HB.out | apply below_alloc | apply pw_below_drewN | apply below_drew1 | refine below_set ?_ GE107.out) | exact HB.out)))); have n1_ := Aside0.mk (blk_below (g := gb107) (o := .cells #[.slice A0_0 l0_0.length c0_0] 45 (0, 0)) (by (with_reducible repeat (first | refine blk_drewN ?_ _ | refine blk_drew ?_ | refine blk_alloc ?_ _)); exact BK107.out) hb); have n2_ := Aside0.mk (below_step (by repeat (first | (with_reducible first | exact HB.out | apply below_alloc | apply pw_below_drewN | apply below_drew1 | refine below_set ?_ GE107.out) | exact HB.out)) hb); clear BK107; clear HB; have HO110 := n0_; have BK107 := n1_; have HB := n2_; clear n0_ n1_ n2_; (try clear hb); (try clear hb2); (try clear hk); (try clear hi); (try clear ho0); obtain ⟨Ao25, co25, eo25⟩ := Kd.R_slice HO110.out; subst eo25; have hcz26_0 : w24.cell? ⟨gb107, 0, none⟩ = some (.slice A0_0 l0_0.length c0_0) := (blk_cell BK107.out 0).trans rfl; have hfz26_0 := blk_frozen BK107.out 0)))
    go_ret
    exact ⟨by first | rfl | (simp [errW_none, errW_some] <;> rfl) | (simp [*, errW_none, errW_some] <;> rfl), by repeat (first | (with_reducible first | exact HB.out | apply below_alloc | apply pw_below_drewN | apply below_drew1 | refine below_set ?_ GE107.out) | exact HB.out)⟩
def codepoint_Valid.f (a0 : Int) : Option (Bool) := if a0 ≥ 0 then (some (decide (a0 ≤ 1114111))) else (some false)
set_option maxHeartbeats 8000000 in
set_option maxRecDepth 100000 in
theorem codepoint_Valid.calls (a0 : Int) (r : Bool) (w : World) (h : codepoint_Valid.f a0 = some r) :
    Calls Try.prog 53 #[.int .i64 a0] w fun e w' => e = .returned (.bool r) ∧ Drawn0 w w' := by
  have H : (if a0 ≥ 0 then (some (decide (a0 ≤ 1114111))) else (some false)) = some r := h
  clear h
  by_cases c2 : a0 ≥ 0
  · rw [if_pos c2] at H
    have c2b0 : decide (0 ≤ a0) = true := decide_eq_true c2
    clear c2
    obtain rfl := Option.some.inj H
    go_enter Try.func53, Try.ntmps53
    go_wp2
    go_ret
    exact ⟨by first | rfl | (simp; done) | (simp [*]; done), by repeat (first | exact Drawn0.refl _ | apply Drawn0.step)⟩
  · rw [if_neg c2] at H
    have c2b0 : decide (0 ≤ a0) = false := decide_eq_false c2
    clear c2
    obtain rfl := Option.some.inj H
    go_enter Try.func53, Try.ntmps53
    go_wp2
    go_ret
    exact ⟨by first | rfl | (simp; done) | (simp [*]; done), by repeat (first | exact Drawn0.refl _ | apply Drawn0.step)⟩
end Go.Proofs.Ytcpicopaobhlcaa.Q
end
section
namespace Go.Proofs.Ytcpicopaobhlcaa.Q
open Go.RowKit Go.Proofs.YtcpicopaobhlcaaW.PrintWords Go.Proofs.YtcpicopaobhlcaaW.PrintLast Go.Proofs.YtcpicopaobhlcaaW.PrintMore
set_option linter.unusedVariables false
theorem ccInfo : (Try.prog.info? 45).map (fun i => (i.zero, i.size, i.bytes)) = some (some (.agg #[(.slice none 0 0)]), 1, 24) := by kernel_rfl
set_option linter.unusedSimpArgs false
abbrev kSt : Kd S45 := k45
theorem reps1 {α : Type} {R : α → List Value → Prop} {ps : List α} {cs : List Value} (h : Reps R 1 ps cs) : cs.length = ps.length ∧ ∀ (j : Nat) (p : α), ps[j]? = some p → ∃ u, cs[j]? = some u ∧ R p [u] := by
  obtain ⟨hl, hp⟩ := h
  rw [Nat.mul_one] at hl
  refine ⟨hl, fun j p hj => ?_⟩
  have hjl : j < cs.length := by rw [hl]; exact (List.getElem?_eq_some_iff.1 hj).1
  have h1 := hp j p hj
  rw [Nat.mul_one, List.drop_eq_getElem_cons hjl] at h1
  exact ⟨cs[j], List.getElem?_eq_getElem hjl, h1⟩
theorem reps1_of {α : Type} {R : α → List Value → Prop} {ps : List α} {cs : List Value} (hl : cs.length = ps.length) (hp : ∀ (j : Nat) (p : α), ps[j]? = some p → ∃ u, cs[j]? = some u ∧ R p [u]) : Reps R 1 ps cs := by
  refine ⟨by rw [Nat.mul_one]; exact hl, fun j p hj => ?_⟩
  obtain ⟨u, hu, hr⟩ := hp j p hj
  obtain ⟨hjl, e⟩ := List.getElem?_eq_some_iff.1 hu
  rw [Nat.mul_one, List.drop_eq_getElem_cons hjl, e]
  exact hr
theorem reps1_append {α : Type} {R : α → List Value → Prop} {ps qs : List α} {cs ds : List Value} (h : Reps R 1 ps cs) (k : Reps R 1 qs ds) : Reps R 1 (ps ++ qs) (cs ++ ds) := by
  obtain ⟨h1, h2⟩ := reps1 h
  obtain ⟨k1, k2⟩ := reps1 k
  refine reps1_of (by rw [List.length_append, List.length_append, h1, k1]) fun j p hj => ?_
  by_cases hlt : j < ps.length
  · rw [List.getElem?_append_left hlt] at hj
    rw [List.getElem?_append_left (by omega)]
    exact h2 j p hj
  · rw [List.getElem?_append_right (by omega)] at hj
    rw [List.getElem?_append_right (by omega), h1]
    exact k2 _ p hj
section
variable {P : Program} {ops : Array Oper} {rest : List Oper} {o : Oper} {a : Act} {Q : Exit → Act → World → Prop}
/-- append(s, make([]T, n)...) onto nil. -/
theorem wpList_append_count {w : World} (hgd : o.guard = none) (s x : Operand) (t u : TypeId) (ho : o.op = .call { callee := .builtin .append, args := #[s, x], argTypes := #[t, u] })
    (e : TypeId) (i : TypeInfo) (z : Value) (ht : P.underlying t = some (.slice e)) (hu : P.underlying u = some (.int .i64)) (hi : P.info? e = some i) (hz : i.zero = some z) (hs1 : i.size = 1) (hzs : z.cells.size = 1) (n : Nat) (h0 : 0 < n) (hb : n < 1000000000) (hby : i.bytes ≤ 64)
    (hs : a.eval s = .slice none 0 0) (hx : a.eval x = .int .i64 n)
    (h : ∀ cap cur, n ≤ cap → cap ≤ maxLen → cur.size = cap → wpList P ops Q rest (a.put o.dst (.slice (some ⟨w.heap.size, 0, none⟩) n cap)) (w.drew.alloc (.cells cur e))) :
    wpList P ops Q (o :: rest) a w := by
  have hn : n ≠ 0 := by omega
  have hge := grownCap_ge w n 0 e
  have hmx := grownCap_le_maxLen w n 0 e (by unfold maxLen; omega)
  have hr : (Builtin.append_ #[t, u] o.type #[.slice none 0 0, .int .i64 n]).run P w = .ok (.slice (some ⟨w.heap.size, 0, none⟩) n (grownCap w n 0 e)) (w.drew.alloc (.cells (Builtin.zeroCells z.cells n ++ Builtin.zeroCells z.cells (grownCap w n 0 e - n)) e)) := by
    have h63' : ¬ (9223372036854775807 < (n : Int)) := by omega
    have hmul : n * i.bytes ≤ 1000000000 * 64 := Nat.mul_le_mul (by omega) hby
    have h48' : ¬ (281474976710656 < n * i.bytes) := by omega
    have h48i : ¬ ((281474976710656 : Int) < (n : Int) * (i.bytes : Int)) := by
      rw [← Int.natCast_mul]; omega
    have hw : IntKind.i64.wrap (n : Int) = n := by rw [IntWalk.i64_in _ (by omega)]
    have hneg : ¬ ((n : Int) < 0) := by omega
    simp [Builtin.append_, run_underlying ht, run_underlying hu, sizeOf, typeInfo, zeroValue, hi, hz, hn, h63', h48', h48i, hw, hneg, hs1, nextslicecap_zero h0, Question.forced, run_firstCells_none, newRow, grownCap, asInt, asIntOf]
  refine wpList_plain hgd fun K hK => ?_
  unfold Oper.wp execOp
  simp only [ho, resolve, invoke, builtin, Sem.run_bind, Sem.run_pure, Result.andThen_ok, List.map_toArray, List.map_cons, List.map_nil, hs, hx, hr]
  refine hK _ _ (h _ _ hge hmx ?_)
  rw [Array.size_append, size_zeroCells, size_zeroCells, hzs]
  omega
end
section
variable {P : Program} {ops : Array Oper} {rest : List Oper} {o : Oper} {a : Act} {Q : Exit → Act → World → Prop}
/-- append(v, ys...) onto a row of one's own, ys read, nil let in. -/
theorem wpList_append_src {α : Type} {R : α → List Value → Prop} {w : World} (hgd : o.guard = none) (s x : Operand) (t : TypeId) (ho : o.op = .call { callee := .builtin .append, args := #[s, x], argTypes := #[t, t] })
    (base : Nat) (e : TypeId) (i : TypeInfo) (z : Value) (bytes : Nat) (ht : P.underlying t = some (.slice e)) (hi : P.info? e = some i) (hz : i.zero = some z) (hs1 : i.size = 1) (hby : i.bytes = bytes) (hzs : z.cells.size = 1)
    (v : Value) (n : Nat) (xs : List Value) (hs : a.eval s = v) (hown : w.ownsRow base e 1 v n xs)
    (A : Option Addr) (m c : Nat) (ys : List α) (hx : a.eval x = .slice A m c) (HR : ReadsRow R 1 w A m ys) (h1 : ∀ p cs, R p cs → ∀ u ∈ cs, u.oneCell' = true)
    (h63 : n + m ≤ maxLen) (hbytes : (n + m) * bytes ≤ 140737488355328) (hbase : base ≤ w.heap.size)
    (h : ∀ v' w' news, Reps R 1 ys news → w'.ownsRow base e 1 v' (n + m) (xs ++ news) → w.grownBy w' v.ownBlock → wpList P ops Q rest (a.put o.dst v') w') :
    wpList P ops Q (o :: rest) a w := by
  rcases A with _ | ad
  · have h0 : m = 0 := by
      rcases Nat.eq_zero_or_pos m with h0 | h0
      · exact h0
      · obtain ⟨ad, h, _⟩ := HR.2.2 h0
        cases h
    subst h0
    obtain rfl : ys = [] := List.eq_nil_of_length_eq_zero HR.1
    have hr : (Builtin.append_ #[t, t] o.type #[v, .slice none 0 c]).run P w = .ok v w := by
      rcases hown.2 with ⟨rfl, hn⟩ | ⟨g, cap, cur, rfl, _, _, hnc, _⟩
      · simp [Builtin.append_, run_underlying ht, sizeOf, typeInfo, hi, Builtin.lenOf, Builtin.firstCells]
      · simp [Builtin.append_, run_underlying ht, sizeOf, typeInfo, hi, Builtin.lenOf, Builtin.firstCells, hnc, storeCells]
    refine wpList_plain hgd fun K hK => ?_
    unfold Oper.wp execOp
    simp only [ho, resolve, invoke, builtin, Sem.run_bind, Sem.run_pure, Result.andThen_ok, List.map_toArray, List.map_cons, List.map_nil, hs, hx, hr]
    exact hK _ _ (h v w [] (Reps.none _ _) (by rw [List.append_nil]; exact hown) (World.grownBy.refl w _))
  · obtain ⟨news, hnr, hnc⟩ := ReadsRow.inner_ HR
    obtain ⟨hl, hp⟩ := reps1 hnr
    have hone : ∀ u ∈ news, u.oneCell' = true := by
      intro u hu
      obtain ⟨q, hq, rfl⟩ := List.mem_iff_getElem.1 hu
      obtain ⟨u, hu, hr⟩ := hp q (ys[q]'(by omega)) (List.getElem?_eq_getElem _)
      rw [List.getElem?_eq_getElem hq] at hu
      cases hu
      exact h1 _ _ hr _ (by simp)
    refine Go.wpList_append_own_at w hgd s x t ho base e i z 1 bytes ht hi hz hs1 hby hzs (by decide) v n xs hs hown ad m c news hx (by rw [hl, Nat.mul_one]; exact HR.1) hnc hone h63 hbytes hbase fun v' w' r1 r2 r3 _ => ?_
    exact h v' w' news hnr r1 r2
end
set_option maxHeartbeats 2000000 in
theorem grow_calls (n : Nat) (hn : n < 1000000000) (w : World) :
    Calls Try.prog 62 #[.slice none 0 0, .int .i64 n] w fun e w' => ∃ v, e = .returned v ∧ w'.ownsRow w.heap.size 45 1 v 0 [] ∧ Below w.heap.size w w' := by
  obtain ⟨i0, hi, hzz⟩ := Option.map_eq_some_iff.1 ccInfo
  simp only [Prod.mk.injEq] at hzz
  obtain ⟨hz0, hz1, hz2⟩ := hzz
  have HZ := Aside0.mk hz0
  have HZ1 := Aside0.mk hz1
  have HZ2 := Aside0.mk hz2
  have HI := Aside0.mk hi
  clear hz0 hz1 hz2 hi
  by_cases h0 : n = 0
  · subst h0
    go_enter Try.func62, Try.ntmps62
    go_wp2
    go_ret
    exact ⟨_, rfl, World.ownsRow_nil _ _ _ _, Below.refl _ _⟩
  · have hp : decide (0 < n) = true := decide_eq_true (by omega)
    have hq : decide ((n : Int) < 0) = false := decide_eq_false (by omega)
    have hw : wrap64 (n : Int) = (n : Int) := by unfold wrap64; omega
    have hpn : 0 < n := by omega
    have HP := Aside0.mk hpn
    have HN := Aside0.mk hn
    clear hpn h0 hn
    have hne : ((n : Int) = 0) = False := eq_false (by have := HP.out; omega)
    go_enter Try.func62, Try.ntmps62
    go_wp2_with (at_builtin; refine wpList_append_count rfl (.tmp 20) (.tmp 21) 38 3 rfl 45 i0 _ Try.underlying38 Try.underlying3 HI.out HZ.out HZ1.out rfl n HP.out HN.out (by rw [HZ2.out]; decide) (by rfl) (congrArg (Value.int .i64) hw) ?_; intro cap cur hcap hmx hsz; have HCAP := Aside0.mk hcap; have HMX := Aside0.mk hmx; have HSZ := Aside0.mk hsz; clear hcap hmx hsz)
    go_ret
    exact ⟨_, rfl, own_drew (World.ownsRow_made w cur cap (Nat.le_refl _) HMX.out (by rw [HSZ.out, Nat.mul_one])), below_drew1 (below_alloc (Below.refl _ w) _)⟩
/-- What the first k slices hold. -/
def preL (l0 l1 l2 : List S45) : Nat → List S45
  | 0 => []
  | 1 => l0
  | 2 => l0 ++ l1
  | _ => l0 ++ l1 ++ l2
set_option maxHeartbeats 4000000 in
set_option maxRecDepth 100000 in
theorem concat_calls (b : Nat) (A0 A1 A2 : Option Addr) (c0 c1 c2 : Nat) (l0 l1 l2 : List S45) (w : World) (hblk : w.heap[b]? = some (.cells #[.slice A0 l0.length c0, .slice A1 l1.length c1, .slice A2 l2.length c2] 38 (0, 0)))
    (h0 : Kd.C kSt w A0 l0.length l0) (h1 : Kd.C kSt w A1 l1.length l1) (h2 : Kd.C kSt w A2 l2.length l2) (hl : l0.length + l1.length + l2.length < 1000000000) :
    Calls Try.prog 58 #[.slice (some ⟨b, 0, none⟩) 3 3] w fun e w' => ∃ v inner, e = .returned v ∧ w'.ownsRow w.heap.size 45 1 v (l0 ++ l1 ++ l2).length inner ∧ Reps (kSt.K w) 1 (l0 ++ l1 ++ l2) inner ∧ Below w.heap.size w w' := by
  obtain ⟨i0, hi, hzz⟩ := Option.map_eq_some_iff.1 ccInfo
  simp only [Prod.mk.injEq] at hzz
  obtain ⟨hz0, hz1, hz2⟩ := hzz
  have HZ := Aside0.mk hz0
  have HZ1 := Aside0.mk hz1
  have HZ2 := Aside0.mk hz2
  have HI := Aside0.mk hi
  clear hz0 hz1 hz2 hi
  have hc0 : w.cell? ⟨b, 0, none⟩ = some (.slice A0 l0.length c0) := (blk_cell hblk 0).trans rfl
  have hc1 : w.cell? ⟨b, 1, none⟩ = some (.slice A1 l1.length c1) := (blk_cell hblk 1).trans rfl
  have hc2 : w.cell? ⟨b, 2, none⟩ = some (.slice A2 l2.length c2) := (blk_cell hblk 2).trans rfl
  have H0 := Aside0.mk h0
  have H1 := Aside0.mk h1
  have H2 := Aside0.mk h2
  have HL := Aside0.mk hl
  have HBK := Aside0.mk hblk
  clear h0 h1 h2 hl hblk
  go_enter Try.func58, Try.ntmps58
  go_wp2
  go_loopw [3, 11] (fun z i wr => ∃ k m : Nat, k ≤ 3 ∧ i = .int .i64 k ∧ z = .int .i64 m ∧ Aside0 (m = (preL l0 l1 l2 k).length) ∧ w = wr) (fun _ i _ => 3 - (intOf i).toNat)
  case atStart => exact ⟨0, 0, by decide, rfl, rfl, ⟨rfl⟩, rfl⟩
  case round =>
    obtain ⟨k, m, hk, rfl, rfl, HM, rfl⟩ := hrel
    match k, hk with
    | 0, _ =>
      have hm : m = (preL l0 l1 l2 0).length := HM.out
      simp only [preL, List.length_nil, List.length_append] at hm
      have hw : wrap64 ((m : Int) + (l0.length : Int)) = ((m + l0.length : Nat) : Int) := by have := HL.out; unfold wrap64; omega
      have hd : decide (((m + l0.length : Nat) : Int) < 0) = false := decide_eq_false (by omega)
      have HM2 : Aside0 (m + l0.length = (preL l0 l1 l2 1).length) := ⟨by simp only [preL, List.length_append]; omega⟩
      generalize hq : m + l0.length = q at *
      clear hm hq HM
      go_wp2
      go_roundw
      case rel => exact ⟨1, q, by decide, rfl, by rw [hw], HM2, by first | trivial | rfl⟩
      case measure => simp [intOf]
    | 1, _ =>
      have hm : m = (preL l0 l1 l2 1).length := HM.out
      simp only [preL, List.length_nil, List.length_append] at hm
      have hw : wrap64 ((m : Int) + (l1.length : Int)) = ((m + l1.length : Nat) : Int) := by have := HL.out; unfold wrap64; omega
      have hd : decide (((m + l1.length : Nat) : Int) < 0) = false := decide_eq_false (by omega)
      have HM2 : Aside0 (m + l1.length = (preL l0 l1 l2 2).length) := ⟨by simp only [preL, List.length_append]; omega⟩
      generalize hq : m + l1.length = q at *
      clear hm hq HM
      go_wp2
      go_roundw
      case rel => exact ⟨2, q, by decide, rfl, by rw [hw], HM2, by first | trivial | rfl⟩
      case measure => simp [intOf]
    | 2, _ =>
      have hm : m = (preL l0 l1 l2 2).length := HM.out
      simp only [preL, List.length_nil, List.length_append] at hm
      have hw : wrap64 ((m : Int) + (l2.length : Int)) = ((m + l2.length : Nat) : Int) := by have := HL.out; unfold wrap64; omega
      have hd : decide (((m + l2.length : Nat) : Int) < 0) = false := decide_eq_false (by omega)
      have HM2 : Aside0 (m + l2.length = (preL l0 l1 l2 3).length) := ⟨by simp only [preL, List.length_append]; omega⟩
      generalize hq : m + l2.length = q at *
      clear hm hq HM
      go_wp2
      go_roundw
      case rel => exact ⟨3, q, by decide, rfl, by rw [hw], HM2, by first | trivial | rfl⟩
      case measure => simp [intOf]
    | 3, _ =>
      obtain rfl : m = (preL l0 l1 l2 3).length := HM.out
      have hsz : (preL l0 l1 l2 3).length < 1000000000 := by have := HL.out; simp only [preL, List.length_append]; omega
      have HC0 := Aside0.mk hc0
      have HC1 := Aside0.mk hc1
      have HC2 := Aside0.mk hc2
      clear hc0 hc1 hc2
      go_wp2_with (go_at_call 62; refine (grow_calls _ hsz _).mono ?_; rintro e w1 ⟨v0, rfl, ho, hb⟩; have HO := Aside0.mk ho; have HB := Aside0.mk hb; clear ho hb)
      clear HM
      go_loopw [6, 27] (fun v i wr => ∃ (k : Nat) (inner : List Value), k ≤ 3 ∧ i = .int .i64 k ∧ Aside0 (wr.ownsRow w.heap.size 45 1 v (preL l0 l1 l2 k).length inner) ∧ Aside0 (Reps (kSt.K w) 1 (preL l0 l1 l2 k) inner) ∧ Aside0 (Below w.heap.size w wr)) (fun _ i _ => 3 - (intOf i).toNat)
      case atStart => exact ⟨0, [], by decide, rfl, HO, ⟨Reps.none _ _⟩, HB⟩
      case round =>
      clear HO HB
      obtain ⟨k, inner, hk, rfl, HO, HR1, HB⟩ := hrel
      match k, hk with
      | 0, _ =>
        have hcx := (HB.out.cell (p := ⟨b, 0, none⟩) (World.block_lt_of_cell? w _ HC0.out)).trans HC0.out
        have HRX : Aside0 (ReadsRow (kSt.K w) 1 wr A0 l0.length l0) := ⟨ReadsRow.imp_ H0.out HB.out (fun _ _ h => h)⟩
        have HBD : Aside0 ((preL l0 l1 l2 0).length + l0.length < 1000000000) := ⟨by have := HL.out; simp only [preL, List.length_append, List.length_nil]; omega⟩
        go_wp2_with (at_builtin; refine wpList_append_src (R := kSt.K w) rfl (.tmp 31) (.tmp 32) 38 rfl w.heap.size 45 i0 (.agg #[.slice none 0 0]) 24 Try.underlying38 HI.out HZ.out HZ1.out HZ2.out rfl _ _ inner (by rfl) HO.out A0 _ c0 l0 (by rfl) HRX.out (fun p cs h => kSt.K_one h) (by have := HBD.out; unfold maxLen; omega) (by have := HBD.out; omega) HB.out.size ?_; intro v2 w2 news hnews hown hg; have HO2 := Aside0.mk hown; have HN2 := Aside0.mk hnews; have HB2 := Aside0.mk (HB.out.grown hg HB.out.size (fun k hk => (World.ownsRow.lt HO.out k hk).1)); clear hown hnews hg)
        go_roundw
        case rel => exact ⟨1, inner ++ news, by decide, rfl, ⟨by have := HO2.out; simpa [preL, Nat.add_assoc] using this⟩, ⟨by have := reps1_append HR1.out HN2.out; simpa [preL] using this⟩, HB2⟩
        case measure => simp [intOf]
      | 1, _ =>
        have hcx := (HB.out.cell (p := ⟨b, 1, none⟩) (World.block_lt_of_cell? w _ HC1.out)).trans HC1.out
        have HRX : Aside0 (ReadsRow (kSt.K w) 1 wr A1 l1.length l1) := ⟨ReadsRow.imp_ H1.out HB.out (fun _ _ h => h)⟩
        have HBD : Aside0 ((preL l0 l1 l2 1).length + l1.length < 1000000000) := ⟨by have := HL.out; simp only [preL, List.length_append, List.length_nil]; omega⟩
        go_wp2_with (at_builtin; refine wpList_append_src (R := kSt.K w) rfl (.tmp 31) (.tmp 32) 38 rfl w.heap.size 45 i0 (.agg #[.slice none 0 0]) 24 Try.underlying38 HI.out HZ.out HZ1.out HZ2.out rfl _ _ inner (by rfl) HO.out A1 _ c1 l1 (by rfl) HRX.out (fun p cs h => kSt.K_one h) (by have := HBD.out; unfold maxLen; omega) (by have := HBD.out; omega) HB.out.size ?_; intro v2 w2 news hnews hown hg; have HO2 := Aside0.mk hown; have HN2 := Aside0.mk hnews; have HB2 := Aside0.mk (HB.out.grown hg HB.out.size (fun k hk => (World.ownsRow.lt HO.out k hk).1)); clear hown hnews hg)
        go_roundw
        case rel => exact ⟨2, inner ++ news, by decide, rfl, ⟨by have := HO2.out; simpa [preL, Nat.add_assoc] using this⟩, ⟨by have := reps1_append HR1.out HN2.out; simpa [preL] using this⟩, HB2⟩
        case measure => simp [intOf]
      | 2, _ =>
        have hcx := (HB.out.cell (p := ⟨b, 2, none⟩) (World.block_lt_of_cell? w _ HC2.out)).trans HC2.out
        have HRX : Aside0 (ReadsRow (kSt.K w) 1 wr A2 l2.length l2) := ⟨ReadsRow.imp_ H2.out HB.out (fun _ _ h => h)⟩
        have HBD : Aside0 ((preL l0 l1 l2 2).length + l2.length < 1000000000) := ⟨by have := HL.out; simp only [preL, List.length_append, List.length_nil]; omega⟩
        go_wp2_with (at_builtin; refine wpList_append_src (R := kSt.K w) rfl (.tmp 31) (.tmp 32) 38 rfl w.heap.size 45 i0 (.agg #[.slice none 0 0]) 24 Try.underlying38 HI.out HZ.out HZ1.out HZ2.out rfl _ _ inner (by rfl) HO.out A2 _ c2 l2 (by rfl) HRX.out (fun p cs h => kSt.K_one h) (by have := HBD.out; unfold maxLen; omega) (by have := HBD.out; omega) HB.out.size ?_; intro v2 w2 news hnews hown hg; have HO2 := Aside0.mk hown; have HN2 := Aside0.mk hnews; have HB2 := Aside0.mk (HB.out.grown hg HB.out.size (fun k hk => (World.ownsRow.lt HO.out k hk).1)); clear hown hnews hg)
        go_roundw
        case rel => exact ⟨3, inner ++ news, by decide, rfl, ⟨by have := HO2.out; simpa [preL, Nat.add_assoc] using this⟩, ⟨by have := reps1_append HR1.out HN2.out; simpa [preL] using this⟩, HB2⟩
        case measure => simp [intOf]
      | 3, _ =>
        go_wp2
        go_ret
        exact ⟨_, inner, rfl, HO.out, HR1.out, HB.out⟩
theorem C_of_row {w W : World} {base : Nat} {v : Value} {xs : List S45} {inner : List Value} (ho : W.ownsRow base 45 1 v xs.length inner) (hr : Reps (kSt.K w) 1 xs inner) (hb : Below w.heap.size w W) :
    ∃ A c, v = .slice A xs.length c ∧ xs.length ≤ c ∧ Kd.C kSt W A xs.length xs := by
  obtain ⟨hl, hp⟩ := reps1 hr
  rcases ho.2 with ⟨rfl, hn⟩ | ⟨g, cap, cur, rfl, hb0, hg, hnc, hcm, hcs, htake⟩
  · obtain rfl : xs = [] := List.eq_nil_of_length_eq_zero hn
    exact ⟨none, 0, rfl, Nat.le_refl _, Kd.C_nil _ _⟩
  · refine ⟨some ⟨g, 0, none⟩, cap, rfl, hnc, rfl, by unfold maxLen at hcm; omega, fun h0 => ⟨⟨g, 0, none⟩, rfl, fun j p hj => ?_⟩⟩
    obtain ⟨u, hu, hK⟩ := hp j p hj
    refine ⟨[u], rfl, kSt.K_below hb hK, fun i z hz => ?_⟩
    cases i with
    | succ i => simp at hz
    | zero =>
      simp at hz
      subst hz
      exact ho.cells (g := g) rfl _ _ (by rw [show j * kSt.sz + 0 = j from by show j * 1 + 0 = j; omega]; exact hu)
set_option maxHeartbeats 4000000 in
set_option maxRecDepth 100000 in
theorem sets_calls (A0 : Option Addr) (c0 : Nat) (l0 : List S45) (A1 : Option Addr) (c1 : Nat) (l1 : List S45) (A2 : Option Addr) (c2 : Nat) (l2 : List S45) (v3 : Value) (w : World) (h3 : v3.oneCell' = true)
    (h0 : Kd.C kSt w A0 l0.length l0) (h1 : Kd.C kSt w A1 l1.length l1) (h2 : Kd.C kSt w A2 l2.length l2) (hl : l0.length + l1.length + l2.length < 1000000000) :
    Calls Try.prog 51 #[.agg #[.slice A0 l0.length c0, .slice A1 l1.length c1, .slice A2 l2.length c2, v3]] w fun e w' => ∃ A c, e = .returned (.slice A (l0 ++ l1 ++ l2).length c) ∧ (l0 ++ l1 ++ l2).length ≤ c ∧ Kd.C kSt w' A (l0 ++ l1 ++ l2).length (l0 ++ l1 ++ l2) ∧ Below w.heap.size w w' := by
  have H0 := Aside0.mk h0
  have H1 := Aside0.mk h1
  have H2 := Aside0.mk h2
  have HL := Aside0.mk hl
  have HS0 := Aside0.mk (Kd.C_alloc (Kd.C_alloc h0 (.cells #[.slice A0 l0.length c0, .slice A1 l1.length c1, .slice A2 l2.length c2, v3] 41)) (.cells #[.slice A0 l0.length c0, .slice A1 l1.length c1, .slice A2 l2.length c2] 38))
  have HS1 := Aside0.mk (Kd.C_alloc (Kd.C_alloc h1 (.cells #[.slice A0 l0.length c0, .slice A1 l1.length c1, .slice A2 l2.length c2, v3] 41)) (.cells #[.slice A0 l0.length c0, .slice A1 l1.length c1, .slice A2 l2.length c2] 38))
  have HS2 := Aside0.mk (Kd.C_alloc (Kd.C_alloc h2 (.cells #[.slice A0 l0.length c0, .slice A1 l1.length c1, .slice A2 l2.length c2, v3] 41)) (.cells #[.slice A0 l0.length c0, .slice A1 l1.length c1, .slice A2 l2.length c2] 38))
  have HBK : Aside0 (((w.alloc (.cells #[.slice A0 l0.length c0, .slice A1 l1.length c1, .slice A2 l2.length c2, v3] 41)).alloc (.cells #[.slice A0 l0.length c0, .slice A1 l1.length c1, .slice A2 l2.length c2] 38)).heap[w.heap.size + 1]? = some (.cells #[.slice A0 l0.length c0, .slice A1 l1.length c1, .slice A2 l2.length c2] 38 (0, 0))) := ⟨by have := heap_alloc_new (w.alloc (.cells #[.slice A0 l0.length c0, .slice A1 l1.length c1, .slice A2 l2.length c2, v3] 41)) (.cells #[.slice A0 l0.length c0, .slice A1 l1.length c1, .slice A2 l2.length c2] 38); rwa [World.size_alloc] at this⟩
  have HCC := Aside0.mk (concat_calls (w.heap.size + 1) A0 A1 A2 c0 c1 c2 l0 l1 l2 _ HBK.out HS0.out HS1.out HS2.out hl)
  clear h0 h1 h2 hl
  go_enter Try.func51, Try.ntmps51
  go_wp2_with (go_at_call 58; go_loud ((with_reducible refine HCC.out.mono ?_)); rintro e w1 ⟨v, inner, rfl, ho, hr, hb⟩; have HO := Aside0.mk ho; have HR := Aside0.mk hr; have HB := Aside0.mk hb; clear ho hr hb)
  go_ret
  obtain ⟨A, c, ev, h1, h2⟩ := C_of_row HO.out HR.out HB.out
  subst ev
  exact ⟨A, c, rfl, h1, h2, below_step (below_alloc (below_alloc (Below.refl _ w) _) _) HB.out⟩
end Go.Proofs.Ytcpicopaobhlcaa.Q
end
section
namespace Go.Proofs.Ytcpicopaobhlcaa.Q
open Go.RowKit Go.Proofs.YtcpicopaobhlcaaW.PrintWords Go.Proofs.YtcpicopaobhlcaaW.PrintLast Go.Proofs.YtcpicopaobhlcaaW.PrintMore
set_option linter.unusedVariables false
theorem rdG_mid (pre : List Rg) (x : Rg) (rest : List Rg) : rd_T69 (pre ++ x :: rest) (pre.length : Int) = x := by
  unfold rd_T69
  rw [Int.toNat_natCast, List.getD_eq_getElem?_getD, List.getElem?_append_right (Nat.le_refl _), Nat.sub_self]
  rfl
theorem wrap_suc {n : Nat} (h : n < 1000000000) : wrap64 ((n : Int) + 1) = ((n + 1 : Nat) : Int) := by unfold wrap64; omega
theorem valid_go : ∀ (xs ys px py : List Rg) (k : Nat), px.length = py.length → xs.length = ys.length → (px ++ xs).length < 1000000000 → xs.length + 1 ≤ k →
    cpset_Valid.l0 k (px ++ xs) ((px ++ xs).length : Int) (px.length : Int) (py ++ ys) = some (decide (xs.map toP = ys.map toP))
  | [], [], px, py, k, h1, h2, h3, h4 => by
    obtain ⟨k, rfl⟩ : ∃ j, k = j + 1 := ⟨k - 1, by omega⟩
    rw [cpset_Valid.l0, if_neg (by simp)]
    rfl
  | x :: xs, y :: ys, px, py, k, h1, h2, h3, h4 => by
    obtain ⟨k, rfl⟩ : ∃ j, k = j + 1 := ⟨k - 1, by omega⟩
    have hp : px.length < 1000000000 := by simp at h3; omega
    have ih := valid_go xs ys (px ++ [x]) (py ++ [y]) k (by simp [h1]) (by simpa using h2) (by simpa using h3) (by simp at h4; omega)
    have ex : (px ++ [x]) ++ xs = px ++ x :: xs := by simp
    have ey : (py ++ [y]) ++ ys = py ++ y :: ys := by simp
    have el : ((px ++ [x]).length : Int) = ((px.length + 1 : Nat) : Int) := by simp
    rw [ex, ey, el] at ih
    have e1 : rd_T69 (py ++ y :: ys) (px.length : Int) = y := by rw [h1]; exact rdG_mid _ _ _
    rw [cpset_Valid.l0, if_pos (by simp; omega), if_pos (by omega), if_pos (by simp; omega), if_pos (by simp at h2 ⊢; omega), rdG_mid, e1, wrap_suc hp]
    rw [ih]
    by_cases ha : x.f0 = y.f0
    · by_cases hb : x.f1 = y.f1
      · rw [if_neg (by simp [ha, hb])]
        simp [toP, ha, hb]
      · rw [if_pos (by simp [hb])]
        simp [toP, hb]
    · rw [if_pos (by simp [ha])]
      simp [toP, ha]
  | [], _ :: _, _, _, _, _, h2, _, _ => by simp at h2
  | _ :: _, [], _, _, _, _, h2, _, _ => by simp at h2
def mkRS (xs : List Rg) : List Rg := (CpM.make (xs.map toP)).map ofP
theorem valid_ok (s : St) (h : s.f0.length < 1000000000) : cpset_Valid.f (s.f0.length + 1) s.f0 = some (validS s) := by
  have hm : cpset_Make.f s.f0 = some (mkRS s.f0) := by unfold cpset_Make.f; rw [if_pos h]; rfl
  unfold cpset_Valid.f
  rw [hm]
  show (if ((mkRS s.f0).length : Int) = (s.f0.length : Int) then _ else _) = _
  unfold validS
  have e : (mkRS s.f0).map toP = CpM.make (s.f0.map toP) := toP_ofP _
  by_cases hl : (mkRS s.f0).length = s.f0.length
  · rw [if_pos (by omega)]
    have := valid_go (mkRS s.f0) s.f0 [] [] (s.f0.length + 1) rfl hl (by simpa [hl] using h) (by omega)
    rw [List.nil_append, List.nil_append, e] at this
    exact this.trans (congrArg some (decide_eq_decide.2 eq_comm))
  · rw [if_neg (by omega), decide_eq_false]
    intro hh
    rw [← e] at hh
    exact hl (by simpa using (congrArg List.length hh).symm)
def transrule_checkRule.f (k : Nat) (l0_0 l0_1 l0_2 : List S45) (l0_3 : List S59) : Option Int :=
  if okRule ⟨l0_0, l0_1, l0_2, l0_3⟩ = true then some (oneS ⟨l0_0, l0_1, l0_2, l0_3⟩) else none
/-- max of three whole numbers. -/
theorem run_max3 (w : World) (a b c : Int) : Sem.run Try.prog (Builtin.max_ #[3, 3, 3] 3 #[.int .i64 a, .int .i64 b, .int .i64 c]) w = .ok (.int .i64 (max a (max b c))) w := by
  simp [Builtin.max_, Builtin.max2]
  split <;> split <;> omega
theorem cpvalid_eq (c : Int) : codepoint_Valid.f c = some (decide (0 ≤ c ∧ c ≤ 1114111)) := by
  unfold codepoint_Valid.f
  split
  · rename_i h; simp only [ge_iff_le] at h; simp [h]
  · rename_i h; simp only [ge_iff_le] at h; simp [h]
def cond1 (x : Ru) : Bool := decide (x.f1.length < 1 ∨ 8 < x.f1.length ∨ 8 < x.f0.length ∨ 8 < x.f2.length ∨ 16 < x.f3.length)
set_option maxHeartbeats 4000000 in
set_option maxRecDepth 100000 in
theorem transrule_checkRule.calls (k : Nat) (A0_0 : Option Addr) (c0_0 : Nat) (l0_0 : List (S45)) (A0_1 : Option Addr) (c0_1 : Nat) (l0_1 : List (S45)) (A0_2 : Option Addr) (c0_2 : Nat) (l0_2 : List (S45)) (A0_3 : Option Addr) (c0_3 : Nat) (l0_3 : List (S59)) (r : Int) (w : World)
    (hr0_0 : Kd.C k45 w A0_0 l0_0.length l0_0) (hc0_0 : l0_0.length ≤ c0_0) (hr0_1 : Kd.C k45 w A0_1 l0_1.length l0_1) (hc0_1 : l0_1.length ≤ c0_1) (hr0_2 : Kd.C k45 w A0_2 l0_2.length l0_2) (hc0_2 : l0_2.length ≤ c0_2) (hr0_3 : Kd.C k59 w A0_3 l0_3.length l0_3) (hc0_3 : l0_3.length ≤ c0_3) (h : transrule_checkRule.f k l0_0 l0_1 l0_2 l0_3 = some r) :
    Calls Try.prog 41 #[.agg #[.slice A0_0 l0_0.length c0_0, .slice A0_1 l0_1.length c0_1, .slice A0_2 l0_2.length c0_2, .slice A0_3 l0_3.length c0_3]] w fun e w' => e = .returned (.int .i64 r) ∧ Below w.heap.size w w' := by
  have hn : okRule ⟨l0_0, l0_1, l0_2, l0_3⟩ = true ∧ oneS ⟨l0_0, l0_1, l0_2, l0_3⟩ = r := by
    unfold transrule_checkRule.f at h
    split at h
    · rename_i hl; exact ⟨hl, Option.some.inj h⟩
    · cases h
  have HOK := Aside0.mk hn.1
  have HRES := Aside0.mk hn.2
  have H0 := Aside0.mk hr0_0
  have H1 := Aside0.mk hr0_1
  have H2 := Aside0.mk hr0_2
  have H3 := Aside0.mk hr0_3
  clear hn h hr0_0 hr0_1 hr0_2 hr0_3 hc0_0 hc0_1 hc0_2 hc0_3
  go_enter Try.func41, Try.ntmps41
  by_cases h1 : l0_1.length < 1
  · have hr : r = 2 := by rw [← HRES.out]; unfold oneS; rw [if_pos (.inl h1)]
    have hd : decide ((l0_1.length : Int) < 1) = true := decide_eq_true (by omega)
    have HR := Aside0.mk hr
    clear hr h1
    go_wp2
    go_ret
    exact ⟨by rw [HR.out]; rfl, below_alloc (Below.refl _ w) _⟩
  · have hd : decide ((l0_1.length : Int) < 1) = false := decide_eq_false (by omega)
    have hM : ∀ w, Sem.run Try.prog (Builtin.max_ #[3, 3, 3] 3 #[.int .i64 (l0_1.length : Int), .int .i64 (l0_0.length : Int), .int .i64 (l0_2.length : Int)]) w = .ok (.int .i64 (max (l0_1.length : Int) (max (l0_0.length : Int) (l0_2.length : Int)))) w := fun w => run_max3 w _ _ _
    generalize hMM : max (l0_1.length : Int) (max (l0_0.length : Int) (l0_2.length : Int)) = M at hM
    by_cases h2 : M > 8
    · have hr : r = 2 := by rw [← HRES.out]; unfold oneS; simp only; rw [if_pos (by omega)]
      have hd2 : decide (M > 8) = true := decide_eq_true h2
      have HR := Aside0.mk hr
      clear hr h1 h2 hMM
      go_wp2
      go_ret
      exact ⟨by rw [HR.out]; rfl, below_alloc (Below.refl _ w) _⟩
    · have hd2 : decide (M > 8) = false := decide_eq_false h2
      by_cases h3 : (l0_3.length : Int) > 16
      · have hr : r = 2 := by rw [← HRES.out]; unfold oneS; simp only; rw [if_pos (by omega)]
        have hd3 : decide ((l0_3.length : Int) > 16) = true := decide_eq_true h3
        have HR := Aside0.mk hr
        clear hr h1 h2 h3 hMM
        go_wp2
        go_ret
        exact ⟨by rw [HR.out]; rfl, below_alloc (Below.refl _ w) _⟩
      · have hd3 : decide ((l0_3.length : Int) > 16) = false := decide_eq_false h3
        have HC1 : Aside0 (¬ (l0_1.length < 1 ∨ 8 < l0_1.length ∨ 8 < l0_0.length ∨ 8 < l0_2.length ∨ 16 < l0_3.length)) := ⟨by omega⟩
        clear h1 h2 h3 hMM
        go_upto_region 3 with (fail)
        have HSZ := Aside0.mk HOK.out
        have hok := HOK.out
        simp only [okRule, Bool.and_eq_true, decide_eq_true_eq, List.all_eq_true] at hok
        have HSC := Aside0.mk (sets_calls A0_0 c0_0 l0_0 A0_1 c0_1 l0_1 A0_2 c0_2 l0_2 (.slice A0_3 l0_3.length c0_3) (w.alloc (.cells #[.slice A0_0 l0_0.length c0_0, .slice A0_1 l0_1.length c0_1, .slice A0_2 l0_2.length c0_2, .slice A0_3 l0_3.length c0_3] 41)) rfl (Kd.C_alloc H0.out _) (Kd.C_alloc H1.out _) (Kd.C_alloc H2.out _) (by omega))
        have hall : ∀ s ∈ l0_0 ++ l0_1 ++ l0_2, s.f0.length ≤ 12 := by
          intro s hs
          simp only [List.mem_append] at hs
          rcases hs with (hs | hs) | hs
          · exact of_decide_eq_true (hok.2.1 s hs)
          · exact of_decide_eq_true (hok.2.2.1 s hs)
          · exact of_decide_eq_true (hok.2.2.2 s hs)
        have HALL := Aside0.mk hall
        have HL3 : Aside0 (l0_3.length < 100000000) := ⟨hok.1.2.2.2⟩
        have HSL : Aside0 ((l0_0 ++ l0_1 ++ l0_2).length < 1000000000) := ⟨by simp only [List.length_append]; omega⟩
        clear hok hall HOK HSZ H0 H1 H2 hM
        generalize hss : l0_0 ++ l0_1 ++ l0_2 = ss at HSC HALL HSL
        have HSS := Aside0.mk hss
        clear hss
        have HXB := Aside0.mk (heap_alloc_new w (.cells #[.slice A0_0 l0_0.length c0_0, .slice A0_1 l0_1.length c0_1, .slice A0_2 l0_2.length c0_2, .slice A0_3 l0_3.length c0_3] 41))
        go_wp2_with (go_at_call 51; (with_reducible refine HSC.out.mono ?_); rintro e w1 ⟨As1, cs1, rfl, hlc1, hcs, hb⟩; have HCS := Aside0.mk hcs; have HB1 := Aside0.mk hb; clear hcs hb hlc1)
        have HXB1 := Aside0.mk (blk_below HXB.out HB1.out)
        have HBW := Aside0.mk (below_step (below_alloc (Below.refl _ w) _) HB1.out)
        clear HSC HXB HB1
        go_loopw [34] (fun i wr => ∃ (k : Nat), i = .int .i64 k ∧ Aside0 (k ≤ ss.length) ∧ Aside0 ((ss.take k).any (fun s => !validS s || decide (s.f0.length = 0)) = false) ∧ Aside0 (Below w1.heap.size w1 wr)) (fun i _ => ss.length - (intOf i).toNat)
        case atStart => exact ⟨0, rfl, ⟨Nat.zero_le _⟩, ⟨rfl⟩, ⟨Below.refl _ _⟩⟩
        case round =>
          obtain ⟨k, rfl, HK, HAN, HB⟩ := hrel
          by_cases hlt : k < ss.length
          · obtain ⟨ad, As, cs, e, hx0, hlc, hsr⟩ := at_T45 HCS.out (k : Int) (by omega) (by omega)
            cases e
            rw [Int.toNat_natCast] at hx0
            have hc0 := (HB.out.cell (World.block_lt_of_cell? w1 _ hx0)).trans hx0
            have HSR := Aside0.mk (Kd.C_below hsr HB.out)
            clear hx0 hsr
            have hst : ss.take (k + 1) = ss.take k ++ [rd_T45 ss (k : Int)] := by
              unfold rd_T45
              rw [Int.toNat_natCast, List.getD_eq_getElem?_getD, List.take_add_one, List.getElem?_eq_getElem hlt]
              rfl
            have hmem : rd_T45 ss (k : Int) ∈ ss := by unfold rd_T45; rw [Int.toNat_natCast, List.getD_eq_getElem?_getD, List.getElem?_eq_getElem hlt]; exact List.getElem_mem hlt
            have HSM := Aside0.mk (HALL.out _ hmem)
            have HMEM := Aside0.mk hmem
            have HST := Aside0.mk hst
            clear hmem hst
            generalize rd_T45 ss (k : Int) = s at *
            have hp : (0 ≤ (k : Int)) = True := eq_true (by omega)
            have hw : wrap64 ((k : Int) + 1) = (k : Int) + 1 := by have := HSL.out; unfold wrap64; omega
            have HV := Aside0.mk (valid_ok s (by have := HSM.out; omega))
            have hnx : (ss.take (k + 1)).any (fun s => !validS s || decide (s.f0.length = 0)) = (!validS s || decide (s.f0.length = 0)) := by rw [HST.out, List.any_append, HAN.out]; simp
            have HNX := Aside0.mk hnx
            have hbad : (!validS s || decide (s.f0.length = 0)) = true → r = 11 := fun hb => by
              rw [← HRES.out]
              unfold oneS
              simp only
              rw [if_neg HC1.out, if_pos]
              rw [HSS.out, List.any_eq_true]
              exact ⟨s, HMEM.out, hb⟩
            have HBAD := Aside0.mk hbad
            clear hnx hbad
            generalize validS s = b at HV HNX HBAD
            cases b with
            | false =>
              have HR := Aside0.mk (HBAD.out rfl)
              go_wp2_with (go_at_call 52; (with_reducible refine (cpset_Valid.calls (s.f0.length + 1) _ _ s.f0 false _ ?s1 hlc HV.out).mono ?_); (case s1 => exact Kd.C_alloc HSR.out _); rintro e w2 ⟨rfl, hb⟩; have hbx := pw_cell_below hb ((blk_cell (heap_alloc_new wr (.cells #[.slice As s.f0.length cs] 45)) 0).trans rfl); have HB2 := Aside0.mk (below_step (below_alloc HB.out _) hb); clear hb)
              go_ret
              exact ⟨by rw [HR.out]; rfl, below_step HBW.out HB2.out⟩
            | true =>
              by_cases hz : s.f0.length = 0
              · have HR := Aside0.mk (HBAD.out (by rw [decide_eq_true hz]; rfl))
                have hzz : ((s.f0.length : Int) == 0) = true := by rw [hz]; rfl
                clear hz
                go_wp2_with (go_at_call 52; (with_reducible refine (cpset_Valid.calls (s.f0.length + 1) _ _ s.f0 true _ ?s1 hlc HV.out).mono ?_); (case s1 => exact Kd.C_alloc HSR.out _); rintro e w2 ⟨rfl, hb⟩; have hbx := pw_cell_below hb ((blk_cell (heap_alloc_new wr (.cells #[.slice As s.f0.length cs] 45)) 0).trans rfl); have HB2 := Aside0.mk (below_step (below_alloc HB.out _) hb); clear hb)
                go_ret
                exact ⟨by rw [HR.out]; rfl, below_step HBW.out HB2.out⟩
              · have HN2 : Aside0 ((ss.take (k + 1)).any (fun s => !validS s || decide (s.f0.length = 0)) = false) := ⟨by rw [HNX.out, decide_eq_false hz]; rfl⟩
                have hzz : ((s.f0.length : Int) == 0) = false := by rw [beq_eq_false_iff_ne]; omega
                clear hz
                go_wp2_with (go_at_call 52; (with_reducible refine (cpset_Valid.calls (s.f0.length + 1) _ _ s.f0 true _ ?s1 hlc HV.out).mono ?_); (case s1 => exact Kd.C_alloc HSR.out _); rintro e w2 ⟨rfl, hb⟩; have hbx := pw_cell_below hb ((blk_cell (heap_alloc_new wr (.cells #[.slice As s.f0.length cs] 45)) 0).trans rfl); have HB2 := Aside0.mk (below_step (below_alloc HB.out _) hb); clear hb)
                go_roundw
                case rel => exact ⟨k + 1, by rw [hw]; rfl, ⟨hlt⟩, HN2, HB2⟩
                case measure => rw [hw]; simp only [intOf]; omega
          · obtain rfl : k = ss.length := by have := HK.out; omega
            rw [List.take_length] at HAN
            have hxb := blk_below HXB1.out HB.out
            have hx0 : wr.cell? ⟨w.heap.size, 0, none⟩ = some (.slice A0_0 l0_0.length c0_0) := (blk_cell hxb 0).trans rfl
            have hx1 : wr.cell? ⟨w.heap.size, 1, none⟩ = some (.slice A0_1 l0_1.length c0_1) := (blk_cell hxb 1).trans rfl
            have hx3 : wr.cell? ⟨w.heap.size, 3, none⟩ = some (.slice A0_3 l0_3.length c0_3) := (blk_cell hxb 3).trans rfl
            have hbwr := below_step HBW.out HB.out
            have H3' := Aside0.mk (Kd.C_below H3.out hbwr)
            have HX1 := Aside0.mk hx1
            have HBWR := Aside0.mk hbwr
            clear hxb hbwr HBW HB HXB1 HCS HSL HALL H3 hd hd2 hd3 hx0 hx1
            obtain ⟨w5, rfl⟩ : ∃ w5, w5 = wr := ⟨_, rfl⟩
            go_wp2
            go_loopw [51] (fun i wq => ∃ (k : Nat), i = .int .i64 k ∧ Aside0 (k ≤ l0_3.length) ∧ Aside0 ((l0_3.take k).any (pieceBad l0_1.length) = false) ∧ Aside0 (Below w5.heap.size w5 wq)) (fun i _ => l0_3.length - (intOf i).toNat)
            case atStart => exact ⟨0, rfl, ⟨Nat.zero_le _⟩, ⟨rfl⟩, ⟨Below.refl _ _⟩⟩
            case round =>
              obtain ⟨k, rfl, HK, HAP, HB⟩ := hrel
              by_cases hlt : k < l0_3.length
              · obtain ⟨ad, e, hy0, hy1⟩ := at_T59 H3'.out (k : Int) (by omega) (by omega)
                cases e
                rw [Int.toNat_natCast] at hy0 hy1
                have hc0 := (HB.out.cell (World.block_lt_of_cell? w5 _ hy0)).trans hy0
                have hc1 := (HB.out.cell (World.block_lt_of_cell? w5 _ hy1)).trans hy1
                have hx1 := (HB.out.cell (World.block_lt_of_cell? w5 _ HX1.out)).trans HX1.out
                have hst : l0_3.take (k + 1) = l0_3.take k ++ [rd_T59 l0_3 (k : Int)] := by
                  unfold rd_T59
                  rw [Int.toNat_natCast, List.getD_eq_getElem?_getD, List.take_add_one, List.getElem?_eq_getElem hlt]
                  rfl
                have hmem : rd_T59 l0_3 (k : Int) ∈ l0_3 := by unfold rd_T59; rw [Int.toNat_natCast, List.getD_eq_getElem?_getD, List.getElem?_eq_getElem hlt]; exact List.getElem_mem hlt
                have HNX : Aside0 ((l0_3.take (k + 1)).any (pieceBad l0_1.length) = pieceBad l0_1.length (rd_T59 l0_3 (k : Int))) := ⟨by rw [hst, List.any_append, HAP.out]; simp⟩
                have HBAD : Aside0 (pieceBad l0_1.length (rd_T59 l0_3 (k : Int)) = true → r = 1) := ⟨fun hb => by
                  rw [← HRES.out]
                  unfold oneS
                  simp only
                  rw [if_neg HC1.out, if_neg (by rw [HSS.out, HAN.out]; decide), if_pos (List.any_eq_true.2 ⟨_, hmem, hb⟩)]⟩
                clear hst hmem hy0 hy1
                generalize rd_T59 l0_3 (k : Int) = p at *
                have hx1b := pw_cell_below (below_alloc (Below.refl _ wr) (.cells #[.int .i64 p.f0, .int .i64 p.f1] 59)) hx1
                have hp : (0 ≤ (k : Int)) = True := eq_true (by omega)
                have hw : wrap64 ((k : Int) + 1) = (k : Int) + 1 := by have := HL3.out; unfold wrap64; omega
                by_cases h1 : p.f0 = 0
                · have e1 : (p.f0 == 0) = true := by rw [h1]; rfl
                  have D1 := Aside0.mk (decide_eq_true h1)
                  by_cases h2 : 1 ≤ p.f1
                  · have d2 : decide (p.f1 ≥ 1) = true := decide_eq_true h2
                    have D2 := Aside0.mk (decide_eq_true h2)
                    by_cases h3 : p.f1 ≤ (l0_1.length : Int)
                    · have d3 : decide (p.f1 ≤ (l0_1.length : Int)) = true := decide_eq_true h3
                      have HPB : Aside0 (pieceBad l0_1.length p = false) := ⟨by unfold pieceBad; rw [D1.out, D2.out, d3]; rfl⟩
                      clear h1 h2 h3
                      go_wp2
                      go_roundw
                      case rel => exact ⟨k + 1, by rw [hw]; rfl, ⟨hlt⟩, ⟨by rw [HNX.out, HPB.out]⟩, ⟨by repeat (first | (with_reducible first | exact HB.out | apply below_alloc | apply pw_below_drewN | apply below_drew1) | exact HB.out)⟩⟩
                      case measure => rw [hw]; simp only [intOf]; omega
                    · have d3 : decide (p.f1 ≤ (l0_1.length : Int)) = false := decide_eq_false h3
                      have D3 := Aside0.mk d3
                      clear h1 h2 h3
                      by_cases h4 : p.f1 = 0
                      · have e4 : (p.f1 == 0) = true := by rw [h4]; rfl
                        have e4b : (p.f1 != 0) = false := by rw [h4]; rfl
                        have e4c : (!decide (p.f1 = 0)) = false := by rw [decide_eq_true h4]; rfl
                        have D4 : decide (p.f1 = 0) = true := decide_eq_true h4
                        have HV := Aside0.mk (cpvalid_eq p.f0)
                        by_cases h5 : 0 ≤ p.f0 ∧ p.f0 ≤ 1114111
                        · have D5 : (decide (0 ≤ p.f0) && decide (p.f0 ≤ 1114111)) = true := by rw [← Bool.decide_and]; exact decide_eq_true h5
                          rw [decide_eq_true h5] at HV
                          have HPB : Aside0 (pieceBad l0_1.length p = false) := ⟨by unfold pieceBad; rw [D1.out, D2.out, D3.out, D4, D5]; rfl⟩
                          clear D5 h4 h5
                          go_wp2_with (go_at_call 53; (with_reducible refine (codepoint_Valid.calls p.f0 true _ HV.out).mono ?_); rintro e w2 ⟨rfl, ⟨nd, rfl⟩⟩)
                          go_roundw
                          case rel => exact ⟨k + 1, by rw [hw]; rfl, ⟨hlt⟩, ⟨by rw [HNX.out, HPB.out]⟩, ⟨by repeat (first | (with_reducible first | exact HB.out | apply below_alloc | apply pw_below_drewN | apply below_drew1) | exact HB.out)⟩⟩
                          case measure => rw [hw]; simp only [intOf]; omega
                        · have D5 : (decide (0 ≤ p.f0) && decide (p.f0 ≤ 1114111)) = false := by rw [← Bool.decide_and]; exact decide_eq_false h5
                          rw [decide_eq_false h5] at HV
                          have HR := Aside0.mk (HBAD.out (show pieceBad l0_1.length p = true by unfold pieceBad; rw [D1.out, D2.out, D3.out, D4, D5]; rfl))
                          clear D5 h4 h5
                          go_wp2_with (go_at_call 53; (with_reducible refine (codepoint_Valid.calls p.f0 false _ HV.out).mono ?_); rintro e w2 ⟨rfl, ⟨nd, rfl⟩⟩)
                          go_ret
                          exact ⟨by rw [HR.out]; rfl, below_step HBWR.out (by repeat (first | (with_reducible first | exact HB.out | apply below_alloc | apply pw_below_drewN | apply below_drew1) | exact HB.out))⟩
                      · have e4 : (p.f1 == 0) = false := by rw [beq_eq_false_iff_ne]; exact h4
                        have e4b : (p.f1 != 0) = true := by rw [bne_iff_ne]; exact h4
                        have e4c : (!decide (p.f1 = 0)) = true := by rw [decide_eq_false h4]; rfl
                        have D4 : decide (p.f1 = 0) = false := decide_eq_false h4
                        have HR := Aside0.mk (HBAD.out (show pieceBad l0_1.length p = true by unfold pieceBad; rw [D1.out, D2.out, D3.out, D4]; rfl))
                        clear h4
                        go_wp2
                        go_ret
                        exact ⟨by rw [HR.out]; rfl, below_step HBWR.out (by repeat (first | (with_reducible first | exact HB.out | apply below_alloc | apply pw_below_drewN | apply below_drew1) | exact HB.out))⟩
                  · have d2 : decide (p.f1 ≥ 1) = false := decide_eq_false h2
                    have D2 : Aside0 (decide (1 ≤ p.f1) = false) := ⟨decide_eq_false h2⟩
                    clear h1 h2
                    by_cases h4 : p.f1 = 0
                    · have e4 : (p.f1 == 0) = true := by rw [h4]; rfl
                      have e4b : (p.f1 != 0) = false := by rw [h4]; rfl
                      have e4c : (!decide (p.f1 = 0)) = false := by rw [decide_eq_true h4]; rfl
                      have D4 : decide (p.f1 = 0) = true := decide_eq_true h4
                      have HV := Aside0.mk (cpvalid_eq p.f0)
                      by_cases h5 : 0 ≤ p.f0 ∧ p.f0 ≤ 1114111
                      · have D5 : (decide (0 ≤ p.f0) && decide (p.f0 ≤ 1114111)) = true := by rw [← Bool.decide_and]; exact decide_eq_true h5
                        rw [decide_eq_true h5] at HV
                        have HPB : Aside0 (pieceBad l0_1.length p = false) := ⟨by unfold pieceBad; rw [D1.out, D2.out, D4, D5]; rfl⟩
                        clear D5 h4 h5
                        go_wp2_with (go_at_call 53; (with_reducible refine (codepoint_Valid.calls p.f0 true _ HV.out).mono ?_); rintro e w2 ⟨rfl, ⟨nd, rfl⟩⟩)
                        go_roundw
                        case rel => exact ⟨k + 1, by rw [hw]; rfl, ⟨hlt⟩, ⟨by rw [HNX.out, HPB.out]⟩, ⟨by repeat (first | (with_reducible first | exact HB.out | apply below_alloc | apply pw_below_drewN | apply below_drew1) | exact HB.out)⟩⟩
                        case measure => rw [hw]; simp only [intOf]; omega
                      · have D5 : (decide (0 ≤ p.f0) && decide (p.f0 ≤ 1114111)) = false := by rw [← Bool.decide_and]; exact decide_eq_false h5
                        rw [decide_eq_false h5] at HV
                        have HR := Aside0.mk (HBAD.out (show pieceBad l0_1.length p = true by unfold pieceBad; rw [D1.out, D2.out, D4, D5]; rfl))
                        clear D5 h4 h5
                        go_wp2_with (go_at_call 53; (with_reducible refine (codepoint_Valid.calls p.f0 false _ HV.out).mono ?_); rintro e w2 ⟨rfl, ⟨nd, rfl⟩⟩)
                        go_ret
                        exact ⟨by rw [HR.out]; rfl, below_step HBWR.out (by repeat (first | (with_reducible first | exact HB.out | apply below_alloc | apply pw_below_drewN | apply below_drew1) | exact HB.out))⟩
                    · have e4 : (p.f1 == 0) = false := by rw [beq_eq_false_iff_ne]; exact h4
                      have e4b : (p.f1 != 0) = true := by rw [bne_iff_ne]; exact h4
                      have e4c : (!decide (p.f1 = 0)) = true := by rw [decide_eq_false h4]; rfl
                      have D4 : decide (p.f1 = 0) = false := decide_eq_false h4
                      have HR := Aside0.mk (HBAD.out (show pieceBad l0_1.length p = true by unfold pieceBad; rw [D1.out, D2.out, D4]; rfl))
                      clear h4
                      go_wp2
                      go_ret
                      exact ⟨by rw [HR.out]; rfl, below_step HBWR.out (by repeat (first | (with_reducible first | exact HB.out | apply below_alloc | apply pw_below_drewN | apply below_drew1) | exact HB.out))⟩
                · have e1 : (p.f0 == 0) = false := by rw [beq_eq_false_iff_ne]; exact h1
                  have D1 := Aside0.mk (decide_eq_false h1)
                  clear h1
                  by_cases h4 : p.f1 = 0
                  · have e4 : (p.f1 == 0) = true := by rw [h4]; rfl
                    have e4b : (p.f1 != 0) = false := by rw [h4]; rfl
                    have e4c : (!decide (p.f1 = 0)) = false := by rw [decide_eq_true h4]; rfl
                    have D4 : decide (p.f1 = 0) = true := decide_eq_true h4
                    have HV := Aside0.mk (cpvalid_eq p.f0)
                    by_cases h5 : 0 ≤ p.f0 ∧ p.f0 ≤ 1114111
                    · have D5 : (decide (0 ≤ p.f0) && decide (p.f0 ≤ 1114111)) = true := by rw [← Bool.decide_and]; exact decide_eq_true h5
                      rw [decide_eq_true h5] at HV
                      have HPB : Aside0 (pieceBad l0_1.length p = false) := ⟨by unfold pieceBad; rw [D1.out, D4, D5]; rfl⟩
                      clear D5 h4 h5
                      go_wp2_with (go_at_call 53; (with_reducible refine (codepoint_Valid.calls p.f0 true _ HV.out).mono ?_); rintro e w2 ⟨rfl, ⟨nd, rfl⟩⟩)
                      go_roundw
                      case rel => exact ⟨k + 1, by rw [hw]; rfl, ⟨hlt⟩, ⟨by rw [HNX.out, HPB.out]⟩, ⟨by repeat (first | (with_reducible first | exact HB.out | apply below_alloc | apply pw_below_drewN | apply below_drew1) | exact HB.out)⟩⟩
                      case measure => rw [hw]; simp only [intOf]; omega
                    · have D5 : (decide (0 ≤ p.f0) && decide (p.f0 ≤ 1114111)) = false := by rw [← Bool.decide_and]; exact decide_eq_false h5
                      rw [decide_eq_false h5] at HV
                      have HR := Aside0.mk (HBAD.out (show pieceBad l0_1.length p = true by unfold pieceBad; rw [D1.out, D4, D5]; rfl))
                      clear D5 h4 h5
                      go_wp2_with (go_at_call 53; (with_reducible refine (codepoint_Valid.calls p.f0 false _ HV.out).mono ?_); rintro e w2 ⟨rfl, ⟨nd, rfl⟩⟩)
                      go_ret
                      exact ⟨by rw [HR.out]; rfl, below_step HBWR.out (by repeat (first | (with_reducible first | exact HB.out | apply below_alloc | apply pw_below_drewN | apply below_drew1) | exact HB.out))⟩
                  · have e4 : (p.f1 == 0) = false := by rw [beq_eq_false_iff_ne]; exact h4
                    have e4b : (p.f1 != 0) = true := by rw [bne_iff_ne]; exact h4
                    have e4c : (!decide (p.f1 = 0)) = true := by rw [decide_eq_false h4]; rfl
                    have D4 : decide (p.f1 = 0) = false := decide_eq_false h4
                    have HR := Aside0.mk (HBAD.out (show pieceBad l0_1.length p = true by unfold pieceBad; rw [D1.out, D4]; rfl))
                    clear h4
                    go_wp2
                    go_ret
                    exact ⟨by rw [HR.out]; rfl, below_step HBWR.out (by repeat (first | (with_reducible first | exact HB.out | apply below_alloc | apply pw_below_drewN | apply below_drew1) | exact HB.out))⟩
              · obtain rfl : k = l0_3.length := by have := HK.out; omega
                rw [List.take_length] at HAP
                have HR : Aside0 (r = 0) := ⟨by
                  rw [← HRES.out]
                  unfold oneS
                  simp only
                  rw [if_neg HC1.out, if_neg (by rw [HSS.out, HAN.out]; decide), if_neg (by rw [HAP.out]; decide)]⟩
                go_wp2
                go_ret
                exact ⟨by rw [HR.out]; rfl, below_step HBWR.out HB.out⟩
end Go.Proofs.Ytcpicopaobhlcaa.Q
end
section
namespace Go.Proofs.Ytcpicopaobhlcaa.Q
open Go.RowKit Go.Proofs.YtcpicopaobhlcaaW.PrintWords Go.Proofs.YtcpicopaobhlcaaW.PrintLast Go.Proofs.YtcpicopaobhlcaaW.PrintMore
attribute [local go_sem] max2_int min2_int max_two min_two max_three min_three max_four min_four   -- for this text's walks alone
set_option linter.unusedVariables false
set_option linter.unusedSimpArgs false
def transrule_Check.l0 : Nat → List (S41) → Int → Int → Option (Int)
  | 0, _, _, _ => none
  | k + 1, x9, x10, x11 => if x11 < x10 then (if 0 ≤ x11 then (if x11 < (x9.length : Int) then ((transrule_checkRule.f k ((rd_T41 x9 x11).f0) ((rd_T41 x9 x11).f1) ((rd_T41 x9 x11).f2) ((rd_T41 x9 x11).f3)).bind fun t116 => (if t116 = 0 then (transrule_Check.l0 k x9 x10 (wrap64 (x11 + 1))) else (some t116))) else (none)) else (none)) else (some 0)
def transrule_Check.f (k : Nat) (l0 : List (S41)) : Option (Int) := if (l0.length : Int) > 200 then (some 2) else (transrule_Check.l0 k l0 (l0.length : Int) 0)
set_option maxHeartbeats 8000000 in
set_option maxRecDepth 100000 in
theorem transrule_Check.calls (k : Nat) (A0 : Option Addr) (c0 : Nat) (l0 : List (S41)) (r : Int) (w : World) (hr0 : Kd.C k41 w A0 l0.length l0) (hc0 : l0.length ≤ c0) (h : transrule_Check.f k l0 = some r) :
    Calls Try.prog 26 #[.slice A0 l0.length c0] w fun e w' => e = .returned (.int .i64 r) ∧ Below w.heap.size w w' := by
  have hu41 := Try.underlying41
  have HR0 := Aside0.mk hr0
  have HC0 := Aside0.mk hc0
  clear hr0 hc0
  have HB := Aside0.mk (Below.refl w.heap.size w)
  have H : (if (l0.length : Int) > 200 then (some 2) else (transrule_Check.l0 k l0 (l0.length : Int) 0)) = some r := h
  clear h
  by_cases c2 : (l0.length : Int) > 200
  · rw [if_pos c2] at H
    have c2b0 : decide (200 < (l0.length : Int)) = true := decide_eq_true c2
    have c2b1 : decide (200 < l0.length) = true := decide_eq_true (by omega)
    clear c2
    obtain rfl := Option.some.inj H
    go_enter Try.func26, Try.ntmps26
    go_wp2
    go_ret
    exact ⟨by first | rfl | (simp [errW_none, errW_some] <;> rfl) | (simp [*, errW_none, errW_some] <;> rfl), by repeat (first | (with_reducible first | exact HB.out | apply below_alloc | apply pw_below_drewN | apply below_drew1) | exact HB.out)⟩
  · rw [if_neg c2] at H
    have c2b0 : decide (200 < (l0.length : Int)) = false := decide_eq_false c2
    have c2b1 : decide (200 < l0.length) = false := decide_eq_false (by omega)
    clear c2
    have H' := Aside0.mk H
    clear H
    go_enter Try.func26, Try.ntmps26
    go_wp2
    go_loopg [11] k (fun kq v11 w' => ∃ (x11_1 : Int), v11 = .int .i64 x11_1 ∧ Aside0 (transrule_Check.l0 kq l0 (l0.length : Int) x11_1 = some r) ∧ Aside0 (kq ≤ k) ∧ Aside0 (Below w.heap.size w w'))
    case atStart => exact ⟨(0), (by first | rfl | (simp; done) | (simp [*]; done)), H', ⟨Nat.le_refl _⟩, ⟨by repeat (first | (with_reducible first | exact HB.out | apply below_alloc | apply pw_below_drewN | apply below_drew1) | exact HB.out)⟩⟩
    case round =>
      clear H'
      try clear c2
      try clear c2b0
      try clear c2b1
      try clear p2
      obtain ⟨x11_1, rfl, HA, HK1, HB⟩ := hrel
      cases gk with
      | zero => exact absurd HA.out (by simp [transrule_Check.l0])
      | succ k1 =>
        have H := HA.out
        clear HA
        simp only [transrule_Check.l0] at H
        by_cases c3 : x11_1 < (l0.length : Int)
        · rw [if_pos c3] at H
          have c3b0 : decide (x11_1 < (l0.length : Int)) = true := decide_eq_true c3
          clear c3
          by_cases c4 : 0 ≤ x11_1
          · rw [if_pos c4] at H
            have c4b0 : decide (0 ≤ x11_1) = true := decide_eq_true c4
            clear c4
            by_cases c5 : x11_1 < (l0.length : Int)
            · rw [if_pos c5] at H
              have c5b0 : decide (x11_1 < (l0.length : Int)) = true := decide_eq_true c5
              clear c5
              replace H := Option.bind_eq_some_iff.mp H
              obtain ⟨t116, A60, H⟩ := H
              replace H : (if t116 = 0 then (transrule_Check.l0 k1 l0 (l0.length : Int) (wrap64 (x11_1 + 1))) else (some t116)) = some r := H
              have A6 := Aside0.mk A60
              clear A60
              by_cases c7 : t116 = 0
              · rw [if_pos c7] at H
                have c7b0 : (t116 == 0) = true := beq_iff_eq.mpr c7
                have c7b1 : (t116 != 0) = false := bne_eq_false_iff_eq.mpr c7
                clear c7
                have H' := Aside0.mk H
                clear H
                have p114 : 0 ≤ (x11_1 : Int) := of_decide_eq_true (by first | (with_reducible assumption) | assumption)
                have q114 : x11_1 < (l0.length : Int) := of_decide_eq_true (by first | (with_reducible assumption) | assumption)
                obtain ⟨ad114, A114_0, c114_0, A114_1, c114_1, A114_2, c114_2, A114_3, c114_3, e114, hx114_0, hx114_1, hx114_2, hx114_3, hl114_0, hi114_0, hl114_1, hi114_1, hl114_2, hi114_2, hl114_3, hi114_3⟩ := at_T41 HR0.out x11_1 p114 q114
                cases e114
                replace hx114_0 := (HB.out.cell (World.block_lt_of_cell? w _ hx114_0)).trans hx114_0
                replace hx114_1 := (HB.out.cell (World.block_lt_of_cell? w _ hx114_1)).trans hx114_1
                replace hx114_2 := (HB.out.cell (World.block_lt_of_cell? w _ hx114_2)).trans hx114_2
                replace hx114_3 := (HB.out.cell (World.block_lt_of_cell? w _ hx114_3)).trans hx114_3
                have HR114_0 := Aside0.mk hi114_0
                have HC114_0 := Aside0.mk hl114_0
                clear hi114_0 hl114_0
                have HR114_1 := Aside0.mk hi114_1
                have HC114_1 := Aside0.mk hl114_1
                clear hi114_1 hl114_1
                have HR114_2 := Aside0.mk hi114_2
                have HC114_2 := Aside0.mk hl114_2
                clear hi114_2 hl114_2
                have HR114_3 := Aside0.mk hi114_3
                have HC114_3 := Aside0.mk hl114_3
                clear hi114_3 hl114_3
                replace p114 := eq_true p114
                replace q114 := eq_true q114
                go_wp2_with (first | ((with_reducible refine gate_dst (N := 4) rfl ?_); refine box_event ?hg (N := 4) ?hd (cs := #[.slice none 0 0, .slice none 0 0, .slice none 0 0, .slice none 0 0]) (t := 41) ?hr ?_; (case hd => rfl); (case hg => rfl); (case hr => first | (go_simp; done) | (go_simp; rfl)); intro gb115 hg w8 hbox hb; have n0_ := Aside0.mk (below_step (by repeat (first | (with_reducible first | exact HB.out | apply below_alloc | apply pw_below_drewN | apply below_drew1) | exact HB.out)) hb); have n1_ := Aside0.mk (hbox); have n2_ := Aside0.mk ((by rw [hg]; exact (below_size (by repeat (first | (with_reducible first | exact HB.out | apply below_alloc | apply pw_below_drewN | apply below_drew1) | exact HB.out))) : w.heap.size ≤ gb115)); have n3_ := Aside0.mk ((by rw [hg]; exact (below_size (by repeat (first | (with_reducible first | exact HB.out | apply below_alloc | apply pw_below_drewN | apply below_drew1) | exact HB.out))) : w.heap.size ≤ gb115)); clear HB; have HB := n0_; have BK115 := n1_; have GW115 := n2_; have GE115 := n3_; clear n0_ n1_ n2_ n3_; clear hb hbox hg; have hcz9_0 : w8.cell? ⟨gb115, 0, none⟩ = some (.slice none 0 0) := (blk_cell BK115.out 0).trans rfl; have hcz9_1 : w8.cell? ⟨gb115, 1, none⟩ = some (.slice none 0 0) := (blk_cell BK115.out 1).trans rfl; have hcz9_2 : w8.cell? ⟨gb115, 2, none⟩ = some (.slice none 0 0) := (blk_cell BK115.out 2).trans rfl; have hcz9_3 : w8.cell? ⟨gb115, 3, none⟩ = some (.slice none 0 0) := (blk_cell BK115.out 3).trans rfl; have hfz9_0 := blk_frozen BK115.out 0; have hfz9_1 := blk_frozen BK115.out 1; have hfz9_2 := blk_frozen BK115.out 2; have hfz9_3 := blk_frozen BK115.out 3) | ((with_reducible refine gate_callee (f := 41) rfl ?_); refine goesL_ (some 16) rfl rfl Try.func41 (by kernel_rfl) rfl #[.agg #[.slice A114_0 ((rd_T41 l0 x11_1).f0).length c114_0, .slice A114_1 ((rd_T41 l0 x11_1).f1).length c114_1, .slice A114_2 ((rd_T41 l0 x11_1).f2).length c114_2, .slice A114_3 ((rd_T41 l0 x11_1).f3).length c114_3]] rfl (by (try simp only [List.map_toArray, List.map_cons, List.map_nil]); first | done | rfl | (simp only [List.length_drop, List.length_take]; rfl)) ?_; (with_reducible refine (transrule_checkRule.calls k1 _ _ ((rd_T41 l0 x11_1).f0) _ _ ((rd_T41 l0 x11_1).f1) _ _ ((rd_T41 l0 x11_1).f2) _ _ ((rd_T41 l0 x11_1).f3) t116 _ ?side1 ?side2 ?side3 ?side4 ?side5 ?side6 ?side7 ?side8 A6.out).mono ?_); (case side1 => exact Kd.C_below HR114_0.out (by repeat (first | (with_reducible first | exact HB.out | apply below_alloc | apply pw_below_drewN | apply below_drew1 | refine below_set ?_ GE115.out) | exact HB.out))); (case side2 => exact HC114_0.out); (case side3 => exact Kd.C_below HR114_1.out (by repeat (first | (with_reducible first | exact HB.out | apply below_alloc | apply pw_below_drewN | apply below_drew1 | refine below_set ?_ GE115.out) | exact HB.out))); (case side4 => exact HC114_1.out); (case side5 => exact Kd.C_below HR114_2.out (by repeat (first | (with_reducible first | exact HB.out | apply below_alloc | apply pw_below_drewN | apply below_drew1 | refine below_set ?_ GE115.out) | exact HB.out))); (case side6 => exact HC114_2.out); (case side7 => exact Kd.C_below HR114_3.out (by repeat (first | (with_reducible first | exact HB.out | apply below_alloc | apply pw_below_drewN | apply below_drew1 | refine below_set ?_ GE115.out) | exact HB.out))); (case side8 => exact HC114_3.out); rintro e w10 ⟨rfl, hb⟩; refine ⟨_, rfl, ?_⟩; have n0_ := Aside0.mk (blk_below (g := gb115) (o := .cells #[.slice A114_0 ((rd_T41 l0 x11_1).f0).length c114_0, .slice A114_1 ((rd_T41 l0 x11_1).f1).length c114_1, .slice A114_2 ((rd_T41 l0 x11_1).f2).length c114_2, .slice A114_3 ((rd_T41 l0 x11_1).f3).length c114_3] 41 (0, 0)) (by (with_reducible repeat (first | refine blk_drewN ?_ _ | refine blk_drew ?_ | refine blk_alloc ?_ _)); refine blk_put (cs := #[.slice A114_0 ((rd_T41 l0 x11_1).f0).length c114_0, .slice A114_1 ((rd_T41 l0 x11_1).f1).length c114_1, .slice A114_2 ((rd_T41 l0 x11_1).f2).length c114_2, .slice none 0 0]) ?_ 3 _ rfl; (with_reducible repeat (first | refine blk_drewN ?_ _ | refine blk_drew ?_ | refine blk_alloc ?_ _)); refine blk_put (cs := #[.slice A114_0 ((rd_T41 l0 x11_1).f0).length c114_0, .slice A114_1 ((rd_T41 l0 x11_1).f1).length c114_1, .slice none 0 0, .slice none 0 0]) ?_ 2 _ rfl; (with_reducible repeat (first | refine blk_drewN ?_ _ | refine blk_drew ?_ | refine blk_alloc ?_ _)); refine blk_put (cs := #[.slice A114_0 ((rd_T41 l0 x11_1).f0).length c114_0, .slice none 0 0, .slice none 0 0, .slice none 0 0]) ?_ 1 _ rfl; (with_reducible repeat (first | refine blk_drewN ?_ _ | refine blk_drew ?_ | refine blk_alloc ?_ _)); refine blk_put (cs := #[.slice none 0 0, .slice none 0 0, .slice none 0 0, .slice none 0 0]) ?_ 0 _ rfl; (with_reducible repeat (first | refine blk_drewN ?_ _ | refine blk_drew ?_ | refine blk_alloc ?_ _)); exact BK115.out) hb); have n1_ := Aside0.mk (below_step (by repeat (first | (with_reducible first | exact HB.out | apply below_alloc | apply pw_below_drewN | apply below_drew1 | refine below_set ?_ GE115.out) | exact HB.out)) hb); clear BK115; clear HB; have BK115 := n0_; have HB := n1_; clear n0_ n1_; (try clear hb); (try clear hb2); (try clear hk); (try clear hi)))
                go_roundg k1
                case measure => have := HK1.out; omega
                case rel => exact ⟨(wrap64 (x11_1 + 1)), (by first | rfl | (simp; done) | (simp [*]; done)), H', ⟨by have := HK1.out; omega⟩, ⟨by repeat (first | (with_reducible first | exact HB.out | apply below_alloc | apply pw_below_drewN | apply below_drew1 | refine below_set ?_ GE115.out) | exact HB.out)⟩⟩
              · rw [if_neg c7] at H
                have c7b0 : (t116 == 0) = false := beq_eq_false_iff_ne.mpr c7
                have c7b1 : (t116 != 0) = true := bne_iff_ne.mpr c7
                obtain rfl := Option.some.inj H
                have p114 : 0 ≤ (x11_1 : Int) := of_decide_eq_true (by first | (with_reducible assumption) | assumption)
                have q114 : x11_1 < (l0.length : Int) := of_decide_eq_true (by first | (with_reducible assumption) | assumption)
                obtain ⟨ad114, A114_0, c114_0, A114_1, c114_1, A114_2, c114_2, A114_3, c114_3, e114, hx114_0, hx114_1, hx114_2, hx114_3, hl114_0, hi114_0, hl114_1, hi114_1, hl114_2, hi114_2, hl114_3, hi114_3⟩ := at_T41 HR0.out x11_1 p114 q114
                cases e114
                replace hx114_0 := (HB.out.cell (World.block_lt_of_cell? w _ hx114_0)).trans hx114_0
                replace hx114_1 := (HB.out.cell (World.block_lt_of_cell? w _ hx114_1)).trans hx114_1
                replace hx114_2 := (HB.out.cell (World.block_lt_of_cell? w _ hx114_2)).trans hx114_2
                replace hx114_3 := (HB.out.cell (World.block_lt_of_cell? w _ hx114_3)).trans hx114_3
                have HR114_0 := Aside0.mk hi114_0
                have HC114_0 := Aside0.mk hl114_0
                clear hi114_0 hl114_0
                have HR114_1 := Aside0.mk hi114_1
                have HC114_1 := Aside0.mk hl114_1
                clear hi114_1 hl114_1
                have HR114_2 := Aside0.mk hi114_2
                have HC114_2 := Aside0.mk hl114_2
                clear hi114_2 hl114_2
                have HR114_3 := Aside0.mk hi114_3
                have HC114_3 := Aside0.mk hl114_3
                clear hi114_3 hl114_3
                replace p114 := eq_true p114
                replace q114 := eq_true q114
                go_wp2_with (first | ((with_reducible refine gate_dst (N := 4) rfl ?_); refine box_event ?hg (N := 4) ?hd (cs := #[.slice none 0 0, .slice none 0 0, .slice none 0 0, .slice none 0 0]) (t := 41) ?hr ?_; (case hd => rfl); (case hg => rfl); (case hr => first | (go_simp; done) | (go_simp; rfl)); intro gb115 hg w11 hbox hb; have n0_ := Aside0.mk (below_step (by repeat (first | (with_reducible first | exact HB.out | apply below_alloc | apply pw_below_drewN | apply below_drew1) | exact HB.out)) hb); have n1_ := Aside0.mk (hbox); have n2_ := Aside0.mk ((by rw [hg]; exact (below_size (by repeat (first | (with_reducible first | exact HB.out | apply below_alloc | apply pw_below_drewN | apply below_drew1) | exact HB.out))) : w.heap.size ≤ gb115)); have n3_ := Aside0.mk ((by rw [hg]; exact (below_size (by repeat (first | (with_reducible first | exact HB.out | apply below_alloc | apply pw_below_drewN | apply below_drew1) | exact HB.out))) : w.heap.size ≤ gb115)); clear HB; have HB := n0_; have BK115 := n1_; have GW115 := n2_; have GE115 := n3_; clear n0_ n1_ n2_ n3_; clear hb hbox hg; have hcz12_0 : w11.cell? ⟨gb115, 0, none⟩ = some (.slice none 0 0) := (blk_cell BK115.out 0).trans rfl; have hcz12_1 : w11.cell? ⟨gb115, 1, none⟩ = some (.slice none 0 0) := (blk_cell BK115.out 1).trans rfl; have hcz12_2 : w11.cell? ⟨gb115, 2, none⟩ = some (.slice none 0 0) := (blk_cell BK115.out 2).trans rfl; have hcz12_3 : w11.cell? ⟨gb115, 3, none⟩ = some (.slice none 0 0) := (blk_cell BK115.out 3).trans rfl; have hfz12_0 := blk_frozen BK115.out 0; have hfz12_1 := blk_frozen BK115.out 1; have hfz12_2 := blk_frozen BK115.out 2; have hfz12_3 := blk_frozen BK115.out 3) | ((with_reducible refine gate_callee (f := 41) rfl ?_); refine goesL_ (some 16) rfl rfl Try.func41 (by kernel_rfl) rfl #[.agg #[.slice A114_0 ((rd_T41 l0 x11_1).f0).length c114_0, .slice A114_1 ((rd_T41 l0 x11_1).f1).length c114_1, .slice A114_2 ((rd_T41 l0 x11_1).f2).length c114_2, .slice A114_3 ((rd_T41 l0 x11_1).f3).length c114_3]] rfl (by (try simp only [List.map_toArray, List.map_cons, List.map_nil]); first | done | rfl | (simp only [List.length_drop, List.length_take]; rfl)) ?_; (with_reducible refine (transrule_checkRule.calls k1 _ _ ((rd_T41 l0 x11_1).f0) _ _ ((rd_T41 l0 x11_1).f1) _ _ ((rd_T41 l0 x11_1).f2) _ _ ((rd_T41 l0 x11_1).f3) t116 _ ?side1 ?side2 ?side3 ?side4 ?side5 ?side6 ?side7 ?side8 A6.out).mono ?_); (case side1 => exact Kd.C_below HR114_0.out (by repeat (first | (with_reducible first | exact HB.out | apply below_alloc | apply pw_below_drewN | apply below_drew1 | refine below_set ?_ GE115.out) | exact HB.out))); (case side2 => exact HC114_0.out); (case side3 => exact Kd.C_below HR114_1.out (by repeat (first | (with_reducible first | exact HB.out | apply below_alloc | apply pw_below_drewN | apply below_drew1 | refine below_set ?_ GE115.out) | exact HB.out))); (case side4 => exact HC114_1.out); (case side5 => exact Kd.C_below HR114_2.out (by repeat (first | (with_reducible first | exact HB.out | apply below_alloc | apply pw_below_drewN | apply below_drew1 | refine below_set ?_ GE115.out) | exact HB.out))); (case side6 => exact HC114_2.out); (case side7 => exact Kd.C_below HR114_3.out (by repeat (first | (with_reducible first | exact HB.out | apply below_alloc | apply pw_below_drewN | apply below_drew1 | refine below_set ?_ GE115.out) | exact HB.out))); (case side8 => exact HC114_3.out); rintro e w13 ⟨rfl, hb⟩; refine ⟨_, rfl, ?_⟩; have n0_ := Aside0.mk (blk_below (g := gb115) (o := .cells #[.slice A114_0 ((rd_T41 l0 x11_1).f0).length c114_0, .slice A114_1 ((rd_T41 l0 x11_1).f1).length c114_1, .slice A114_2 ((rd_T41 l0 x11_1).f2).length c114_2, .slice A114_3 ((rd_T41 l0 x11_1).f3).length c114_3] 41 (0, 0)) (by (with_reducible repeat (first | refine blk_drewN ?_ _ | refine blk_drew ?_ | refine blk_alloc ?_ _)); refine blk_put (cs := #[.slice A114_0 ((rd_T41 l0 x11_1).f0).length c114_0, .slice A114_1 ((rd_T41 l0 x11_1).f1).length c114_1, .slice A114_2 ((rd_T41 l0 x11_1).f2).length c114_2, .slice none 0 0]) ?_ 3 _ rfl; (with_reducible repeat (first | refine blk_drewN ?_ _ | refine blk_drew ?_ | refine blk_alloc ?_ _)); refine blk_put (cs := #[.slice A114_0 ((rd_T41 l0 x11_1).f0).length c114_0, .slice A114_1 ((rd_T41 l0 x11_1).f1).length c114_1, .slice none 0 0, .slice none 0 0]) ?_ 2 _ rfl; (with_reducible repeat (first | refine blk_drewN ?_ _ | refine blk_drew ?_ | refine blk_alloc ?_ _)); refine blk_put (cs := #[.slice A114_0 ((rd_T41 l0 x11_1).f0).length c114_0, .slice none 0 0, .slice none 0 0, .slice none 0 0]) ?_ 1 _ rfl; (with_reducible repeat (first | refine blk_drewN ?_ _ | refine blk_drew ?_ | refine blk_alloc ?_ _)); refine blk_put (cs := #[.slice none 0 0, .slice none 0 0, .slice none 0 0, .slice none 0 0]) ?_ 0 _ rfl; (with_reducible repeat (first | refine blk_drewN ?_ _ | refine blk_drew ?_ | refine blk_alloc ?_ _)); exact BK115.out) hb); have n1_ := Aside0.mk (below_step (by repeat (first | (with_reducible first | exact HB.out | apply below_alloc | apply pw_below_drewN | apply below_drew1 | refine below_set ?_ GE115.out) | exact HB.out)) hb); clear BK115; clear HB; have BK115 := n0_; have HB := n1_; clear n0_ n1_; (try clear hb); (try clear hb2); (try clear hk); (try clear hi)))
                go_ret
                exact ⟨by first | rfl | (simp [errW_none, errW_some] <;> rfl) | (simp [*, errW_none, errW_some] <;> rfl), by repeat (first | (with_reducible first | exact HB.out | apply below_alloc | apply pw_below_drewN | apply below_drew1 | refine below_set ?_ GE115.out) | exact HB.out)⟩
            · rw [if_neg c5] at H
              exact absurd H (by simp)
          · rw [if_neg c4] at H
            exact absurd H (by simp)
        · rw [if_neg c3] at H
          have c3b0 : decide (x11_1 < (l0.length : Int)) = false := decide_eq_false c3
          clear c3
          obtain rfl := Option.some.inj H
          go_wp2
          go_ret
          exact ⟨by first | rfl | (simp [errW_none, errW_some] <;> rfl) | (simp [*, errW_none, errW_some] <;> rfl), by repeat (first | (with_reducible first | exact HB.out | apply below_alloc | apply pw_below_drewN | apply below_drew1) | exact HB.out)⟩
end Go.Proofs.Ytcpicopaobhlcaa.Q
end
