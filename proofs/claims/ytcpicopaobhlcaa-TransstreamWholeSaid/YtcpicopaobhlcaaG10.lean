/- Lemmas, printed and written for this claim: part 10. -/
import Derived.Test.YtcpicopaobhlcaaG2
import Derived.Test.YtcpicopaobhlcaaG8
import Derived.Test.YtcpicopaobhlcaaG5
import Derived.WalkKit
import Derived.Test.YtcpicopaobhlcaaG9
import Derived.Test.YtcpicopaobhlcaaG6
import Derived.WalkSpells
import Derived.IntWalk
import Derived.LaidEqlPtr
import Derived.Deep.LoopGhost
import Derived.Test.YtcpicopaobhlcaaG3
section
namespace Go.Proofs.Ytcpicopaobhlcaa.Q
open Go.RowKit Go.Proofs.YtcpicopaobhlcaaW.PrintWords Go.Proofs.YtcpicopaobhlcaaW.PrintLast Go.Proofs.YtcpicopaobhlcaaW.PrintMore
attribute [local go_sem] max2_int min2_int max_two min_two max_three min_three max_four min_four   -- for this text's walks alone
set_option linter.unusedVariables false
set_option linter.unusedSimpArgs false
def unicodetextref51_Written.l0 : Nat → List (S41) → List Int → Int → Int → List Int → Int → Option (List Int)
  | 0, _, _, _, _, _, _ => none
  | k + 1, x0, x1, x2, x3, x9, x10 => if 0 ≤ x3 then (if x3 < (x0.length : Int) then (if x10 < (((rd_T41 x0 x3).f3).length : Int) then (if 0 ≤ x10 then (if ((rd_T59 ((rd_T41 x0 x3).f3) x10).f1) > 0 then (if 0 ≤ (wrap64 ((wrap64 (x2 + ((rd_T59 ((rd_T41 x0 x3).f3) x10).f1))) - 1)) then (if (wrap64 ((wrap64 (x2 + ((rd_T59 ((rd_T41 x0 x3).f3) x10).f1))) - 1)) < (x1.length : Int) then (if x9.length < 17592186044416 then (unicodetextref51_Written.l0 k x0 x1 x2 x3 (x9 ++ [rd x1 (wrap64 ((wrap64 (x2 + ((rd_T59 ((rd_T41 x0 x3).f3) x10).f1))) - 1))]) (wrap64 (x10 + 1))) else (none)) else (none)) else (none)) else (if x9.length < 17592186044416 then (unicodetextref51_Written.l0 k x0 x1 x2 x3 (x9 ++ [(rd_T59 ((rd_T41 x0 x3).f3) x10).f0]) (wrap64 (x10 + 1))) else (none))) else (none)) else (some x9)) else (none)) else (none)
def unicodetextref51_Written.f (k : Nat) (l0 : List (S41)) (l1 : List Int) (a2 : Int) (a3 : Int) : Option (List Int) := if a3 < 0 then (if 0 ≤ a2 then (if a2 < (l1.length : Int) then (some (([rd l1 a2] : List Int))) else (none)) else (none)) else (unicodetextref51_Written.l0 k l0 l1 a2 a3 ([] : List Int) 0)
set_option maxHeartbeats 8000000 in
set_option maxRecDepth 100000 in
theorem unicodetextref51_Written.calls (k : Nat) (A0 : Option Addr) (c0 : Nat) (l0 : List (S41)) (A1 : Option Addr) (c1 : Nat) (l1 : List Int) (a2 : Int) (a3 : Int) (r : List Int) (w : World) (hr0 : Kd.C k41 w A0 l0.length l0) (hc0 : l0.length ≤ c0) (hr1 : Kd.C (Kd.int .i64) w A1 l1.length l1) (hc1 : l1.length ≤ c1) (h : unicodetextref51_Written.f k l0 l1 a2 a3 = some r) :
    Calls Try.prog 36 #[.slice A0 l0.length c0, .slice A1 l1.length c1, .int .i64 a2, .int .i64 a3] w fun e w' => ∃ v0_ : Value, e = .returned (v0_) ∧ Kd.R (Kd.int .i64) 3 w' w.heap.size (fun _ => True) v0_ r ∧ Below w.heap.size w w' := by
  have hu59 := Try.underlying59
  have HR0 := Aside0.mk hr0
  have HC0 := Aside0.mk hc0
  clear hr0 hc0
  have HR1 := Aside0.mk hr1
  have HC1 := Aside0.mk hc1
  clear hr1 hc1
  have HB := Aside0.mk (Below.refl w.heap.size w)
  have H : (if a3 < 0 then (if 0 ≤ a2 then (if a2 < (l1.length : Int) then (some (([rd l1 a2] : List Int))) else (none)) else (none)) else (unicodetextref51_Written.l0 k l0 l1 a2 a3 ([] : List Int) 0)) = some r := h
  clear h
  by_cases c5 : a3 < 0
  · rw [if_pos c5] at H
    have c5b0 : decide (a3 < 0) = true := decide_eq_true c5
    clear c5
    by_cases c6 : 0 ≤ a2
    · rw [if_pos c6] at H
      have c6b0 : decide (0 ≤ a2) = true := decide_eq_true c6
      clear c6
      by_cases c7 : a2 < (l1.length : Int)
      · rw [if_pos c7] at H
        have c7b0 : decide (a2 < (l1.length : Int)) = true := decide_eq_true c7
        clear c7
        obtain ⟨y221, hy221⟩ : ∃ y_ : List Int, y_ = (([rd l1 a2] : List Int)) := ⟨_, rfl⟩
        replace H : (some y221) = some r := by first | (rw [hy221]; with_reducible exact H) | (have H2_ := (Option.bind_some _ _).symm.trans H; rw [hy221]; with_reducible exact H2_) | (have H2_ := (Option.bind_some _ _).symm.trans H; with_reducible exact H2_) | with_reducible exact H | (rw [hy221]; exact H) | exact H
        have Ny221 := Aside0.mk hy221
        clear hy221
        obtain rfl := Option.some.inj H
        have p220 : 0 ≤ (a2 : Int) := of_decide_eq_true (by first | (with_reducible assumption) | assumption)
        have q220 : a2 < (l1.length : Int) := of_decide_eq_true (by first | (with_reducible assumption) | assumption)
        obtain ⟨ad220, e220, hx220_0⟩ := Kd.at_int HR1.out a2 p220 q220
        cases e220
        replace p220 := eq_true p220
        replace q220 := eq_true q220
        go_enter Try.func36, Try.ntmps36
        go_wp2_with (first | ((with_reducible refine gate_dst (N := 18) rfl ?_); refine Kd.R_lit (Kd.int .i64) _ 3 ?hg (N := 18) ?hd (xs := ([rd l1 a2] : List Int)) (inner := [.int .i64 (rd l1 a2)]) (ok := fun _ => True) (okp := fun _ => True) ?hr ?hp (fun _ hk => hk) trivial (Below.refl _ _) (Nat.le_refl _) (by simp) ?_; (case hd => rfl); (case hg => rfl); (case hr => first | (go_simp; done) | (go_simp; rfl)); (case hp => exact (Reps.one (show Kd.M (Kd.int .i64) _ _ _ (rd l1 a2) [.int .i64 (rd l1 a2)] from rfl) (Reps.none _ _))); intro v222 w8 ho9 hb hg_ hnew_; clear hg_ hnew_; (first | rw [← Ny221.out] at ho9 | (simp only [Int.reduceToNat] at ho9; rw [← Ny221.out] at ho9)); have n0_ := Aside0.mk (Kd.R_lower ho9 (below_size (by repeat (first | (with_reducible first | exact HB.out | apply below_alloc | apply pw_below_drewN | apply below_drew1) | exact HB.out)))); have n1_ := Aside0.mk (below_step (by repeat (first | (with_reducible first | exact HB.out | apply below_alloc | apply pw_below_drewN | apply below_drew1) | exact HB.out)) hb); clear HB; have HO223 := n0_; have HB := n1_; clear n0_ n1_; clear hb ho9))
        go_ret
        exact ⟨_, by first | rfl | (simp [errW_none, errW_some] <;> rfl) | (simp [*, errW_none, errW_some] <;> rfl), by (with_reducible repeat (first | apply Kd.R_alloc | apply Kd.R_drewN | apply Kd.R_drew)); exact HO223.out, by repeat (first | (with_reducible first | exact HB.out | apply below_alloc | apply pw_below_drewN | apply below_drew1) | exact HB.out)⟩
      · rw [if_neg c7] at H
        exact absurd H (by simp)
    · rw [if_neg c6] at H
      exact absurd H (by simp)
  · rw [if_neg c5] at H
    have c5b0 : decide (a3 < 0) = false := decide_eq_false c5
    clear c5
    have H' := Aside0.mk H
    clear H
    go_enter Try.func36, Try.ntmps36
    go_wp2
    go_loopg [9, 10] k (fun kq v9 v10 w' => ∃ (x9_1 : List Int) (x10_1 : Int), v10 = .int .i64 x10_1 ∧ Aside0 (unicodetextref51_Written.l0 kq l0 l1 a2 a3 x9_1 x10_1 = some r) ∧ Aside0 (kq ≤ k) ∧ Aside0 (Kd.R (Kd.int .i64) 3 w' w.heap.size (fun _ => True) v9 x9_1) ∧ Aside0 (Below w.heap.size w w'))
    case atStart => exact ⟨(([] : List Int)), (0), (by first | rfl | (simp; done) | (simp [*]; done)), H', ⟨Nat.le_refl _⟩, ⟨by first | exact Kd.R_nil _ _ _ _ _ | exact Kd.N_nil _ _ _ _ _ | exact Kd.V_nil _ _ _ _ _ | exact Kd.Q_nil _ _ _ _ _ | exact Kd.S_nil _ _ _ _ _⟩, ⟨by repeat (first | (with_reducible first | exact HB.out | apply below_alloc | apply pw_below_drewN | apply below_drew1) | exact HB.out)⟩⟩
    case round =>
      clear H'
      try clear c1
      try clear p2
      try clear q2
      try clear hx2
      try clear c3
      try clear c5
      try clear c5b0
      try clear c6
      try clear c6b0
      try clear c7
      try clear c7b0
      try clear hx220_0
      try clear p220
      try clear q220
      obtain ⟨x9_1, x10_1, rfl, HA, HK1, HO_9, HB⟩ := hrel
      cases gk with
      | zero => exact absurd HA.out (by simp [unicodetextref51_Written.l0])
      | succ k1 =>
        have H := HA.out
        clear HA
        simp only [unicodetextref51_Written.l0] at H
        by_cases c10 : 0 ≤ a3
        · rw [if_pos c10] at H
          have c10b0 : decide (0 ≤ a3) = true := decide_eq_true c10
          clear c10
          by_cases c11 : a3 < (l0.length : Int)
          · rw [if_pos c11] at H
            have c11b0 : decide (a3 < (l0.length : Int)) = true := decide_eq_true c11
            clear c11
            by_cases c12 : x10_1 < (((rd_T41 l0 a3).f3).length : Int)
            · rw [if_pos c12] at H
              have c12b0 : decide (x10_1 < (((rd_T41 l0 a3).f3).length : Int)) = true := decide_eq_true c12
              clear c12
              by_cases c13 : 0 ≤ x10_1
              · rw [if_pos c13] at H
                have c13b0 : decide (0 ≤ x10_1) = true := decide_eq_true c13
                clear c13
                by_cases c14 : ((rd_T59 ((rd_T41 l0 a3).f3) x10_1).f1) > 0
                · rw [if_pos c14] at H
                  have c14b0 : decide (0 < ((rd_T59 ((rd_T41 l0 a3).f3) x10_1).f1)) = true := decide_eq_true c14
                  clear c14
                  obtain ⟨ji15, hji15⟩ : ∃ j_ : Int, (wrap64 ((wrap64 (a2 + ((rd_T59 ((rd_T41 l0 a3).f3) x10_1).f1))) - 1)) = j_ := ⟨_, rfl⟩
                  replace H : (if 0 ≤ (ji15) then (if (ji15) < (l1.length : Int) then (if x9_1.length < 17592186044416 then (unicodetextref51_Written.l0 k1 l0 l1 a2 a3 (x9_1 ++ [rd l1 (ji15)]) (wrap64 (x10_1 + 1))) else (none)) else (none)) else (none)) = some r := by first | (rw [hji15] at H; exact H) | (simp only [hji15] at H ⊢; exact H)
                  have hji15w : (IntKind.i64.wrap ((wrap64 (a2 + ((rd_T59 ((rd_T41 l0 a3).f3) x10_1).f1))) - 1)) = ji15 := (i64_w _).trans hji15
                  by_cases c16 : 0 ≤ (ji15)
                  · rw [if_pos c16] at H
                    have c16b0 : decide (0 ≤ (ji15)) = true := decide_eq_true c16
                    clear c16
                    by_cases c17 : (ji15) < (l1.length : Int)
                    · rw [if_pos c17] at H
                      have c17b0 : decide ((ji15) < (l1.length : Int)) = true := decide_eq_true c17
                      clear c17
                      by_cases c18 : x9_1.length < 17592186044416
                      · rw [if_pos c18] at H
                        have LMc18 := Aside0.mk c18
                        clear c18
                        obtain ⟨y229, hy229⟩ : ∃ y_ : List Int, y_ = (x9_1 ++ [rd l1 (ji15)]) := ⟨_, rfl⟩
                        replace H : (unicodetextref51_Written.l0 k1 l0 l1 a2 a3 y229 (wrap64 (x10_1 + 1))) = some r := by first | (rw [hy229]; with_reducible exact H) | (have H2_ := (Option.bind_some _ _).symm.trans H; rw [hy229]; with_reducible exact H2_) | (have H2_ := (Option.bind_some _ _).symm.trans H; with_reducible exact H2_) | with_reducible exact H | (rw [hy229]; exact H) | exact H
                        have Ny229 := Aside0.mk hy229
                        clear hy229
                        have H' := Aside0.mk H
                        clear H
                        have p224 : 0 ≤ (a3 : Int) := of_decide_eq_true (by first | (with_reducible assumption) | assumption)
                        have q224 : a3 < (l0.length : Int) := of_decide_eq_true (by first | (with_reducible assumption) | assumption)
                        obtain ⟨ad224, A224_0, c224_0, A224_1, c224_1, A224_2, c224_2, A224_3, c224_3, e224, hx224_0, hx224_1, hx224_2, hx224_3, hl224_0, hi224_0, hl224_1, hi224_1, hl224_2, hi224_2, hl224_3, hi224_3⟩ := at_T41 HR0.out a3 p224 q224
                        cases e224
                        replace hx224_0 := (HB.out.cell (World.block_lt_of_cell? w _ hx224_0)).trans hx224_0
                        replace hx224_1 := (HB.out.cell (World.block_lt_of_cell? w _ hx224_1)).trans hx224_1
                        replace hx224_2 := (HB.out.cell (World.block_lt_of_cell? w _ hx224_2)).trans hx224_2
                        replace hx224_3 := (HB.out.cell (World.block_lt_of_cell? w _ hx224_3)).trans hx224_3
                        have HR224_0 := Aside0.mk hi224_0
                        have HC224_0 := Aside0.mk hl224_0
                        clear hi224_0 hl224_0
                        have HR224_1 := Aside0.mk hi224_1
                        have HC224_1 := Aside0.mk hl224_1
                        clear hi224_1 hl224_1
                        have HR224_2 := Aside0.mk hi224_2
                        have HC224_2 := Aside0.mk hl224_2
                        clear hi224_2 hl224_2
                        have HR224_3 := Aside0.mk hi224_3
                        have HC224_3 := Aside0.mk hl224_3
                        clear hi224_3 hl224_3
                        replace p224 := eq_true p224
                        replace q224 := eq_true q224
                        have p225 : 0 ≤ (a3 : Int) := of_decide_eq_true (by first | (with_reducible assumption) | assumption)
                        have q225 : a3 < (l0.length : Int) := of_decide_eq_true (by first | (with_reducible assumption) | assumption)
                        obtain ⟨ad225, A225_0, c225_0, A225_1, c225_1, A225_2, c225_2, A225_3, c225_3, e225, hx225_0, hx225_1, hx225_2, hx225_3, hl225_0, hi225_0, hl225_1, hi225_1, hl225_2, hi225_2, hl225_3, hi225_3⟩ := at_T41 HR0.out a3 p225 q225
                        obtain rfl : ad224 = ad225 := (by injection e225)
                        replace hx225_0 := (HB.out.cell (World.block_lt_of_cell? w _ hx225_0)).trans hx225_0
                        replace hx225_1 := (HB.out.cell (World.block_lt_of_cell? w _ hx225_1)).trans hx225_1
                        replace hx225_2 := (HB.out.cell (World.block_lt_of_cell? w _ hx225_2)).trans hx225_2
                        replace hx225_3 := (HB.out.cell (World.block_lt_of_cell? w _ hx225_3)).trans hx225_3
                        have HR225_0 := Aside0.mk hi225_0
                        have HC225_0 := Aside0.mk hl225_0
                        clear hi225_0 hl225_0
                        have HR225_1 := Aside0.mk hi225_1
                        have HC225_1 := Aside0.mk hl225_1
                        clear hi225_1 hl225_1
                        have HR225_2 := Aside0.mk hi225_2
                        have HC225_2 := Aside0.mk hl225_2
                        clear hi225_2 hl225_2
                        have HR225_3 := Aside0.mk hi225_3
                        have HC225_3 := Aside0.mk hl225_3
                        clear hi225_3 hl225_3
                        replace p225 := eq_true p225
                        replace q225 := eq_true q225
                        have ea_ := Option.some.inj (hx224_0.symm.trans hx225_0)
                        injection ea_ with ea_ en_ ec_
                        subst ea_
                        subst ec_
                        clear en_
                        have ea_ := Option.some.inj (hx224_1.symm.trans hx225_1)
                        injection ea_ with ea_ en_ ec_
                        subst ea_
                        subst ec_
                        clear en_
                        have ea_ := Option.some.inj (hx224_2.symm.trans hx225_2)
                        injection ea_ with ea_ en_ ec_
                        subst ea_
                        subst ec_
                        clear en_
                        have ea_ := Option.some.inj (hx224_3.symm.trans hx225_3)
                        injection ea_ with ea_ en_ ec_
                        subst ea_
                        subst ec_
                        clear en_
                        have p226 : 0 ≤ (x10_1 : Int) := of_decide_eq_true (by first | (with_reducible assumption) | assumption)
                        have q226 : x10_1 < (((rd_T41 l0 a3).f3).length : Int) := of_decide_eq_true (by first | (with_reducible assumption) | assumption)
                        obtain ⟨ad226, e226, hx226_0, hx226_1⟩ := at_T59 HR225_3.out x10_1 p226 q226
                        cases e226
                        replace hx226_0 := (HB.out.cell (World.block_lt_of_cell? w _ hx226_0)).trans hx226_0
                        replace hx226_1 := (HB.out.cell (World.block_lt_of_cell? w _ hx226_1)).trans hx226_1
                        replace p226 := eq_true p226
                        replace q226 := eq_true q226
                        go_wp2_with (first | ((with_reducible refine gate_dst (N := 11) rfl ?_); refine box_event ?hg (N := 11) ?hd (cs := #[.int .i64 0, .int .i64 0]) (t := 59) ?hr ?_; (case hd => rfl); (case hg => rfl); (case hr => first | (go_simp; done) | (go_simp; rfl)); intro gb227 hg w19 hbox hb; have n0_ := Aside0.mk (Kd.R_below (by (with_reducible repeat (first | apply Kd.R_alloc | apply Kd.R_drewN | apply Kd.R_drew)); exact HO_9.out) hb); have n1_ := Aside0.mk (below_step (by repeat (first | (with_reducible first | exact HB.out | apply below_alloc | apply pw_below_drewN | apply below_drew1) | exact HB.out)) hb); have n2_ := Aside0.mk (hbox); have n3_ := Aside0.mk ((by rw [hg]; exact (below_size (by repeat (first | (with_reducible first | exact HB.out | apply below_alloc | apply pw_below_drewN | apply below_drew1) | exact HB.out))) : w.heap.size ≤ gb227)); have n4_ := Aside0.mk ((by rw [hg]; exact (below_size (by repeat (first | (with_reducible first | exact HB.out | apply below_alloc | apply pw_below_drewN | apply below_drew1) | exact HB.out))) : w.heap.size ≤ gb227)); clear HO_9; clear HB; have HO_9 := n0_; have HB := n1_; have BK227 := n2_; have GW227 := n3_; have GE227 := n4_; clear n0_ n1_ n2_ n3_ n4_; clear hb hbox hg; have hcz20_0 : w19.cell? ⟨gb227, 0, none⟩ = some (.int .i64 0) := (blk_cell BK227.out 0).trans rfl; have hcz20_1 : w19.cell? ⟨gb227, 1, none⟩ = some (.int .i64 0) := (blk_cell BK227.out 1).trans rfl; have hfz20_0 := blk_frozen BK227.out 0; have hfz20_1 := blk_frozen BK227.out 1; have p228 : 0 ≤ ((ji15) : Int) := of_decide_eq_true (by first | (with_reducible assumption) | assumption); have q228 : (ji15) < (l1.length : Int) := of_decide_eq_true (by first | (with_reducible assumption) | assumption); obtain ⟨ad228, e228, hx228_0⟩ := Kd.at_int HR1.out (ji15) p228 q228; cases e228; have hn228_0 : ad228.block ≠ gb227 := Nat.ne_of_lt (Nat.lt_of_lt_of_le (by have := World.block_lt_of_cell? _ _ hx228_0; first | rwa [add_block] at this | exact this) GW227.out); have hn228_1 : ad228.block ≠ gb227 := Nat.ne_of_lt (Nat.lt_of_lt_of_le (by have := World.block_lt_of_cell? _ _ hx228_0; first | rwa [add_block] at this | exact this) GW227.out); replace hx228_0 := (HB.out.cell (World.block_lt_of_cell? w _ hx228_0)).trans hx228_0; replace hx228_0 := (cell_far (p := ⟨gb227, 0, none⟩) (by first | (rw [add_block]; exact hn228_0) | (show (Addr.add _ _).block ≠ _; rw [add_block]; exact hn228_0) | exact hn228_0) (.int .i64 ((rd_T59 ((rd_T41 l0 a3).f3) x10_1).f0))).trans hx228_0; replace hx228_0 := (cell_far (p := ⟨gb227, 1, none⟩) (by first | (rw [add_block]; exact hn228_1) | (show (Addr.add _ _).block ≠ _; rw [add_block]; exact hn228_1) | exact hn228_1) (.int .i64 ((rd_T59 ((rd_T41 l0 a3).f3) x10_1).f1))).trans hx228_0; clear hn228_0; clear hn228_1; replace p228 := eq_true p228; replace q228 := eq_true q228) | ((with_reducible refine gate_builtin (b := .append) (xs := #[.tmp 40, .tmp 49]) rfl ?_); at_builtin; refine Kd.R_append (Kd.int .i64) (w0 := w) w.heap.size rfl (.tmp 40) (.tmp 49) 31 3 (.int .i64 0) 8 rfl Try.underlying31 info3 rfl (by decide) (by omega) u9 x9_1 (rd l1 (ji15)) [.int .i64 (rd l1 (ji15))] (fun _ => True) (fun _ => False) rfl (by first | (go_simp; done) | (go_simp; rfl)) ?aP (fun _ hk => hk.elim) ?aF ?aO ?aB ?aS ?aL ?_; (case aP => exact rfl); (case aB => exact (by repeat (first | (with_reducible first | exact HB.out | apply below_alloc | apply pw_below_drewN | apply below_drew1 | refine below_set ?_ GE227.out) | exact HB.out))); (case aF => exact (fun _ _ => trivial)); (case aO => exact (by (with_reducible repeat (first | apply Kd.R_alloc | apply Kd.R_drewN | apply Kd.R_drew)); exact Kd.R_mono (Kd.R_far (p := ⟨gb227, 1, none⟩) (Kd.R_far (p := ⟨gb227, 0, none⟩) (Kd.R_types HO_9.out BK227.out (by decide)) (fun _ hk => hk.2) (.int .i64 ((rd_T59 ((rd_T41 l0 a3).f3) x10_1).f0))) (fun _ hk => hk.2) (.int .i64 ((rd_T59 ((rd_T41 l0 a3).f3) x10_1).f1))) (fun _ hk => trivial))); (case aS => exact (below_size (by repeat (first | (with_reducible first | exact HB.out | apply below_alloc | apply pw_below_drewN | apply below_drew1 | refine below_set ?_ GE227.out) | exact HB.out)))); (case aL => have := LMc18.out; omega); intro v230 w21 ho hb hg hat; rw [← Ny229.out] at ho; have n0_ := Aside0.mk (blk_grown (g := gb227) (o := .cells #[.int .i64 ((rd_T59 ((rd_T41 l0 a3).f3) x10_1).f0), .int .i64 ((rd_T59 ((rd_T41 l0 a3).f3) x10_1).f1)] 59 (0, 0)) (by (with_reducible repeat (first | refine blk_drewN ?_ _ | refine blk_drew ?_ | refine blk_alloc ?_ _)); refine blk_put (cs := #[.int .i64 ((rd_T59 ((rd_T41 l0 a3).f3) x10_1).f0), .int .i64 0]) ?_ 1 _ rfl; (with_reducible repeat (first | refine blk_drewN ?_ _ | refine blk_drew ?_ | refine blk_alloc ?_ _)); refine blk_put (cs := #[.int .i64 0, .int .i64 0]) ?_ 0 _ rfl; (with_reducible repeat (first | refine blk_drewN ?_ _ | refine blk_drew ?_ | refine blk_alloc ?_ _)); exact BK227.out) hg (Kd.R_ne HO_9.out BK227.out (by decide))); have n1_ := Aside0.mk (hb); have n2_ := Aside0.mk (ho); clear BK227; clear HB; clear HO_9; have BK227 := n0_; have HB := n1_; have HO231 := n2_; clear n0_ n1_ n2_; clear ho hb hg hat))
                        go_roundg k1
                        case measure => have := HK1.out; omega
                        case rel => exact ⟨(y229), (wrap64 (x10_1 + 1)), (by first | rfl | (simp; done) | (simp [*]; done)), H', ⟨by have := HK1.out; omega⟩, ⟨by (with_reducible repeat (first | apply Kd.R_alloc | apply Kd.R_drewN | apply Kd.R_drew)); exact HO231.out⟩, ⟨by repeat (first | (with_reducible first | exact HB.out | apply below_alloc | apply pw_below_drewN | apply below_drew1 | refine below_set ?_ GE227.out) | exact HB.out)⟩⟩
                      · rw [if_neg c18] at H
                        exact absurd H (by simp)
                    · rw [if_neg c17] at H
                      exact absurd H (by simp)
                  · rw [if_neg c16] at H
                    exact absurd H (by simp)
                · rw [if_neg c14] at H
                  have c14b0 : decide (0 < ((rd_T59 ((rd_T41 l0 a3).f3) x10_1).f1)) = false := decide_eq_false c14
                  clear c14
                  by_cases c22 : x9_1.length < 17592186044416
                  · rw [if_pos c22] at H
                    have LMc22 := Aside0.mk c22
                    clear c22
                    obtain ⟨y232, hy232⟩ : ∃ y_ : List Int, y_ = (x9_1 ++ [(rd_T59 ((rd_T41 l0 a3).f3) x10_1).f0]) := ⟨_, rfl⟩
                    replace H : (unicodetextref51_Written.l0 k1 l0 l1 a2 a3 y232 (wrap64 (x10_1 + 1))) = some r := by first | (rw [hy232]; with_reducible exact H) | (have H2_ := (Option.bind_some _ _).symm.trans H; rw [hy232]; with_reducible exact H2_) | (have H2_ := (Option.bind_some _ _).symm.trans H; with_reducible exact H2_) | with_reducible exact H | (rw [hy232]; exact H) | exact H
                    have Ny232 := Aside0.mk hy232
                    clear hy232
                    have H' := Aside0.mk H
                    clear H
                    have p224 : 0 ≤ (a3 : Int) := of_decide_eq_true (by first | (with_reducible assumption) | assumption)
                    have q224 : a3 < (l0.length : Int) := of_decide_eq_true (by first | (with_reducible assumption) | assumption)
                    obtain ⟨ad224, A224_0, c224_0, A224_1, c224_1, A224_2, c224_2, A224_3, c224_3, e224, hx224_0, hx224_1, hx224_2, hx224_3, hl224_0, hi224_0, hl224_1, hi224_1, hl224_2, hi224_2, hl224_3, hi224_3⟩ := at_T41 HR0.out a3 p224 q224
                    cases e224
                    replace hx224_0 := (HB.out.cell (World.block_lt_of_cell? w _ hx224_0)).trans hx224_0
                    replace hx224_1 := (HB.out.cell (World.block_lt_of_cell? w _ hx224_1)).trans hx224_1
                    replace hx224_2 := (HB.out.cell (World.block_lt_of_cell? w _ hx224_2)).trans hx224_2
                    replace hx224_3 := (HB.out.cell (World.block_lt_of_cell? w _ hx224_3)).trans hx224_3
                    have HR224_0 := Aside0.mk hi224_0
                    have HC224_0 := Aside0.mk hl224_0
                    clear hi224_0 hl224_0
                    have HR224_1 := Aside0.mk hi224_1
                    have HC224_1 := Aside0.mk hl224_1
                    clear hi224_1 hl224_1
                    have HR224_2 := Aside0.mk hi224_2
                    have HC224_2 := Aside0.mk hl224_2
                    clear hi224_2 hl224_2
                    have HR224_3 := Aside0.mk hi224_3
                    have HC224_3 := Aside0.mk hl224_3
                    clear hi224_3 hl224_3
                    replace p224 := eq_true p224
                    replace q224 := eq_true q224
                    have p225 : 0 ≤ (a3 : Int) := of_decide_eq_true (by first | (with_reducible assumption) | assumption)
                    have q225 : a3 < (l0.length : Int) := of_decide_eq_true (by first | (with_reducible assumption) | assumption)
                    obtain ⟨ad225, A225_0, c225_0, A225_1, c225_1, A225_2, c225_2, A225_3, c225_3, e225, hx225_0, hx225_1, hx225_2, hx225_3, hl225_0, hi225_0, hl225_1, hi225_1, hl225_2, hi225_2, hl225_3, hi225_3⟩ := at_T41 HR0.out a3 p225 q225
                    obtain rfl : ad224 = ad225 := (by injection e225)
                    replace hx225_0 := (HB.out.cell (World.block_lt_of_cell? w _ hx225_0)).trans hx225_0
                    replace hx225_1 := (HB.out.cell (World.block_lt_of_cell? w _ hx225_1)).trans hx225_1
                    replace hx225_2 := (HB.out.cell (World.block_lt_of_cell? w _ hx225_2)).trans hx225_2
                    replace hx225_3 := (HB.out.cell (World.block_lt_of_cell? w _ hx225_3)).trans hx225_3
                    have HR225_0 := Aside0.mk hi225_0
                    have HC225_0 := Aside0.mk hl225_0
                    clear hi225_0 hl225_0
                    have HR225_1 := Aside0.mk hi225_1
                    have HC225_1 := Aside0.mk hl225_1
                    clear hi225_1 hl225_1
                    have HR225_2 := Aside0.mk hi225_2
                    have HC225_2 := Aside0.mk hl225_2
                    clear hi225_2 hl225_2
                    have HR225_3 := Aside0.mk hi225_3
                    have HC225_3 := Aside0.mk hl225_3
                    clear hi225_3 hl225_3
                    replace p225 := eq_true p225
                    replace q225 := eq_true q225
                    have ea_ := Option.some.inj (hx224_0.symm.trans hx225_0)
                    injection ea_ with ea_ en_ ec_
                    subst ea_
                    subst ec_
                    clear en_
                    have ea_ := Option.some.inj (hx224_1.symm.trans hx225_1)
                    injection ea_ with ea_ en_ ec_
                    subst ea_
                    subst ec_
                    clear en_
                    have ea_ := Option.some.inj (hx224_2.symm.trans hx225_2)
                    injection ea_ with ea_ en_ ec_
                    subst ea_
                    subst ec_
                    clear en_
                    have ea_ := Option.some.inj (hx224_3.symm.trans hx225_3)
                    injection ea_ with ea_ en_ ec_
                    subst ea_
                    subst ec_
                    clear en_
                    have p226 : 0 ≤ (x10_1 : Int) := of_decide_eq_true (by first | (with_reducible assumption) | assumption)
                    have q226 : x10_1 < (((rd_T41 l0 a3).f3).length : Int) := of_decide_eq_true (by first | (with_reducible assumption) | assumption)
                    obtain ⟨ad226, e226, hx226_0, hx226_1⟩ := at_T59 HR225_3.out x10_1 p226 q226
                    cases e226
                    replace hx226_0 := (HB.out.cell (World.block_lt_of_cell? w _ hx226_0)).trans hx226_0
                    replace hx226_1 := (HB.out.cell (World.block_lt_of_cell? w _ hx226_1)).trans hx226_1
                    replace p226 := eq_true p226
                    replace q226 := eq_true q226
                    go_wp2_with (first | ((with_reducible refine gate_dst (N := 11) rfl ?_); refine box_event ?hg (N := 11) ?hd (cs := #[.int .i64 0, .int .i64 0]) (t := 59) ?hr ?_; (case hd => rfl); (case hg => rfl); (case hr => first | (go_simp; done) | (go_simp; rfl)); intro gb227 hg w23 hbox hb; have n0_ := Aside0.mk (Kd.R_below (by (with_reducible repeat (first | apply Kd.R_alloc | apply Kd.R_drewN | apply Kd.R_drew)); exact HO_9.out) hb); have n1_ := Aside0.mk (below_step (by repeat (first | (with_reducible first | exact HB.out | apply below_alloc | apply pw_below_drewN | apply below_drew1) | exact HB.out)) hb); have n2_ := Aside0.mk (hbox); have n3_ := Aside0.mk ((by rw [hg]; exact (below_size (by repeat (first | (with_reducible first | exact HB.out | apply below_alloc | apply pw_below_drewN | apply below_drew1) | exact HB.out))) : w.heap.size ≤ gb227)); have n4_ := Aside0.mk ((by rw [hg]; exact (below_size (by repeat (first | (with_reducible first | exact HB.out | apply below_alloc | apply pw_below_drewN | apply below_drew1) | exact HB.out))) : w.heap.size ≤ gb227)); clear HO_9; clear HB; have HO_9 := n0_; have HB := n1_; have BK227 := n2_; have GW227 := n3_; have GE227 := n4_; clear n0_ n1_ n2_ n3_ n4_; clear hb hbox hg; have hcz24_0 : w23.cell? ⟨gb227, 0, none⟩ = some (.int .i64 0) := (blk_cell BK227.out 0).trans rfl; have hcz24_1 : w23.cell? ⟨gb227, 1, none⟩ = some (.int .i64 0) := (blk_cell BK227.out 1).trans rfl; have hfz24_0 := blk_frozen BK227.out 0; have hfz24_1 := blk_frozen BK227.out 1) | ((with_reducible refine gate_builtin (b := .append) (xs := #[.tmp 51, .tmp 54]) rfl ?_); at_builtin; refine Kd.R_append (Kd.int .i64) (w0 := w) w.heap.size rfl (.tmp 51) (.tmp 54) 31 3 (.int .i64 0) 8 rfl Try.underlying31 info3 rfl (by decide) (by omega) u9 x9_1 ((rd_T59 ((rd_T41 l0 a3).f3) x10_1).f0) [.int .i64 ((rd_T59 ((rd_T41 l0 a3).f3) x10_1).f0)] (fun _ => True) (fun _ => False) rfl (by first | (go_simp; done) | (go_simp; rfl)) ?aP (fun _ hk => hk.elim) ?aF ?aO ?aB ?aS ?aL ?_; (case aP => exact rfl); (case aB => exact (by repeat (first | (with_reducible first | exact HB.out | apply below_alloc | apply pw_below_drewN | apply below_drew1 | refine below_set ?_ GE227.out) | exact HB.out))); (case aF => exact (fun _ _ => trivial)); (case aO => exact (by (with_reducible repeat (first | apply Kd.R_alloc | apply Kd.R_drewN | apply Kd.R_drew)); exact Kd.R_mono (Kd.R_far (p := ⟨gb227, 1, none⟩) (Kd.R_far (p := ⟨gb227, 0, none⟩) (Kd.R_types HO_9.out BK227.out (by decide)) (fun _ hk => hk.2) (.int .i64 ((rd_T59 ((rd_T41 l0 a3).f3) x10_1).f0))) (fun _ hk => hk.2) (.int .i64 ((rd_T59 ((rd_T41 l0 a3).f3) x10_1).f1))) (fun _ hk => trivial))); (case aS => exact (below_size (by repeat (first | (with_reducible first | exact HB.out | apply below_alloc | apply pw_below_drewN | apply below_drew1 | refine below_set ?_ GE227.out) | exact HB.out)))); (case aL => have := LMc22.out; omega); intro v233 w25 ho hb hg hat; rw [← Ny232.out] at ho; have n0_ := Aside0.mk (blk_grown (g := gb227) (o := .cells #[.int .i64 ((rd_T59 ((rd_T41 l0 a3).f3) x10_1).f0), .int .i64 ((rd_T59 ((rd_T41 l0 a3).f3) x10_1).f1)] 59 (0, 0)) (by (with_reducible repeat (first | refine blk_drewN ?_ _ | refine blk_drew ?_ | refine blk_alloc ?_ _)); refine blk_put (cs := #[.int .i64 ((rd_T59 ((rd_T41 l0 a3).f3) x10_1).f0), .int .i64 0]) ?_ 1 _ rfl; (with_reducible repeat (first | refine blk_drewN ?_ _ | refine blk_drew ?_ | refine blk_alloc ?_ _)); refine blk_put (cs := #[.int .i64 0, .int .i64 0]) ?_ 0 _ rfl; (with_reducible repeat (first | refine blk_drewN ?_ _ | refine blk_drew ?_ | refine blk_alloc ?_ _)); exact BK227.out) hg (Kd.R_ne HO_9.out BK227.out (by decide))); have n1_ := Aside0.mk (hb); have n2_ := Aside0.mk (ho); clear BK227; clear HB; clear HO_9; have BK227 := n0_; have HB := n1_; have HO234 := n2_; clear n0_ n1_ n2_; clear ho hb hg hat))
                    go_roundg k1
                    case measure => have := HK1.out; omega
                    case rel => exact ⟨(y232), (wrap64 (x10_1 + 1)), (by first | rfl | (simp; done) | (simp [*]; done)), H', ⟨by have := HK1.out; omega⟩, ⟨by (with_reducible repeat (first | apply Kd.R_alloc | apply Kd.R_drewN | apply Kd.R_drew)); exact HO234.out⟩, ⟨by repeat (first | (with_reducible first | exact HB.out | apply below_alloc | apply pw_below_drewN | apply below_drew1 | refine below_set ?_ GE227.out) | exact HB.out)⟩⟩
                  · rw [if_neg c22] at H
                    exact absurd H (by simp)
              · rw [if_neg c13] at H
                exact absurd H (by simp)
            · rw [if_neg c12] at H
              have c12b0 : decide (x10_1 < (((rd_T41 l0 a3).f3).length : Int)) = false := decide_eq_false c12
              clear c12
              obtain rfl := Option.some.inj H
              have p224 : 0 ≤ (a3 : Int) := of_decide_eq_true (by first | (with_reducible assumption) | assumption)
              have q224 : a3 < (l0.length : Int) := of_decide_eq_true (by first | (with_reducible assumption) | assumption)
              obtain ⟨ad224, A224_0, c224_0, A224_1, c224_1, A224_2, c224_2, A224_3, c224_3, e224, hx224_0, hx224_1, hx224_2, hx224_3, hl224_0, hi224_0, hl224_1, hi224_1, hl224_2, hi224_2, hl224_3, hi224_3⟩ := at_T41 HR0.out a3 p224 q224
              cases e224
              replace hx224_0 := (HB.out.cell (World.block_lt_of_cell? w _ hx224_0)).trans hx224_0
              replace hx224_1 := (HB.out.cell (World.block_lt_of_cell? w _ hx224_1)).trans hx224_1
              replace hx224_2 := (HB.out.cell (World.block_lt_of_cell? w _ hx224_2)).trans hx224_2
              replace hx224_3 := (HB.out.cell (World.block_lt_of_cell? w _ hx224_3)).trans hx224_3
              have HR224_0 := Aside0.mk hi224_0
              have HC224_0 := Aside0.mk hl224_0
              clear hi224_0 hl224_0
              have HR224_1 := Aside0.mk hi224_1
              have HC224_1 := Aside0.mk hl224_1
              clear hi224_1 hl224_1
              have HR224_2 := Aside0.mk hi224_2
              have HC224_2 := Aside0.mk hl224_2
              clear hi224_2 hl224_2
              have HR224_3 := Aside0.mk hi224_3
              have HC224_3 := Aside0.mk hl224_3
              clear hi224_3 hl224_3
              replace p224 := eq_true p224
              replace q224 := eq_true q224
              go_wp2
              go_ret
              exact ⟨_, by first | rfl | (simp [errW_none, errW_some] <;> rfl) | (simp [*, errW_none, errW_some] <;> rfl), by (with_reducible repeat (first | apply Kd.R_alloc | apply Kd.R_drewN | apply Kd.R_drew)); exact HO_9.out, by repeat (first | (with_reducible first | exact HB.out | apply below_alloc | apply pw_below_drewN | apply below_drew1) | exact HB.out)⟩
          · rw [if_neg c11] at H
            exact absurd H (by simp)
        · rw [if_neg c10] at H
          exact absurd H (by simp)
end Go.Proofs.Ytcpicopaobhlcaa.Q
end
section
namespace Go.Proofs.Ytcpicopaobhlcaa.Q
open Go.RowKit Go.Proofs.YtcpicopaobhlcaaW.PrintWords Go.Proofs.YtcpicopaobhlcaaW.PrintLast Go.Proofs.YtcpicopaobhlcaaW.PrintMore
attribute [local go_sem] max2_int min2_int max_two min_two max_three min_three max_four min_four   -- for this text's walks alone
set_option linter.unusedVariables false
set_option linter.unusedSimpArgs false
def unicodetextref51_Apply.l0 : Nat → List Int → List (S41) → List Int → Int → Option (List Int)
  | 0, _, _, _, _ => none
  | k + 1, x1, x5, x6, x7 => if x7 < (x1.length : Int) then ((unicodetextref51_step.f k x5 x1 x7).bind fun bt238 => ((unicodetextref51_Written.f k x5 x1 x7 bt238.1).bind fun t240 => (if x6.length + t240.length < 17592186044416 then (unicodetextref51_Apply.l0 k x1 x5 (x6 ++ t240) (wrap64 (x7 + bt238.2))) else (none)))) else (some x6)
def unicodetextref51_Apply.f (k : Nat) (l0 : List (S41)) (l1 : List Int) : Option (List Int) := (unicodetextref51_Data.f k l0).bind fun t235 => (unicodetextref51_Apply.l0 k l1 t235 ([] : List Int) 0)
set_option maxHeartbeats 8000000 in
set_option maxRecDepth 100000 in
theorem unicodetextref51_Apply.calls (k : Nat) (A0 : Option Addr) (c0 : Nat) (l0 : List (S41)) (A1 : Option Addr) (c1 : Nat) (l1 : List Int) (r : List Int) (w : World) (hr0 : Kd.C k41 w A0 l0.length l0) (hc0 : l0.length ≤ c0) (hr1 : Kd.C (Kd.int .i64) w A1 l1.length l1) (hc1 : l1.length ≤ c1) (h : unicodetextref51_Apply.f k l0 l1 = some r) :
    Calls Try.prog 17 #[.slice A0 l0.length c0, .slice A1 l1.length c1] w fun e w' => ∃ v0_ : Value, e = .returned (v0_) ∧ Kd.R (Kd.int .i64) 3 w' w.heap.size (fun _ => True) v0_ r ∧ Below w.heap.size w w' := by
  have HR0 := Aside0.mk hr0
  have HC0 := Aside0.mk hc0
  clear hr0 hc0
  have HR1 := Aside0.mk hr1
  have HC1 := Aside0.mk hc1
  clear hr1 hc1
  have HB := Aside0.mk (Below.refl w.heap.size w)
  have H : ((unicodetextref51_Data.f k l0).bind fun t235 => (unicodetextref51_Apply.l0 k l1 t235 ([] : List Int) 0)) = some r := h
  clear h
  replace H := Option.bind_eq_some_iff.mp H
  obtain ⟨t235, A30, H⟩ := H
  replace H : (unicodetextref51_Apply.l0 k l1 t235 ([] : List Int) 0) = some r := H
  have A3 := Aside0.mk A30
  clear A30
  have H' := Aside0.mk H
  clear H
  go_enter Try.func17, Try.ntmps17
  go_wp2_with (first | ((with_reducible refine gate_callee (f := 34) rfl ?_); refine goesL_ (some 11) rfl rfl Try.func34 (by kernel_rfl) rfl #[.slice A0 l0.length c0] rfl (by (try simp only [List.map_toArray, List.map_cons, List.map_nil]); first | done | rfl | (simp only [List.length_drop, List.length_take]; rfl)) ?_; (with_reducible refine (unicodetextref51_Data.calls k (fun k_ => k_ < w.heap.size) _ _ l0 t235 _ ?side1 A3.out).mono ?_); (case side1 => exact Kd.V_mk HC0.out (Kd.F_below (Kd.C_F k41_heap HR0.out) (by repeat (first | (with_reducible first | exact HB.out | apply below_alloc | apply pw_below_drewN | apply below_drew1) | exact HB.out)))); rintro e w4 ⟨v236, rfl, ho0, hb⟩; refine ⟨_, rfl, ?_⟩; have n0_ := Aside0.mk (Kd.V_lower (Kd.V_mono (ok' := fun k_ => True) ho0 (fun k_ hk_ => trivial)) (below_size (by repeat (first | (with_reducible first | exact HB.out | apply below_alloc | apply pw_below_drewN | apply below_drew1) | exact HB.out)))); have n1_ := Aside0.mk (below_step (by repeat (first | (with_reducible first | exact HB.out | apply below_alloc | apply pw_below_drewN | apply below_drew1) | exact HB.out)) hb); clear HB; have HO237 := n0_; have HB := n1_; clear n0_ n1_; (try clear hb); (try clear hb2); (try clear hk); (try clear hi); (try clear ho0)))
  go_loopg [6, 7] k (fun kq v6 v7 w' => ∃ (x6_1 : List Int) (x7_1 : Int), v7 = .int .i64 x7_1 ∧ Aside0 (unicodetextref51_Apply.l0 kq l1 t235 x6_1 x7_1 = some r) ∧ Aside0 (kq ≤ k) ∧ Aside0 (Kd.V k41 41 w' w.heap.size (fun k_ => some k_ ≠ (v6 : Value).ownBlock) v236 t235) ∧ Aside0 (Kd.R (Kd.int .i64) 3 w' w.heap.size (fun _ => True) v6 x6_1) ∧ Aside0 (Below w.heap.size w w'))
  case atStart => exact ⟨(([] : List Int)), (0), (by first | rfl | (simp; done) | (simp [*]; done)), H', ⟨Nat.le_refl _⟩, ⟨by (with_reducible repeat (first | apply Kd.V_alloc | apply Kd.V_drewN | apply Kd.V_drew)); exact Kd.V_mono HO237.out (fun _ hk => (by simp [Value.ownBlock]))⟩, ⟨by first | exact Kd.R_nil _ _ _ _ _ | exact Kd.N_nil _ _ _ _ _ | exact Kd.V_nil _ _ _ _ _ | exact Kd.Q_nil _ _ _ _ _ | exact Kd.S_nil _ _ _ _ _⟩, ⟨by repeat (first | (with_reducible first | exact HB.out | apply below_alloc | apply pw_below_drewN | apply below_drew1) | exact HB.out)⟩⟩
  case round =>
    clear H'
    try clear c1
    try clear p2
    try clear c3
    obtain ⟨x6_1, x7_1, rfl, HA, HK1, HO_5, HO_6, HB⟩ := hrel
    cases gk with
    | zero => exact absurd HA.out (by simp [unicodetextref51_Apply.l0])
    | succ k1 =>
      have H := HA.out
      clear HA
      simp only [unicodetextref51_Apply.l0] at H
      by_cases c5 : x7_1 < (l1.length : Int)
      · rw [if_pos c5] at H
        have c5b0 : decide (x7_1 < (l1.length : Int)) = true := decide_eq_true c5
        clear c5
        replace H := Option.bind_eq_some_iff.mp H
        obtain ⟨⟨t238, t239⟩, A60, H⟩ := H
        replace H : ((unicodetextref51_Written.f k1 t235 l1 x7_1 t238).bind fun t240 => (if x6_1.length + t240.length < 17592186044416 then (unicodetextref51_Apply.l0 k1 l1 t235 (x6_1 ++ t240) (wrap64 (x7_1 + t239))) else (none))) = some r := H
        have A6 := Aside0.mk A60
        clear A60
        replace H := Option.bind_eq_some_iff.mp H
        obtain ⟨t240, A70, H⟩ := H
        replace H : (if x6_1.length + t240.length < 17592186044416 then (unicodetextref51_Apply.l0 k1 l1 t235 (x6_1 ++ t240) (wrap64 (x7_1 + t239))) else (none)) = some r := H
        have A7 := Aside0.mk A70
        clear A70
        by_cases c8 : x6_1.length + t240.length < 17592186044416
        · rw [if_pos c8] at H
          have LMc8 := Aside0.mk c8
          clear c8
          obtain ⟨y243, hy243⟩ : ∃ y_ : List Int, y_ = (x6_1 ++ t240) := ⟨_, rfl⟩
          replace H : (unicodetextref51_Apply.l0 k1 l1 t235 y243 (wrap64 (x7_1 + t239))) = some r := by first | (rw [hy243]; with_reducible exact H) | (have H2_ := (Option.bind_some _ _).symm.trans H; rw [hy243]; with_reducible exact H2_) | (have H2_ := (Option.bind_some _ _).symm.trans H; with_reducible exact H2_) | with_reducible exact H | (rw [hy243]; exact H) | exact H
          have Ny243 := Aside0.mk hy243
          clear hy243
          have H' := Aside0.mk H
          clear H
          obtain ⟨Ao9, co9, eo9⟩ := Kd.V_slice HO_5.out
          subst eo9
          go_wp2_with (first | ((with_reducible refine gate_callee (f := 35) rfl ?_); refine goesL_ (some 20) rfl rfl Try.func35 (by kernel_rfl) rfl #[.slice Ao9 t235.length co9, .slice A1 l1.length c1, .int .i64 x7_1] rfl (by (try simp only [List.map_toArray, List.map_cons, List.map_nil]); first | done | rfl | (simp only [List.length_drop, List.length_take]; rfl)) ?_; (with_reducible refine (unicodetextref51_step.calls k1 _ _ t235 _ _ l1 x7_1 t238 t239 _ ?side1 ?side2 ?side3 ?side4 A6.out).mono ?_); (case side1 => repeat (first | exact (Kd.V_reads' HO_5.out).2.2 | (with_reducible refine Kd.C_alloc ?_ _) | (with_reducible refine Kd.C_drewN ?_ _) | (with_reducible refine Kd.C_drew ?_))); (case side2 => exact (Kd.V_reads' HO_5.out).2.1); (case side3 => repeat (first | exact (Kd.C_below HR1.out HB.out) | (with_reducible refine Kd.C_alloc ?_ _) | (with_reducible refine Kd.C_drewN ?_ _) | (with_reducible refine Kd.C_drew ?_))); (case side4 => exact HC1.out); rintro e w10 ⟨rfl, hb⟩; refine ⟨_, rfl, ?_⟩; have n0_ := Aside0.mk (Kd.V_below (by (with_reducible repeat (first | apply Kd.V_alloc | apply Kd.V_drewN | apply Kd.V_drew)); exact HO_5.out) hb); have n1_ := Aside0.mk (Kd.R_below (by (with_reducible repeat (first | apply Kd.R_alloc | apply Kd.R_drewN | apply Kd.R_drew)); exact HO_6.out) hb); have n2_ := Aside0.mk (below_step (by repeat (first | (with_reducible first | exact HB.out | apply below_alloc | apply pw_below_drewN | apply below_drew1) | exact HB.out)) hb); clear HO_5; clear HO_6; clear HB; have HO_5 := n0_; have HO_6 := n1_; have HB := n2_; clear n0_ n1_ n2_; (try clear hb); (try clear hb2); (try clear hk); (try clear hi)) | ((with_reducible refine gate_callee (f := 36) rfl ?_); refine goesL_ (some 28) rfl rfl Try.func36 (by kernel_rfl) rfl #[.slice Ao9 t235.length co9, .slice A1 l1.length c1, .int .i64 x7_1, .int .i64 t238] rfl (by (try simp only [List.map_toArray, List.map_cons, List.map_nil]); first | done | rfl | (simp only [List.length_drop, List.length_take]; rfl)) ?_; (with_reducible refine (unicodetextref51_Written.calls k1 _ _ t235 _ _ l1 x7_1 t238 t240 _ ?side1 ?side2 ?side3 ?side4 A7.out).mono ?_); (case side1 => repeat (first | exact (Kd.V_reads' HO_5.out).2.2 | (with_reducible refine Kd.C_alloc ?_ _) | (with_reducible refine Kd.C_drewN ?_ _) | (with_reducible refine Kd.C_drew ?_))); (case side2 => exact (Kd.V_reads' HO_5.out).2.1); (case side3 => repeat (first | exact (Kd.C_below HR1.out HB.out) | (with_reducible refine Kd.C_alloc ?_ _) | (with_reducible refine Kd.C_drewN ?_ _) | (with_reducible refine Kd.C_drew ?_))); (case side4 => exact HC1.out); rintro e w11 ⟨v241, rfl, ho0, hb⟩; refine ⟨_, rfl, ?_⟩; have n0_ := Aside0.mk (Kd.V_elder' (by (with_reducible repeat (first | apply Kd.V_alloc | apply Kd.V_drewN | apply Kd.V_drew)); exact HO_5.out) (Kd.R_base ho0) hb); have n1_ := Aside0.mk (Kd.R_elder' (by (with_reducible repeat (first | apply Kd.R_alloc | apply Kd.R_drewN | apply Kd.R_drew)); exact HO_6.out) (Kd.R_base ho0) hb); have n2_ := Aside0.mk (Kd.R_lower (Kd.R_new' ho0 (Kd.R_lt (by (with_reducible repeat (first | apply Kd.R_alloc | apply Kd.R_drewN | apply Kd.R_drew)); exact HO_6.out))) (below_size (by repeat (first | (with_reducible first | exact HB.out | apply below_alloc | apply pw_below_drewN | apply below_drew1) | exact HB.out)))); have n3_ := Aside0.mk (below_step (by repeat (first | (with_reducible first | exact HB.out | apply below_alloc | apply pw_below_drewN | apply below_drew1) | exact HB.out)) hb); clear HO_5; clear HO_6; clear HB; have HO_5 := n0_; have HO_6 := n1_; have HO242 := n2_; have HB := n3_; clear n0_ n1_ n2_ n3_; (try clear hb); (try clear hb2); (try clear hk); (try clear hi); (try clear ho0); obtain ⟨Ao13, co13, eo13⟩ := Kd.R_slice HO242.out; subst eo13) | ((with_reducible refine gate_builtin (b := .append) (xs := #[.tmp 23, .tmp 28]) rfl ?_); at_builtin; refine Kd.R_append_rows (Kd.int .i64) (w0 := w) w.heap.size rfl (.tmp 23) (.tmp 28) 31 3 (.int .i64 0) 8 rfl Try.underlying31 info3 rfl (by decide) (by omega) u6 x6_1 t240 _ _ _ (fun k_ => some k_ ≠ (.slice Ao13 t240.length co13 : Value).ownBlock) (fun _ => False) rfl rfl ?aO ?aR (fun _ _ h => h) (fun _ h => h.elim) ?aF ?aB ?aS ?aL ?_; (case aR => repeat (first | exact (Kd.R_reads' HO242.out).2.2 | (with_reducible refine Kd.C_alloc ?_ _) | (with_reducible refine Kd.C_drewN ?_ _) | (with_reducible refine Kd.C_drew ?_))); (case aB => exact (by repeat (first | (with_reducible first | exact HB.out | apply below_alloc | apply pw_below_drewN | apply below_drew1) | exact HB.out))); (case aF => exact (fun k_ hk => Kd.fresh' (Kd.R_lt (by (with_reducible repeat (first | apply Kd.R_alloc | apply Kd.R_drewN | apply Kd.R_drew)); exact HO242.out)) k_ hk)); (case aO => exact (by (with_reducible repeat (first | apply Kd.R_alloc | apply Kd.R_drewN | apply Kd.R_drew)); exact Kd.R_mono HO_6.out (fun _ hk => hk.2))); (case aS => exact (below_size (by repeat (first | (with_reducible first | exact HB.out | apply below_alloc | apply pw_below_drewN | apply below_drew1) | exact HB.out)))); (case aL => have := LMc8.out; omega); intro v244 w12 ho hb hg hat; rw [← Ny243.out] at ho; have n0_ := Aside0.mk (Kd.V_afterv (ok := (fun k_ => some k_ ≠ (.slice Ao13 t240.length co13 : Value).ownBlock)) (by (with_reducible repeat (first | apply Kd.V_alloc | apply Kd.V_drewN | apply Kd.V_drew)); exact Kd.V_mono HO_5.out (fun _ hk => ⟨hk.2, hk.1⟩)) hg hat); have n1_ := Aside0.mk (Kd.R_after (ok := (fun _ => True)) (by (with_reducible repeat (first | apply Kd.R_alloc | apply Kd.R_drewN | apply Kd.R_drew)); exact HO242.out) hg hat); have n2_ := Aside0.mk (hb); have n3_ := Aside0.mk (ho); clear HO_5; clear HO242; clear HB; clear HO_6; have HO_5 := n0_; have HO242 := n1_; have HB := n2_; have HO245 := n3_; clear n0_ n1_ n2_ n3_; clear ho hb hg hat))
          go_roundg k1
          case measure => have := HK1.out; omega
          case rel => exact ⟨(y243), (wrap64 (x7_1 + t239)), (by first | rfl | (simp; done) | (simp [*]; done)), H', ⟨by have := HK1.out; omega⟩, ⟨by (with_reducible repeat (first | apply Kd.V_alloc | apply Kd.V_drewN | apply Kd.V_drew)); exact Kd.V_mono HO_5.out (fun _ hk => hk.2)⟩, ⟨by (with_reducible repeat (first | apply Kd.R_alloc | apply Kd.R_drewN | apply Kd.R_drew)); exact Kd.R_mono HO245.out (fun _ hk => trivial)⟩, ⟨by repeat (first | (with_reducible first | exact HB.out | apply below_alloc | apply pw_below_drewN | apply below_drew1) | exact HB.out)⟩⟩
        · rw [if_neg c8] at H
          exact absurd H (by simp)
      · rw [if_neg c5] at H
        have c5b0 : decide (x7_1 < (l1.length : Int)) = false := decide_eq_false c5
        clear c5
        obtain rfl := Option.some.inj H
        go_wp2
        go_ret
        exact ⟨_, by first | rfl | (simp [errW_none, errW_some] <;> rfl) | (simp [*, errW_none, errW_some] <;> rfl), by (with_reducible repeat (first | apply Kd.R_alloc | apply Kd.R_drewN | apply Kd.R_drew)); exact HO_6.out, by repeat (first | (with_reducible first | exact HB.out | apply below_alloc | apply pw_below_drewN | apply below_drew1) | exact HB.out)⟩
end Go.Proofs.Ytcpicopaobhlcaa.Q
end
section
namespace Go.Proofs.Ytcpicopaobhlcaa.Q
open Go.RowKit Go.Proofs.YtcpicopaobhlcaaW.PrintWords Go.Proofs.YtcpicopaobhlcaaW.PrintLast Go.Proofs.YtcpicopaobhlcaaW.PrintMore
set_option linter.unusedVariables false
theorem plWrit_go (l : List Ru) (text : List Int) (a : Nat) (j : Nat) (x : Ru) (hj : j < l.length) (hx : rd_T41 l (j : Int) = x) (hT : text.length < 1000000000) (ha : a < text.length) : ∀ (rest pre : List Pc) (out : List Int) (k : Nat), pre ++ rest = x.f3 → x.f3.length < 1000000 → out.length ≤ pre.length → (∀ p ∈ rest, (a : Int) + p.f1 ≤ (text.length : Int)) → rest.length + 1 ≤ k →
    unicodetextref51_Written.l0 k l text (a : Int) (j : Int) out (pre.length : Int) = some (out ++ rest.map fun p => if 0 < p.f1 then text.getD ((a : Int) + (p.f1 - 1)).toNat 0 else p.f0)
  | [], pre, out, k, h0, h1, h2, h3, h4 => by
    obtain ⟨k, rfl⟩ : ∃ j, k = j + 1 := ⟨k - 1, by omega⟩
    have hl : x.f3.length = pre.length := by rw [← h0]; simp
    rw [unicodetextref51_Written.l0, if_pos (by omega), if_pos (by omega), hx, if_neg (by omega)]
    simp
  | p :: rest, pre, out, k, h0, h1, h2, h3, h4 => by
    obtain ⟨k, rfl⟩ : ∃ j, k = j + 1 := ⟨k - 1, by omega⟩
    have hl : x.f3.length = pre.length + (rest.length + 1) := by rw [← h0]; simp
    have hp : pre.length < 1000000000 := by omega
    have hrd : rd_T59 x.f3 (pre.length : Int) = p := by rw [← h0]; exact plRdP_mid _ _ _
    have ih := fun v => plWrit_go l text a j x hj hx hT ha rest (pre ++ [p]) (out ++ [v]) k (by simpa using h0) h1 (by simp; omega) (fun q hq => h3 q (List.mem_cons_of_mem _ hq)) (by simp at h4; omega)
    have el : ((pre ++ [p]).length : Int) = ((pre.length + 1 : Nat) : Int) := by simp
    rw [el] at ih
    have hb := h3 p List.mem_cons_self
    rw [unicodetextref51_Written.l0, if_pos (by omega), if_pos (by omega), hx, if_pos (by omega), if_pos (by omega), hrd, wrap_suc hp]
    by_cases hc : 0 < p.f1
    · have hw : wrap64 (wrap64 ((a : Int) + p.f1) - 1) = (a : Int) + (p.f1 - 1) := by unfold wrap64; omega
      rw [if_pos hc, hw, if_pos (by omega), if_pos (by omega), if_pos (by omega), ih, List.map_cons, if_pos hc, List.append_assoc]
      rfl
    · rw [if_neg hc, if_pos (by omega), ih, List.map_cons, if_neg hc, List.append_assoc]
      rfl
theorem plWritten_ok (l : List Ru) (text : List Int) (a n : Nat) (i : Int) (k : Nat) (hn : 1 ≤ n) (ha : a + n ≤ text.length) (hT : text.length < 1000000000) (hl : ∀ x ∈ l, x.f3.length ≤ 16 ∧ ∀ p ∈ x.f3, p.f1 ≤ (x.f1.length : Int))
    (hc : i = -1 ∧ n = 1 ∨ ∃ j : Nat, i = (j : Int) ∧ j < l.length ∧ n = (l.getD j z41).f1.length) (hk : 20 ≤ k) : unicodetextref51_Written.f k l text (a : Int) i = some (writtenS l text (a : Int) i) := by
  unfold unicodetextref51_Written.f writtenS
  rcases hc with ⟨rfl, rfl⟩ | ⟨j, rfl, hj, hnj⟩
  · rw [if_pos (by decide), if_pos (by omega), if_pos (by omega), if_pos (by decide)]
    rfl
  · have hm : l.getD j z41 ∈ l := by
      rw [List.getD_eq_getElem?_getD, List.getElem?_eq_getElem hj]; exact List.getElem_mem hj
    have h2 := hl _ hm
    have e : rd_T41 l (j : Int) = l.getD j z41 := by
      unfold rd_T41
      rw [Int.toNat_natCast]
    rw [if_neg (by omega), if_neg (by omega), Int.toNat_natCast]
    exact plWrit_go l text a j (l.getD j z41) hj e hT (by omega) _ [] [] k rfl (by omega) (Nat.le_refl _) (fun p hp => by have := h2.2 p hp; omega) (by omega)
theorem plApply_go (l : List Ru) (text : List Int) (hf : plFewL l) (h1 : ∀ x ∈ l, 1 ≤ x.f1.length) (hl : ∀ x ∈ l, x.f3.length ≤ 16 ∧ ∀ p ∈ x.f3, p.f1 ≤ (x.f1.length : Int)) (hT : text.length < 1000000) : ∀ (m a : Nat) (out : List Int) (k : Nat), text.length - a ≤ m → a ≤ text.length → out.length ≤ 16 * a → 300 + m ≤ k →
    unicodetextref51_Apply.l0 k text l out (a : Int) = some (out ++ applyS l text (text.length - a) (a : Int))
  | m, a, out, k, h2, h3, h4, h5 => by
    obtain ⟨k, rfl⟩ : ∃ j, k = j + 1 := ⟨k - 1, by omega⟩
    rw [unicodetextref51_Apply.l0]
    by_cases ha : a < text.length
    · obtain ⟨n, hs, hn1, hn2, hcase⟩ := stepS_bounds l text a ha h1
      have hst := applyS_step l text (text.length - a) a ha (by omega)
      have hmo := applyS_more l text h1 (text.length - (a + n)) (a + n) (text.length - a - 1) (by omega) (by omega)
      rw [hs, show (a : Int) + (n : Int) = ((a + n : Nat) : Int) by omega, ← hmo] at hst
      have hwl := (resV_written l text a n (stepS l text (a : Int)).1 hn1 hn2 hl hcase).2
      have hw : wrap64 ((a : Int) + (n : Int)) = ((a + n : Nat) : Int) := by unfold wrap64; omega
      rw [if_pos (by omega), plStep_ok l text a k hf (by omega) (by omega)]
      simp only [Option.bind_some]
      rw [plWritten_ok l text a n (stepS l text (a : Int)).1 k hn1 hn2 (by omega) hl hcase (by omega)]
      simp only [Option.bind_some]
      rw [hs, hw, if_pos (by omega)]
      obtain ⟨m, rfl⟩ : ∃ j, m = j + 1 := ⟨m - 1, by omega⟩
      rw [plApply_go l text hf h1 hl hT m (a + n) _ k (by omega) hn2 (by rw [List.length_append]; omega) (by omega), hst, List.append_assoc]
    · obtain rfl : a = text.length := by omega
      rw [if_neg (by omega), Nat.sub_self, applyS, List.append_nil]
theorem plData1 (l : List Ru) : ∀ x ∈ dataS l, 1 ≤ x.f1.length := fun x hx => (oneS_ok x (data_one l x hx)).1
theorem plApply_ok (l : List Ru) (text : List Int) (k : Nat) (hf : plFewL l) (hT : text.length ≤ 1000) (hk : 2000 ≤ k) : unicodetextref51_Apply.f k l text = some (applyS (dataS l) text text.length 0) := by
  unfold unicodetextref51_Apply.f
  rw [plData_ok l k hf (by omega)]
  exact plApply_go (dataS l) text (plData_few l hf) (plData1 l) (data_ok3 l) (by omega) text.length 0 [] k (by omega) (by omega) (by simp) (by omega)
def plNoHas (text : List Int) (s : St) : Prop := ∀ c ∈ text, hasS s c = false
end Go.Proofs.Ytcpicopaobhlcaa.Q
end
section
namespace Go.Proofs.Ytcpicopaobhlcaa.Q
open Go.RowKit Go.Proofs.YtcpicopaobhlcaaW.PrintWords Go.Proofs.YtcpicopaobhlcaaW.PrintLast Go.Proofs.YtcpicopaobhlcaaW.PrintMore
set_option linter.unusedVariables false
set_option maxHeartbeats 8000000 in
set_option maxRecDepth 100000 in
theorem transstreamWhole_law (A0 : Option Addr) (c0 : Nat) (l0 : List Ru) (A1 : Option Addr) (c1 : Nat) (l1 : List (List Int)) (w : World) (h0 : wfL l0) (h1 : wfTs l1) (hr0 : Kd.C k41 w A0 l0.length l0) (hc0 : l0.length ≤ c0) (hr1 : Kd.C (Kd.slice 3 (Kd.int .i64)) w A1 l1.length l1) (hc1 : l1.length ≤ c1) :
    Calls Try.prog 3 #[.slice A0 l0.length c0, .slice A1 l1.length c1] w fun e w' => e = .returned (.bool true) ∧ Below w.heap.size w w' := by
  have HR := Aside0.mk hr0
  have HC := Aside0.mk hc0
  have HT := Aside0.mk hr1
  have HC1 := Aside0.mk hc1
  have hsm := sSmall_calls A0 c0 l0
  have hfw := unicodetextlaw52_few.calls 20 A1 c1 l1
  clear hr0 hc0 hr1 hc1 h0
  cases hb0 : spSmallB l0 with
  | false =>
    rw [hb0] at hsm
    have HSM := Aside0.mk hsm
    clear hsm hb0 h1 hfw
    go_enter Try.func3, Try.ntmps3
    go_wp2_with (first | (go_at_call 10; (with_reducible refine (HSM.out _ HR.out HC.out).mono ?_); rintro e w1 ⟨rfl, hb⟩; have HB := Aside0.mk hb; clear hb) | (go_at_call 12; (with_reducible refine (awake_calls _).mono ?_); rintro e wz ⟨rfl, hb⟩; have HBA := Aside0.mk hb; clear hb))
    go_ret
    exact ⟨rfl, below_step HB.out HBA.out⟩
  | true =>
    rw [hb0] at hsm
    have HSM := Aside0.mk hsm
    have hf := spSmall_few l0 hb0
    clear hsm hb0
    cases hb1 : spFewB l1 with
    | false =>
      have HFEW := Aside0.mk (hfw false)
      have HFQ := Aside0.mk (show unicodetextlaw52_few.f 20 l1 = some false by rw [spFew_ok, hb1])
      clear hfw hb1 hf h1
      go_enter Try.func3, Try.ntmps3
      go_wp2_with (first | (go_at_call 10; (with_reducible refine (HSM.out _ HR.out HC.out).mono ?_); rintro e w1 ⟨rfl, hb⟩; have HB := Aside0.mk hb; clear hb) | (go_at_call 11; (with_reducible refine (HFEW.out _ (Kd.C_below HT.out HB.out) HC1.out HFQ.out).mono ?_); rintro e w2 ⟨rfl, hb⟩; have HB1 := Aside0.mk (below_step HB.out hb.below); clear hb) | (go_at_call 12; (with_reducible refine (awake_calls _).mono ?_); rintro e wz ⟨rfl, hb⟩; have HBA := Aside0.mk hb; clear hb))
      go_ret
      exact ⟨rfl, below_step HB1.out HBA.out⟩
    | true =>
      have HFEW := Aside0.mk (hfw true)
      have HFQ := Aside0.mk (show unicodetextlaw52_few.f 20 l1 = some true by rw [spFew_ok, hb1])
      have HTX := Aside0.mk (And.intro h1 hb1)
      have HF := Aside0.mk hf
      clear hfw hb1 hf h1
      by_cases hd : checkS l0 = 0
      · have HD := Aside0.mk hd
        clear hd
        go_enter Try.func3, Try.ntmps3
        go_wp2_with (first | (go_at_call 10; (with_reducible refine (HSM.out _ HR.out HC.out).mono ?_); rintro e w1 ⟨rfl, hb⟩; have HB := Aside0.mk hb; clear hb) | (go_at_call 11; (with_reducible refine (HFEW.out _ (Kd.C_below HT.out HB.out) HC1.out HFQ.out).mono ?_); rintro e w2 ⟨rfl, hb⟩; have HB1 := Aside0.mk (below_step HB.out hb.below); clear hb) | (go_at_call 13; (with_reducible refine (spStNew A0 c0 l0 _ HF.out (Kd.C_below HR.out HB1.out) HC.out HD.out).mono ?_); rintro e w3 ⟨b, rfl, hs, hlb, hb⟩; have HS := Aside0.mk (hs.mono (fun k hk => hk.2)); have HLB := Aside0.mk (Nat.le_trans HB1.out.size hlb); have HB3 := Aside0.mk (below_step HB1.out hb); clear hb hs hlb) | (go_at_call 12; (with_reducible refine (awake_calls _).mono ?_); rintro e wz ⟨rfl, hb⟩; have HBA := Aside0.mk hb; clear hb))
        have HS0 := Aside0.mk (St2.start (w := w) HS.out HLB.out HB3.out)
        go_loopg [7, 8, 9] (l1.length + 1) (fun kq v7 v8 iv wr => ∃ (i a : Nat) (O : List Int), iv = .int .i64 i ∧ Aside0 (i ≤ l1.length ∧ l1.length + 1 ≤ i + kq) ∧ Aside0 (St2 w wr b v7 v8 (l1.take i).flatten O (l1.take i).flatten a l0) ∧ Aside0 (SpOut l0 1 (l1.take i).flatten a O ∧ O.length ≤ 16 * a ∧ a ≤ (l1.take i).flatten.length))
        case atStart => exact ⟨0, 0, [], rfl, ⟨Nat.zero_le _, by omega⟩, HS0, ⟨SpOut.start _ _, Nat.zero_le _, Nat.zero_le _⟩⟩
        case round =>
          obtain ⟨i, a, O, rfl, HK, HST, HO⟩ := hrel
          have hsp := spOk l0 HF.out (spDataS HD.out)
          by_cases hlt : i < l1.length
          · cases gk with
            | zero => have := HK.out; omega
            | succ k1 =>
              obtain ⟨e1, e2, e3, e4⟩ := spText_at HTX.out.1 HTX.out.2 i hlt
              obtain ⟨ad, A2, c2, e5, x0, x1, x2⟩ := at_L10 (Kd.C_below HT.out HST.out.bel) (i : Int) (by omega) (by omega)
              cases e5
              rw [Int.toNat_natCast] at x0
              obtain ⟨T, hTT⟩ : ∃ T, T = (l1.take i).flatten := ⟨_, rfl⟩
              rw [← hTT] at HST HO e1 e4
              have hwr := spSt2Write b u7 u8 T O T a l0 A2 c2 (rd_L10 l1 (i : Int)) wr HF.out HD.out HST.out e2 (by omega) x2 x1
              have hend := spRun_end l0 (T ++ rd_L10 l1 (i : Int)) (spAh l0) hsp.one hsp.ahp a (by rw [List.length_append]; have := HO.out.2.2; omega)
              have hlen := spRun_len l0 (T ++ rd_L10 l1 (i : Int)) (spAh l0) hsp.one hsp.pcs hsp.ahp a
              have hout := HO.out.1.write hsp (Nat.le_refl 1) hsp.ahp (rd_L10 l1 (i : Int))
              obtain ⟨wl, a2, hrun⟩ : ∃ wl a2, spRun l0 (T ++ rd_L10 l1 (i : Int)) (spAh l0) a = (wl, a2) := ⟨_, _, rfl⟩
              rw [hrun] at hwr hend hlen hout
              have HWR := Aside0.mk hwr
              have HOUT := Aside0.mk hout
              have HWL := Aside0.mk (show wl.length + 16 * a ≤ 16 * a2 ∧ a2 ≤ (T ++ rd_L10 l1 (i : Int)).length from ⟨hlen, hend.2.2⟩)
              have HE1 := Aside0.mk e1
              have HE4 := Aside0.mk e4
              have hbd : l1.length ≤ 8 := (spFewB_spec HTX.out.2).1
              have hdl : decide ((i : Int) < (l1.length : Int)) = true := decide_eq_true (by omega)
              have hwi : wrap64 ((i : Int) + 1) = ((i + 1 : Nat) : Int) := by unfold wrap64; omega
              have hp1 : (0 ≤ (i : Int)) = True := eq_true (by omega)
              have hp2 : ((i : Int) < (l1.length : Int)) = True := eq_true (by omega)
              clear e1 e2 e3 e4 x1 x2 hwr hend hlen hout hrun hbd hsp hTT
              go_wp2_with (first | (go_at_call 14; (with_reducible refine HWR.out.mono ?_); rintro e w5 ⟨A5, c5, rfl, hv5, hs5, hg5⟩; obtain ⟨ad5, A9, c9, e9, y0, y1, y2⟩ := at_L10 (Kd.C_below HT.out hs5.bel) (i : Int) (by omega) (by omega); cases e9; rw [Int.toNat_natCast] at y0; have HY1 := Aside0.mk y1; have HY2 := Aside0.mk y2; have HV5 := Aside0.mk hv5; have HS5 := Aside0.mk hs5; clear hv5 hs5 hg5 x0 y1 y2) | (at_builtin; go_loud (refine Kd.R_append_rows (Kd.int .i64) (w0 := w) w.heap.size rfl (.tmp 56) (.tmp 60) 31 3 (.int .i64 0) 8 rfl Try.underlying31 info3 rfl (by decide) (by omega) u7 T (rd_L10 l1 (i : Int)) _ _ _ (fun _ => True) (fun _ => False) rfl rfl ?aO ?aR (fun _ _ h => h) (fun _ h => h.elim) ?aF ?aB ?aS ?aL ?_; (case aR => exact HY2.out); (case aB => exact HS5.out.bel); (case aF => exact (fun _ _ => trivial)); (case aO => exact HS5.out.h7); (case aS => exact HS5.out.bel.size); (case aL => have h1_ := HE4.out; simp only [List.length_append] at h1_; omega); intro v6 w6 ho hb hg hat; have HS6 := Aside0.mk (HS5.out.app7 ho hb hg hat); have HV6 := Aside0.mk (rowApart HV5.out hg (rowFresh HST.out.h7 HV5.out)); clear ho hb hg hat)) | (at_builtin; go_loud (refine Kd.R_append_rows (Kd.int .i64) (w0 := w) w.heap.size rfl (.tmp 62) (.tmp 63) 31 3 (.int .i64 0) 8 rfl Try.underlying31 info3 rfl (by decide) (by omega) u8 O wl _ _ _ (fun _ => True) (fun _ => False) rfl rfl ?aO ?aR (fun _ _ h => h) (fun _ h => h.elim) ?aF ?aB ?aS ?aL ?_; (case aR => exact (Kd.R_reads' HV6.out).2.2); (case aB => exact HS6.out.bel); (case aF => exact (fun _ _ => trivial)); (case aO => exact HS6.out.h8); (case aS => exact HS6.out.bel.size); (case aL => have h1_ := HWL.out; have h2_ := HO.out.2.1; have h3_ := HO.out.2.2; have h4_ := HE4.out; simp only [List.length_append] at h1_ h4_; omega); intro v8 w8 ho hb hg hat; have HS8 := Aside0.mk (HS6.out.app8 ho hb hg hat); clear ho hb hg hat)))
              go_roundg k1
              case measure => omega
              case rel => exact ⟨i + 1, a2, O ++ wl, by rw [hwi], ⟨hlt, by have := HK.out; omega⟩, ⟨by rw [HE1.out]; exact HS8.out⟩, ⟨by rw [HE1.out]; exact HOUT.out, by rw [List.length_append]; have := HWL.out.1; have := HO.out.2.1; omega, by rw [HE1.out]; exact HWL.out.2⟩⟩
          · obtain rfl : i = l1.length := by have := HK.out; omega
            have hdl : decide ((l1.length : Int) < (l1.length : Int)) = false := decide_eq_false (by omega)
            obtain ⟨tk1, tk2⟩ := spTexts HTX.out.1 HTX.out.2 l1.length (Nat.le_refl _)
            have hbd : l1.length ≤ 8 := (spFewB_spec HTX.out.2).1
            obtain ⟨T, hTT⟩ : ∃ T, T = (l1.take l1.length).flatten := ⟨_, rfl⟩
            rw [← hTT] at HST HO tk1 tk2
            have HTL := Aside0.mk (show T.length ≤ 240 by omega)
            obtain ⟨A8, c8, rfl⟩ := Kd.R_slice HST.out.h7
            have hcl := spSt2Close b (.slice A8 T.length c8) u8 T O T a l0 wr HF.out HD.out HST.out
            have hend := spRun_end l0 T 1 hsp.one (Nat.le_refl _) a HO.out.2.2
            have hlen := spRun_len l0 T 1 hsp.one hsp.pcs (Nat.le_refl _) a
            have hout := HO.out.1.close hsp
            have hap := plApply_ok l0 T 2000 HF.out (by omega) (by decide)
            rw [spDataS HD.out, hout] at hap
            obtain ⟨wl, a2, hrun⟩ : ∃ wl a2, spRun l0 T 1 a = (wl, a2) := ⟨_, _, rfl⟩
            rw [hrun] at hcl hend hlen hap
            obtain ⟨X, hX⟩ : ∃ X, X = O ++ wl := ⟨_, rfl⟩
            have HXX := Aside0.mk hX
            have hap2 : unicodetextref51_Apply.f 2000 l0 T = some X := by rw [hX]; exact hap
            have HAP := Aside0.mk hap2
            have HWL := Aside0.mk (show wl.length + 16 * a ≤ 16 * a2 ∧ a2 ≤ T.length from ⟨hlen, hend.2.2⟩)
            have hxl : X.length ≤ 16 * 240 := by rw [hX, List.length_append]; have := HWL.out; have := HO.out.2.1; have := HTL.out; omega
            have HEQ := Aside0.mk (show unicodetextref01_Equal.f 100000 X X = some true by rw [plEqual_ok _ _ _ (by omega) (by omega)]; simp)
            have HCL := Aside0.mk hcl
            have HFAR : Aside0 (u8.ownBlock = none ∨ u8.ownBlock ≠ (Value.slice A8 T.length c8).ownBlock) := ⟨by
              cases hk : u8.ownBlock with
              | none => exact .inl rfl
              | some k => exact .inr (fun e => HST.out.far k e.symm hk)⟩
            clear hsp hlt hcl hend hlen hout hap hap2 hX hxl hrun hTT tk1 tk2 hbd
            go_wp2_with (first | (go_at_call 15; (with_reducible refine HCL.out.mono ?_); rintro e w7 ⟨A7, c7, rfl, hv7, hz7, hr7, hr8, hb7⟩; have HV7 := Aside0.mk hv7; have HR7 := Aside0.mk hr7; have HR8 := Aside0.mk hr8; have HB7 := Aside0.mk hb7; clear hv7 hz7 hr7 hr8 hb7) | (at_builtin; go_loud (refine Kd.R_append_rows (Kd.int .i64) (w0 := w) w.heap.size rfl (.tmp 70) (.tmp 71) 31 3 (.int .i64 0) 8 rfl Try.underlying31 info3 rfl (by decide) (by omega) u8 O wl _ _ _ (fun _ => True) (fun _ => False) rfl rfl ?aO ?aR (fun _ _ h => h) (fun _ h => h.elim) ?aF ?aB ?aS ?aL ?_; (case aR => exact (Kd.R_reads' HV7.out).2.2); (case aB => exact HB7.out); (case aF => exact (fun _ _ => trivial)); (case aO => exact HR8.out); (case aS => exact HB7.out.size); (case aL => have h1_ := HWL.out; have h2_ := HO.out.2.1; have h3_ := HO.out.2.2; have h4_ := HTL.out; omega); intro v9 w9 ho hb hg hat; rw [← HXX.out] at ho; obtain ⟨B9, d9, rfl⟩ := Kd.R_slice ho; have HV9 := Aside0.mk ho; have HU9 := Aside0.mk (rowApart HR7.out hg HFAR.out); have HB9 := Aside0.mk hb; clear ho hb hg hat)) | (go_at_call 17; (with_reducible refine (unicodetextref51_Apply.calls 2000 A0 c0 l0 A8 c8 T X _ (Kd.C_below HR.out HB9.out) HC.out (Kd.R_reads' HU9.out).2.2 (Kd.R_reads' HU9.out).2.1 HAP.out).mono ?_); rintro e wa ⟨va, rfl, hva, hba⟩; obtain ⟨Ba, da, rfl⟩ := Kd.R_slice hva; have HVA := Aside0.mk hva; have HV9A := Aside0.mk (Kd.R_below HV9.out hba); have HBA1 := Aside0.mk (below_step HB9.out hba); clear hva hba) | (go_at_call 16; (with_reducible refine (unicodetextref01_Equal.calls 100000 B9 d9 X Ba da X true _ (Kd.R_reads' HV9A.out).2.2 (Kd.R_reads' HV9A.out).2.1 (Kd.R_reads' HVA.out).2.2 (Kd.R_reads' HVA.out).2.1 HEQ.out).mono ?_); rintro e we ⟨rfl, hde⟩; have HBE := Aside0.mk (below_step HBA1.out hde.below); clear hde) | (go_at_call 12; (with_reducible refine (awake_calls _).mono ?_); rintro e wz ⟨rfl, hb⟩; have HBA := Aside0.mk hb; clear hb))
            go_ret
            exact ⟨rfl, below_step HBE.out HBA.out⟩
      · have HD := Aside0.mk hd
        have hq : (checkS l0 = 0) = False := eq_false hd
        have hq2 : (checkS l0 == 0) = false := by simpa using hd
        have hq3 : decide (checkS l0 = 0) = false := decide_eq_false hd
        clear hd
        go_enter Try.func3, Try.ntmps3
        go_wp2_with (first | (go_at_call 10; (with_reducible refine (HSM.out _ HR.out HC.out).mono ?_); rintro e w1 ⟨rfl, hb⟩; have HB := Aside0.mk hb; clear hb) | (go_at_call 11; (with_reducible refine (HFEW.out _ (Kd.C_below HT.out HB.out) HC1.out HFQ.out).mono ?_); rintro e w2 ⟨rfl, hb⟩; have HB1 := Aside0.mk (below_step HB.out hb.below); clear hb) | (go_at_call 13; (with_reducible refine (sNew_bad A0 c0 l0 _ HF.out (Kd.C_below HR.out HB1.out) HC.out HD.out).mono ?_); rintro e w3 ⟨rfl, hb⟩; have HB3 := Aside0.mk (below_step HB1.out hb); clear hb) | (go_at_call 12; (with_reducible refine (awake_calls _).mono ?_); rintro e wz ⟨rfl, hb⟩; have HBA := Aside0.mk hb; clear hb))
        go_ret
        exact ⟨rfl, below_step HB3.out HBA.out⟩
end Go.Proofs.Ytcpicopaobhlcaa.Q
end
