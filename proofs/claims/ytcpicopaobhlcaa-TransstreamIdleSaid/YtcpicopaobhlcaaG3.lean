/- Lemmas, printed and written for this claim: part 3. -/
import Derived.Test.YtcpicopaobhlcaaG2
import Derived.IntWalk
import Derived.Deep.RegionHeld3
import Derived.Deep.RegionLaw
import Derived.Maps.AppendAt
import Derived.WalkKit
section
namespace Go.Proofs.Ytcpicopaobhlcaa.Q
open Go.RowKit Go.Proofs.YtcpicopaobhlcaaW.PrintWords Go.Proofs.YtcpicopaobhlcaaW.PrintLast Go.Proofs.YtcpicopaobhlcaaW.PrintMore
attribute [local go_sem] max2_int min2_int max_two min_two max_three min_three max_four min_four   -- for this text's walks alone
set_option linter.unusedVariables false
set_option linter.unusedSimpArgs false
attribute [local go_sem high] eqA69
def unicodetextref02_Same.l0 : Nat → Int → List (S69) → List (S69) → Option (Bool)
  | 0, _, _, _ => none
  | k + 1, x5, x148000, x149000 => if x5 < (x148000.length : Int) then (if 0 ≤ x5 then (if x5 < (x149000.length : Int) then (if (!(((rd_T69 x148000 x5).f0) == ((rd_T69 x149000 x5).f0)) || (!(((rd_T69 x148000 x5).f1) == ((rd_T69 x149000 x5).f1)))) = true then (some false) else (unicodetextref02_Same.l0 k (wrap64 (x5 + 1)) x148000 x149000)) else (none)) else (none)) else (some true)
def unicodetextref02_Same.f (k : Nat) (l0_0 : List (S69)) (l1_0 : List (S69)) : Option (Bool) := if (l0_0.length : Int) = (l1_0.length : Int) then (unicodetextref02_Same.l0 k 0 l0_0 l1_0) else (some false)
def unicodetextref02_Has.l0 : Nat → Int → Int → List (S69) → Option (Bool)
  | 0, _, _, _ => none
  | k + 1, x1, x5, x152000 => if x5 < (x152000.length : Int) then ((unicodetextref01_Valid.f x1).bind fun t152 => (if t152 = true then (if 0 ≤ x5 then (if ((rd_T69 x152000 x5).f0) ≤ x1 then (if x1 ≤ ((rd_T69 x152000 x5).f1) then (some true) else (unicodetextref02_Has.l0 k x1 (wrap64 (x5 + 1)) x152000)) else (unicodetextref02_Has.l0 k x1 (wrap64 (x5 + 1)) x152000)) else (none)) else (unicodetextref02_Has.l0 k x1 (wrap64 (x5 + 1)) x152000))) else (some false)
def unicodetextref02_Has.f (k : Nat) (l0_0 : List (S69)) (a1 : Int) : Option (Bool) := unicodetextref02_Has.l0 k a1 0 l0_0
set_option maxHeartbeats 8000000 in
set_option maxRecDepth 100000 in
theorem unicodetextref02_Has.calls (k : Nat) (A0_0 : Option Addr) (c0_0 : Nat) (l0_0 : List (S69)) (a1 : Int) (r : Bool) (w : World) (hr0_0 : Kd.C k69 w A0_0 l0_0.length l0_0) (hc0_0 : l0_0.length ≤ c0_0) (h : unicodetextref02_Has.f k l0_0 a1 = some r) :
    Calls Try.prog 18 #[.agg #[.slice A0_0 l0_0.length c0_0], .int .i64 a1] w fun e w' => e = .returned (.bool r) ∧ Below w.heap.size w w' := by
  have hu45 := Try.underlying45
  have HR0_0 := Aside0.mk hr0_0
  have HC0_0 := Aside0.mk hc0_0
  clear hr0_0 hc0_0
  have HB := Aside0.mk (Below.refl w.heap.size w)
  have H : (unicodetextref02_Has.l0 k a1 0 l0_0) = some r := h
  clear h
  have H' := Aside0.mk H
  clear H
  go_enter Try.func18, Try.ntmps18
  go_wp2_with (first | ((with_reducible refine gate_dst (N := 2) rfl ?_); refine box_event ?hg (N := 2) ?hd (cs := #[.slice A0_0 l0_0.length c0_0]) (t := 45) ?hr ?_; (case hd => rfl); (case hg => rfl); (case hr => first | (go_simp; done) | (go_simp; rfl)); intro gb151 hg w3 hbox hb; have n0_ := Aside0.mk (below_step (by repeat (first | (with_reducible first | exact HB.out | apply below_alloc | apply pw_below_drewN | apply below_drew1) | exact HB.out)) hb); have n1_ := Aside0.mk (hbox); have n2_ := Aside0.mk ((by rw [hg]; exact (below_size (by repeat (first | (with_reducible first | exact HB.out | apply below_alloc | apply pw_below_drewN | apply below_drew1) | exact HB.out))) : w.heap.size ≤ gb151)); have n3_ := Aside0.mk ((by rw [hg]; exact (below_size (by repeat (first | (with_reducible first | exact HB.out | apply below_alloc | apply pw_below_drewN | apply below_drew1) | exact HB.out))) : w.heap.size ≤ gb151)); clear HB; have HB := n0_; have BK151 := n1_; have GW151 := n2_; have GE151 := n3_; clear n0_ n1_ n2_ n3_; clear hb hbox hg))
  go_loopg [5] k (fun kq v5 w' => ∃ (x5_1 : Int), v5 = .int .i64 x5_1 ∧ Aside0 (unicodetextref02_Has.l0 kq a1 x5_1 l0_0 = some r) ∧ Aside0 (kq ≤ k) ∧ Aside0 (w'.heap[gb151]? = some (.cells #[(.slice A0_0 l0_0.length c0_0)] 45 (0, 0))) ∧ Aside0 (Below w.heap.size w w'))
  case atStart => exact ⟨(0), (by first | rfl | (simp; done) | (simp [*]; done)), H', ⟨Nat.le_refl _⟩, ⟨by (with_reducible repeat (first | refine blk_drewN ?_ _ | refine blk_drew ?_ | refine blk_alloc ?_ _)); exact BK151.out⟩, ⟨by repeat (first | (with_reducible first | exact HB.out | apply below_alloc | apply pw_below_drewN | apply below_drew1 | refine below_set ?_ GE151.out) | exact HB.out)⟩⟩
  case round =>
    clear H'
    try clear c1
    try clear p2
    obtain ⟨x5_1, rfl, HA, HK1, BK151, HB⟩ := hrel
    cases gk with
    | zero => exact absurd HA.out (by simp [unicodetextref02_Has.l0])
    | succ k1 =>
      have H := HA.out
      clear HA
      simp only [unicodetextref02_Has.l0] at H
      by_cases c4 : x5_1 < (l0_0.length : Int)
      · rw [if_pos c4] at H
        have c4b0 : decide (x5_1 < (l0_0.length : Int)) = true := decide_eq_true c4
        clear c4
        replace H := Option.bind_eq_some_iff.mp H
        obtain ⟨t152, A50, H⟩ := H
        replace H : (if t152 = true then (if 0 ≤ x5_1 then (if ((rd_T69 l0_0 x5_1).f0) ≤ a1 then (if a1 ≤ ((rd_T69 l0_0 x5_1).f1) then (some true) else (unicodetextref02_Has.l0 k1 a1 (wrap64 (x5_1 + 1)) l0_0)) else (unicodetextref02_Has.l0 k1 a1 (wrap64 (x5_1 + 1)) l0_0)) else (none)) else (unicodetextref02_Has.l0 k1 a1 (wrap64 (x5_1 + 1)) l0_0)) = some r := H
        have A5 := Aside0.mk A50
        clear A50
        by_cases c6 : t152 = true
        · subst c6
          have H1 : (if 0 ≤ x5_1 then (if ((rd_T69 l0_0 x5_1).f0) ≤ a1 then (if a1 ≤ ((rd_T69 l0_0 x5_1).f1) then (some true) else (unicodetextref02_Has.l0 k1 a1 (wrap64 (x5_1 + 1)) l0_0)) else (unicodetextref02_Has.l0 k1 a1 (wrap64 (x5_1 + 1)) l0_0)) else (none)) = some r := by rw [if_pos rfl] at H; exact H
          clear H
          have H := H1
          clear H1
          by_cases c7 : 0 ≤ x5_1
          · rw [if_pos c7] at H
            have c7b0 : decide (0 ≤ x5_1) = true := decide_eq_true c7
            clear c7
            by_cases c8 : ((rd_T69 l0_0 x5_1).f0) ≤ a1
            · rw [if_pos c8] at H
              have c8b0 : decide (((rd_T69 l0_0 x5_1).f0) ≤ a1) = true := decide_eq_true c8
              clear c8
              by_cases c9 : a1 ≤ ((rd_T69 l0_0 x5_1).f1)
              · rw [if_pos c9] at H
                have c9b0 : decide (a1 ≤ ((rd_T69 l0_0 x5_1).f1)) = true := decide_eq_true c9
                clear c9
                obtain rfl := Option.some.inj H
                have hcz10_0 : wr.cell? ⟨gb151, 0, none⟩ = some (.slice A0_0 l0_0.length c0_0) := (blk_cell BK151.out 0).trans rfl
                have hfz10_0 := blk_frozen BK151.out 0
                go_wp2_with (first | ((with_reducible refine gate_callee (f := 37) rfl ?_); refine goesL_ (some 14) rfl rfl Try.func37 (by kernel_rfl) rfl #[.int .i64 a1] rfl (by (try simp only [List.map_toArray, List.map_cons, List.map_nil]); first | done | rfl | (simp only [List.length_drop, List.length_take]; rfl)) ?_; (with_reducible refine (unicodetextref01_Valid.calls a1 true _ A5.out).mono ?_); rintro e w' ⟨rfl, ⟨nd, rfl⟩⟩; refine ⟨_, rfl, ?_⟩; have p153 : 0 ≤ (x5_1 : Int) := of_decide_eq_true (by first | (with_reducible assumption) | assumption); have q153 : x5_1 < (l0_0.length : Int) := of_decide_eq_true (by first | (with_reducible assumption) | assumption); obtain ⟨ad153, e153, hx153_0, hx153_1⟩ := at_T69 HR0_0.out x5_1 p153 q153; cases e153; replace hx153_0 := (HB.out.cell (World.block_lt_of_cell? w _ hx153_0)).trans hx153_0; replace hx153_1 := (HB.out.cell (World.block_lt_of_cell? w _ hx153_1)).trans hx153_1; replace p153 := eq_true p153; replace q153 := eq_true q153; have p154 : 0 ≤ (x5_1 : Int) := of_decide_eq_true (by first | (with_reducible assumption) | assumption); have q154 : x5_1 < (l0_0.length : Int) := of_decide_eq_true (by first | (with_reducible assumption) | assumption); obtain ⟨ad154, e154, hx154_0, hx154_1⟩ := at_T69 HR0_0.out x5_1 p154 q154; obtain rfl : ad153 = ad154 := (by injection e154); replace hx154_0 := (HB.out.cell (World.block_lt_of_cell? w _ hx154_0)).trans hx154_0; replace hx154_1 := (HB.out.cell (World.block_lt_of_cell? w _ hx154_1)).trans hx154_1; replace p154 := eq_true p154; replace q154 := eq_true q154))
                go_ret
                exact ⟨by first | rfl | (simp [errW_none, errW_some] <;> rfl) | (simp [*, errW_none, errW_some] <;> rfl), by repeat (first | (with_reducible first | exact HB.out | apply below_alloc | apply pw_below_drewN | apply below_drew1 | refine below_set ?_ GE151.out) | exact HB.out)⟩
              · rw [if_neg c9] at H
                have c9b0 : decide (a1 ≤ ((rd_T69 l0_0 x5_1).f1)) = false := decide_eq_false c9
                clear c9
                have H' := Aside0.mk H
                clear H
                have hcz11_0 : wr.cell? ⟨gb151, 0, none⟩ = some (.slice A0_0 l0_0.length c0_0) := (blk_cell BK151.out 0).trans rfl
                have hfz11_0 := blk_frozen BK151.out 0
                go_wp2_with (first | ((with_reducible refine gate_callee (f := 37) rfl ?_); refine goesL_ (some 14) rfl rfl Try.func37 (by kernel_rfl) rfl #[.int .i64 a1] rfl (by (try simp only [List.map_toArray, List.map_cons, List.map_nil]); first | done | rfl | (simp only [List.length_drop, List.length_take]; rfl)) ?_; (with_reducible refine (unicodetextref01_Valid.calls a1 true _ A5.out).mono ?_); rintro e w' ⟨rfl, ⟨nd, rfl⟩⟩; refine ⟨_, rfl, ?_⟩; have p153 : 0 ≤ (x5_1 : Int) := of_decide_eq_true (by first | (with_reducible assumption) | assumption); have q153 : x5_1 < (l0_0.length : Int) := of_decide_eq_true (by first | (with_reducible assumption) | assumption); obtain ⟨ad153, e153, hx153_0, hx153_1⟩ := at_T69 HR0_0.out x5_1 p153 q153; cases e153; replace hx153_0 := (HB.out.cell (World.block_lt_of_cell? w _ hx153_0)).trans hx153_0; replace hx153_1 := (HB.out.cell (World.block_lt_of_cell? w _ hx153_1)).trans hx153_1; replace p153 := eq_true p153; replace q153 := eq_true q153; have p154 : 0 ≤ (x5_1 : Int) := of_decide_eq_true (by first | (with_reducible assumption) | assumption); have q154 : x5_1 < (l0_0.length : Int) := of_decide_eq_true (by first | (with_reducible assumption) | assumption); obtain ⟨ad154, e154, hx154_0, hx154_1⟩ := at_T69 HR0_0.out x5_1 p154 q154; obtain rfl : ad153 = ad154 := (by injection e154); replace hx154_0 := (HB.out.cell (World.block_lt_of_cell? w _ hx154_0)).trans hx154_0; replace hx154_1 := (HB.out.cell (World.block_lt_of_cell? w _ hx154_1)).trans hx154_1; replace p154 := eq_true p154; replace q154 := eq_true q154))
                go_roundg k1
                case measure => have := HK1.out; omega
                case rel => exact ⟨(wrap64 (x5_1 + 1)), (by first | rfl | (simp; done) | (simp [*]; done)), H', ⟨by have := HK1.out; omega⟩, ⟨by (with_reducible repeat (first | refine blk_drewN ?_ _ | refine blk_drew ?_ | refine blk_alloc ?_ _)); exact BK151.out⟩, ⟨by repeat (first | (with_reducible first | exact HB.out | apply below_alloc | apply pw_below_drewN | apply below_drew1 | refine below_set ?_ GE151.out) | exact HB.out)⟩⟩
            · rw [if_neg c8] at H
              have c8b0 : decide (((rd_T69 l0_0 x5_1).f0) ≤ a1) = false := decide_eq_false c8
              clear c8
              have H' := Aside0.mk H
              clear H
              have hcz12_0 : wr.cell? ⟨gb151, 0, none⟩ = some (.slice A0_0 l0_0.length c0_0) := (blk_cell BK151.out 0).trans rfl
              have hfz12_0 := blk_frozen BK151.out 0
              go_wp2_with (first | ((with_reducible refine gate_callee (f := 37) rfl ?_); refine goesL_ (some 14) rfl rfl Try.func37 (by kernel_rfl) rfl #[.int .i64 a1] rfl (by (try simp only [List.map_toArray, List.map_cons, List.map_nil]); first | done | rfl | (simp only [List.length_drop, List.length_take]; rfl)) ?_; (with_reducible refine (unicodetextref01_Valid.calls a1 true _ A5.out).mono ?_); rintro e w' ⟨rfl, ⟨nd, rfl⟩⟩; refine ⟨_, rfl, ?_⟩; have p153 : 0 ≤ (x5_1 : Int) := of_decide_eq_true (by first | (with_reducible assumption) | assumption); have q153 : x5_1 < (l0_0.length : Int) := of_decide_eq_true (by first | (with_reducible assumption) | assumption); obtain ⟨ad153, e153, hx153_0, hx153_1⟩ := at_T69 HR0_0.out x5_1 p153 q153; cases e153; replace hx153_0 := (HB.out.cell (World.block_lt_of_cell? w _ hx153_0)).trans hx153_0; replace hx153_1 := (HB.out.cell (World.block_lt_of_cell? w _ hx153_1)).trans hx153_1; replace p153 := eq_true p153; replace q153 := eq_true q153))
              go_roundg k1
              case measure => have := HK1.out; omega
              case rel => exact ⟨(wrap64 (x5_1 + 1)), (by first | rfl | (simp; done) | (simp [*]; done)), H', ⟨by have := HK1.out; omega⟩, ⟨by (with_reducible repeat (first | refine blk_drewN ?_ _ | refine blk_drew ?_ | refine blk_alloc ?_ _)); exact BK151.out⟩, ⟨by repeat (first | (with_reducible first | exact HB.out | apply below_alloc | apply pw_below_drewN | apply below_drew1 | refine below_set ?_ GE151.out) | exact HB.out)⟩⟩
          · rw [if_neg c7] at H
            exact absurd H (by simp)
        · replace c6 := Bool.eq_false_iff.mpr c6
          subst c6
          have H1 : (unicodetextref02_Has.l0 k1 a1 (wrap64 (x5_1 + 1)) l0_0) = some r := by rw [if_neg (show ¬ (false = true) by decide)] at H; exact H
          clear H
          have H := H1
          clear H1
          have H' := Aside0.mk H
          clear H
          have hcz13_0 : wr.cell? ⟨gb151, 0, none⟩ = some (.slice A0_0 l0_0.length c0_0) := (blk_cell BK151.out 0).trans rfl
          have hfz13_0 := blk_frozen BK151.out 0
          go_wp2_with (first | ((with_reducible refine gate_callee (f := 37) rfl ?_); refine goesL_ (some 14) rfl rfl Try.func37 (by kernel_rfl) rfl #[.int .i64 a1] rfl (by (try simp only [List.map_toArray, List.map_cons, List.map_nil]); first | done | rfl | (simp only [List.length_drop, List.length_take]; rfl)) ?_; (with_reducible refine (unicodetextref01_Valid.calls a1 false _ A5.out).mono ?_); rintro e w' ⟨rfl, ⟨nd, rfl⟩⟩; refine ⟨_, rfl, ?_⟩))
          go_roundg k1
          case measure => have := HK1.out; omega
          case rel => exact ⟨(wrap64 (x5_1 + 1)), (by first | rfl | (simp; done) | (simp [*]; done)), H', ⟨by have := HK1.out; omega⟩, ⟨by (with_reducible repeat (first | refine blk_drewN ?_ _ | refine blk_drew ?_ | refine blk_alloc ?_ _)); exact BK151.out⟩, ⟨by repeat (first | (with_reducible first | exact HB.out | apply below_alloc | apply pw_below_drewN | apply below_drew1 | refine below_set ?_ GE151.out) | exact HB.out)⟩⟩
      · rw [if_neg c4] at H
        have c4b0 : decide (x5_1 < (l0_0.length : Int)) = false := decide_eq_false c4
        clear c4
        obtain rfl := Option.some.inj H
        have hcz14_0 : wr.cell? ⟨gb151, 0, none⟩ = some (.slice A0_0 l0_0.length c0_0) := (blk_cell BK151.out 0).trans rfl
        have hfz14_0 := blk_frozen BK151.out 0
        go_wp2
        go_ret
        exact ⟨by first | rfl | (simp [errW_none, errW_some] <;> rfl) | (simp [*, errW_none, errW_some] <;> rfl), by repeat (first | (with_reducible first | exact HB.out | apply below_alloc | apply pw_below_drewN | apply below_drew1 | refine below_set ?_ GE151.out) | exact HB.out)⟩
end Go.Proofs.Ytcpicopaobhlcaa.Q
end
section
namespace Go.Proofs.Ytcpicopaobhlcaa.Q
open Go.RowKit Go.Proofs.YtcpicopaobhlcaaW.PrintWords Go.Proofs.YtcpicopaobhlcaaW.PrintLast Go.Proofs.YtcpicopaobhlcaaW.PrintMore
attribute [local go_sem] max2_int min2_int max_two min_two max_three min_three max_four min_four   -- for this text's walks alone
set_option linter.unusedVariables false
set_option linter.unusedSimpArgs false
mutual
def unicodetextref02_place.l0 : Nat → List Int → Int → List Int → Bool → Int → Option (List Int)
  | 0, _, _, _, _, _ => none
  | k + 1, x0, x1, x5, x6, x7 => if x7 < (x0.length : Int) then (if x6 = true then (unicodetextref02_place.j1 k x0 x1 x5 x6 x7 false) else (if 0 ≤ x7 then (unicodetextref02_place.j1 k x0 x1 x5 x6 x7 (decide ((rd x0 x7) ≥ x1))) else (none))) else (if x6 = true then (some x5) else (if x5.length < 17592186044416 then (some (x5 ++ [x1])) else (none)))
def unicodetextref02_place.j1 : Nat → List Int → Int → List Int → Bool → Int → Bool → Option (List Int)
  | 0, _, _, _, _, _, _ => none
  | k + 1, x0, x1, x5, x6, x7, x23 => if x23 = true then (if 0 ≤ x7 then (if x7 < (x0.length : Int) then (if (rd x0 x7) > x1 then (if x5.length < 17592186044416 then ((some (x5 ++ [x1] : List Int)).bind fun y160 => (if y160.length < 17592186044416 then (unicodetextref02_place.l0 k x0 x1 (y160 ++ [rd x0 x7]) true (wrap64 (x7 + 1))) else (none))) else (none)) else (if x5.length < 17592186044416 then (unicodetextref02_place.l0 k x0 x1 (x5 ++ [rd x0 x7]) true (wrap64 (x7 + 1))) else (none))) else (none)) else (none)) else (if 0 ≤ x7 then (if x7 < (x0.length : Int) then (if x5.length < 17592186044416 then (unicodetextref02_place.l0 k x0 x1 (x5 ++ [rd x0 x7]) x6 (wrap64 (x7 + 1))) else (none)) else (none)) else (none))
end
def unicodetextref02_place.f (k : Nat) (l0 : List Int) (a1 : Int) : Option (List Int) := unicodetextref02_place.l0 k l0 a1 ([] : List Int) false 0
def unicodetextref02_keeps.f (a0 : Int) (a1 : Bool) (a2 : Bool) : Option (Bool) := if a0 = 1 then (if a1 = true then (some true) else (some a2)) else (if a0 = 2 then (if a1 = true then (some a2) else (some false)) else (if a1 = true then (some (!a2)) else (some false)))
end Go.Proofs.Ytcpicopaobhlcaa.Q
end
section
namespace Go.Proofs.Ytcpicopaobhlcaa.Q
open Go.RowKit Go.Proofs.YtcpicopaobhlcaaW.PrintWords Go.Proofs.YtcpicopaobhlcaaW.PrintLast Go.Proofs.YtcpicopaobhlcaaW.PrintMore
attribute [local go_sem] max2_int min2_int max_two min_two
set_option linter.unusedVariables false
def clampR (x : Rg) : Rg := ⟨if x.f0 < 0 then 0 else x.f0, if 1114111 < x.f1 then 1114111 else x.f1⟩
def takeIn (l : List Rg) : List Rg := (l.map clampR).filter fun r => decide (r.f0 ≤ r.f1)
theorem takeIn_toP (l : List Rg) : (takeIn l).map toP = CpM.clamp (l.map toP) := by
  unfold takeIn CpM.clamp
  induction l with
  | nil => rfl
  | cons x l ih =>
    have e : CpM.clamp1 (toP x) = toP (clampR x) := rfl
    rw [List.map_cons, List.map_cons, List.map_cons, e, List.filter_cons, List.filter_cons]
    by_cases h : (clampR x).f0 ≤ (clampR x).f1
    · rw [if_pos (decide_eq_true h), if_pos (show decide ((toP (clampR x)).1 ≤ (toP (clampR x)).2) = true from decide_eq_true h), List.map_cons, ih]
    · rw [if_neg (fun e => h (of_decide_eq_true e)), if_neg (show ¬ decide ((toP (clampR x)).1 ≤ (toP (clampR x)).2) = true from fun e => h (of_decide_eq_true e)), ih]
theorem takeIn_snoc (l : List Rg) (x : Rg) : takeIn (l ++ [x]) = if (clampR x).f0 ≤ (clampR x).f1 then takeIn l ++ [clampR x] else takeIn l := by
  unfold takeIn
  rw [List.map_append, List.filter_append]
  by_cases h : (clampR x).f0 ≤ (clampR x).f1 <;> simp [h]
theorem takeIn_length (l : List Rg) : (takeIn l).length ≤ l.length := by
  unfold takeIn; exact Nat.le_trans (List.length_filter_le _ _) (by simp)
def mergeR (l : List Rg) : List Rg := ((l.map toP).foldl CpM.mergeStep []).map ofP
theorem mergeR_toP (l : List Rg) : (mergeR l).map toP = (l.map toP).foldl CpM.mergeStep [] := toP_ofP _
theorem fold_snoc (l : List Rg) (x : Rg) : ((l ++ [x]).map toP).foldl CpM.mergeStep [] = CpM.mergeStep ((l.map toP).foldl CpM.mergeStep []) (toP x) := by
  rw [List.map_append, List.foldl_append]; rfl
theorem mergeR_snoc_nil {l : List Rg} (x : Rg) (h : mergeR l = []) : mergeR (l ++ [x]) = [x] := by
  unfold mergeR at h ⊢
  rw [fold_snoc]
  have : (l.map toP).foldl CpM.mergeStep [] = [] := by simpa using h
  rw [this]
  rfl
theorem mergeR_snoc {l m : List Rg} {q : Rg} (x : Rg) (h : mergeR l = m ++ [q]) :
    mergeR (l ++ [x]) = if x.f0 ≤ q.f1 + 1 then m ++ [⟨q.f0, if q.f1 < x.f1 then x.f1 else q.f1⟩] else m ++ [q] ++ [x] := by
  have h2 : (l.map toP).foldl CpM.mergeStep [] = m.map toP ++ [toP q] := by rw [← mergeR_toP, h, List.map_append]; rfl
  unfold mergeR
  rw [fold_snoc, h2]
  unfold CpM.mergeStep
  rw [List.getLast?_append]
  simp only [List.getLast?_singleton, Option.some_or, List.dropLast_concat]
  show List.map ofP (if x.f0 ≤ q.f1 + 1 then List.map toP m ++ [((toP q).1, if (toP q).2 < (toP x).2 then (toP x).2 else (toP q).2)] else List.map toP m ++ [toP q] ++ [toP x]) = _
  split
  · rw [List.map_append, ofP_toP]; rfl
  · rw [List.map_append, List.map_append, ofP_toP]; rfl
theorem canon_all : ∀ (l : List (Int × Int)) (b : Int), CpM.CanonFrom b l → ∀ r ∈ l, b ≤ r.1 ∧ r.1 ≤ r.2 ∧ r.2 ≤ 1114111
  | [], _, _, r, h => by cases h
  | x :: l, b, ⟨h1, h2, h3, h4⟩, r, h => by
    rcases List.mem_cons.1 h with rfl | h
    · exact ⟨h1, h2, h3⟩
    · have := canon_all l _ h4 r h; omega
theorem mergeR_last {l m : List Rg} {q : Rg} (h : mergeR l = m ++ [q]) (hs : l.Pairwise (fun a b => a.f0 ≤ b.f0)) (ho : ∀ r ∈ l, CpM.Ok (toP r)) : 0 ≤ q.f0 ∧ q.f0 ≤ q.f1 ∧ q.f1 ≤ 1114111 := by
  have h2 : (l.map toP).foldl CpM.mergeStep [] = m.map toP ++ [toP q] := by rw [← mergeR_toP, h, List.map_append]; rfl
  have := (CpM.fold_ok (l.map toP) (fun r hr => by obtain ⟨y, hy, rfl⟩ := List.mem_map.1 hr; exact ho y hy) (List.pairwise_map.2 hs)).1
  rw [h2] at this
  exact canon_all _ _ this (toP q) (by simp)
theorem fold_length : ∀ (s acc : List (Int × Int)), (s.foldl CpM.mergeStep acc).length ≤ acc.length + s.length := by
  intro s
  induction s with
  | nil => intro acc; simp
  | cons r s ih =>
    intro acc
    rw [List.foldl_cons]
    refine Nat.le_trans (ih _) ?_
    have : (CpM.mergeStep acc r).length ≤ acc.length + 1 := by
      unfold CpM.mergeStep
      split
      · simp
      · split
        · simp
        · simp
    simp only [List.length_cons]; omega
theorem mergeR_length (l : List Rg) : (mergeR l).length ≤ l.length := by
  have := fold_length (l.map toP) []
  simpa [mergeR] using this
theorem make_length (l : List (Int × Int)) : (CpM.make l).length ≤ l.length := by
  unfold CpM.make
  refine Nat.le_trans (fold_length _ []) ?_
  rw [(CpM.sorted_perm _).length_eq]
  unfold CpM.clamp
  have := List.length_filter_le (fun r : Int × Int => decide (r.1 ≤ r.2)) (l.map CpM.clamp1)
  rw [List.length_map] at this
  simpa using this
theorem flatR_set1 : ∀ (m : List Rg) (i : Nat) (q : Rg) (y : Int), m[i]? = some q → (flatR m).set (i * 2 + 1) (.int .i64 y) = flatR (m.set i ⟨q.f0, y⟩)
  | x :: m, 0, q, y, h => by simp at h; subst h; rfl
  | x :: m, i + 1, q, y, h => by
    have := flatR_set1 m i q y (by simpa using h)
    rw [show (i + 1) * 2 + 1 = (i * 2 + 1) + 1 + 1 by omega]
    simp only [flatR, List.set_cons_succ, this]
theorem R_set_hi {W : World} {base g n cap : Nat} {ok : Nat → Prop} {m : List Rg} {i : Nat} {q : Rg} {y : Int} (h : Kd.R kRg 69 W base ok (.slice (some ⟨g, 0, none⟩) n cap) m) (hq : m[i]? = some q) :
    Kd.R kRg 69 (W.setCell ⟨g, i * 2 + 1, none⟩ (.int .i64 y)) base ok (.slice (some ⟨g, 0, none⟩) n cap) (m.set i ⟨q.f0, y⟩) := by
  obtain ⟨hok, hlen, ⟨hv, _⟩ | ⟨g', cap', cur, hv, hb, hh, hle, hmax, hsz, htk⟩⟩ := R_own_iff.1 h
  · cases hv
  · cases hv
    refine R_own_iff.2 ⟨hok, by rw [flatR_length], .inr ⟨g, cap, cur.setIfInBounds (i * 2 + 1) (.int .i64 y), by rw [List.length_set], hb, blk_set hh _ _, by rw [List.length_set]; exact hle, hmax, by rw [Array.size_setIfInBounds]; exact hsz, ?_⟩⟩
    rw [List.length_set, Array.toList_setIfInBounds, List.take_set, htk, flatR_set1 m i q y hq]
theorem R_cells {W : World} {base g n cap : Nat} {ok : Nat → Prop} {m : List Rg} {i : Nat} {q : Rg} (h : Kd.R kRg 69 W base ok (.slice (some ⟨g, 0, none⟩) n cap) m) (hq : m[i]? = some q) :
    W.cell? ⟨g, i * 2, none⟩ = some (.int .i64 q.f0) ∧ W.cell? ⟨g, i * 2 + 1, none⟩ = some (.int .i64 q.f1) ∧ W.frozen? ⟨g, i * 2 + 1, none⟩ = false := by
  obtain ⟨hok, hlen, ⟨hv, _⟩ | ⟨g', cap', cur, hv, hb, hh, hle, hmax, hsz, htk⟩⟩ := R_own_iff.1 h
  · cases hv
  · cases hv
    have hi : i < m.length := (List.getElem?_eq_some_iff.1 hq).1
    have e := flatR_reps m i q hq
    have k0 : (flatR m)[i * 2]? = some (.int .i64 q.f0) := by
      have := congrArg (fun l => l[0]?) e
      simpa [List.getElem?_take, List.getElem?_drop, encR] using this
    have k1 : (flatR m)[i * 2 + 1]? = some (.int .i64 q.f1) := by
      have := congrArg (fun l => l[1]?) e
      simpa [List.getElem?_take, List.getElem?_drop, encR] using this
    rw [← htk, List.getElem?_take, if_pos (by omega), Array.getElem?_toList] at k0 k1
    refine ⟨?_, ?_, ?_⟩
    · simp only [World.cell?, hh]; simpa using k0
    · simp only [World.cell?, hh]; simpa using k1
    · simp [World.frozen?, hh]
def cpset_Make.f (l0 : List Rg) : Option (List Rg) := if l0.length < 1000000000 then some ((CpM.make (l0.map toP)).map ofP) else none
theorem rd_take {l : List Rg} {k : Nat} (h : k < l.length) : l.take (k + 1) = l.take k ++ [rd_T69 l k] := by
  rw [List.take_succ_eq_append_getElem h]
  congr 2
  simp [rd_T69, List.getD_eq_getElem?_getD, h]
set_option maxHeartbeats 4000000 in
set_option maxRecDepth 100000 in
theorem cpset_Make.calls (A0 : Option Addr) (c0 : Nat) (l0 : List Rg) (r : List Rg) (w : World) (hr0 : Kd.C kRg w A0 l0.length l0) (hc0 : l0.length ≤ c0) (h : cpset_Make.f l0 = some r) :
    Calls Try.prog 59 #[.slice A0 l0.length c0] w fun e w' => ∃ v0_ : Value, e = .returned (.agg #[v0_]) ∧ Kd.R kRg 69 w' w.heap.size (fun _ => True) v0_ r ∧ Below w.heap.size w w' := by
  have hn : l0.length < 1000000000 ∧ (CpM.make (l0.map toP)).map ofP = r := by
    unfold cpset_Make.f at h
    by_cases hl : l0.length < 1000000000
    · rw [if_pos hl] at h; exact ⟨hl, Option.some.inj h⟩
    · rw [if_neg hl] at h; cases h
  have HN := Aside0.mk hn
  clear hn h
  have HR := Aside0.mk hr0
  clear hr0 hc0
  have hu1 := Try.underlying69
  have hu2 := Try.underlying45
  have HB := Aside0.mk (Below.refl w.heap.size w)
  go_enter Try.func59, Try.ntmps59
  go_wp2
  go_loopw [3, 12] (fun v i wr => ∃ (k : Nat), i = .int .i64 k ∧ Aside0 (k ≤ l0.length) ∧ Aside0 (Kd.R kRg 69 wr w.heap.size (fun _ => True) v (takeIn (l0.take k))) ∧ Aside0 (wr.heap[w.heap.size]? = some (.cells #[.slice none 0 0] 45 (0, 0))) ∧ Aside0 (Below w.heap.size w wr)) (fun _ i _ => l0.length - (intOf i).toNat)
  case atStart => exact ⟨0, rfl, ⟨Nat.zero_le _⟩, ⟨Kd.R_nil _ _ _ _ _⟩, ⟨heap_alloc_new w _⟩, ⟨below_alloc HB.out _⟩⟩
  case round =>
    obtain ⟨k, rfl, HK, HO, BK, HB⟩ := hrel
    by_cases hlt : k < l0.length
    · obtain ⟨ad, e, hx0, hx1⟩ := at_T69 HR.out (k : Int) (by omega) (by omega)
      cases e
      rw [Int.toNat_natCast] at hx0 hx1
      have hc0 := (HB.out.cell (World.block_lt_of_cell? w _ hx0)).trans hx0
      have hc1 := (HB.out.cell (World.block_lt_of_cell? w _ hx1)).trans hx1
      clear hx0 hx1
      have hst := Aside0.mk (rd_take hlt)
      generalize rd_T69 l0 (k : Int) = x at hc0 hc1 hst
      obtain ⟨a, ha⟩ : ∃ a : Int, (if x.f0 < 0 then 0 else x.f0) = a := ⟨_, rfl⟩
      obtain ⟨b, hb⟩ : ∃ b : Int, (if 1114111 < x.f1 then 1114111 else x.f1) = b := ⟨_, rfl⟩
      have hcl := Aside0.mk (show clampR x = ⟨a, b⟩ by unfold clampR; rw [ha, hb])
      have hp : (0 ≤ (k : Int)) = True := eq_true (by omega)
      have hw : wrap64 ((k : Int) + 1) = (k : Int) + 1 := by have := HN.out.1; unfold wrap64; omega
      have hnx : takeIn (l0.take (k + 1)) = if a ≤ b then takeIn (l0.take k) ++ [⟨a, b⟩] else takeIn (l0.take k) := by rw [hst.out, takeIn_snoc, hcl.out]
      have hlen : Aside0 ((takeIn (l0.take k)).length ≤ l0.length) := ⟨Nat.le_trans (takeIn_length _) (List.length_take_le' _ _)⟩
      by_cases hab : a ≤ b
      · rw [if_pos hab] at hnx
        have HX := Aside0.mk hnx
        clear hnx
        go_wp2_with (at_builtin; refine Kd.R_append kRg (w0 := w) w.heap.size rfl (.tmp 29) (.tmp 31) 43 69 (.agg #[.int .i64 0, .int .i64 0]) 16 rfl Try.underlying43 info69 rfl (by decide) (by omega) u3 (takeIn (l0.take k)) ⟨a, b⟩ [.int .i64 a, .int .i64 b] (fun _ => True) (fun _ => False) rfl (by first | (go_simp; done) | (go_simp; rfl)) (k69_mkM _ _ _ ⟨a, b⟩) (fun _ h => h.elim) (fun _ _ => trivial) ?aO ?aB ?aS ?aL ?_; (case aO => exact Kd.R_alloc HO.out _); (case aB => exact below_alloc HB.out _); (case aS => have := HB.out.size; simp; omega); (case aL => have := HN.out.1; have := hlen.out; omega); intro v1 w1 ho hb hg hat; have HO1 := Aside0.mk ho; have HB1 := Aside0.mk hb; have BK1 := Aside0.mk (blk_grown (blk_alloc BK.out _) hg (Kd.R_ne HO.out BK.out (by decide))); clear ho hb hg hat)
        go_roundw
        case rel => exact ⟨k + 1, by rw [hw]; rfl, ⟨hlt⟩, ⟨by rw [HX.out]; exact HO1.out⟩, BK1, HB1⟩
        case measure => clear ha hb hp; rw [hw]; simp only [intOf]; omega
      · rw [if_neg hab] at hnx
        have HX := Aside0.mk hnx
        clear hnx
        go_wp2
        go_roundw
        case rel => exact ⟨k + 1, by rw [hw]; rfl, ⟨hlt⟩, ⟨by rw [HX.out]; exact Kd.R_alloc HO.out _⟩, ⟨blk_alloc BK.out _⟩, ⟨below_alloc HB.out _⟩⟩
        case measure => clear ha hb hp; rw [hw]; simp only [intOf]; omega
    · obtain rfl : k = l0.length := by have := HK.out; omega
      rw [List.take_length] at HO
      clear HK
      have hlen := takeIn_length l0
      have HS := Aside0.mk (sort_ranges w.heap.size (fun _ => True) u3 (takeIn l0) wr HO.out (by have := HN.out.1; omega))
      have HLen := Aside0.mk hlen
      clear hlen
      have hne := Aside0.mk (Kd.R_ne HO.out BK.out (by decide))
      have hbase := Aside0.mk (fun k hk => Kd.R_base HO.out k hk)
      go_wp2_with (go_at_call 63; refine HS.out.mono ?_; rintro e w1 ⟨rfl, ys, hperm, hpair, ho, hos, hta, hou, hsz, hkeep⟩; have HP := Aside0.mk hperm; have HPP := Aside0.mk hpair; have HB1 := Aside0.mk (HB.out.trans (⟨hos, hta, hou, hsz, fun i hi => hkeep i (Nat.lt_of_lt_of_le hi HB.out.size) (fun e_ => absurd (hbase.out i e_) (Nat.not_le.2 hi))⟩ : Below w.heap.size wr w1)); have BK1 := Aside0.mk ((hkeep _ (blk_lt BK.out) (fun e_ => hne.out e_.symm)).trans BK.out); obtain ⟨Av, cv, ev⟩ := Kd.R_slice ho; subst ev; have HC1 := Aside0.mk (Kd.R_reads' ho).2.2; clear hperm hpair ho hos hta hou hsz hkeep)
      clear HS hne hbase BK HO HB
      go_loopw [6, 38] (fun v i wr => ∃ (k : Nat), i = .int .i64 k ∧ Aside0 (k ≤ ys.length) ∧ Aside0 (Kd.R kRg 69 wr w1.heap.size (fun _ => True) v (mergeR (ys.take k))) ∧ Aside0 (Below w1.heap.size w1 wr)) (fun _ i _ => ys.length - (intOf i).toNat)
      case atStart => exact ⟨0, rfl, ⟨Nat.zero_le _⟩, ⟨Kd.R_nil _ _ _ _ _⟩, ⟨Below.refl _ _⟩⟩
      case round =>
        obtain ⟨k, rfl, HK, HO, HB⟩ := hrel
        by_cases hlt : k < ys.length
        · obtain ⟨ad, e, hx0, hx1⟩ := at_T69 HC1.out (k : Int) (by omega) (by omega)
          cases e
          rw [Int.toNat_natCast] at hx0 hx1
          have hc0 := (HB.out.cell (World.block_lt_of_cell? w1 _ hx0)).trans hx0
          have hc1 := (HB.out.cell (World.block_lt_of_cell? w1 _ hx1)).trans hx1
          clear hx0 hx1
          have hst := Aside0.mk (rd_take hlt)
          generalize rd_T69 ys (k : Int) = x at hc0 hc1 hst
          have hp : (0 ≤ (k : Int)) = True := eq_true (by omega)
          have hw : wrap64 ((k : Int) + 1) = (k : Int) + 1 := by have := HN.out.1; have := HP.out.length_eq; have := HLen.out; unfold wrap64; omega
          have hml := Aside0.mk (mergeR_length (ys.take k))
          have hml2 := Aside0.mk (Nat.le_trans (mergeR_length (ys.take k)) (Nat.le_trans (List.length_take_le' _ _) (Nat.le_trans (Nat.le_of_eq HP.out.length_eq) HLen.out)))
          rcases List.eq_nil_or_concat (mergeR (ys.take k)) with hm | ⟨m, q, hm⟩
          · have HX := Aside0.mk ((congrArg mergeR hst.out).trans (mergeR_snoc_nil x hm))
            rw [hm] at HO hml hml2
            clear hm
            obtain ⟨Ao, co, eo⟩ := Kd.R_slice HO.out
            subst eo
            go_wp2
            go_quiet (fail)
            go_wp2_with (at_builtin; refine Kd.R_append kRg (w0 := w1) w1.heap.size rfl (.tmp 72) (.tmp 74) 43 69 (.agg #[.int .i64 0, .int .i64 0]) 16 rfl Try.underlying43 info69 rfl (by decide) (by omega) _ ([] : List Rg) x [.int .i64 x.f0, .int .i64 x.f1] (fun _ => True) (fun _ => False) rfl (by first | (go_simp; done) | (go_simp; rfl)) (k69_mkM _ _ _ x) (fun _ h => h.elim) (fun _ _ => trivial) ?aO ?aB ?aS ?aL ?_; (case aO => (with_reducible repeat (first | apply Kd.R_alloc | apply Kd.R_drewN | apply Kd.R_drew)); exact HO.out); (case aB => repeat (first | (with_reducible first | exact HB.out | apply below_alloc | apply pw_below_drewN | apply below_drew1) | exact HB.out)); (case aS => have := HB.out.size; simp; omega); (case aL => first | decide | (have h1_ := HN.out.1; have h2_ := hml2.out; omega)); intro v1 w2 ho hb hg hat; have HO1 := Aside0.mk ho; have HB2 := Aside0.mk hb; clear ho hb hg hat)
            go_roundw
            case rel => exact ⟨k + 1, by rw [hw]; rfl, ⟨hlt⟩, ⟨by rw [HX.out]; exact HO1.out⟩, HB2⟩
            case measure => rw [hw]; simp only [intOf]; omega
          · rw [List.concat_eq_append] at hm
            have hmi : (m ++ [q])[m.length]? = some q := by simp
            have hs1 : (ys.take k).Pairwise (fun a b => a.f0 ≤ b.f0) := List.Pairwise.sublist (List.take_sublist _ _) HPP.out
            have hq := mergeR_last hm hs1 (fun r hr => by
              have h1 : r ∈ takeIn l0 := HP.out.mem_iff.1 (List.mem_of_mem_take hr)
              have h2 : toP r ∈ (takeIn l0).map toP := List.mem_map.2 ⟨r, h1, rfl⟩
              rw [takeIn_toP] at h2
              exact CpM.clamp_ok _ _ h2)
            have hX := (congrArg mergeR hst.out).trans (mergeR_snoc x hm)
            rw [hm] at HO hml hml2
            clear hm hs1
            obtain ⟨_, _, ⟨_, hz⟩ | ⟨g, co, cur, hv, hbg, _⟩⟩ := R_own_iff.1 HO.out
            · simp at hz
            subst hv
            have hcs := R_cells HO.out hmi
            obtain ⟨hq0, hq1, hqf⟩ := hcs
            have HG := Aside0.mk hbg
            have HMI := Aside0.mk hmi
            have hlen3 : (m ++ [q]).length = m.length + 1 := by simp
            obtain ⟨n, hn⟩ : ∃ n, (m ++ [q]).length = n := ⟨_, rfl⟩
            obtain ⟨J, hJ⟩ : ∃ J : Int, (m.length : Int) = J := ⟨_, rfl⟩
            have hJn : J.toNat = m.length := by omega
            rw [← hJn] at hq0 hq1 hqf
            rw [hn] at HO hml hml2 ⊢
            have hb0 : decide (0 < n) = true := decide_eq_true (by omega)
            have hb1 : (0 ≤ J) = True := eq_true (by omega)
            have hb2 : (J < (n : Int)) = True := eq_true (by omega)
            have hw2 : wrap64 ((n : Int) - 1) = J := by have h_ := hml2.out; have h2_ := HN.out.1; unfold wrap64; omega
            have hw4 : IntKind.i64.wrap ((n : Int) - 1) = J := by have h_ := hml2.out; have h2_ := HN.out.1; rw [IntWalk.i64_in _ (by omega)]; omega
            have hw3 : wrap64 (q.f1 + 1) = q.f1 + 1 := by unfold wrap64; omega
            have hw5 : IntKind.i64.wrap (q.f1 + 1) = q.f1 + 1 := by rw [IntWalk.i64_in _ (by omega)]
            have hbx := below_alloc (Below.refl wr.heap.size wr) (.cells #[.int .i64 x.f0, .int .i64 x.f1] 69)
            have hqg : g < wr.heap.size := World.block_lt_of_cell? wr _ hq1
            have hq1' := pw_cell_below hbx hq1
            have hqf' := (hbx.frozen (p := ⟨g, J.toNat * 2 + 1, none⟩) hqg).trans hqf
            clear hbx hq0 hq1 hqf
            have HQG := Aside0.mk hqg
            clear hqg
            have HQ := Aside0.mk hq
            have HJ := Aside0.mk hJn
            have HNN := Aside0.mk hn
            clear hmi hbg hlen3 hn hJ hJn hq
            by_cases hcc : x.f0 ≤ q.f1 + 1
            · rw [if_pos hcc] at hX
              have HX := Aside0.mk hX
              clear hX
              obtain ⟨b, hb⟩ : ∃ b : Int, (if q.f1 < x.f1 then x.f1 else q.f1) = b := ⟨_, rfl⟩
              have HX2 := Aside0.mk hb
              go_wp2
              go_quiet (fail)
              go_wp2
              go_region
              all_goals go_wp2
              go_roundw
              case rel =>
                refine ⟨k + 1, by rw [hw]; rfl, ⟨hlt⟩, ⟨?_⟩, ⟨?_⟩⟩
                · have h1 := R_set_hi (y := b) (Kd.R_drewN (Kd.R_alloc HO.out (.cells #[.int .i64 x.f0, .int .i64 x.f1] 69)) (nq + 1)) HMI.out
                  have e : (m ++ [q]).set m.length ⟨q.f0, b⟩ = m ++ [⟨q.f0, b⟩] := by simp
                  rw [HX.out, HX2.out, HJ.out]
                  rw [e] at h1
                  exact h1
                · exact (pw_below_drewN (below_alloc HB.out _) _).setCell HG.out _
              case measure => rw [hw]; simp only [intOf]; omega
            · rw [if_neg hcc] at hX
              have HX := Aside0.mk hX
              clear hX
              have hcb : decide (x.f0 ≤ q.f1 + 1) = false := decide_eq_false hcc
              go_wp2
              go_quiet (fail)
              go_wp2_with (at_builtin; refine Kd.R_append kRg (w0 := w1) w1.heap.size rfl (.tmp 72) (.tmp 74) 43 69 (.agg #[.int .i64 0, .int .i64 0]) 16 rfl Try.underlying43 info69 rfl (by decide) (by omega) _ (m ++ [q]) x [.int .i64 x.f0, .int .i64 x.f1] (fun _ => True) (fun _ => False) rfl (by first | (go_simp; done) | (go_simp; rfl)) (k69_mkM _ _ _ x) (fun _ h => h.elim) (fun _ _ => trivial) ?aO ?aB ?aS ?aL ?_; (case aO => (with_reducible repeat (first | apply Kd.R_alloc | apply Kd.R_drewN | apply Kd.R_drew)); exact HO.out); (case aB => repeat (first | (with_reducible first | exact HB.out | apply below_alloc | apply pw_below_drewN | apply below_drew1) | exact HB.out)); (case aS => have := HB.out.size; simp; omega); (case aL => have h1_ := HN.out.1; have h2_ := hml2.out; have h3_ := HNN.out; omega); intro v1 w2 ho hb hg hat; have HO1 := Aside0.mk ho; have HB2 := Aside0.mk hb; clear ho hb hg hat)
              go_roundw
              case rel => exact ⟨k + 1, by rw [hw]; rfl, ⟨hlt⟩, ⟨by rw [HX.out]; exact HO1.out⟩, HB2⟩
              case measure => rw [hw]; simp only [intOf]; omega
        · obtain rfl : k = ys.length := by have := HK.out; omega
          rw [List.take_length] at HO
          obtain ⟨Ao, co, eo⟩ := Kd.R_slice HO.out
          subst eo
          have hBK := (HB.out.block _ (blk_lt BK1.out)).trans BK1.out
          have hBc : wr.cell? ⟨w.heap.size, 0, none⟩ = some (.slice none 0 0) := (blk_cell hBK 0).trans rfl
          have hBf := blk_frozen hBK 0
          have hfin : mergeR ys = r := by
            rw [← HN.out.2]
            unfold mergeR
            rw [CpM.fold_eq_make (l0.map toP) (ys.map toP) (by rw [← takeIn_toP]; exact HP.out.map _) (List.pairwise_map.2 HPP.out)]
          have HF := Aside0.mk hfin
          have HBK := Aside0.mk hBK
          clear hfin hBK
          go_wp2
          refine bodyPost_ret (results_cell_row rfl _ _ w.heap.size 45 #[.slice Ao (mergeR ys).length co] (0, 0) _ rfl (blk_put (cs := #[.slice none 0 0]) HBK.out 0 _ rfl) Try.underlying45 rfl (by kernel_rfl)) rfl ?_
          refine ⟨_, rfl, ?_, ?_⟩
          · rw [← HF.out]
            exact Kd.R_lower (Kd.R_set HO.out HBK.out (by decide) 0 _) HB1.out.size
          · exact (below_then HB1.out HB1.out.size HB.out).setCell (Nat.le_refl _) _
end Go.Proofs.Ytcpicopaobhlcaa.Q
end
section
namespace Go.Proofs.Ytcpicopaobhlcaa.Q
open Go.RowKit Go.Proofs.YtcpicopaobhlcaaW.PrintWords Go.Proofs.YtcpicopaobhlcaaW.PrintLast Go.Proofs.YtcpicopaobhlcaaW.PrintMore
set_option linter.unusedVariables false
theorem rd_mid (pre : List Int) (x : Int) (rest : List Int) : rd (pre ++ x :: rest) (pre.length : Int) = x := by
  unfold rd
  rw [Int.toNat_natCast, List.getD_eq_getElem?_getD, List.getElem?_append_right (Nat.le_refl _), Nat.sub_self]
  rfl
theorem wrap_succ {n : Nat} (h : n < 1000000000) : wrap64 ((n : Int) + 1) = ((n + 1 : Nat) : Int) := by unfold wrap64; omega
theorem valid_eq (c : Int) : unicodetextref01_Valid.f c = some (decide (0 ≤ c ∧ c ≤ 1114111)) := by
  unfold unicodetextref01_Valid.f
  split
  · rename_i h; simp only [ge_iff_le] at h; simp [h]
  · rename_i h; simp only [ge_iff_le] at h; simp [h]
def unicodetextref02_Cuts.f (l0 : List Int) (l1_0 : List S69) : Option (List Int) := if l0.length + l1_0.length * 2 < 100000000 then some (CpM.cuts l0 (l1_0.map toP)) else none
abbrev kInt : Kd Int := Kd.int .i64
end Go.Proofs.Ytcpicopaobhlcaa.Q
end
section
namespace Go.Proofs.Ytcpicopaobhlcaa.Q
open Go.RowKit Go.Proofs.YtcpicopaobhlcaaW.PrintWords Go.Proofs.YtcpicopaobhlcaaW.PrintLast Go.Proofs.YtcpicopaobhlcaaW.PrintMore
set_option linter.unusedVariables false
theorem rdR_mid (pre : List Rg) (x : Rg) (rest : List Rg) : rd_T69 (pre ++ x :: rest) (pre.length : Int) = x := by
  unfold rd_T69
  rw [Int.toNat_natCast, List.getD_eq_getElem?_getD, List.getElem?_append_right (Nat.le_refl _), Nat.sub_self]
  rfl
theorem hasB_cons (r : Int × Int) (l : List (Int × Int)) (c : Int) : CpM.hasB (r :: l) c = ((decide (0 ≤ c ∧ c ≤ 1114111) && (decide (r.1 ≤ c) && decide (c ≤ r.2))) || CpM.hasB l c) := by
  unfold CpM.hasB
  rw [List.any_cons, Bool.decide_and]
theorem has_go : ∀ (rest pre : List Rg) (c : Int) (k : Nat), (pre ++ rest).length < 1000000000 → rest.length + 1 ≤ k →
    unicodetextref02_Has.l0 k c (pre.length : Int) (pre ++ rest) = some (CpM.hasB (rest.map toP) c)
  | [], pre, c, k, h1, h2 => by
    obtain ⟨k, rfl⟩ : ∃ j, k = j + 1 := ⟨k - 1, by omega⟩
    rw [unicodetextref02_Has.l0, List.append_nil, if_neg (by omega)]
    rfl
  | x :: rest, pre, c, k, h1, h2 => by
    obtain ⟨k, rfl⟩ : ∃ j, k = j + 1 := ⟨k - 1, by omega⟩
    have hp : pre.length < 1000000000 := by simp at h1; omega
    have e2 : pre ++ x :: rest = (pre ++ [x]) ++ rest := by simp
    have e3 : (((pre.length + 1 : Nat)) : Int) = ((pre ++ [x]).length : Int) := by simp
    have ih := has_go rest (pre ++ [x]) c k (by simpa using h1) (by simp at h2; omega)
    rw [← e2, ← e3] at ih
    rw [unicodetextref02_Has.l0, if_pos (by simp; omega), valid_eq, rdR_mid, wrap_succ hp, ih, List.map_cons, hasB_cons]
    show (if decide (0 ≤ c ∧ c ≤ 1114111) = true then _ else _) = _
    by_cases hv : 0 ≤ c ∧ c ≤ 1114111
    · rw [decide_eq_true hv, if_pos rfl, if_pos (by omega)]
      unfold toP
      by_cases h3 : x.f0 ≤ c
      · by_cases h4 : c ≤ x.f1
        · simp [h3, h4]
        · simp [h3, h4]
      · simp [h3]
    · rw [decide_eq_false hv, if_neg (by decide)]
      rfl
def keepsB (op : Int) (x y : Bool) : Bool := if op = 1 then x || y else if op = 2 then x && y else x && !y
def keepAB (l0 l1 : List Rg) (op : Int) (c : Int) : Bool := keepsB op (CpM.hasB (l0.map toP) c) (CpM.hasB (l1.map toP) c)
def cutsAB (l0 l1 : List Rg) : List Int := CpM.cuts (CpM.cuts [] (l0.map toP)) (l1.map toP)
def combS (l0 l1 : List Rg) (op : Int) : List (Int × Int) := CpM.runs (keepAB l0 l1 op) none (CpM.segs (cutsAB l0 l1))
def unicodetextref02_combine.f (l0_0 : List S69) (l1_0 : List S69) (a2 : Int) : Option (List S69) := if l0_0.length + l1_0.length < 10000000 then some ((combS l0_0 l1_0 a2).map ofP) else none
def hiOf (rest : List Int) : Int := match rest with | [] => 1114111 | y :: _ => y - 1
end Go.Proofs.Ytcpicopaobhlcaa.Q
end
section
namespace Go.Proofs.Ytcpicopaobhlcaa.Q
open Go.RowKit Go.Proofs.YtcpicopaobhlcaaW.PrintWords Go.Proofs.YtcpicopaobhlcaaW.PrintLast Go.Proofs.YtcpicopaobhlcaaW.PrintMore
attribute [local go_sem] max2_int min2_int max_two min_two max_three min_three max_four min_four   -- for this text's walks alone
set_option linter.unusedVariables false
set_option linter.unusedSimpArgs false
def unicodetextref02_Make.f (l0 : List (S69)) : Option ((List (S69))) := (unicodetextref02_combine.f l0 ([] : List (S69)) 1).bind fun t176 => (some t176)
def unicodetextref02_Valid.f (k : Nat) (l0_0 : List (S69)) : Option (Bool) := (unicodetextref02_Make.f l0_0).bind fun t180 => ((unicodetextref02_Same.f k l0_0 t180).bind fun t183 => (some t183))
def unicodetextref50_right.l0 : Nat → List (S45) → Int → Option (Bool)
  | 0, _, _ => none
  | k + 1, x0, x3 => if x3 < (x0.length : Int) then (if 0 ≤ x3 then ((unicodetextref02_Valid.f k ((rd_T45 x0 x3).f0)).bind fun t185 => (if t185 = true then (if (((rd_T45 x0 x3).f0).length : Int) = 0 then (some false) else (unicodetextref50_right.l0 k x0 (wrap64 (x3 + 1)))) else (some false))) else (none)) else (some true)
def unicodetextref50_right.f (k : Nat) (l0 : List (S45)) : Option (Bool) := unicodetextref50_right.l0 k l0 0
end Go.Proofs.Ytcpicopaobhlcaa.Q
end
section
namespace Go.Proofs.Ytcpicopaobhlcaa.Q
open Go.RowKit Go.Proofs.YtcpicopaobhlcaaW.PrintWords Go.Proofs.YtcpicopaobhlcaaW.PrintLast Go.Proofs.YtcpicopaobhlcaaW.PrintMore
attribute [local go_sem] max2_int min2_int max_two min_two max_three min_three max_four min_four   -- for this text's walks alone
set_option linter.unusedVariables false
set_option linter.unusedSimpArgs false
mutual
def unicodetextref50_one.j0 : Nat → Bool → List (S45) → List (S45) → List (S45) → List (S59) → Option (Int)
  | 0, _, _, _, _, _ => none
  | k + 1, x34, x188000, x188001, x188002, x188003 => if x34 = true then (some 2) else ((unicodetextref50_right.f k x188000).bind fun t188 => (if t188 = true then ((unicodetextref50_right.f k x188001).bind fun t189 => (if t189 = true then ((unicodetextref50_right.f k x188002).bind fun t190 => (unicodetextref50_one.j1 k (!t190) x188000 x188001 x188002 x188003)) else (unicodetextref50_one.j1 k true x188000 x188001 x188002 x188003))) else (unicodetextref50_one.j1 k true x188000 x188001 x188002 x188003)))
def unicodetextref50_one.j1 : Nat → Bool → List (S45) → List (S45) → List (S45) → List (S59) → Option (Int)
  | 0, _, _, _, _, _ => none
  | k + 1, x50, x188000, x188001, x188002, x188003 => if x50 = true then (some 11) else (unicodetextref50_one.l0 k 0 x188000 x188001 x188002 x188003)
def unicodetextref50_one.l0 : Nat → Int → List (S45) → List (S45) → List (S45) → List (S59) → Option (Int)
  | 0, _, _, _, _, _ => none
  | k + 1, x3, x188000, x188001, x188002, x188003 => if x3 < (x188003.length : Int) then (if 0 ≤ x3 then (if ((rd_T59 x188003 x3).f1) = 0 then ((unicodetextref01_Valid.f ((rd_T59 x188003 x3).f0)).bind fun t193 => (if ((rd_T59 x188003 x3).f0) = 0 then (if ((rd_T59 x188003 x3).f1) ≥ 1 then (if t193 = true then (unicodetextref50_one.l0 k (wrap64 (x3 + 1)) x188000 x188001 x188002 x188003) else (if (((rd_T59 x188003 x3).f1) ≤ (x188001.length : Int)) then (unicodetextref50_one.l0 k (wrap64 (x3 + 1)) x188000 x188001 x188002 x188003) else (some 1))) else (if t193 = true then (unicodetextref50_one.l0 k (wrap64 (x3 + 1)) x188000 x188001 x188002 x188003) else (some 1))) else (if t193 = true then (unicodetextref50_one.l0 k (wrap64 (x3 + 1)) x188000 x188001 x188002 x188003) else (some 1)))) else (if ((rd_T59 x188003 x3).f0) = 0 then (if ((rd_T59 x188003 x3).f1) ≥ 1 then (if (((rd_T59 x188003 x3).f1) ≤ (x188001.length : Int)) then (unicodetextref50_one.l0 k (wrap64 (x3 + 1)) x188000 x188001 x188002 x188003) else (some 1)) else (some 1)) else (some 1))) else (none)) else (some 0)
end
def unicodetextref50_one.f (k : Nat) (l0_0 : List (S45)) (l0_1 : List (S45)) (l0_2 : List (S45)) (l0_3 : List (S59)) : Option (Int) := if (l0_1.length : Int) < 1 then (unicodetextref50_one.j0 k true l0_0 l0_1 l0_2 l0_3) else (if (l0_1.length : Int) > 8 then (unicodetextref50_one.j0 k true l0_0 l0_1 l0_2 l0_3) else (if (l0_0.length : Int) > 8 then (unicodetextref50_one.j0 k true l0_0 l0_1 l0_2 l0_3) else (if (l0_2.length : Int) > 8 then (unicodetextref50_one.j0 k true l0_0 l0_1 l0_2 l0_3) else (unicodetextref50_one.j0 k (decide ((l0_3.length : Int) > 16)) l0_0 l0_1 l0_2 l0_3))))
end Go.Proofs.Ytcpicopaobhlcaa.Q
end
section
namespace Go.Proofs.Ytcpicopaobhlcaa.Q
open Go.RowKit Go.Proofs.YtcpicopaobhlcaaW.PrintWords Go.Proofs.YtcpicopaobhlcaaW.PrintLast Go.Proofs.YtcpicopaobhlcaaW.PrintMore
attribute [local go_sem] max2_int min2_int max_two min_two max_three min_three max_four min_four   -- for this text's walks alone
set_option linter.unusedVariables false
set_option linter.unusedSimpArgs false
def unicodetextref50_Check.l0 : Nat → List (S41) → Int → Option (Int)
  | 0, _, _ => none
  | k + 1, x0, x3 => if x3 < (x0.length : Int) then (if 0 ≤ x3 then ((unicodetextref50_one.f k ((rd_T41 x0 x3).f0) ((rd_T41 x0 x3).f1) ((rd_T41 x0 x3).f2) ((rd_T41 x0 x3).f3)).bind fun t195 => (if t195 = 0 then (unicodetextref50_Check.l0 k x0 (wrap64 (x3 + 1))) else (some t195))) else (none)) else (some 0)
def unicodetextref50_Check.f (k : Nat) (l0 : List (S41)) : Option (Int) := if (l0.length : Int) > 200 then (some 2) else (unicodetextref50_Check.l0 k l0 0)
end Go.Proofs.Ytcpicopaobhlcaa.Q
end
section
namespace Go.Proofs.Ytcpicopaobhlcaa.Q
open Go.RowKit Go.Proofs.YtcpicopaobhlcaaW.PrintWords Go.Proofs.YtcpicopaobhlcaaW.PrintLast Go.Proofs.YtcpicopaobhlcaaW.PrintMore
set_option linter.unusedVariables false
def unicodetextref51_Data.f (k : Nat) (l0 : List S41) : Option (List S41) := (unicodetextref50_Check.f k l0).bind fun t => if t = 0 then some l0 else some []
end Go.Proofs.Ytcpicopaobhlcaa.Q
end
section
namespace Go.Proofs.Ytcpicopaobhlcaa.Q
open Go.RowKit Go.Proofs.YtcpicopaobhlcaaW.PrintWords Go.Proofs.YtcpicopaobhlcaaW.PrintLast Go.Proofs.YtcpicopaobhlcaaW.PrintMore
attribute [local go_sem] max2_int min2_int max_two min_two max_three min_three max_four min_four   -- for this text's walks alone
set_option linter.unusedVariables false
set_option linter.unusedSimpArgs false
attribute [local go_sem high] eqA69
-- NOT PRINTED: function 10 (unicodetextref52_Small)
def cpset_Valid.l0 : Nat → List (S69) → Int → Int → List (S69) → Option (Bool)
  | 0, _, _, _, _ => none
  | k + 1, x16, x17, x18, x108000 => if x18 < x17 then (if 0 ≤ x18 then (if x18 < (x16.length : Int) then (if x18 < (x108000.length : Int) then (if (!(((rd_T69 x16 x18).f0) == ((rd_T69 x108000 x18).f0)) || (!(((rd_T69 x16 x18).f1) == ((rd_T69 x108000 x18).f1)))) = true then (some false) else (cpset_Valid.l0 k x16 x17 (wrap64 (x18 + 1)) x108000)) else (none)) else (none)) else (none)) else (some true)
def cpset_Valid.f (k : Nat) (l0_0 : List (S69)) : Option (Bool) := (cpset_Make.f l0_0).bind fun t108 => (if (t108.length : Int) = (l0_0.length : Int) then (cpset_Valid.l0 k t108 (t108.length : Int) 0 l0_0) else (some false))
set_option maxHeartbeats 8000000 in
set_option maxRecDepth 100000 in
theorem cpset_Valid.calls (k : Nat) (A0_0 : Option Addr) (c0_0 : Nat) (l0_0 : List (S69)) (r : Bool) (w : World) (hr0_0 : Kd.C k69 w A0_0 l0_0.length l0_0) (hc0_0 : l0_0.length ≤ c0_0) (h : cpset_Valid.f k l0_0 = some r) :
    Calls Try.prog 52 #[.agg #[.slice A0_0 l0_0.length c0_0]] w fun e w' => e = .returned (.bool r) ∧ Below w.heap.size w w' := by
  have hu45 := Try.underlying45
  have hu69 := Try.underlying69
  have HR0_0 := Aside0.mk hr0_0
  have HC0_0 := Aside0.mk hc0_0
  clear hr0_0 hc0_0
  have HB := Aside0.mk (Below.refl w.heap.size w)
  have H : ((cpset_Make.f l0_0).bind fun t108 => (if (t108.length : Int) = (l0_0.length : Int) then (cpset_Valid.l0 k t108 (t108.length : Int) 0 l0_0) else (some false))) = some r := h
  clear h
  replace H := Option.bind_eq_some_iff.mp H
  obtain ⟨t108, A20, H⟩ := H
  replace H : (if (t108.length : Int) = (l0_0.length : Int) then (cpset_Valid.l0 k t108 (t108.length : Int) 0 l0_0) else (some false)) = some r := H
  have A2 := Aside0.mk A20
  clear A20
  by_cases c3 : (t108.length : Int) = (l0_0.length : Int)
  · rw [if_pos c3] at H
    have c3b0 : ((t108.length : Int) == (l0_0.length : Int)) = true := beq_iff_eq.mpr c3
    have c3b1 : ((t108.length : Int) != (l0_0.length : Int)) = false := bne_eq_false_iff_eq.mpr c3
    have c3b2 : (t108.length == l0_0.length) = true := by first | simpa using c3 | (simp at c3 ⊢; omega)
    clear c3
    have H' := Aside0.mk H
    clear H
    go_enter Try.func52, Try.ntmps52
    go_wp2_with (first | ((with_reducible refine gate_dst (N := 1) rfl ?_); refine box_event ?hg (N := 1) ?hd (cs := #[.slice A0_0 l0_0.length c0_0]) (t := 45) ?hr ?_; (case hd => rfl); (case hg => rfl); (case hr => first | (go_simp; done) | (go_simp; rfl)); intro gb107 hg w4 hbox hb; have n0_ := Aside0.mk (below_step (by repeat (first | (with_reducible first | exact HB.out | apply below_alloc | apply pw_below_drewN | apply below_drew1) | exact HB.out)) hb); have n1_ := Aside0.mk (hbox); have n2_ := Aside0.mk ((by rw [hg]; exact (below_size (by repeat (first | (with_reducible first | exact HB.out | apply below_alloc | apply pw_below_drewN | apply below_drew1) | exact HB.out))) : w.heap.size ≤ gb107)); have n3_ := Aside0.mk ((by rw [hg]; exact (below_size (by repeat (first | (with_reducible first | exact HB.out | apply below_alloc | apply pw_below_drewN | apply below_drew1) | exact HB.out))) : w.heap.size ≤ gb107)); clear HB; have HB := n0_; have BK107 := n1_; have GW107 := n2_; have GE107 := n3_; clear n0_ n1_ n2_ n3_; clear hb hbox hg; have hcz5_0 : w4.cell? ⟨gb107, 0, none⟩ = some (.slice A0_0 l0_0.length c0_0) := (blk_cell BK107.out 0).trans rfl; have hfz5_0 := blk_frozen BK107.out 0) | (go_at_call 59; (with_reducible refine (cpset_Make.calls _ _ l0_0 t108 _ ?side1 ?side2 A2.out).mono ?_); (case side1 => repeat (first | exact (Kd.C_below HR0_0.out HB.out) | (with_reducible refine Kd.C_alloc ?_ _) | (with_reducible refine Kd.C_drewN ?_ _) | (with_reducible refine Kd.C_drew ?_))); (case side2 => exact HC0_0.out); rintro e w6 ⟨v109, rfl, ho0, hb⟩; have n0_ := Aside0.mk (Kd.R_lower ho0 (below_size (by repeat (first | (with_reducible first | exact HB.out | apply below_alloc | apply pw_below_drewN | apply below_drew1 | refine below_set ?_ GE107.out) | exact HB.out)))); have n1_ := Aside0.mk (blk_below (g := gb107) (o := .cells #[.slice A0_0 l0_0.length c0_0] 45 (0, 0)) (by (with_reducible repeat (first | refine blk_drewN ?_ _ | refine blk_drew ?_ | refine blk_alloc ?_ _)); exact BK107.out) hb); have n2_ := Aside0.mk (below_step (by repeat (first | (with_reducible first | exact HB.out | apply below_alloc | apply pw_below_drewN | apply below_drew1 | refine below_set ?_ GE107.out) | exact HB.out)) hb); clear BK107; clear HB; have HO110 := n0_; have BK107 := n1_; have HB := n2_; clear n0_ n1_ n2_; (try clear hb); (try clear hb2); (try clear hk); (try clear hi); (try clear ho0); obtain ⟨Ao7, co7, eo7⟩ := Kd.R_slice HO110.out; subst eo7; have hcz8_0 : w6.cell? ⟨gb107, 0, none⟩ = some (.slice A0_0 l0_0.length c0_0) := (blk_cell BK107.out 0).trans rfl; have hfz8_0 := blk_frozen BK107.out 0))
    repeat (go_quiet (first | ((with_reducible refine gate_dst (N := 1) rfl ?_); refine box_event ?hg (N := 1) ?hd (cs := #[.slice A0_0 l0_0.length c0_0]) (t := 45) ?hr ?_; (case hd => rfl); (case hg => rfl); (case hr => first | (go_simp; done) | (go_simp; rfl)); intro gb107 hg w4 hbox hb; have n0_ := Aside0.mk (below_step (by repeat (first | (with_reducible first | exact HB.out | apply below_alloc | apply pw_below_drewN | apply below_drew1) | exact HB.out)) hb); have n1_ := Aside0.mk (hbox); have n2_ := Aside0.mk ((by rw [hg]; exact (below_size (by repeat (first | (with_reducible first | exact HB.out | apply below_alloc | apply pw_below_drewN | apply below_drew1) | exact HB.out))) : w.heap.size ≤ gb107)); have n3_ := Aside0.mk ((by rw [hg]; exact (below_size (by repeat (first | (with_reducible first | exact HB.out | apply below_alloc | apply pw_below_drewN | apply below_drew1) | exact HB.out))) : w.heap.size ≤ gb107)); clear HB; have HB := n0_; have BK107 := n1_; have GW107 := n2_; have GE107 := n3_; clear n0_ n1_ n2_ n3_; clear hb hbox hg; have hcz5_0 : w4.cell? ⟨gb107, 0, none⟩ = some (.slice A0_0 l0_0.length c0_0) := (blk_cell BK107.out 0).trans rfl; have hfz5_0 := blk_frozen BK107.out 0) | (go_at_call 59; (with_reducible refine (cpset_Make.calls _ _ l0_0 t108 _ ?side1 ?side2 A2.out).mono ?_); (case side1 => repeat (first | exact (Kd.C_below HR0_0.out HB.out) | (with_reducible refine Kd.C_alloc ?_ _) | (with_reducible refine Kd.C_drewN ?_ _) | (with_reducible refine Kd.C_drew ?_))); (case side2 => exact HC0_0.out); rintro e w6 ⟨v109, rfl, ho0, hb⟩; have n0_ := Aside0.mk (Kd.R_lower ho0 (below_size (by repeat (first | (with_reducible first | exact HB.out | apply below_alloc | apply pw_below_drewN | apply below_drew1 | refine below_set ?_ GE107.out) | exact HB.out)))); have n1_ := Aside0.mk (blk_below (g := gb107) (o := .cells #[.slice A0_0 l0_0.length c0_0] 45 (0, 0)) (by (with_reducible repeat (first | refine blk_drewN ?_ _ | refine blk_drew ?_ | refine blk_alloc ?_ _)); exact BK107.out) hb); have n2_ := Aside0.mk (below_step (by repeat (first | (with_reducible first | exact HB.out | apply below_alloc | apply pw_below_drewN | apply below_drew1 | refine below_set ?_ GE107.out) | exact HB.out)) hb); clear BK107; clear HB; have HO110 := n0_; have BK107 := n1_; have HB := n2_; clear n0_ n1_ n2_; (try clear hb); (try clear hb2); (try clear hk); (try clear hi); (try clear ho0); obtain ⟨Ao7, co7, eo7⟩ := Kd.R_slice HO110.out; subst eo7; have hcz8_0 : w6.cell? ⟨gb107, 0, none⟩ = some (.slice A0_0 l0_0.length c0_0) := (blk_cell BK107.out 0).trans rfl; have hfz8_0 := blk_frozen BK107.out 0)); try go_wp2_with (first | ((with_reducible refine gate_dst (N := 1) rfl ?_); refine box_event ?hg (N := 1) ?hd (cs := #[.slice A0_0 l0_0.length c0_0]) (t := 45) ?hr ?_; (case hd => rfl); (case hg => rfl); (case hr => first | (go_simp; done) | (go_simp; rfl)); intro gb107 hg w4 hbox hb; have n0_ := Aside0.mk (below_step (by repeat (first | (with_reducible first | exact HB.out | apply below_alloc | apply pw_below_drewN | apply below_drew1) | exact HB.out)) hb); have n1_ := Aside0.mk (hbox); have n2_ := Aside0.mk ((by rw [hg]; exact (below_size (by repeat (first | (with_reducible first | exact HB.out | apply below_alloc | apply pw_below_drewN | apply below_drew1) | exact HB.out))) : w.heap.size ≤ gb107)); have n3_ := Aside0.mk ((by rw [hg]; exact (below_size (by repeat (first | (with_reducible first | exact HB.out | apply below_alloc | apply pw_below_drewN | apply below_drew1) | exact HB.out))) : w.heap.size ≤ gb107)); clear HB; have HB := n0_; have BK107 := n1_; have GW107 := n2_; have GE107 := n3_; clear n0_ n1_ n2_ n3_; clear hb hbox hg; have hcz5_0 : w4.cell? ⟨gb107, 0, none⟩ = some (.slice A0_0 l0_0.length c0_0) := (blk_cell BK107.out 0).trans rfl; have hfz5_0 := blk_frozen BK107.out 0) | (go_at_call 59; (with_reducible refine (cpset_Make.calls _ _ l0_0 t108 _ ?side1 ?side2 A2.out).mono ?_); (case side1 => repeat (first | exact (Kd.C_below HR0_0.out HB.out) | (with_reducible refine Kd.C_alloc ?_ _) | (with_reducible refine Kd.C_drewN ?_ _) | (with_reducible refine Kd.C_drew ?_))); (case side2 => exact HC0_0.out); rintro e w6 ⟨v109, rfl, ho0, hb⟩; have n0_ := Aside0.mk (Kd.R_lower ho0 (below_size (by repeat (first | (with_reducible first | exact HB.out | apply below_alloc | apply pw_below_drewN | apply below_drew1 | refine below_set ?_ GE107.out) | exact HB.out)))); have n1_ := Aside0.mk (blk_below (g := gb107) (o := .cells #[.slice A0_0 l0_0.length c0_0] 45 (0, 0)) (by (with_reducible repeat (first | refine blk_drewN ?_ _ | refine blk_drew ?_ | refine blk_alloc ?_ _)); exact BK107.out) hb); have n2_ := Aside0.mk (below_step (by repeat (first | (with_reducible first | exact HB.out | apply below_alloc | apply pw_below_drewN | apply below_drew1 | refine below_set ?_ GE107.out) | exact HB.out)) hb); clear BK107; clear HB; have HO110 := n0_; have BK107 := n1_; have HB := n2_; clear n0_ n1_ n2_; (try clear hb); (try clear hb2); (try clear hk); (try clear hi); (try clear ho0); obtain ⟨Ao7, co7, eo7⟩ := Kd.R_slice HO110.out; subst eo7; have hcz8_0 : w6.cell? ⟨gb107, 0, none⟩ = some (.slice A0_0 l0_0.length c0_0) := (blk_cell BK107.out 0).trans rfl; have hfz8_0 := blk_frozen BK107.out 0)))
    go_loopg [18] k (fun kq v18 w' => ∃ (x18_1 : Int), v18 = .int .i64 x18_1 ∧ Aside0 (cpset_Valid.l0 kq t108 (t108.length : Int) x18_1 l0_0 = some r) ∧ Aside0 (kq ≤ k) ∧ Aside0 (Kd.R k69 69 w' w.heap.size (fun _ => True) (.slice Ao7 t108.length co7) t108) ∧ Aside0 (w'.heap[gb107]? = some (.cells #[(.slice A0_0 l0_0.length c0_0)] 45 (0, 0))) ∧ Aside0 (Below w.heap.size w w'))
    case atStart => exact ⟨(0), (by first | rfl | (simp; done) | (simp [*]; done)), H', ⟨Nat.le_refl _⟩, ⟨by (with_reducible repeat (first | apply Kd.R_alloc | apply Kd.R_drewN | apply Kd.R_drew)); exact HO110.out⟩, ⟨by (with_reducible repeat (first | refine blk_drewN ?_ _ | refine blk_drew ?_ | refine blk_alloc ?_ _)); exact BK107.out⟩, ⟨by repeat (first | (with_reducible first | exact HB.out | apply below_alloc | apply pw_below_drewN | apply below_drew1 | refine below_set ?_ GE107.out) | exact HB.out)⟩⟩
    case round =>
      clear H'
      try clear p2
      try clear c3
      try clear c3b0
      try clear c3b1
      try clear c3b2
      try clear c5
      try clear hcz5_0
      try clear hcz8_0
      try clear hfz5_0
      try clear hfz8_0
      obtain ⟨x18_1, rfl, HA, HK1, HO_16, BK107, HB⟩ := hrel
      cases gk with
      | zero => exact absurd HA.out (by simp [cpset_Valid.l0])
      | succ k1 =>
        have H := HA.out
        clear HA
        simp only [cpset_Valid.l0] at H
        by_cases c9 : x18_1 < (t108.length : Int)
        · rw [if_pos c9] at H
          have c9b0 : decide (x18_1 < (t108.length : Int)) = true := decide_eq_true c9
          clear c9
          by_cases c10 : 0 ≤ x18_1
          · rw [if_pos c10] at H
            have c10b0 : decide (0 ≤ x18_1) = true := decide_eq_true c10
            clear c10
            by_cases c11 : x18_1 < (t108.length : Int)
            · rw [if_pos c11] at H
              have c11b0 : decide (x18_1 < (t108.length : Int)) = true := decide_eq_true c11
              clear c11
              by_cases c12 : x18_1 < (l0_0.length : Int)
              · rw [if_pos c12] at H
                have c12b0 : decide (x18_1 < (l0_0.length : Int)) = true := decide_eq_true c12
                clear c12
                by_cases c13 : (!(((rd_T69 t108 x18_1).f0) == ((rd_T69 l0_0 x18_1).f0)) || (!(((rd_T69 t108 x18_1).f1) == ((rd_T69 l0_0 x18_1).f1)))) = true
                · rw [if_pos c13] at H
                  have c13b0 : (!(((rd_T69 t108 x18_1).f0) == ((rd_T69 l0_0 x18_1).f0)) || (!(((rd_T69 t108 x18_1).f1) == ((rd_T69 l0_0 x18_1).f1)))) = true := c13
                  clear c13
                  obtain rfl := Option.some.inj H
                  have p111 : 0 ≤ (x18_1 : Int) := of_decide_eq_true (by first | (with_reducible assumption) | assumption)
                  have q111 : x18_1 < (t108.length : Int) := of_decide_eq_true (by first | (with_reducible assumption) | assumption)
                  obtain ⟨ad111, e111, hx111_0, hx111_1⟩ := at_T69 (Kd.R_reads' HO_16.out).2.2 x18_1 p111 q111
                  cases e111
                  replace p111 := eq_true p111
                  replace q111 := eq_true q111
                  go_wp2_with (first | ((with_reducible refine gate_dst (N := 5) rfl ?_); refine box_event ?hg (N := 5) ?hd (cs := #[.int .i64 0, .int .i64 0]) (t := 69) ?hr ?_; (case hd => rfl); (case hg => rfl); (case hr => first | (go_simp; done) | (go_simp; rfl)); intro gb112 hg w14 hbox hb; have n0_ := Aside0.mk (Kd.R_below (Kd.R_elderB (by (with_reducible repeat (first | apply Kd.R_alloc | apply Kd.R_drewN | apply Kd.R_drew)); exact HO_16.out) gb112 (Nat.le_of_eq hg.symm)) hb); have n1_ := Aside0.mk (blk_below (g := gb107) (o := .cells #[.slice A0_0 l0_0.length c0_0] 45 (0, 0)) (by (with_reducible repeat (first | refine blk_drewN ?_ _ | refine blk_drew ?_ | refine blk_alloc ?_ _)); exact BK107.out) hb); have n2_ := Aside0.mk (below_step (by repeat (first | (with_reducible first | exact HB.out | apply below_alloc | apply pw_below_drewN | apply below_drew1 | refine below_set ?_ GE107.out) | exact HB.out)) hb); have n3_ := Aside0.mk (hbox); have n4_ := Aside0.mk ((by rw [hg]; exact (below_size (by repeat (first | (with_reducible first | exact HB.out | apply below_alloc | apply pw_below_drewN | apply below_drew1 | refine below_set ?_ GE107.out) | exact HB.out))) : w.heap.size ≤ gb112)); have n5_ := Aside0.mk ((by rw [hg]; exact (below_size (by repeat (first | (with_reducible first | exact HB.out | apply below_alloc | apply pw_below_drewN | apply below_drew1 | refine below_set ?_ GE107.out) | exact HB.out))) : w.heap.size ≤ gb112)); have n6_ := Aside0.mk ((by rw [hg]; exact Nat.ne_of_lt (blk_lt (g := gb107) (o := .cells #[.slice A0_0 l0_0.length c0_0] 45 (0, 0)) (by (with_reducible repeat (first | refine blk_drewN ?_ _ | refine blk_drew ?_ | refine blk_alloc ?_ _)); exact BK107.out)) : gb107 ≠ gb112)); have n7_ := Aside0.mk ((by rw [hg]; exact Nat.ne_of_gt (blk_lt (g := gb107) (o := .cells #[.slice A0_0 l0_0.length c0_0] 45 (0, 0)) (by (with_reducible repeat (first | refine blk_drewN ?_ _ | refine blk_drew ?_ | refine blk_alloc ?_ _)); exact BK107.out)) : gb112 ≠ gb107)); clear HO_16; clear BK107; clear HB; have HO_16 := n0_; have BK107 := n1_; have HB := n2_; have BK112 := n3_; have GW112 := n4_; have GE112 := n5_; have NB107_112 := n6_; have NB112_107 := n7_; clear n0_ n1_ n2_ n3_ n4_ n5_ n6_ n7_; clear hb hbox hg; have hnb15 := NB112_107.out; have hnc15 := NB107_112.out; have hcz16_0 : w14.cell? ⟨gb112, 0, none⟩ = some (.int .i64 0) := (blk_cell BK112.out 0).trans rfl; have hcz16_1 : w14.cell? ⟨gb112, 1, none⟩ = some (.int .i64 0) := (blk_cell BK112.out 1).trans rfl; have hfz16_0 := blk_frozen BK112.out 0; have hfz16_1 := blk_frozen BK112.out 1; have hcz17_0 : w14.cell? ⟨gb107, 0, none⟩ = some (.slice A0_0 l0_0.length c0_0) := (blk_cell BK107.out 0).trans rfl; have hfz17_0 := blk_frozen BK107.out 0; have p113 : 0 ≤ (x18_1 : Int) := of_decide_eq_true (by first | (with_reducible assumption) | assumption); have q113 : x18_1 < (l0_0.length : Int) := of_decide_eq_true (by first | (with_reducible assumption) | assumption); obtain ⟨ad113, e113, hx113_0, hx113_1⟩ := at_T69 HR0_0.out x18_1 p113 q113; cases e113; have hn113_0 : ad113.block ≠ gb112 := Nat.ne_of_lt (Nat.lt_of_lt_of_le (by have := World.block_lt_of_cell? _ _ hx113_0; first | rwa [add_block] at this | exact this) GW112.out); have hn113_1 : ad113.block ≠ gb112 := Nat.ne_of_lt (Nat.lt_of_lt_of_le (by have := World.block_lt_of_cell? _ _ hx113_0; first | rwa [add_block] at this | exact this) GW112.out); replace hx113_0 := (HB.out.cell (World.block_lt_of_cell? w _ hx113_0)).trans hx113_0; replace hx113_1 := (HB.out.cell (World.block_lt_of_cell? w _ hx113_1)).trans hx113_1; replace hx113_0 := (cell_far (p := ⟨gb112, 0, none⟩) (by first | (rw [add_block]; exact hn113_0) | (show (Addr.add _ _).block ≠ _; rw [add_block]; exact hn113_0) | exact hn113_0) (.int .i64 ((rd_T69 t108 x18_1).f0))).trans hx113_0; replace hx113_1 := (cell_far (p := ⟨gb112, 0, none⟩) (by first | (rw [add_block]; exact hn113_0) | (show (Addr.add _ _).block ≠ _; rw [add_block]; exact hn113_0) | exact hn113_0) (.int .i64 ((rd_T69 t108 x18_1).f0))).trans hx113_1; replace hx113_0 := (cell_far (p := ⟨gb112, 1, none⟩) (by first | (rw [add_block]; exact hn113_1) | (show (Addr.add _ _).block ≠ _; rw [add_block]; exact hn113_1) | exact hn113_1) (.int .i64 ((rd_T69 t108 x18_1).f1))).trans hx113_0; replace hx113_1 := (cell_far (p := ⟨gb112, 1, none⟩) (by first | (rw [add_block]; exact hn113_1) | (show (Addr.add _ _).block ≠ _; rw [add_block]; exact hn113_1) | exact hn113_1) (.int .i64 ((rd_T69 t108 x18_1).f1))).trans hx113_1; (try have hy113_0 := fun (n_ : Nat) => (show ((((w14.drewN n_).setCell ⟨gb112, 0, none⟩ (.int .i64 ((rd_T69 t108 x18_1).f0))).setCell ⟨gb112, 1, none⟩ (.int .i64 ((rd_T69 t108 x18_1).f1)))).cell? _ = some _ from hx113_0)); (try have hy113_1 := fun (n_ : Nat) => (show ((((w14.drewN n_).setCell ⟨gb112, 0, none⟩ (.int .i64 ((rd_T69 t108 x18_1).f0))).setCell ⟨gb112, 1, none⟩ (.int .i64 ((rd_T69 t108 x18_1).f1)))).cell? _ = some _ from hx113_1)); clear hn113_0; clear hn113_1; replace p113 := eq_true p113; replace q113 := eq_true q113))
                  repeat (go_quiet (first | ((with_reducible refine gate_dst (N := 5) rfl ?_); refine box_event ?hg (N := 5) ?hd (cs := #[.int .i64 0, .int .i64 0]) (t := 69) ?hr ?_; (case hd => rfl); (case hg => rfl); (case hr => first | (go_simp; done) | (go_simp; rfl)); intro gb112 hg w14 hbox hb; have n0_ := Aside0.mk (Kd.R_below (Kd.R_elderB (by (with_reducible repeat (first | apply Kd.R_alloc | apply Kd.R_drewN | apply Kd.R_drew)); exact HO_16.out) gb112 (Nat.le_of_eq hg.symm)) hb); have n1_ := Aside0.mk (blk_below (g := gb107) (o := .cells #[.slice A0_0 l0_0.length c0_0] 45 (0, 0)) (by (with_reducible repeat (first | refine blk_drewN ?_ _ | refine blk_drew ?_ | refine blk_alloc ?_ _)); exact BK107.out) hb); have n2_ := Aside0.mk (below_step (by repeat (first | (with_reducible first | exact HB.out | apply below_alloc | apply pw_below_drewN | apply below_drew1 | refine below_set ?_ GE107.out) | exact HB.out)) hb); have n3_ := Aside0.mk (hbox); have n4_ := Aside0.mk ((by rw [hg]; exact (below_size (by repeat (first | (with_reducible first | exact HB.out | apply below_alloc | apply pw_below_drewN | apply below_drew1 | refine below_set ?_ GE107.out) | exact HB.out))) : w.heap.size ≤ gb112)); have n5_ := Aside0.mk ((by rw [hg]; exact (below_size (by repeat (first | (with_reducible first | exact HB.out | apply below_alloc | apply pw_below_drewN | apply below_drew1 | refine below_set ?_ GE107.out) | exact HB.out))) : w.heap.size ≤ gb112)); have n6_ := Aside0.mk ((by rw [hg]; exact Nat.ne_of_lt (blk_lt (g := gb107) (o := .cells #[.slice A0_0 l0_0.length c0_0] 45 (0, 0)) (by (with_reducible repeat (first | refine blk_drewN ?_ _ | refine blk_drew ?_ | refine blk_alloc ?_ _)); exact BK107.out)) : gb107 ≠ gb112)); have n7_ := Aside0.mk ((by rw [hg]; exact Nat.ne_of_gt (blk_lt (g := gb107) (o := .cells #[.slice A0_0 l0_0.length c0_0] 45 (0, 0)) (by (with_reducible repeat (first | refine blk_drewN ?_ _ | refine blk_drew ?_ | refine blk_alloc ?_ _)); exact BK107.out)) : gb112 ≠ gb107)); clear HO_16; clear BK107; clear HB; have HO_16 := n0_; have BK107 := n1_; have HB := n2_; have BK112 := n3_; have GW112 := n4_; have GE112 := n5_; have NB107_112 := n6_; have NB112_107 := n7_; clear n0_ n1_ n2_ n3_ n4_ n5_ n6_ n7_; clear hb hbox hg; have hnb15 := NB112_107.out; have hnc15 := NB107_112.out; have hcz16_0 : w14.cell? ⟨gb112, 0, none⟩ = some (.int .i64 0) := (blk_cell BK112.out 0).trans rfl; have hcz16_1 : w14.cell? ⟨gb112, 1, none⟩ = some (.int .i64 0) := (blk_cell BK112.out 1).trans rfl; have hfz16_0 := blk_frozen BK112.out 0; have hfz16_1 := blk_frozen BK112.out 1; have hcz17_0 : w14.cell? ⟨gb107, 0, none⟩ = some (.slice A0_0 l0_0.length c0_0) := (blk_cell BK107.out 0).trans rfl; have hfz17_0 := blk_frozen BK107.out 0; have p113 : 0 ≤ (x18_1 : Int) := of_decide_eq_true (by first | (with_reducible assumption) | assumption); have q113 : x18_1 < (l0_0.length : Int) := of_decide_eq_true (by first | (with_reducible assumption) | assumption); obtain ⟨ad113, e113, hx113_0, hx113_1⟩ := at_T69 HR0_0.out x18_1 p113 q113; cases e113; have hn113_0 : ad113.block ≠ gb112 := Nat.ne_of_lt (Nat.lt_of_lt_of_le (by have := World.block_lt_of_cell? _ _ hx113_0; first | rwa [add_block] at this | exact this) GW112.out); have hn113_1 : ad113.block ≠ gb112 := Nat.ne_of_lt (Nat.lt_of_lt_of_le (by have := World.block_lt_of_cell? _ _ hx113_0; first | rwa [add_block] at this | exact this) GW112.out); replace hx113_0 := (HB.out.cell (World.block_lt_of_cell? w _ hx113_0)).trans hx113_0; replace hx113_1 := (HB.out.cell (World.block_lt_of_cell? w _ hx113_1)).trans hx113_1; replace hx113_0 := (cell_far (p := ⟨gb112, 0, none⟩) (by first | (rw [add_block]; exact hn113_0) | (show (Addr.add _ _).block ≠ _; rw [add_block]; exact hn113_0) | exact hn113_0) (.int .i64 ((rd_T69 t108 x18_1).f0))).trans hx113_0; replace hx113_1 := (cell_far (p := ⟨gb112, 0, none⟩) (by first | (rw [add_block]; exact hn113_0) | (show (Addr.add _ _).block ≠ _; rw [add_block]; exact hn113_0) | exact hn113_0) (.int .i64 ((rd_T69 t108 x18_1).f0))).trans hx113_1; replace hx113_0 := (cell_far (p := ⟨gb112, 1, none⟩) (by first | (rw [add_block]; exact hn113_1) | (show (Addr.add _ _).block ≠ _; rw [add_block]; exact hn113_1) | exact hn113_1) (.int .i64 ((rd_T69 t108 x18_1).f1))).trans hx113_0; replace hx113_1 := (cell_far (p := ⟨gb112, 1, none⟩) (by first | (rw [add_block]; exact hn113_1) | (show (Addr.add _ _).block ≠ _; rw [add_block]; exact hn113_1) | exact hn113_1) (.int .i64 ((rd_T69 t108 x18_1).f1))).trans hx113_1; (try have hy113_0 := fun (n_ : Nat) => (show ((((w14.drewN n_).setCell ⟨gb112, 0, none⟩ (.int .i64 ((rd_T69 t108 x18_1).f0))).setCell ⟨gb112, 1, none⟩ (.int .i64 ((rd_T69 t108 x18_1).f1)))).cell? _ = some _ from hx113_0)); (try have hy113_1 := fun (n_ : Nat) => (show ((((w14.drewN n_).setCell ⟨gb112, 0, none⟩ (.int .i64 ((rd_T69 t108 x18_1).f0))).setCell ⟨gb112, 1, none⟩ (.int .i64 ((rd_T69 t108 x18_1).f1)))).cell? _ = some _ from hx113_1)); clear hn113_0; clear hn113_1; replace p113 := eq_true p113; replace q113 := eq_true q113)); try go_wp2_with (first | ((with_reducible refine gate_dst (N := 5) rfl ?_); refine box_event ?hg (N := 5) ?hd (cs := #[.int .i64 0, .int .i64 0]) (t := 69) ?hr ?_; (case hd => rfl); (case hg => rfl); (case hr => first | (go_simp; done) | (go_simp; rfl)); intro gb112 hg w14 hbox hb; have n0_ := Aside0.mk (Kd.R_below (Kd.R_elderB (by (with_reducible repeat (first | apply Kd.R_alloc | apply Kd.R_drewN | apply Kd.R_drew)); exact HO_16.out) gb112 (Nat.le_of_eq hg.symm)) hb); have n1_ := Aside0.mk (blk_below (g := gb107) (o := .cells #[.slice A0_0 l0_0.length c0_0] 45 (0, 0)) (by (with_reducible repeat (first | refine blk_drewN ?_ _ | refine blk_drew ?_ | refine blk_alloc ?_ _)); exact BK107.out) hb); have n2_ := Aside0.mk (below_step (by repeat (first | (with_reducible first | exact HB.out | apply below_alloc | apply pw_below_drewN | apply below_drew1 | refine below_set ?_ GE107.out) | exact HB.out)) hb); have n3_ := Aside0.mk (hbox); have n4_ := Aside0.mk ((by rw [hg]; exact (below_size (by repeat (first | (with_reducible first | exact HB.out | apply below_alloc | apply pw_below_drewN | apply below_drew1 | refine below_set ?_ GE107.out) | exact HB.out))) : w.heap.size ≤ gb112)); have n5_ := Aside0.mk ((by rw [hg]; exact (below_size (by repeat (first | (with_reducible first | exact HB.out | apply below_alloc | apply pw_below_drewN | apply below_drew1 | refine below_set ?_ GE107.out) | exact HB.out))) : w.heap.size ≤ gb112)); have n6_ := Aside0.mk ((by rw [hg]; exact Nat.ne_of_lt (blk_lt (g := gb107) (o := .cells #[.slice A0_0 l0_0.length c0_0] 45 (0, 0)) (by (with_reducible repeat (first | refine blk_drewN ?_ _ | refine blk_drew ?_ | refine blk_alloc ?_ _)); exact BK107.out)) : gb107 ≠ gb112)); have n7_ := Aside0.mk ((by rw [hg]; exact Nat.ne_of_gt (blk_lt (g := gb107) (o := .cells #[.slice A0_0 l0_0.length c0_0] 45 (0, 0)) (by (with_reducible repeat (first | refine blk_drewN ?_ _ | refine blk_drew ?_ | refine blk_alloc ?_ _)); exact BK107.out)) : gb112 ≠ gb107)); clear HO_16; clear BK107; clear HB; have HO_16 := n0_; have BK107 := n1_; have HB := n2_; have BK112 := n3_; have GW112 := n4_; have GE112 := n5_; have NB107_112 := n6_; have NB112_107 := n7_; clear n0_ n1_ n2_ n3_ n4_ n5_ n6_ n7_; clear hb hbox hg; have hnb15 := NB112_107.out; have hnc15 := NB107_112.out; have hcz16_0 : w14.cell? ⟨gb112, 0, none⟩ = some (.int .i64 0) := (blk_cell BK112.out 0).trans rfl; have hcz16_1 : w14.cell? ⟨gb112, 1, none⟩ = some (.int .i64 0) := (blk_cell BK112.out 1).trans rfl; have hfz16_0 := blk_frozen BK112.out 0; have hfz16_1 := blk_frozen BK112.out 1; have hcz17_0 : w14.cell? ⟨gb107, 0, none⟩ = some (.slice A0_0 l0_0.length c0_0) := (blk_cell BK107.out 0).trans rfl; have hfz17_0 := blk_frozen BK107.out 0; have p113 : 0 ≤ (x18_1 : Int) := of_decide_eq_true (by first | (with_reducible assumption) | assumption); have q113 : x18_1 < (l0_0.length : Int) := of_decide_eq_true (by first | (with_reducible assumption) | assumption); obtain ⟨ad113, e113, hx113_0, hx113_1⟩ := at_T69 HR0_0.out x18_1 p113 q113; cases e113; have hn113_0 : ad113.block ≠ gb112 := Nat.ne_of_lt (Nat.lt_of_lt_of_le (by have := World.block_lt_of_cell? _ _ hx113_0; first | rwa [add_block] at this | exact this) GW112.out); have hn113_1 : ad113.block ≠ gb112 := Nat.ne_of_lt (Nat.lt_of_lt_of_le (by have := World.block_lt_of_cell? _ _ hx113_0; first | rwa [add_block] at this | exact this) GW112.out); replace hx113_0 := (HB.out.cell (World.block_lt_of_cell? w _ hx113_0)).trans hx113_0; replace hx113_1 := (HB.out.cell (World.block_lt_of_cell? w _ hx113_1)).trans hx113_1; replace hx113_0 := (cell_far (p := ⟨gb112, 0, none⟩) (by first | (rw [add_block]; exact hn113_0) | (show (Addr.add _ _).block ≠ _; rw [add_block]; exact hn113_0) | exact hn113_0) (.int .i64 ((rd_T69 t108 x18_1).f0))).trans hx113_0; replace hx113_1 := (cell_far (p := ⟨gb112, 0, none⟩) (by first | (rw [add_block]; exact hn113_0) | (show (Addr.add _ _).block ≠ _; rw [add_block]; exact hn113_0) | exact hn113_0) (.int .i64 ((rd_T69 t108 x18_1).f0))).trans hx113_1; replace hx113_0 := (cell_far (p := ⟨gb112, 1, none⟩) (by first | (rw [add_block]; exact hn113_1) | (show (Addr.add _ _).block ≠ _; rw [add_block]; exact hn113_1) | exact hn113_1) (.int .i64 ((rd_T69 t108 x18_1).f1))).trans hx113_0; replace hx113_1 := (cell_far (p := ⟨gb112, 1, none⟩) (by first | (rw [add_block]; exact hn113_1) | (show (Addr.add _ _).block ≠ _; rw [add_block]; exact hn113_1) | exact hn113_1) (.int .i64 ((rd_T69 t108 x18_1).f1))).trans hx113_1; (try have hy113_0 := fun (n_ : Nat) => (show ((((w14.drewN n_).setCell ⟨gb112, 0, none⟩ (.int .i64 ((rd_T69 t108 x18_1).f0))).setCell ⟨gb112, 1, none⟩ (.int .i64 ((rd_T69 t108 x18_1).f1)))).cell? _ = some _ from hx113_0)); (try have hy113_1 := fun (n_ : Nat) => (show ((((w14.drewN n_).setCell ⟨gb112, 0, none⟩ (.int .i64 ((rd_T69 t108 x18_1).f0))).setCell ⟨gb112, 1, none⟩ (.int .i64 ((rd_T69 t108 x18_1).f1)))).cell? _ = some _ from hx113_1)); clear hn113_0; clear hn113_1; replace p113 := eq_true p113; replace q113 := eq_true q113)))
                  go_ret
                  exact ⟨by first | rfl | (simp [errW_none, errW_some] <;> rfl) | (simp [*, errW_none, errW_some] <;> rfl), by repeat (first | (with_reducible first | exact HB.out | apply below_alloc | apply pw_below_drewN | apply below_drew1 | refine below_set ?_ GE107.out | refine below_set ?_ GE112.out) | exact HB.out)⟩
                · rw [if_neg c13] at H
                  have c13b0 : (!(((rd_T69 t108 x18_1).f0) == ((rd_T69 l0_0 x18_1).f0)) || (!(((rd_T69 t108 x18_1).f1) == ((rd_T69 l0_0 x18_1).f1)))) = false := by simpa using c13
                  clear c13
                  have H' := Aside0.mk H
                  clear H
                  have p111 : 0 ≤ (x18_1 : Int) := of_decide_eq_true (by first | (with_reducible assumption) | assumption)
                  have q111 : x18_1 < (t108.length : Int) := of_decide_eq_true (by first | (with_reducible assumption) | assumption)
                  obtain ⟨ad111, e111, hx111_0, hx111_1⟩ := at_T69 (Kd.R_reads' HO_16.out).2.2 x18_1 p111 q111
                  cases e111
                  replace p111 := eq_true p111
                  replace q111 := eq_true q111
                  go_wp2_with (first | ((with_reducible refine gate_dst (N := 5) rfl ?_); refine box_event ?hg (N := 5) ?hd (cs := #[.int .i64 0, .int .i64 0]) (t := 69) ?hr ?_; (case hd => rfl); (case hg => rfl); (case hr => first | (go_simp; done) | (go_simp; rfl)); intro gb112 hg w18 hbox hb; have n0_ := Aside0.mk (Kd.R_below (Kd.R_elderB (by (with_reducible repeat (first | apply Kd.R_alloc | apply Kd.R_drewN | apply Kd.R_drew)); exact HO_16.out) gb112 (Nat.le_of_eq hg.symm)) hb); have n1_ := Aside0.mk (blk_below (g := gb107) (o := .cells #[.slice A0_0 l0_0.length c0_0] 45 (0, 0)) (by (with_reducible repeat (first | refine blk_drewN ?_ _ | refine blk_drew ?_ | refine blk_alloc ?_ _)); exact BK107.out) hb); have n2_ := Aside0.mk (below_step (by repeat (first | (with_reducible first | exact HB.out | apply below_alloc | apply pw_below_drewN | apply below_drew1 | refine below_set ?_ GE107.out) | exact HB.out)) hb); have n3_ := Aside0.mk (hbox); have n4_ := Aside0.mk ((by rw [hg]; exact (below_size (by repeat (first | (with_reducible first | exact HB.out | apply below_alloc | apply pw_below_drewN | apply below_drew1 | refine below_set ?_ GE107.out) | exact HB.out))) : w.heap.size ≤ gb112)); have n5_ := Aside0.mk ((by rw [hg]; exact (below_size (by repeat (first | (with_reducible first | exact HB.out | apply below_alloc | apply pw_below_drewN | apply below_drew1 | refine below_set ?_ GE107.out) | exact HB.out))) : w.heap.size ≤ gb112)); have n6_ := Aside0.mk ((by rw [hg]; exact Nat.ne_of_lt (blk_lt (g := gb107) (o := .cells #[.slice A0_0 l0_0.length c0_0] 45 (0, 0)) (by (with_reducible repeat (first | refine blk_drewN ?_ _ | refine blk_drew ?_ | refine blk_alloc ?_ _)); exact BK107.out)) : gb107 ≠ gb112)); have n7_ := Aside0.mk ((by rw [hg]; exact Nat.ne_of_gt (blk_lt (g := gb107) (o := .cells #[.slice A0_0 l0_0.length c0_0] 45 (0, 0)) (by (with_reducible repeat (first | refine blk_drewN ?_ _ | refine blk_drew ?_ | refine blk_alloc ?_ _)); exact BK107.out)) : gb112 ≠ gb107)); clear HO_16; clear BK107; clear HB; have HO_16 := n0_; have BK107 := n1_; have HB := n2_; have BK112 := n3_; have GW112 := n4_; have GE112 := n5_; have NB107_112 := n6_; have NB112_107 := n7_; clear n0_ n1_ n2_ n3_ n4_ n5_ n6_ n7_; clear hb hbox hg; have hnb19 := NB112_107.out; have hnc19 := NB107_112.out; have hcz20_0 : w18.cell? ⟨gb112, 0, none⟩ = some (.int .i64 0) := (blk_cell BK112.out 0).trans rfl; have hcz20_1 : w18.cell? ⟨gb112, 1, none⟩ = some (.int .i64 0) := (blk_cell BK112.out 1).trans rfl; have hfz20_0 := blk_frozen BK112.out 0; have hfz20_1 := blk_frozen BK112.out 1; have hcz21_0 : w18.cell? ⟨gb107, 0, none⟩ = some (.slice A0_0 l0_0.length c0_0) := (blk_cell BK107.out 0).trans rfl; have hfz21_0 := blk_frozen BK107.out 0; have p113 : 0 ≤ (x18_1 : Int) := of_decide_eq_true (by first | (with_reducible assumption) | assumption); have q113 : x18_1 < (l0_0.length : Int) := of_decide_eq_true (by first | (with_reducible assumption) | assumption); obtain ⟨ad113, e113, hx113_0, hx113_1⟩ := at_T69 HR0_0.out x18_1 p113 q113; cases e113; have hn113_0 : ad113.block ≠ gb112 := Nat.ne_of_lt (Nat.lt_of_lt_of_le (by have := World.block_lt_of_cell? _ _ hx113_0; first | rwa [add_block] at this | exact this) GW112.out); have hn113_1 : ad113.block ≠ gb112 := Nat.ne_of_lt (Nat.lt_of_lt_of_le (by have := World.block_lt_of_cell? _ _ hx113_0; first | rwa [add_block] at this | exact this) GW112.out); replace hx113_0 := (HB.out.cell (World.block_lt_of_cell? w _ hx113_0)).trans hx113_0; replace hx113_1 := (HB.out.cell (World.block_lt_of_cell? w _ hx113_1)).trans hx113_1; replace hx113_0 := (cell_far (p := ⟨gb112, 0, none⟩) (by first | (rw [add_block]; exact hn113_0) | (show (Addr.add _ _).block ≠ _; rw [add_block]; exact hn113_0) | exact hn113_0) (.int .i64 ((rd_T69 t108 x18_1).f0))).trans hx113_0; replace hx113_1 := (cell_far (p := ⟨gb112, 0, none⟩) (by first | (rw [add_block]; exact hn113_0) | (show (Addr.add _ _).block ≠ _; rw [add_block]; exact hn113_0) | exact hn113_0) (.int .i64 ((rd_T69 t108 x18_1).f0))).trans hx113_1; replace hx113_0 := (cell_far (p := ⟨gb112, 1, none⟩) (by first | (rw [add_block]; exact hn113_1) | (show (Addr.add _ _).block ≠ _; rw [add_block]; exact hn113_1) | exact hn113_1) (.int .i64 ((rd_T69 t108 x18_1).f1))).trans hx113_0; replace hx113_1 := (cell_far (p := ⟨gb112, 1, none⟩) (by first | (rw [add_block]; exact hn113_1) | (show (Addr.add _ _).block ≠ _; rw [add_block]; exact hn113_1) | exact hn113_1) (.int .i64 ((rd_T69 t108 x18_1).f1))).trans hx113_1; (try have hy113_0 := fun (n_ : Nat) => (show ((((w18.drewN n_).setCell ⟨gb112, 0, none⟩ (.int .i64 ((rd_T69 t108 x18_1).f0))).setCell ⟨gb112, 1, none⟩ (.int .i64 ((rd_T69 t108 x18_1).f1)))).cell? _ = some _ from hx113_0)); (try have hy113_1 := fun (n_ : Nat) => (show ((((w18.drewN n_).setCell ⟨gb112, 0, none⟩ (.int .i64 ((rd_T69 t108 x18_1).f0))).setCell ⟨gb112, 1, none⟩ (.int .i64 ((rd_T69 t108 x18_1).f1)))).cell? _ = some _ from hx113_1)); clear hn113_0; clear hn113_1; replace p113 := eq_true p113; replace q113 := eq_true q113))
                  repeat (go_quiet (first | ((with_reducible refine gate_dst (N := 5) rfl ?_); refine box_event ?hg (N := 5) ?hd (cs := #[.int .i64 0, .int .i64 0]) (t := 69) ?hr ?_; (case hd => rfl); (case hg => rfl); (case hr => first | (go_simp; done) | (go_simp; rfl)); intro gb112 hg w18 hbox hb; have n0_ := Aside0.mk (Kd.R_below (Kd.R_elderB (by (with_reducible repeat (first | apply Kd.R_alloc | apply Kd.R_drewN | apply Kd.R_drew)); exact HO_16.out) gb112 (Nat.le_of_eq hg.symm)) hb); have n1_ := Aside0.mk (blk_below (g := gb107) (o := .cells #[.slice A0_0 l0_0.length c0_0] 45 (0, 0)) (by (with_reducible repeat (first | refine blk_drewN ?_ _ | refine blk_drew ?_ | refine blk_alloc ?_ _)); exact BK107.out) hb); have n2_ := Aside0.mk (below_step (by repeat (first | (with_reducible first | exact HB.out | apply below_alloc | apply pw_below_drewN | apply below_drew1 | refine below_set ?_ GE107.out) | exact HB.out)) hb); have n3_ := Aside0.mk (hbox); have n4_ := Aside0.mk ((by rw [hg]; exact (below_size (by repeat (first | (with_reducible first | exact HB.out | apply below_alloc | apply pw_below_drewN | apply below_drew1 | refine below_set ?_ GE107.out) | exact HB.out))) : w.heap.size ≤ gb112)); have n5_ := Aside0.mk ((by rw [hg]; exact (below_size (by repeat (first | (with_reducible first | exact HB.out | apply below_alloc | apply pw_below_drewN | apply below_drew1 | refine below_set ?_ GE107.out) | exact HB.out))) : w.heap.size ≤ gb112)); have n6_ := Aside0.mk ((by rw [hg]; exact Nat.ne_of_lt (blk_lt (g := gb107) (o := .cells #[.slice A0_0 l0_0.length c0_0] 45 (0, 0)) (by (with_reducible repeat (first | refine blk_drewN ?_ _ | refine blk_drew ?_ | refine blk_alloc ?_ _)); exact BK107.out)) : gb107 ≠ gb112)); have n7_ := Aside0.mk ((by rw [hg]; exact Nat.ne_of_gt (blk_lt (g := gb107) (o := .cells #[.slice A0_0 l0_0.length c0_0] 45 (0, 0)) (by (with_reducible repeat (first | refine blk_drewN ?_ _ | refine blk_drew ?_ | refine blk_alloc ?_ _)); exact BK107.out)) : gb112 ≠ gb107)); clear HO_16; clear BK107; clear HB; have HO_16 := n0_; have BK107 := n1_; have HB := n2_; have BK112 := n3_; have GW112 := n4_; have GE112 := n5_; have NB107_112 := n6_; have NB112_107 := n7_; clear n0_ n1_ n2_ n3_ n4_ n5_ n6_ n7_; clear hb hbox hg; have hnb19 := NB112_107.out; have hnc19 := NB107_112.out; have hcz20_0 : w18.cell? ⟨gb112, 0, none⟩ = some (.int .i64 0) := (blk_cell BK112.out 0).trans rfl; have hcz20_1 : w18.cell? ⟨gb112, 1, none⟩ = some (.int .i64 0) := (blk_cell BK112.out 1).trans rfl; have hfz20_0 := blk_frozen BK112.out 0; have hfz20_1 := blk_frozen BK112.out 1; have hcz21_0 : w18.cell? ⟨gb107, 0, none⟩ = some (.slice A0_0 l0_0.length c0_0) := (blk_cell BK107.out 0).trans rfl; have hfz21_0 := blk_frozen BK107.out 0; have p113 : 0 ≤ (x18_1 : Int) := of_decide_eq_true (by first | (with_reducible assumption) | assumption); have q113 : x18_1 < (l0_0.length : Int) := of_decide_eq_true (by first | (with_reducible assumption) | assumption); obtain ⟨ad113, e113, hx113_0, hx113_1⟩ := at_T69 HR0_0.out x18_1 p113 q113; cases e113; have hn113_0 : ad113.block ≠ gb112 := Nat.ne_of_lt (Nat.lt_of_lt_of_le (by have := World.block_lt_of_cell? _ _ hx113_0; first | rwa [add_block] at this | exact this) GW112.out); have hn113_1 : ad113.block ≠ gb112 := Nat.ne_of_lt (Nat.lt_of_lt_of_le (by have := World.block_lt_of_cell? _ _ hx113_0; first | rwa [add_block] at this | exact this) GW112.out); replace hx113_0 := (HB.out.cell (World.block_lt_of_cell? w _ hx113_0)).trans hx113_0; replace hx113_1 := (HB.out.cell (World.block_lt_of_cell? w _ hx113_1)).trans hx113_1; replace hx113_0 := (cell_far (p := ⟨gb112, 0, none⟩) (by first | (rw [add_block]; exact hn113_0) | (show (Addr.add _ _).block ≠ _; rw [add_block]; exact hn113_0) | exact hn113_0) (.int .i64 ((rd_T69 t108 x18_1).f0))).trans hx113_0; replace hx113_1 := (cell_far (p := ⟨gb112, 0, none⟩) (by first | (rw [add_block]; exact hn113_0) | (show (Addr.add _ _).block ≠ _; rw [add_block]; exact hn113_0) | exact hn113_0) (.int .i64 ((rd_T69 t108 x18_1).f0))).trans hx113_1; replace hx113_0 := (cell_far (p := ⟨gb112, 1, none⟩) (by first | (rw [add_block]; exact hn113_1) | (show (Addr.add _ _).block ≠ _; rw [add_block]; exact hn113_1) | exact hn113_1) (.int .i64 ((rd_T69 t108 x18_1).f1))).trans hx113_0; replace hx113_1 := (cell_far (p := ⟨gb112, 1, none⟩) (by first | (rw [add_block]; exact hn113_1) | (show (Addr.add _ _).block ≠ _; rw [add_block]; exact hn113_1) | exact hn113_1) (.int .i64 ((rd_T69 t108 x18_1).f1))).trans hx113_1; (try have hy113_0 := fun (n_ : Nat) => (show ((((w18.drewN n_).setCell ⟨gb112, 0, none⟩ (.int .i64 ((rd_T69 t108 x18_1).f0))).setCell ⟨gb112, 1, none⟩ (.int .i64 ((rd_T69 t108 x18_1).f1)))).cell? _ = some _ from hx113_0)); (try have hy113_1 := fun (n_ : Nat) => (show ((((w18.drewN n_).setCell ⟨gb112, 0, none⟩ (.int .i64 ((rd_T69 t108 x18_1).f0))).setCell ⟨gb112, 1, none⟩ (.int .i64 ((rd_T69 t108 x18_1).f1)))).cell? _ = some _ from hx113_1)); clear hn113_0; clear hn113_1; replace p113 := eq_true p113; replace q113 := eq_true q113)); try go_wp2_with (first | ((with_reducible refine gate_dst (N := 5) rfl ?_); refine box_event ?hg (N := 5) ?hd (cs := #[.int .i64 0, .int .i64 0]) (t := 69) ?hr ?_; (case hd => rfl); (case hg => rfl); (case hr => first | (go_simp; done) | (go_simp; rfl)); intro gb112 hg w18 hbox hb; have n0_ := Aside0.mk (Kd.R_below (Kd.R_elderB (by (with_reducible repeat (first | apply Kd.R_alloc | apply Kd.R_drewN | apply Kd.R_drew)); exact HO_16.out) gb112 (Nat.le_of_eq hg.symm)) hb); have n1_ := Aside0.mk (blk_below (g := gb107) (o := .cells #[.slice A0_0 l0_0.length c0_0] 45 (0, 0)) (by (with_reducible repeat (first | refine blk_drewN ?_ _ | refine blk_drew ?_ | refine blk_alloc ?_ _)); exact BK107.out) hb); have n2_ := Aside0.mk (below_step (by repeat (first | (with_reducible first | exact HB.out | apply below_alloc | apply pw_below_drewN | apply below_drew1 | refine below_set ?_ GE107.out) | exact HB.out)) hb); have n3_ := Aside0.mk (hbox); have n4_ := Aside0.mk ((by rw [hg]; exact (below_size (by repeat (first | (with_reducible first | exact HB.out | apply below_alloc | apply pw_below_drewN | apply below_drew1 | refine below_set ?_ GE107.out) | exact HB.out))) : w.heap.size ≤ gb112)); have n5_ := Aside0.mk ((by rw [hg]; exact (below_size (by repeat (first | (with_reducible first | exact HB.out | apply below_alloc | apply pw_below_drewN | apply below_drew1 | refine below_set ?_ GE107.out) | exact HB.out))) : w.heap.size ≤ gb112)); have n6_ := Aside0.mk ((by rw [hg]; exact Nat.ne_of_lt (blk_lt (g := gb107) (o := .cells #[.slice A0_0 l0_0.length c0_0] 45 (0, 0)) (by (with_reducible repeat (first | refine blk_drewN ?_ _ | refine blk_drew ?_ | refine blk_alloc ?_ _)); exact BK107.out)) : gb107 ≠ gb112)); have n7_ := Aside0.mk ((by rw [hg]; exact Nat.ne_of_gt (blk_lt (g := gb107) (o := .cells #[.slice A0_0 l0_0.length c0_0] 45 (0, 0)) (by (with_reducible repeat (first | refine blk_drewN ?_ _ | refine blk_drew ?_ | refine blk_alloc ?_ _)); exact BK107.out)) : gb112 ≠ gb107)); clear HO_16; clear BK107; clear HB; have HO_16 := n0_; have BK107 := n1_; have HB := n2_; have BK112 := n3_; have GW112 := n4_; have GE112 := n5_; have NB107_112 := n6_; have NB112_107 := n7_; clear n0_ n1_ n2_ n3_ n4_ n5_ n6_ n7_; clear hb hbox hg; have hnb19 := NB112_107.out; have hnc19 := NB107_112.out; have hcz20_0 : w18.cell? ⟨gb112, 0, none⟩ = some (.int .i64 0) := (blk_cell BK112.out 0).trans rfl; have hcz20_1 : w18.cell? ⟨gb112, 1, none⟩ = some (.int .i64 0) := (blk_cell BK112.out 1).trans rfl; have hfz20_0 := blk_frozen BK112.out 0; have hfz20_1 := blk_frozen BK112.out 1; have hcz21_0 : w18.cell? ⟨gb107, 0, none⟩ = some (.slice A0_0 l0_0.length c0_0) := (blk_cell BK107.out 0).trans rfl; have hfz21_0 := blk_frozen BK107.out 0; have p113 : 0 ≤ (x18_1 : Int) := of_decide_eq_true (by first | (with_reducible assumption) | assumption); have q113 : x18_1 < (l0_0.length : Int) := of_decide_eq_true (by first | (with_reducible assumption) | assumption); obtain ⟨ad113, e113, hx113_0, hx113_1⟩ := at_T69 HR0_0.out x18_1 p113 q113; cases e113; have hn113_0 : ad113.block ≠ gb112 := Nat.ne_of_lt (Nat.lt_of_lt_of_le (by have := World.block_lt_of_cell? _ _ hx113_0; first | rwa [add_block] at this | exact this) GW112.out); have hn113_1 : ad113.block ≠ gb112 := Nat.ne_of_lt (Nat.lt_of_lt_of_le (by have := World.block_lt_of_cell? _ _ hx113_0; first | rwa [add_block] at this | exact this) GW112.out); replace hx113_0 := (HB.out.cell (World.block_lt_of_cell? w _ hx113_0)).trans hx113_0; replace hx113_1 := (HB.out.cell (World.block_lt_of_cell? w _ hx113_1)).trans hx113_1; replace hx113_0 := (cell_far (p := ⟨gb112, 0, none⟩) (by first | (rw [add_block]; exact hn113_0) | (show (Addr.add _ _).block ≠ _; rw [add_block]; exact hn113_0) | exact hn113_0) (.int .i64 ((rd_T69 t108 x18_1).f0))).trans hx113_0; replace hx113_1 := (cell_far (p := ⟨gb112, 0, none⟩) (by first | (rw [add_block]; exact hn113_0) | (show (Addr.add _ _).block ≠ _; rw [add_block]; exact hn113_0) | exact hn113_0) (.int .i64 ((rd_T69 t108 x18_1).f0))).trans hx113_1; replace hx113_0 := (cell_far (p := ⟨gb112, 1, none⟩) (by first | (rw [add_block]; exact hn113_1) | (show (Addr.add _ _).block ≠ _; rw [add_block]; exact hn113_1) | exact hn113_1) (.int .i64 ((rd_T69 t108 x18_1).f1))).trans hx113_0; replace hx113_1 := (cell_far (p := ⟨gb112, 1, none⟩) (by first | (rw [add_block]; exact hn113_1) | (show (Addr.add _ _).block ≠ _; rw [add_block]; exact hn113_1) | exact hn113_1) (.int .i64 ((rd_T69 t108 x18_1).f1))).trans hx113_1; (try have hy113_0 := fun (n_ : Nat) => (show ((((w18.drewN n_).setCell ⟨gb112, 0, none⟩ (.int .i64 ((rd_T69 t108 x18_1).f0))).setCell ⟨gb112, 1, none⟩ (.int .i64 ((rd_T69 t108 x18_1).f1)))).cell? _ = some _ from hx113_0)); (try have hy113_1 := fun (n_ : Nat) => (show ((((w18.drewN n_).setCell ⟨gb112, 0, none⟩ (.int .i64 ((rd_T69 t108 x18_1).f0))).setCell ⟨gb112, 1, none⟩ (.int .i64 ((rd_T69 t108 x18_1).f1)))).cell? _ = some _ from hx113_1)); clear hn113_0; clear hn113_1; replace p113 := eq_true p113; replace q113 := eq_true q113)))
                  go_roundg k1
                  case measure => have := HK1.out; omega
                  case rel => exact ⟨(wrap64 (x18_1 + 1)), (by first | rfl | (simp; done) | (simp [*]; done)), H', ⟨by have := HK1.out; omega⟩, ⟨by (with_reducible repeat (first | apply Kd.R_alloc | apply Kd.R_drewN | apply Kd.R_drew)); exact Kd.R_mono (Kd.R_far (p := ⟨gb112, 1, none⟩) (Kd.R_far (p := ⟨gb112, 0, none⟩) (Kd.R_mono HO_16.out (fun k_ hk => (⟨hk, hk.2⟩ : _ ∧ k_ ≠ gb112))) (fun _ hk => hk.2) (.int .i64 ((rd_T69 t108 x18_1).f0))) (fun _ hk => hk.2) (.int .i64 ((rd_T69 t108 x18_1).f1))) (fun _ hk => trivial)⟩, ⟨by (with_reducible repeat (first | refine blk_drewN ?_ _ | refine blk_drew ?_ | refine blk_alloc ?_ _)); refine blk_far ?_ NB107_112.out _; (with_reducible repeat (first | refine blk_drewN ?_ _ | refine blk_drew ?_ | refine blk_alloc ?_ _)); refine blk_far ?_ NB107_112.out _; (with_reducible repeat (first | refine blk_drewN ?_ _ | refine blk_drew ?_ | refine blk_alloc ?_ _)); exact BK107.out⟩, ⟨by repeat (first | (with_reducible first | exact HB.out | apply below_alloc | apply pw_below_drewN | apply below_drew1 | refine below_set ?_ GE107.out | refine below_set ?_ GE112.out) | exact HB.out)⟩⟩
              · rw [if_neg c12] at H
                exact absurd H (by simp)
            · rw [if_neg c11] at H
              exact absurd H (by simp)
          · rw [if_neg c10] at H
            exact absurd H (by simp)
        · rw [if_neg c9] at H
          have c9b0 : decide (x18_1 < (t108.length : Int)) = false := decide_eq_false c9
          clear c9
          obtain rfl := Option.some.inj H
          go_wp2
          repeat (go_quiet (fail); try go_wp2)
          go_ret
          exact ⟨by first | rfl | (simp [errW_none, errW_some] <;> rfl) | (simp [*, errW_none, errW_some] <;> rfl), by repeat (first | (with_reducible first | exact HB.out | apply below_alloc | apply pw_below_drewN | apply below_drew1 | refine below_set ?_ GE107.out) | exact HB.out)⟩
  · rw [if_neg c3] at H
    have c3b0 : ((t108.length : Int) == (l0_0.length : Int)) = false := beq_eq_false_iff_ne.mpr c3
    have c3b1 : ((t108.length : Int) != (l0_0.length : Int)) = true := bne_iff_ne.mpr c3
    have c3b2 : (t108.length == l0_0.length) = false := by first | simpa using c3 | (simp at c3 ⊢; omega)
    obtain rfl := Option.some.inj H
    go_enter Try.func52, Try.ntmps52
    go_wp2_with (first | ((with_reducible refine gate_dst (N := 1) rfl ?_); refine box_event ?hg (N := 1) ?hd (cs := #[.slice A0_0 l0_0.length c0_0]) (t := 45) ?hr ?_; (case hd => rfl); (case hg => rfl); (case hr => first | (go_simp; done) | (go_simp; rfl)); intro gb107 hg w22 hbox hb; have n0_ := Aside0.mk (below_step (by repeat (first | (with_reducible first | exact HB.out | apply below_alloc | apply pw_below_drewN | apply below_drew1) | exact HB.out)) hb); have n1_ := Aside0.mk (hbox); have n2_ := Aside0.mk ((by rw [hg]; exact (below_size (by repeat (first | (with_reducible first | exact HB.out | apply below_alloc | apply pw_below_drewN | apply below_drew1) | exact HB.out))) : w.heap.size ≤ gb107)); have n3_ := Aside0.mk ((by rw [hg]; exact (below_size (by repeat (first | (with_reducible first | exact HB.out | apply below_alloc | apply pw_below_drewN | apply below_drew1) | exact HB.out))) : w.heap.size ≤ gb107)); clear HB; have HB := n0_; have BK107 := n1_; have GW107 := n2_; have GE107 := n3_; clear n0_ n1_ n2_ n3_; clear hb hbox hg; have hcz23_0 : w22.cell? ⟨gb107, 0, none⟩ = some (.slice A0_0 l0_0.length c0_0) := (blk_cell BK107.out 0).trans rfl; have hfz23_0 := blk_frozen BK107.out 0) | (go_at_call 59; (with_reducible refine (cpset_Make.calls _ _ l0_0 t108 _ ?side1 ?side2 A2.out).mono ?_); (case side1 => repeat (first | exact (Kd.C_below HR0_0.out HB.out) | (with_reducible refine Kd.C_alloc ?_ _) | (with_reducible refine Kd.C_drewN ?_ _) | (with_reducible refine Kd.C_drew ?_))); (case side2 => exact HC0_0.out); rintro e w24 ⟨v109, rfl, ho0, hb⟩; have n0_ := Aside0.mk (Kd.R_lower ho0 (below_size (by repeat (first | (with_reducible first | exact HB.out | apply below_alloc | apply pw_below_drewN | apply below_drew1 | refine below_set ?_ GE107.out) | exact HB.out)))); have n1_ := Aside0.mk (blk_below (g := gb107) (o := .cells #[.slice A0_0 l0_0.length c0_0] 45 (0, 0)) (by (with_reducible repeat (first | refine blk_drewN ?_ _ | refine blk_drew ?_ | refine blk_alloc ?_ _)); exact BK107.out) hb); have n2_ := Aside0.mk (below_step (by repeat (first | (with_reducible first | exact HB.out | apply below_alloc | apply pw_below_drewN | apply below_drew1 | refine below_set ?_ GE107.out) | exact HB.out)) hb); clear BK107; clear HB; have HO110 := n0_; have BK107 := n1_; have HB := n2_; clear n0_ n1_ n2_; (try clear hb); (try clear hb2); (try clear hk); (try clear hi); (try clear ho0); obtain ⟨Ao25, co25, eo25⟩ := Kd.R_slice HO110.out; subst eo25; have hcz26_0 : w24.cell? ⟨gb107, 0, none⟩ = some (.slice A0_0 l0_0.length c0_0) := (blk_cell BK107.out 0).trans rfl; have hfz26_0 := blk_frozen BK107.out 0))
    repeat (go_quiet (first | ((with_reducible refine gate_dst (N := 1) rfl ?_); refine box_event ?hg (N := 1) ?hd (cs := #[.slice A0_0 l0_0.length c0_0]) (t := 45) ?hr ?_; (case hd => rfl); (case hg => rfl); (case hr => first | (go_simp; done) | (go_simp; rfl)); intro gb107 hg w22 hbox hb; have n0_ := Aside0.mk (below_step (by repeat (first | (with_reducible first | exact HB.out | apply below_alloc | apply pw_below_drewN | apply below_drew1) | exact HB.out)) hb); have n1_ := Aside0.mk (hbox); have n2_ := Aside0.mk ((by rw [hg]; exact (below_size (by repeat (first | (with_reducible first | exact HB.out | apply below_alloc | apply pw_below_drewN | apply below_drew1) | exact HB.out))) : w.heap.size ≤ gb107)); have n3_ := Aside0.mk ((by rw [hg]; exact (below_size (by repeat (first | (with_reducible first | exact HB.out | apply below_alloc | apply pw_below_drewN | apply below_drew1) | exact HB.out))) : w.heap.size ≤ gb107)); clear HB; have HB := n0_; have BK107 := n1_; have GW107 := n2_; have GE107 := n3_; clear n0_ n1_ n2_ n3_; clear hb hbox hg; have hcz23_0 : w22.cell? ⟨gb107, 0, none⟩ = some (.slice A0_0 l0_0.length c0_0) := (blk_cell BK107.out 0).trans rfl; have hfz23_0 := blk_frozen BK107.out 0) | (go_at_call 59; (with_reducible refine (cpset_Make.calls _ _ l0_0 t108 _ ?side1 ?side2 A2.out).mono ?_); (case side1 => repeat (first | exact (Kd.C_below HR0_0.out HB.out) | (with_reducible refine Kd.C_alloc ?_ _) | (with_reducible refine Kd.C_drewN ?_ _) | (with_reducible refine Kd.C_drew ?_))); (case side2 => exact HC0_0.out); rintro e w24 ⟨v109, rfl, ho0, hb⟩; have n0_ := Aside0.mk (Kd.R_lower ho0 (below_size (by repeat (first | (with_reducible first | exact HB.out | apply below_alloc | apply pw_below_drewN | apply below_drew1 | refine below_set ?_ GE107.out) | exact HB.out)))); have n1_ := Aside0.mk (blk_below (g := gb107) (o := .cells #[.slice A0_0 l0_0.length c0_0] 45 (0, 0)) (by (with_reducible repeat (first | refine blk_drewN ?_ _ | refine blk_drew ?_ | refine blk_alloc ?_ _)); exact BK107.out) hb); have n2_ := Aside0.mk (below_step (by repeat (first | (with_reducible first | exact HB.out | apply below_alloc | apply pw_below_drewN | apply below_drew1 | refine below_set ?_ GE107.out) | exact HB.out)) hb); clear BK107; clear HB; have HO110 := n0_; have BK107 := n1_; have HB := n2_; clear n0_ n1_ n2_; (try clear hb); (try clear hb2); (try clear hk); (try clear hi); (try clear ho0); obtain ⟨Ao25, co25, eo25⟩ := Kd.R_slice HO110.out; subst eo25; have hcz26_0 : w24.cell? ⟨gb107, 0, none⟩ = some (.slice A0_0 l0_0.length c0_0) := (blk_cell BK107.out 0).trans rfl; have hfz26_0 := blk_frozen BK107.out 0)); try go_wp2_with (first | ((with_reducible refine gate_dst (N := 1) rfl ?_); refine box_event ?hg (N := 1) ?hd (cs := #[.slice A0_0 l0_0.length c0_0]) (t := 45) ?hr ?_; (case hd => rfl); (case hg => rfl); (case hr => first | (go_simp; done) | (go_simp; rfl)); intro gb107 hg w22 hbox hb; have n0_ := Aside0.mk (below_step (by repeat (first | (with_reducible first | exact HB.out | apply below_alloc | apply pw_below_drewN | apply below_drew1) | exact HB.out)) hb); have n1_ := Aside0.mk (hbox); have n2_ := Aside0.mk ((by rw [hg]; exact (below_size (by repeat (first | (with_reducible first | exact HB.out | apply below_alloc | apply pw_below_drewN | apply below_drew1) | exact HB.out))) : w.heap.size ≤ gb107)); have n3_ := Aside0.mk ((by rw [hg]; exact (below_size (by repeat (first | (with_reducible first | exact HB.out | apply below_alloc | apply pw_below_drewN | apply below_drew1) | exact HB.out))) : w.heap.size ≤ gb107)); clear HB; have HB := n0_; have BK107 := n1_; have GW107 := n2_; have GE107 := n3_; clear n0_ n1_ n2_ n3_; clear hb hbox hg; have hcz23_0 : w22.cell? ⟨gb107, 0, none⟩ = some (.slice A0_0 l0_0.length c0_0) := (blk_cell BK107.out 0).trans rfl; have hfz23_0 := blk_frozen BK107.out 0) | (go_at_call 59; (with_reducible refine (cpset_Make.calls _ _ l0_0 t108 _ ?side1 ?side2 A2.out).mono ?_); (case side1 => repeat (first | exact (Kd.C_below HR0_0.out HB.out) | (with_reducible refine Kd.C_alloc ?_ _) | (with_reducible refine Kd.C_drewN ?_ _) | (with_reducible refine Kd.C_drew ?_))); (case side2 => exact HC0_0.out); rintro e w24 ⟨v109, rfl, ho0, hb⟩; have n0_ := Aside0.mk (Kd.R_lower ho0 (below_size (by repeat (first | (with_reducible first | exact HB.out | apply below_alloc | apply pw_below_drewN | apply below_drew1 | refine below_set ?_ GE107.out) | exact HB.out)))); have n1_ := Aside0.mk (blk_below (g := gb107) (o := .cells #[.slice A0_0 l0_0.length c0_0] 45 (0, 0)) (by (with_reducible repeat (first | refine blk_drewN ?_ _ | refine blk_drew ?_ | refine blk_alloc ?_ _)); exact BK107.out) hb); have n2_ := Aside0.mk (below_step (by repeat (first | (with_reducible first | exact HB.out | apply below_alloc | apply pw_below_drewN | apply below_drew1 | refine below_set ?_ GE107.out) | exact HB.out)) hb); clear BK107; clear HB; have HO110 := n0_; have BK107 := n1_; have HB := n2_; clear n0_ n1_ n2_; (try clear hb); (try clear hb2); (try clear hk); (try clear hi); (try clear ho0); obtain ⟨Ao25, co25, eo25⟩ := Kd.R_slice HO110.out; subst eo25; have hcz26_0 : w24.cell? ⟨gb107, 0, none⟩ = some (.slice A0_0 l0_0.length c0_0) := (blk_cell BK107.out 0).trans rfl; have hfz26_0 := blk_frozen BK107.out 0)))
    go_ret
    exact ⟨by first | rfl | (simp [errW_none, errW_some] <;> rfl) | (simp [*, errW_none, errW_some] <;> rfl), by repeat (first | (with_reducible first | exact HB.out | apply below_alloc | apply pw_below_drewN | apply below_drew1 | refine below_set ?_ GE107.out) | exact HB.out)⟩
def codepoint_Valid.f (a0 : Int) : Option (Bool) := if a0 ≥ 0 then (some (decide (a0 ≤ 1114111))) else (some false)
set_option maxHeartbeats 8000000 in
set_option maxRecDepth 100000 in
theorem codepoint_Valid.calls (a0 : Int) (r : Bool) (w : World) (h : codepoint_Valid.f a0 = some r) :
    Calls Try.prog 53 #[.int .i64 a0] w fun e w' => e = .returned (.bool r) ∧ Drawn0 w w' := by
  have H : (if a0 ≥ 0 then (some (decide (a0 ≤ 1114111))) else (some false)) = some r := h
  clear h
  by_cases c2 : a0 ≥ 0
  · rw [if_pos c2] at H
    have c2b0 : decide (0 ≤ a0) = true := decide_eq_true c2
    clear c2
    obtain rfl := Option.some.inj H
    go_enter Try.func53, Try.ntmps53
    go_wp2
    go_ret
    exact ⟨by first | rfl | (simp; done) | (simp [*]; done), by repeat (first | exact Drawn0.refl _ | apply Drawn0.step)⟩
  · rw [if_neg c2] at H
    have c2b0 : decide (0 ≤ a0) = false := decide_eq_false c2
    clear c2
    obtain rfl := Option.some.inj H
    go_enter Try.func53, Try.ntmps53
    go_wp2
    go_ret
    exact ⟨by first | rfl | (simp; done) | (simp [*]; done), by repeat (first | exact Drawn0.refl _ | apply Drawn0.step)⟩
end Go.Proofs.Ytcpicopaobhlcaa.Q
end
section
namespace Go.Proofs.Ytcpicopaobhlcaa.Q
open Go.RowKit Go.Proofs.YtcpicopaobhlcaaW.PrintWords Go.Proofs.YtcpicopaobhlcaaW.PrintLast Go.Proofs.YtcpicopaobhlcaaW.PrintMore
set_option linter.unusedVariables false
theorem ccInfo : (Try.prog.info? 45).map (fun i => (i.zero, i.size, i.bytes)) = some (some (.agg #[(.slice none 0 0)]), 1, 24) := by kernel_rfl
set_option linter.unusedSimpArgs false
abbrev kSt : Kd S45 := k45
theorem reps1 {α : Type} {R : α → List Value → Prop} {ps : List α} {cs : List Value} (h : Reps R 1 ps cs) : cs.length = ps.length ∧ ∀ (j : Nat) (p : α), ps[j]? = some p → ∃ u, cs[j]? = some u ∧ R p [u] := by
  obtain ⟨hl, hp⟩ := h
  rw [Nat.mul_one] at hl
  refine ⟨hl, fun j p hj => ?_⟩
  have hjl : j < cs.length := by rw [hl]; exact (List.getElem?_eq_some_iff.1 hj).1
  have h1 := hp j p hj
  rw [Nat.mul_one, List.drop_eq_getElem_cons hjl] at h1
  exact ⟨cs[j], List.getElem?_eq_getElem hjl, h1⟩
theorem reps1_of {α : Type} {R : α → List Value → Prop} {ps : List α} {cs : List Value} (hl : cs.length = ps.length) (hp : ∀ (j : Nat) (p : α), ps[j]? = some p → ∃ u, cs[j]? = some u ∧ R p [u]) : Reps R 1 ps cs := by
  refine ⟨by rw [Nat.mul_one]; exact hl, fun j p hj => ?_⟩
  obtain ⟨u, hu, hr⟩ := hp j p hj
  obtain ⟨hjl, e⟩ := List.getElem?_eq_some_iff.1 hu
  rw [Nat.mul_one, List.drop_eq_getElem_cons hjl, e]
  exact hr
theorem reps1_append {α : Type} {R : α → List Value → Prop} {ps qs : List α} {cs ds : List Value} (h : Reps R 1 ps cs) (k : Reps R 1 qs ds) : Reps R 1 (ps ++ qs) (cs ++ ds) := by
  obtain ⟨h1, h2⟩ := reps1 h
  obtain ⟨k1, k2⟩ := reps1 k
  refine reps1_of (by rw [List.length_append, List.length_append, h1, k1]) fun j p hj => ?_
  by_cases hlt : j < ps.length
  · rw [List.getElem?_append_left hlt] at hj
    rw [List.getElem?_append_left (by omega)]
    exact h2 j p hj
  · rw [List.getElem?_append_right (by omega)] at hj
    rw [List.getElem?_append_right (by omega), h1]
    exact k2 _ p hj
section
variable {P : Program} {ops : Array Oper} {rest : List Oper} {o : Oper} {a : Act} {Q : Exit → Act → World → Prop}
/-- append(s, make([]T, n)...) onto nil. -/
theorem wpList_append_count {w : World} (hgd : o.guard = none) (s x : Operand) (t u : TypeId) (ho : o.op = .call { callee := .builtin .append, args := #[s, x], argTypes := #[t, u] })
    (e : TypeId) (i : TypeInfo) (z : Value) (ht : P.underlying t = some (.slice e)) (hu : P.underlying u = some (.int .i64)) (hi : P.info? e = some i) (hz : i.zero = some z) (hs1 : i.size = 1) (hzs : z.cells.size = 1) (n : Nat) (h0 : 0 < n) (hb : n < 1000000000) (hby : i.bytes ≤ 64)
    (hs : a.eval s = .slice none 0 0) (hx : a.eval x = .int .i64 n)
    (h : ∀ cap cur, n ≤ cap → cap ≤ maxLen → cur.size = cap → wpList P ops Q rest (a.put o.dst (.slice (some ⟨w.heap.size, 0, none⟩) n cap)) (w.drew.alloc (.cells cur e))) :
    wpList P ops Q (o :: rest) a w := by
  have hn : n ≠ 0 := by omega
  have hge := grownCap_ge w n 0 e
  have hmx := grownCap_le_maxLen w n 0 e (by unfold maxLen; omega)
  have hr : (Builtin.append_ #[t, u] o.type #[.slice none 0 0, .int .i64 n]).run P w = .ok (.slice (some ⟨w.heap.size, 0, none⟩) n (grownCap w n 0 e)) (w.drew.alloc (.cells (Builtin.zeroCells z.cells n ++ Builtin.zeroCells z.cells (grownCap w n 0 e - n)) e)) := by
    have h63' : ¬ (9223372036854775807 < (n : Int)) := by omega
    have hmul : n * i.bytes ≤ 1000000000 * 64 := Nat.mul_le_mul (by omega) hby
    have h48' : ¬ (281474976710656 < n * i.bytes) := by omega
    have h48i : ¬ ((281474976710656 : Int) < (n : Int) * (i.bytes : Int)) := by
      rw [← Int.natCast_mul]; omega
    have hw : IntKind.i64.wrap (n : Int) = n := by rw [IntWalk.i64_in _ (by omega)]
    have hneg : ¬ ((n : Int) < 0) := by omega
    simp [Builtin.append_, run_underlying ht, run_underlying hu, sizeOf, typeInfo, zeroValue, hi, hz, hn, h63', h48', h48i, hw, hneg, hs1, nextslicecap_zero h0, Question.forced, run_firstCells_none, newRow, grownCap, asInt, asIntOf]
  refine wpList_plain hgd fun K hK => ?_
  unfold Oper.wp execOp
  simp only [ho, resolve, invoke, builtin, Sem.run_bind, Sem.run_pure, Result.andThen_ok, List.map_toArray, List.map_cons, List.map_nil, hs, hx, hr]
  refine hK _ _ (h _ _ hge hmx ?_)
  rw [Array.size_append, size_zeroCells, size_zeroCells, hzs]
  omega
end
section
variable {P : Program} {ops : Array Oper} {rest : List Oper} {o : Oper} {a : Act} {Q : Exit → Act → World → Prop}
/-- append(v, ys...) onto a row of one's own, ys read, nil let in. -/
theorem wpList_append_src {α : Type} {R : α → List Value → Prop} {w : World} (hgd : o.guard = none) (s x : Operand) (t : TypeId) (ho : o.op = .call { callee := .builtin .append, args := #[s, x], argTypes := #[t, t] })
    (base : Nat) (e : TypeId) (i : TypeInfo) (z : Value) (bytes : Nat) (ht : P.underlying t = some (.slice e)) (hi : P.info? e = some i) (hz : i.zero = some z) (hs1 : i.size = 1) (hby : i.bytes = bytes) (hzs : z.cells.size = 1)
    (v : Value) (n : Nat) (xs : List Value) (hs : a.eval s = v) (hown : w.ownsRow base e 1 v n xs)
    (A : Option Addr) (m c : Nat) (ys : List α) (hx : a.eval x = .slice A m c) (HR : ReadsRow R 1 w A m ys) (h1 : ∀ p cs, R p cs → ∀ u ∈ cs, u.oneCell' = true)
    (h63 : n + m ≤ maxLen) (hbytes : (n + m) * bytes ≤ 140737488355328) (hbase : base ≤ w.heap.size)
    (h : ∀ v' w' news, Reps R 1 ys news → w'.ownsRow base e 1 v' (n + m) (xs ++ news) → w.grownBy w' v.ownBlock → wpList P ops Q rest (a.put o.dst v') w') :
    wpList P ops Q (o :: rest) a w := by
  rcases A with _ | ad
  · have h0 : m = 0 := by
      rcases Nat.eq_zero_or_pos m with h0 | h0
      · exact h0
      · obtain ⟨ad, h, _⟩ := HR.2.2 h0
        cases h
    subst h0
    obtain rfl : ys = [] := List.eq_nil_of_length_eq_zero HR.1
    have hr : (Builtin.append_ #[t, t] o.type #[v, .slice none 0 c]).run P w = .ok v w := by
      rcases hown.2 with ⟨rfl, hn⟩ | ⟨g, cap, cur, rfl, _, _, hnc, _⟩
      · simp [Builtin.append_, run_underlying ht, sizeOf, typeInfo, hi, Builtin.lenOf, Builtin.firstCells]
      · simp [Builtin.append_, run_underlying ht, sizeOf, typeInfo, hi, Builtin.lenOf, Builtin.firstCells, hnc, storeCells]
    refine wpList_plain hgd fun K hK => ?_
    unfold Oper.wp execOp
    simp only [ho, resolve, invoke, builtin, Sem.run_bind, Sem.run_pure, Result.andThen_ok, List.map_toArray, List.map_cons, List.map_nil, hs, hx, hr]
    exact hK _ _ (h v w [] (Reps.none _ _) (by rw [List.append_nil]; exact hown) (World.grownBy.refl w _))
  · obtain ⟨news, hnr, hnc⟩ := ReadsRow.inner_ HR
    obtain ⟨hl, hp⟩ := reps1 hnr
    have hone : ∀ u ∈ news, u.oneCell' = true := by
      intro u hu
      obtain ⟨q, hq, rfl⟩ := List.mem_iff_getElem.1 hu
      obtain ⟨u, hu, hr⟩ := hp q (ys[q]'(by omega)) (List.getElem?_eq_getElem _)
      rw [List.getElem?_eq_getElem hq] at hu
      cases hu
      exact h1 _ _ hr _ (by simp)
    refine Go.wpList_append_own_at w hgd s x t ho base e i z 1 bytes ht hi hz hs1 hby hzs (by decide) v n xs hs hown ad m c news hx (by rw [hl, Nat.mul_one]; exact HR.1) hnc hone h63 hbytes hbase fun v' w' r1 r2 r3 _ => ?_
    exact h v' w' news hnr r1 r2
end
set_option maxHeartbeats 2000000 in
theorem grow_calls (n : Nat) (hn : n < 1000000000) (w : World) :
    Calls Try.prog 62 #[.slice none 0 0, .int .i64 n] w fun e w' => ∃ v, e = .returned v ∧ w'.ownsRow w.heap.size 45 1 v 0 [] ∧ Below w.heap.size w w' := by
  obtain ⟨i0, hi, hzz⟩ := Option.map_eq_some_iff.1 ccInfo
  simp only [Prod.mk.injEq] at hzz
  obtain ⟨hz0, hz1, hz2⟩ := hzz
  have HZ := Aside0.mk hz0
  have HZ1 := Aside0.mk hz1
  have HZ2 := Aside0.mk hz2
  have HI := Aside0.mk hi
  clear hz0 hz1 hz2 hi
  by_cases h0 : n = 0
  · subst h0
    go_enter Try.func62, Try.ntmps62
    go_wp2
    go_ret
    exact ⟨_, rfl, World.ownsRow_nil _ _ _ _, Below.refl _ _⟩
  · have hp : decide (0 < n) = true := decide_eq_true (by omega)
    have hq : decide ((n : Int) < 0) = false := decide_eq_false (by omega)
    have hw : wrap64 (n : Int) = (n : Int) := by unfold wrap64; omega
    have hpn : 0 < n := by omega
    have HP := Aside0.mk hpn
    have HN := Aside0.mk hn
    clear hpn h0 hn
    have hne : ((n : Int) = 0) = False := eq_false (by have := HP.out; omega)
    go_enter Try.func62, Try.ntmps62
    go_wp2_with (at_builtin; refine wpList_append_count rfl (.tmp 20) (.tmp 21) 38 3 rfl 45 i0 _ Try.underlying38 Try.underlying3 HI.out HZ.out HZ1.out rfl n HP.out HN.out (by rw [HZ2.out]; decide) (by rfl) (congrArg (Value.int .i64) hw) ?_; intro cap cur hcap hmx hsz; have HCAP := Aside0.mk hcap; have HMX := Aside0.mk hmx; have HSZ := Aside0.mk hsz; clear hcap hmx hsz)
    go_ret
    exact ⟨_, rfl, own_drew (World.ownsRow_made w cur cap (Nat.le_refl _) HMX.out (by rw [HSZ.out, Nat.mul_one])), below_drew1 (below_alloc (Below.refl _ w) _)⟩
/-- What the first k slices hold. -/
def preL (l0 l1 l2 : List S45) : Nat → List S45
  | 0 => []
  | 1 => l0
  | 2 => l0 ++ l1
  | _ => l0 ++ l1 ++ l2
set_option maxHeartbeats 4000000 in
set_option maxRecDepth 100000 in
theorem concat_calls (b : Nat) (A0 A1 A2 : Option Addr) (c0 c1 c2 : Nat) (l0 l1 l2 : List S45) (w : World) (hblk : w.heap[b]? = some (.cells #[.slice A0 l0.length c0, .slice A1 l1.length c1, .slice A2 l2.length c2] 38 (0, 0)))
    (h0 : Kd.C kSt w A0 l0.length l0) (h1 : Kd.C kSt w A1 l1.length l1) (h2 : Kd.C kSt w A2 l2.length l2) (hl : l0.length + l1.length + l2.length < 1000000000) :
    Calls Try.prog 58 #[.slice (some ⟨b, 0, none⟩) 3 3] w fun e w' => ∃ v inner, e = .returned v ∧ w'.ownsRow w.heap.size 45 1 v (l0 ++ l1 ++ l2).length inner ∧ Reps (kSt.K w) 1 (l0 ++ l1 ++ l2) inner ∧ Below w.heap.size w w' := by
  obtain ⟨i0, hi, hzz⟩ := Option.map_eq_some_iff.1 ccInfo
  simp only [Prod.mk.injEq] at hzz
  obtain ⟨hz0, hz1, hz2⟩ := hzz
  have HZ := Aside0.mk hz0
  have HZ1 := Aside0.mk hz1
  have HZ2 := Aside0.mk hz2
  have HI := Aside0.mk hi
  clear hz0 hz1 hz2 hi
  have hc0 : w.cell? ⟨b, 0, none⟩ = some (.slice A0 l0.length c0) := (blk_cell hblk 0).trans rfl
  have hc1 : w.cell? ⟨b, 1, none⟩ = some (.slice A1 l1.length c1) := (blk_cell hblk 1).trans rfl
  have hc2 : w.cell? ⟨b, 2, none⟩ = some (.slice A2 l2.length c2) := (blk_cell hblk 2).trans rfl
  have H0 := Aside0.mk h0
  have H1 := Aside0.mk h1
  have H2 := Aside0.mk h2
  have HL := Aside0.mk hl
  have HBK := Aside0.mk hblk
  clear h0 h1 h2 hl hblk
  go_enter Try.func58, Try.ntmps58
  go_wp2
  go_loopw [3, 11] (fun z i wr => ∃ k m : Nat, k ≤ 3 ∧ i = .int .i64 k ∧ z = .int .i64 m ∧ Aside0 (m = (preL l0 l1 l2 k).length) ∧ w = wr) (fun _ i _ => 3 - (intOf i).toNat)
  case atStart => exact ⟨0, 0, by decide, rfl, rfl, ⟨rfl⟩, rfl⟩
  case round =>
    obtain ⟨k, m, hk, rfl, rfl, HM, rfl⟩ := hrel
    match k, hk with
    | 0, _ =>
      have hm : m = (preL l0 l1 l2 0).length := HM.out
      simp only [preL, List.length_nil, List.length_append] at hm
      have hw : wrap64 ((m : Int) + (l0.length : Int)) = ((m + l0.length : Nat) : Int) := by have := HL.out; unfold wrap64; omega
      have hd : decide (((m + l0.length : Nat) : Int) < 0) = false := decide_eq_false (by omega)
      have HM2 : Aside0 (m + l0.length = (preL l0 l1 l2 1).length) := ⟨by simp only [preL, List.length_append]; omega⟩
      generalize hq : m + l0.length = q at *
      clear hm hq HM
      go_wp2
      go_roundw
      case rel => exact ⟨1, q, by decide, rfl, by rw [hw], HM2, by first | trivial | rfl⟩
      case measure => simp [intOf]
    | 1, _ =>
      have hm : m = (preL l0 l1 l2 1).length := HM.out
      simp only [preL, List.length_nil, List.length_append] at hm
      have hw : wrap64 ((m : Int) + (l1.length : Int)) = ((m + l1.length : Nat) : Int) := by have := HL.out; unfold wrap64; omega
      have hd : decide (((m + l1.length : Nat) : Int) < 0) = false := decide_eq_false (by omega)
      have HM2 : Aside0 (m + l1.length = (preL l0 l1 l2 2).length) := ⟨by simp only [preL, List.length_append]; omega⟩
      generalize hq : m + l1.length = q at *
      clear hm hq HM
      go_wp2
      go_roundw
      case rel => exact ⟨2, q, by decide, rfl, by rw [hw], HM2, by first | trivial | rfl⟩
      case measure => simp [intOf]
    | 2, _ =>
      have hm : m = (preL l0 l1 l2 2).length := HM.out
      simp only [preL, List.length_nil, List.length_append] at hm
      have hw : wrap64 ((m : Int) + (l2.length : Int)) = ((m + l2.length : Nat) : Int) := by have := HL.out; unfold wrap64; omega
      have hd : decide (((m + l2.length : Nat) : Int) < 0) = false := decide_eq_false (by omega)
      have HM2 : Aside0 (m + l2.length = (preL l0 l1 l2 3).length) := ⟨by simp only [preL, List.length_append]; omega⟩
      generalize hq : m + l2.length = q at *
      clear hm hq HM
      go_wp2
      go_roundw
      case rel => exact ⟨3, q, by decide, rfl, by rw [hw], HM2, by first | trivial | rfl⟩
      case measure => simp [intOf]
    | 3, _ =>
      obtain rfl : m = (preL l0 l1 l2 3).length := HM.out
      have hsz : (preL l0 l1 l2 3).length < 1000000000 := by have := HL.out; simp only [preL, List.length_append]; omega
      have HC0 := Aside0.mk hc0
      have HC1 := Aside0.mk hc1
      have HC2 := Aside0.mk hc2
      clear hc0 hc1 hc2
      go_wp2_with (go_at_call 62; refine (grow_calls _ hsz _).mono ?_; rintro e w1 ⟨v0, rfl, ho, hb⟩; have HO := Aside0.mk ho; have HB := Aside0.mk hb; clear ho hb)
      clear HM
      go_loopw [6, 27] (fun v i wr => ∃ (k : Nat) (inner : List Value), k ≤ 3 ∧ i = .int .i64 k ∧ Aside0 (wr.ownsRow w.heap.size 45 1 v (preL l0 l1 l2 k).length inner) ∧ Aside0 (Reps (kSt.K w) 1 (preL l0 l1 l2 k) inner) ∧ Aside0 (Below w.heap.size w wr)) (fun _ i _ => 3 - (intOf i).toNat)
      case atStart => exact ⟨0, [], by decide, rfl, HO, ⟨Reps.none _ _⟩, HB⟩
      case round =>
      clear HO HB
      obtain ⟨k, inner, hk, rfl, HO, HR1, HB⟩ := hrel
      match k, hk with
      | 0, _ =>
        have hcx := (HB.out.cell (p := ⟨b, 0, none⟩) (World.block_lt_of_cell? w _ HC0.out)).trans HC0.out
        have HRX : Aside0 (ReadsRow (kSt.K w) 1 wr A0 l0.length l0) := ⟨ReadsRow.imp_ H0.out HB.out (fun _ _ h => h)⟩
        have HBD : Aside0 ((preL l0 l1 l2 0).length + l0.length < 1000000000) := ⟨by have := HL.out; simp only [preL, List.length_append, List.length_nil]; omega⟩
        go_wp2_with (at_builtin; refine wpList_append_src (R := kSt.K w) rfl (.tmp 31) (.tmp 32) 38 rfl w.heap.size 45 i0 (.agg #[.slice none 0 0]) 24 Try.underlying38 HI.out HZ.out HZ1.out HZ2.out rfl _ _ inner (by rfl) HO.out A0 _ c0 l0 (by rfl) HRX.out (fun p cs h => kSt.K_one h) (by have := HBD.out; unfold maxLen; omega) (by have := HBD.out; omega) HB.out.size ?_; intro v2 w2 news hnews hown hg; have HO2 := Aside0.mk hown; have HN2 := Aside0.mk hnews; have HB2 := Aside0.mk (HB.out.grown hg HB.out.size (fun k hk => (World.ownsRow.lt HO.out k hk).1)); clear hown hnews hg)
        go_roundw
        case rel => exact ⟨1, inner ++ news, by decide, rfl, ⟨by have := HO2.out; simpa [preL, Nat.add_assoc] using this⟩, ⟨by have := reps1_append HR1.out HN2.out; simpa [preL] using this⟩, HB2⟩
        case measure => simp [intOf]
      | 1, _ =>
        have hcx := (HB.out.cell (p := ⟨b, 1, none⟩) (World.block_lt_of_cell? w _ HC1.out)).trans HC1.out
        have HRX : Aside0 (ReadsRow (kSt.K w) 1 wr A1 l1.length l1) := ⟨ReadsRow.imp_ H1.out HB.out (fun _ _ h => h)⟩
        have HBD : Aside0 ((preL l0 l1 l2 1).length + l1.length < 1000000000) := ⟨by have := HL.out; simp only [preL, List.length_append, List.length_nil]; omega⟩
        go_wp2_with (at_builtin; refine wpList_append_src (R := kSt.K w) rfl (.tmp 31) (.tmp 32) 38 rfl w.heap.size 45 i0 (.agg #[.slice none 0 0]) 24 Try.underlying38 HI.out HZ.out HZ1.out HZ2.out rfl _ _ inner (by rfl) HO.out A1 _ c1 l1 (by rfl) HRX.out (fun p cs h => kSt.K_one h) (by have := HBD.out; unfold maxLen; omega) (by have := HBD.out; omega) HB.out.size ?_; intro v2 w2 news hnews hown hg; have HO2 := Aside0.mk hown; have HN2 := Aside0.mk hnews; have HB2 := Aside0.mk (HB.out.grown hg HB.out.size (fun k hk => (World.ownsRow.lt HO.out k hk).1)); clear hown hnews hg)
        go_roundw
        case rel => exact ⟨2, inner ++ news, by decide, rfl, ⟨by have := HO2.out; simpa [preL, Nat.add_assoc] using this⟩, ⟨by have := reps1_append HR1.out HN2.out; simpa [preL] using this⟩, HB2⟩
        case measure => simp [intOf]
      | 2, _ =>
        have hcx := (HB.out.cell (p := ⟨b, 2, none⟩) (World.block_lt_of_cell? w _ HC2.out)).trans HC2.out
        have HRX : Aside0 (ReadsRow (kSt.K w) 1 wr A2 l2.length l2) := ⟨ReadsRow.imp_ H2.out HB.out (fun _ _ h => h)⟩
        have HBD : Aside0 ((preL l0 l1 l2 2).length + l2.length < 1000000000) := ⟨by have := HL.out; simp only [preL, List.length_append, List.length_nil]; omega⟩
        go_wp2_with (at_builtin; refine wpList_append_src (R := kSt.K w) rfl (.tmp 31) (.tmp 32) 38 rfl w.heap.size 45 i0 (.agg #[.slice none 0 0]) 24 Try.underlying38 HI.out HZ.out HZ1.out HZ2.out rfl _ _ inner (by rfl) HO.out A2 _ c2 l2 (by rfl) HRX.out (fun p cs h => kSt.K_one h) (by have := HBD.out; unfold maxLen; omega) (by have := HBD.out; omega) HB.out.size ?_; intro v2 w2 news hnews hown hg; have HO2 := Aside0.mk hown; have HN2 := Aside0.mk hnews; have HB2 := Aside0.mk (HB.out.grown hg HB.out.size (fun k hk => (World.ownsRow.lt HO.out k hk).1)); clear hown hnews hg)
        go_roundw
        case rel => exact ⟨3, inner ++ news, by decide, rfl, ⟨by have := HO2.out; simpa [preL, Nat.add_assoc] using this⟩, ⟨by have := reps1_append HR1.out HN2.out; simpa [preL] using this⟩, HB2⟩
        case measure => simp [intOf]
      | 3, _ =>
        go_wp2
        go_ret
        exact ⟨_, inner, rfl, HO.out, HR1.out, HB.out⟩
theorem C_of_row {w W : World} {base : Nat} {v : Value} {xs : List S45} {inner : List Value} (ho : W.ownsRow base 45 1 v xs.length inner) (hr : Reps (kSt.K w) 1 xs inner) (hb : Below w.heap.size w W) :
    ∃ A c, v = .slice A xs.length c ∧ xs.length ≤ c ∧ Kd.C kSt W A xs.length xs := by
  obtain ⟨hl, hp⟩ := reps1 hr
  rcases ho.2 with ⟨rfl, hn⟩ | ⟨g, cap, cur, rfl, hb0, hg, hnc, hcm, hcs, htake⟩
  · obtain rfl : xs = [] := List.eq_nil_of_length_eq_zero hn
    exact ⟨none, 0, rfl, Nat.le_refl _, Kd.C_nil _ _⟩
  · refine ⟨some ⟨g, 0, none⟩, cap, rfl, hnc, rfl, by unfold maxLen at hcm; omega, fun h0 => ⟨⟨g, 0, none⟩, rfl, fun j p hj => ?_⟩⟩
    obtain ⟨u, hu, hK⟩ := hp j p hj
    refine ⟨[u], rfl, kSt.K_below hb hK, fun i z hz => ?_⟩
    cases i with
    | succ i => simp at hz
    | zero =>
      simp at hz
      subst hz
      exact ho.cells (g := g) rfl _ _ (by rw [show j * kSt.sz + 0 = j from by show j * 1 + 0 = j; omega]; exact hu)
set_option maxHeartbeats 4000000 in
set_option maxRecDepth 100000 in
theorem sets_calls (A0 : Option Addr) (c0 : Nat) (l0 : List S45) (A1 : Option Addr) (c1 : Nat) (l1 : List S45) (A2 : Option Addr) (c2 : Nat) (l2 : List S45) (v3 : Value) (w : World) (h3 : v3.oneCell' = true)
    (h0 : Kd.C kSt w A0 l0.length l0) (h1 : Kd.C kSt w A1 l1.length l1) (h2 : Kd.C kSt w A2 l2.length l2) (hl : l0.length + l1.length + l2.length < 1000000000) :
    Calls Try.prog 51 #[.agg #[.slice A0 l0.length c0, .slice A1 l1.length c1, .slice A2 l2.length c2, v3]] w fun e w' => ∃ A c, e = .returned (.slice A (l0 ++ l1 ++ l2).length c) ∧ (l0 ++ l1 ++ l2).length ≤ c ∧ Kd.C kSt w' A (l0 ++ l1 ++ l2).length (l0 ++ l1 ++ l2) ∧ Below w.heap.size w w' := by
  have H0 := Aside0.mk h0
  have H1 := Aside0.mk h1
  have H2 := Aside0.mk h2
  have HL := Aside0.mk hl
  have HS0 := Aside0.mk (Kd.C_alloc (Kd.C_alloc h0 (.cells #[.slice A0 l0.length c0, .slice A1 l1.length c1, .slice A2 l2.length c2, v3] 41)) (.cells #[.slice A0 l0.length c0, .slice A1 l1.length c1, .slice A2 l2.length c2] 38))
  have HS1 := Aside0.mk (Kd.C_alloc (Kd.C_alloc h1 (.cells #[.slice A0 l0.length c0, .slice A1 l1.length c1, .slice A2 l2.length c2, v3] 41)) (.cells #[.slice A0 l0.length c0, .slice A1 l1.length c1, .slice A2 l2.length c2] 38))
  have HS2 := Aside0.mk (Kd.C_alloc (Kd.C_alloc h2 (.cells #[.slice A0 l0.length c0, .slice A1 l1.length c1, .slice A2 l2.length c2, v3] 41)) (.cells #[.slice A0 l0.length c0, .slice A1 l1.length c1, .slice A2 l2.length c2] 38))
  have HBK : Aside0 (((w.alloc (.cells #[.slice A0 l0.length c0, .slice A1 l1.length c1, .slice A2 l2.length c2, v3] 41)).alloc (.cells #[.slice A0 l0.length c0, .slice A1 l1.length c1, .slice A2 l2.length c2] 38)).heap[w.heap.size + 1]? = some (.cells #[.slice A0 l0.length c0, .slice A1 l1.length c1, .slice A2 l2.length c2] 38 (0, 0))) := ⟨by have := heap_alloc_new (w.alloc (.cells #[.slice A0 l0.length c0, .slice A1 l1.length c1, .slice A2 l2.length c2, v3] 41)) (.cells #[.slice A0 l0.length c0, .slice A1 l1.length c1, .slice A2 l2.length c2] 38); rwa [World.size_alloc] at this⟩
  have HCC := Aside0.mk (concat_calls (w.heap.size + 1) A0 A1 A2 c0 c1 c2 l0 l1 l2 _ HBK.out HS0.out HS1.out HS2.out hl)
  clear h0 h1 h2 hl
  go_enter Try.func51, Try.ntmps51
  go_wp2_with (go_at_call 58; go_loud ((with_reducible refine HCC.out.mono ?_)); rintro e w1 ⟨v, inner, rfl, ho, hr, hb⟩; have HO := Aside0.mk ho; have HR := Aside0.mk hr; have HB := Aside0.mk hb; clear ho hr hb)
  go_ret
  obtain ⟨A, c, ev, h1, h2⟩ := C_of_row HO.out HR.out HB.out
  subst ev
  exact ⟨A, c, rfl, h1, h2, below_step (below_alloc (below_alloc (Below.refl _ w) _) _) HB.out⟩
end Go.Proofs.Ytcpicopaobhlcaa.Q
end
