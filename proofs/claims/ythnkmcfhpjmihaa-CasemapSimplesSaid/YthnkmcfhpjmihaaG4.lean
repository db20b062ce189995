/- Lemmas, printed and written for this claim: part 4. -/
import Derived.Test.YthnkmcfhpjmihaaG2
import Derived.Test.YthnkmcfhpjmihaaG3
import Derived.WalkKit
import Derived.WalkSpells
import Derived.IntWalk
section
namespace Go.Proofs.Ythnkmcfhpjmihaa.Q
open Go.RowKit Go.Proofs.YthnkmcfhpjmihaaW.PrintWords Go.Proofs.YthnkmcfhpjmihaaW.PrintLast Go.Proofs.YthnkmcfhpjmihaaW.PrintMore
attribute [local go_sem] max2_int min2_int max_two min_two max_three min_three max_four min_four
set_option linter.unusedVariables false
set_option linter.unusedSimpArgs false
attribute [local go_sem high] eqA33
def cpset_Valid.l0 : Nat → List (S33) → Int → Int → List (S33) → Option (Bool)
 | 0, _, _, _, _ => none
 | k + 1, x16, x17, x18, x124000 => if x18 < x17 then (if 0 ≤ x18 then (if x18 < (x16.length : Int) then (if x18 < (x124000.length : Int) then (if (!(((rd_T33 x16 x18).f0) == ((rd_T33 x124000 x18).f0)) || (!(((rd_T33 x16 x18).f1) == ((rd_T33 x124000 x18).f1)))) = true then (some false) else (cpset_Valid.l0 k x16 x17 (wrap64 (x18 + 1)) x124000)) else (none)) else (none)) else (none)) else (some true)
def cpset_Valid.f (k : Nat) (l0_0 : List (S33)) : Option (Bool) := (cpset_Make.f l0_0).bind fun t124 => (if (t124.length : Int) = (l0_0.length : Int) then (cpset_Valid.l0 k t124 (t124.length : Int) 0 l0_0) else (some false))
set_option maxHeartbeats 8000000 in
set_option maxRecDepth 100000 in
theorem cpset_Valid.calls (k : Nat) (A0_0 : Option Addr) (c0_0 : Nat) (l0_0 : List (S33)) (r : Bool) (w : World) (hr0_0 : Kd.C k33 w A0_0 l0_0.length l0_0) (hc0_0 : l0_0.length ≤ c0_0) (h : cpset_Valid.f k l0_0 = some r) :
  Calls Try.prog 44 #[.agg #[.slice A0_0 l0_0.length c0_0]] w fun e w' => e = .returned (.bool r) ∧ Below w.heap.size w w' := by
 have hu25 := Try.underlying25
 have hu33 := Try.underlying33
 have HR0_0 := aM hr0_0
 have HC0_0 := aM hc0_0
 clear hr0_0 hc0_0
 have HB := aM (Below.refl w.heap.size w)
 have H : ((cpset_Make.f l0_0).bind fun t124 => (if (t124.length : Int) = (l0_0.length : Int) then (cpset_Valid.l0 k t124 (t124.length : Int) 0 l0_0) else (some false))) = some r := h
 clear h
 replace H := Option.bind_eq_some_iff.mp H
 obtain ⟨t124, A20, H⟩ := H
 replace H : (if (t124.length : Int) = (l0_0.length : Int) then (cpset_Valid.l0 k t124 (t124.length : Int) 0 l0_0) else (some false)) = some r := H
 have A2 := aM A20
 clear A20
 by_cases c3 : (t124.length : Int) = (l0_0.length : Int)
 ·rw [if_pos c3] at H
  have c3b0 : ((t124.length : Int) == (l0_0.length : Int)) = true := beq_iff_eq.mpr c3
  have c3b1 : ((t124.length : Int) != (l0_0.length : Int)) = false := bne_eq_false_iff_eq.mpr c3
  have c3b2 : (t124.length == l0_0.length) = true := by first | simpa using c3 | (simp at c3 ⊢; omega)
  clear c3
  have H' := aM H
  clear H
  go_enter Try.func44, Try.ntmps44
  go_wp2_with (first | ((with_reducible refine gate_dst (N := 1) rfl ?_); refine box_event ?hg (N := 1) ?hd (cs := #[.slice A0_0 l0_0.length c0_0]) (t := 25) ?hr ?_; (case hd => rfl); (case hg => rfl); (case hr => first | (go_simp; done) | (go_simp; rfl)); intro gb123 hg w4 hbox hb; have n0_ := aM (bSp (by repeat (first | (with_reducible first | exact HB.out | apply bAl | apply pbN | apply bD1) | exact HB.out)) hb); have n1_ := aM (hbox); have n2_ := aM ((by rw [hg]; exact (bSz (by repeat (first | (with_reducible first | exact HB.out | apply bAl | apply pbN | apply bD1) | exact HB.out))) : w.heap.size ≤ gb123)); have n3_ := aM ((by rw [hg]; exact (bSz (by repeat (first | (with_reducible first | exact HB.out | apply bAl | apply pbN | apply bD1) | exact HB.out))) : w.heap.size ≤ gb123)); clear HB; have HB := n0_; have BK123 := n1_; have GW123 := n2_; have GE123 := n3_; clear n0_ n1_ n2_ n3_; clear hb hbox hg; have hcz5_0 : w4.cell? ⟨gb123, 0, none⟩ = some (.slice A0_0 l0_0.length c0_0) := (bkC BK123.out 0).trans rfl; have hfz5_0 := bkF BK123.out 0) | (go_at_call 64; (with_reducible refine (cpset_Make.calls _ _ l0_0 t124 _ ?side1 ?side2 A2.out).mono ?_); (case side1 => repeat (first | exact (Kd.C_below HR0_0.out HB.out) | (with_reducible refine Kd.C_alloc ?_ _) | (with_reducible refine Kd.C_drewN ?_ _) | (with_reducible refine Kd.C_drew ?_))); (case side2 => exact HC0_0.out); rintro e w6 ⟨v125, rfl, ho0, hb⟩; have n0_ := aM (Kd.R_lower ho0 (bSz (by repeat (first | (with_reducible first | exact HB.out | apply bAl | apply pbN | apply bD1 | refine bSt ?_ GE123.out) | exact HB.out)))); have n1_ := aM (blk_below (g := gb123) (o := .cells #[.slice A0_0 l0_0.length c0_0] 25 (0, 0)) (by (with_reducible repeat (first | refine bkN ?_ _ | refine bkD ?_ | refine bkA ?_ _)); exact BK123.out) hb); have n2_ := aM (bSp (by repeat (first | (with_reducible first | exact HB.out | apply bAl | apply pbN | apply bD1 | refine bSt ?_ GE123.out) | exact HB.out)) hb); clear BK123; clear HB; have HO126 := n0_; have BK123 := n1_; have HB := n2_; clear n0_ n1_ n2_; (try clear hb); (try clear hb2); (try clear hk); (try clear hi); (try clear ho0); obtain ⟨Ao7, co7, eo7⟩ := Kd.R_slice HO126.out; subst eo7; have hcz8_0 : w6.cell? ⟨gb123, 0, none⟩ = some (.slice A0_0 l0_0.length c0_0) := (bkC BK123.out 0).trans rfl; have hfz8_0 := bkF BK123.out 0))
  repeat (go_quiet (first | ((with_reducible refine gate_dst (N := 1) rfl ?_); refine box_event ?hg (N := 1) ?hd (cs := #[.slice A0_0 l0_0.length c0_0]) (t := 25) ?hr ?_; (case hd => rfl); (case hg => rfl); (case hr => first | (go_simp; done) | (go_simp; rfl)); intro gb123 hg w4 hbox hb; have n0_ := aM (bSp (by repeat (first | (with_reducible first | exact HB.out | apply bAl | apply pbN | apply bD1) | exact HB.out)) hb); have n1_ := aM (hbox); have n2_ := aM ((by rw [hg]; exact (bSz (by repeat (first | (with_reducible first | exact HB.out | apply bAl | apply pbN | apply bD1) | exact HB.out))) : w.heap.size ≤ gb123)); have n3_ := aM ((by rw [hg]; exact (bSz (by repeat (first | (with_reducible first | exact HB.out | apply bAl | apply pbN | apply bD1) | exact HB.out))) : w.heap.size ≤ gb123)); clear HB; have HB := n0_; have BK123 := n1_; have GW123 := n2_; have GE123 := n3_; clear n0_ n1_ n2_ n3_; clear hb hbox hg; have hcz5_0 : w4.cell? ⟨gb123, 0, none⟩ = some (.slice A0_0 l0_0.length c0_0) := (bkC BK123.out 0).trans rfl; have hfz5_0 := bkF BK123.out 0) | (go_at_call 64; (with_reducible refine (cpset_Make.calls _ _ l0_0 t124 _ ?side1 ?side2 A2.out).mono ?_); (case side1 => repeat (first | exact (Kd.C_below HR0_0.out HB.out) | (with_reducible refine Kd.C_alloc ?_ _) | (with_reducible refine Kd.C_drewN ?_ _) | (with_reducible refine Kd.C_drew ?_))); (case side2 => exact HC0_0.out); rintro e w6 ⟨v125, rfl, ho0, hb⟩; have n0_ := aM (Kd.R_lower ho0 (bSz (by repeat (first | (with_reducible first | exact HB.out | apply bAl | apply pbN | apply bD1 | refine bSt ?_ GE123.out) | exact HB.out)))); have n1_ := aM (blk_below (g := gb123) (o := .cells #[.slice A0_0 l0_0.length c0_0] 25 (0, 0)) (by (with_reducible repeat (first | refine bkN ?_ _ | refine bkD ?_ | refine bkA ?_ _)); exact BK123.out) hb); have n2_ := aM (bSp (by repeat (first | (with_reducible first | exact HB.out | apply bAl | apply pbN | apply bD1 | refine bSt ?_ GE123.out) | exact HB.out)) hb); clear BK123; clear HB; have HO126 := n0_; have BK123 := n1_; have HB := n2_; clear n0_ n1_ n2_; (try clear hb); (try clear hb2); (try clear hk); (try clear hi); (try clear ho0); obtain ⟨Ao7, co7, eo7⟩ := Kd.R_slice HO126.out; subst eo7; have hcz8_0 : w6.cell? ⟨gb123, 0, none⟩ = some (.slice A0_0 l0_0.length c0_0) := (bkC BK123.out 0).trans rfl; have hfz8_0 := bkF BK123.out 0)); try go_wp2_with (first | ((with_reducible refine gate_dst (N := 1) rfl ?_); refine box_event ?hg (N := 1) ?hd (cs := #[.slice A0_0 l0_0.length c0_0]) (t := 25) ?hr ?_; (case hd => rfl); (case hg => rfl); (case hr => first | (go_simp; done) | (go_simp; rfl)); intro gb123 hg w4 hbox hb; have n0_ := aM (bSp (by repeat (first | (with_reducible first | exact HB.out | apply bAl | apply pbN | apply bD1) | exact HB.out)) hb); have n1_ := aM (hbox); have n2_ := aM ((by rw [hg]; exact (bSz (by repeat (first | (with_reducible first | exact HB.out | apply bAl | apply pbN | apply bD1) | exact HB.out))) : w.heap.size ≤ gb123)); have n3_ := aM ((by rw [hg]; exact (bSz (by repeat (first | (with_reducible first | exact HB.out | apply bAl | apply pbN | apply bD1) | exact HB.out))) : w.heap.size ≤ gb123)); clear HB; have HB := n0_; have BK123 := n1_; have GW123 := n2_; have GE123 := n3_; clear n0_ n1_ n2_ n3_; clear hb hbox hg; have hcz5_0 : w4.cell? ⟨gb123, 0, none⟩ = some (.slice A0_0 l0_0.length c0_0) := (bkC BK123.out 0).trans rfl; have hfz5_0 := bkF BK123.out 0) | (go_at_call 64; (with_reducible refine (cpset_Make.calls _ _ l0_0 t124 _ ?side1 ?side2 A2.out).mono ?_); (case side1 => repeat (first | exact (Kd.C_below HR0_0.out HB.out) | (with_reducible refine Kd.C_alloc ?_ _) | (with_reducible refine Kd.C_drewN ?_ _) | (with_reducible refine Kd.C_drew ?_))); (case side2 => exact HC0_0.out); rintro e w6 ⟨v125, rfl, ho0, hb⟩; have n0_ := aM (Kd.R_lower ho0 (bSz (by repeat (first | (with_reducible first | exact HB.out | apply bAl | apply pbN | apply bD1 | refine bSt ?_ GE123.out) | exact HB.out)))); have n1_ := aM (blk_below (g := gb123) (o := .cells #[.slice A0_0 l0_0.length c0_0] 25 (0, 0)) (by (with_reducible repeat (first | refine bkN ?_ _ | refine bkD ?_ | refine bkA ?_ _)); exact BK123.out) hb); have n2_ := aM (bSp (by repeat (first | (with_reducible first | exact HB.out | apply bAl | apply pbN | apply bD1 | refine bSt ?_ GE123.out) | exact HB.out)) hb); clear BK123; clear HB; have HO126 := n0_; have BK123 := n1_; have HB := n2_; clear n0_ n1_ n2_; (try clear hb); (try clear hb2); (try clear hk); (try clear hi); (try clear ho0); obtain ⟨Ao7, co7, eo7⟩ := Kd.R_slice HO126.out; subst eo7; have hcz8_0 : w6.cell? ⟨gb123, 0, none⟩ = some (.slice A0_0 l0_0.length c0_0) := (bkC BK123.out 0).trans rfl; have hfz8_0 := bkF BK123.out 0)))
  go_loopg [18] k (fun kq v18 w' => ∃ (x18_1 : Int), v18 = .int .i64 x18_1 ∧ Aside0 (cpset_Valid.l0 kq t124 (t124.length : Int) x18_1 l0_0 = some r) ∧ Aside0 (kq ≤ k) ∧ Aside0 (Kd.R k33 33 w' w.heap.size (fun _ => True) (.slice Ao7 t124.length co7) t124) ∧ Aside0 (w'.heap[gb123]? = some (.cells #[(.slice A0_0 l0_0.length c0_0)] 25 (0, 0))) ∧ Aside0 (Below w.heap.size w w'))
  case atStart => exact ⟨(0), (by first | rfl | (simp; done) | (simp [*]; done)), H', ⟨Nat.le_refl _⟩, ⟨by (with_reducible repeat (first | apply Kd.R_alloc | apply Kd.R_drewN | apply Kd.R_drew)); exact HO126.out⟩, ⟨by (with_reducible repeat (first | refine bkN ?_ _ | refine bkD ?_ | refine bkA ?_ _)); exact BK123.out⟩, ⟨by repeat (first | (with_reducible first | exact HB.out | apply bAl | apply pbN | apply bD1 | refine bSt ?_ GE123.out) | exact HB.out)⟩⟩
  case round =>
   clear H'
   try clear p2
   try clear c3
   try clear c3b0
   try clear c3b1
   try clear c3b2
   try clear c4
   try clear hcz5_0
   try clear hcz8_0
   try clear hfz5_0
   try clear hfz8_0
   obtain ⟨x18_1, rfl, HA, HK1, HO_16, BK123, HB⟩ := hrel
   cases gk with
   | zero => exact absurd HA.out (by simp [cpset_Valid.l0])
   | succ k1 =>
    have H := HA.out
    clear HA
    simp only [cpset_Valid.l0] at H
    by_cases c9 : x18_1 < (t124.length : Int)
    ·rw [if_pos c9] at H
     have c9b0 : decide (x18_1 < (t124.length : Int)) = true := dT c9
     clear c9
     by_cases c10 : 0 ≤ x18_1
     ·rw [if_pos c10] at H
      have c10b0 : decide (0 ≤ x18_1) = true := dT c10
      clear c10
      by_cases c11 : x18_1 < (t124.length : Int)
      ·rw [if_pos c11] at H
       have c11b0 : decide (x18_1 < (t124.length : Int)) = true := dT c11
       clear c11
       by_cases c12 : x18_1 < (l0_0.length : Int)
       ·rw [if_pos c12] at H
        have c12b0 : decide (x18_1 < (l0_0.length : Int)) = true := dT c12
        clear c12
        by_cases c13 : (!(((rd_T33 t124 x18_1).f0) == ((rd_T33 l0_0 x18_1).f0)) || (!(((rd_T33 t124 x18_1).f1) == ((rd_T33 l0_0 x18_1).f1)))) = true
        ·rw [if_pos c13] at H
         have c13b0 : (!(((rd_T33 t124 x18_1).f0) == ((rd_T33 l0_0 x18_1).f0)) || (!(((rd_T33 t124 x18_1).f1) == ((rd_T33 l0_0 x18_1).f1)))) = true := c13
         clear c13
         obtain rfl := Option.some.inj H
         have p127 : 0 ≤ (x18_1 : Int) := oD (by first | (with_reducible assumption) | assumption)
         have q127 : x18_1 < (t124.length : Int) := oD (by first | (with_reducible assumption) | assumption)
         obtain ⟨ad127, e127, hx127_0, hx127_1⟩ := at_T33 (Kd.R_reads' HO_16.out).2.2 x18_1 p127 q127
         cases e127
         replace p127 := eq_true p127
         replace q127 := eq_true q127
         go_wp2_with (first | ((with_reducible refine gate_dst (N := 5) rfl ?_); refine box_event ?hg (N := 5) ?hd (cs := #[.int .i64 0, .int .i64 0]) (t := 33) ?hr ?_; (case hd => rfl); (case hg => rfl); (case hr => first | (go_simp; done) | (go_simp; rfl)); intro gb128 hg w14 hbox hb; have n0_ := aM (Kd.R_below (Kd.R_elderB (by (with_reducible repeat (first | apply Kd.R_alloc | apply Kd.R_drewN | apply Kd.R_drew)); exact HO_16.out) gb128 (Nat.le_of_eq hg.symm)) hb); have n1_ := aM (blk_below (g := gb123) (o := .cells #[.slice A0_0 l0_0.length c0_0] 25 (0, 0)) (by (with_reducible repeat (first | refine bkN ?_ _ | refine bkD ?_ | refine bkA ?_ _)); exact BK123.out) hb); have n2_ := aM (bSp (by repeat (first | (with_reducible first | exact HB.out | apply bAl | apply pbN | apply bD1 | refine bSt ?_ GE123.out) | exact HB.out)) hb); have n3_ := aM (hbox); have n4_ := aM ((by rw [hg]; exact (bSz (by repeat (first | (with_reducible first | exact HB.out | apply bAl | apply pbN | apply bD1 | refine bSt ?_ GE123.out) | exact HB.out))) : w.heap.size ≤ gb128)); have n5_ := aM ((by rw [hg]; exact (bSz (by repeat (first | (with_reducible first | exact HB.out | apply bAl | apply pbN | apply bD1 | refine bSt ?_ GE123.out) | exact HB.out))) : w.heap.size ≤ gb128)); have n6_ := aM ((by rw [hg]; exact Nat.ne_of_lt (blk_lt (g := gb123) (o := .cells #[.slice A0_0 l0_0.length c0_0] 25 (0, 0)) (by (with_reducible repeat (first | refine bkN ?_ _ | refine bkD ?_ | refine bkA ?_ _)); exact BK123.out)) : gb123 ≠ gb128)); have n7_ := aM ((by rw [hg]; exact Nat.ne_of_gt (blk_lt (g := gb123) (o := .cells #[.slice A0_0 l0_0.length c0_0] 25 (0, 0)) (by (with_reducible repeat (first | refine bkN ?_ _ | refine bkD ?_ | refine bkA ?_ _)); exact BK123.out)) : gb128 ≠ gb123)); clear HO_16; clear BK123; clear HB; have HO_16 := n0_; have BK123 := n1_; have HB := n2_; have BK128 := n3_; have GW128 := n4_; have GE128 := n5_; have NB123_128 := n6_; have NB128_123 := n7_; clear n0_ n1_ n2_ n3_ n4_ n5_ n6_ n7_; clear hb hbox hg; have hnb15 := NB128_123.out; have hnc15 := NB123_128.out; have hcz16_0 : w14.cell? ⟨gb128, 0, none⟩ = some (.int .i64 0) := (bkC BK128.out 0).trans rfl; have hcz16_1 : w14.cell? ⟨gb128, 1, none⟩ = some (.int .i64 0) := (bkC BK128.out 1).trans rfl; have hfz16_0 := bkF BK128.out 0; have hfz16_1 := bkF BK128.out 1; have hcz17_0 : w14.cell? ⟨gb123, 0, none⟩ = some (.slice A0_0 l0_0.length c0_0) := (bkC BK123.out 0).trans rfl; have hfz17_0 := bkF BK123.out 0; have p129 : 0 ≤ (x18_1 : Int) := oD (by first | (with_reducible assumption) | assumption); have q129 : x18_1 < (l0_0.length : Int) := oD (by first | (with_reducible assumption) | assumption); obtain ⟨ad129, e129, hx129_0, hx129_1⟩ := at_T33 HR0_0.out x18_1 p129 q129; cases e129; have hn129_0 : ad129.block ≠ gb128 := Nat.ne_of_lt (Nat.lt_of_lt_of_le (by have := World.block_lt_of_cell? _ _ hx129_0; first | rwa [add_block] at this | exact this) GW128.out); have hn129_1 : ad129.block ≠ gb128 := Nat.ne_of_lt (Nat.lt_of_lt_of_le (by have := World.block_lt_of_cell? _ _ hx129_0; first | rwa [add_block] at this | exact this) GW128.out); replace hx129_0 := (HB.out.cell (World.block_lt_of_cell? w _ hx129_0)).trans hx129_0; replace hx129_1 := (HB.out.cell (World.block_lt_of_cell? w _ hx129_1)).trans hx129_1; replace hx129_0 := (cell_far (p := ⟨gb128, 0, none⟩) (by first | (rw [add_block]; exact hn129_0) | (show (Addr.add _ _).block ≠ _; rw [add_block]; exact hn129_0) | exact hn129_0) (.int .i64 ((rd_T33 t124 x18_1).f0))).trans hx129_0; replace hx129_1 := (cell_far (p := ⟨gb128, 0, none⟩) (by first | (rw [add_block]; exact hn129_0) | (show (Addr.add _ _).block ≠ _; rw [add_block]; exact hn129_0) | exact hn129_0) (.int .i64 ((rd_T33 t124 x18_1).f0))).trans hx129_1; replace hx129_0 := (cell_far (p := ⟨gb128, 1, none⟩) (by first | (rw [add_block]; exact hn129_1) | (show (Addr.add _ _).block ≠ _; rw [add_block]; exact hn129_1) | exact hn129_1) (.int .i64 ((rd_T33 t124 x18_1).f1))).trans hx129_0; replace hx129_1 := (cell_far (p := ⟨gb128, 1, none⟩) (by first | (rw [add_block]; exact hn129_1) | (show (Addr.add _ _).block ≠ _; rw [add_block]; exact hn129_1) | exact hn129_1) (.int .i64 ((rd_T33 t124 x18_1).f1))).trans hx129_1; (try have hy129_0 := fun (n_ : Nat) => (show ((((w14.drewN n_).setCell ⟨gb128, 0, none⟩ (.int .i64 ((rd_T33 t124 x18_1).f0))).setCell ⟨gb128, 1, none⟩ (.int .i64 ((rd_T33 t124 x18_1).f1)))).cell? _ = some _ from hx129_0)); (try have hy129_1 := fun (n_ : Nat) => (show ((((w14.drewN n_).setCell ⟨gb128, 0, none⟩ (.int .i64 ((rd_T33 t124 x18_1).f0))).setCell ⟨gb128, 1, none⟩ (.int .i64 ((rd_T33 t124 x18_1).f1)))).cell? _ = some _ from hx129_1)); clear hn129_0; clear hn129_1; replace p129 := eq_true p129; replace q129 := eq_true q129))
         repeat (go_quiet (first | ((with_reducible refine gate_dst (N := 5) rfl ?_); refine box_event ?hg (N := 5) ?hd (cs := #[.int .i64 0, .int .i64 0]) (t := 33) ?hr ?_; (case hd => rfl); (case hg => rfl); (case hr => first | (go_simp; done) | (go_simp; rfl)); intro gb128 hg w14 hbox hb; have n0_ := aM (Kd.R_below (Kd.R_elderB (by (with_reducible repeat (first | apply Kd.R_alloc | apply Kd.R_drewN | apply Kd.R_drew)); exact HO_16.out) gb128 (Nat.le_of_eq hg.symm)) hb); have n1_ := aM (blk_below (g := gb123) (o := .cells #[.slice A0_0 l0_0.length c0_0] 25 (0, 0)) (by (with_reducible repeat (first | refine bkN ?_ _ | refine bkD ?_ | refine bkA ?_ _)); exact BK123.out) hb); have n2_ := aM (bSp (by repeat (first | (with_reducible first | exact HB.out | apply bAl | apply pbN | apply bD1 | refine bSt ?_ GE123.out) | exact HB.out)) hb); have n3_ := aM (hbox); have n4_ := aM ((by rw [hg]; exact (bSz (by repeat (first | (with_reducible first | exact HB.out | apply bAl | apply pbN | apply bD1 | refine bSt ?_ GE123.out) | exact HB.out))) : w.heap.size ≤ gb128)); have n5_ := aM ((by rw [hg]; exact (bSz (by repeat (first | (with_reducible first | exact HB.out | apply bAl | apply pbN | apply bD1 | refine bSt ?_ GE123.out) | exact HB.out))) : w.heap.size ≤ gb128)); have n6_ := aM ((by rw [hg]; exact Nat.ne_of_lt (blk_lt (g := gb123) (o := .cells #[.slice A0_0 l0_0.length c0_0] 25 (0, 0)) (by (with_reducible repeat (first | refine bkN ?_ _ | refine bkD ?_ | refine bkA ?_ _)); exact BK123.out)) : gb123 ≠ gb128)); have n7_ := aM ((by rw [hg]; exact Nat.ne_of_gt (blk_lt (g := gb123) (o := .cells #[.slice A0_0 l0_0.length c0_0] 25 (0, 0)) (by (with_reducible repeat (first | refine bkN ?_ _ | refine bkD ?_ | refine bkA ?_ _)); exact BK123.out)) : gb128 ≠ gb123)); clear HO_16; clear BK123; clear HB; have HO_16 := n0_; have BK123 := n1_; have HB := n2_; have BK128 := n3_; have GW128 := n4_; have GE128 := n5_; have NB123_128 := n6_; have NB128_123 := n7_; clear n0_ n1_ n2_ n3_ n4_ n5_ n6_ n7_; clear hb hbox hg; have hnb15 := NB128_123.out; have hnc15 := NB123_128.out; have hcz16_0 : w14.cell? ⟨gb128, 0, none⟩ = some (.int .i64 0) := (bkC BK128.out 0).trans rfl; have hcz16_1 : w14.cell? ⟨gb128, 1, none⟩ = some (.int .i64 0) := (bkC BK128.out 1).trans rfl; have hfz16_0 := bkF BK128.out 0; have hfz16_1 := bkF BK128.out 1; have hcz17_0 : w14.cell? ⟨gb123, 0, none⟩ = some (.slice A0_0 l0_0.length c0_0) := (bkC BK123.out 0).trans rfl; have hfz17_0 := bkF BK123.out 0; have p129 : 0 ≤ (x18_1 : Int) := oD (by first | (with_reducible assumption) | assumption); have q129 : x18_1 < (l0_0.length : Int) := oD (by first | (with_reducible assumption) | assumption); obtain ⟨ad129, e129, hx129_0, hx129_1⟩ := at_T33 HR0_0.out x18_1 p129 q129; cases e129; have hn129_0 : ad129.block ≠ gb128 := Nat.ne_of_lt (Nat.lt_of_lt_of_le (by have := World.block_lt_of_cell? _ _ hx129_0; first | rwa [add_block] at this | exact this) GW128.out); have hn129_1 : ad129.block ≠ gb128 := Nat.ne_of_lt (Nat.lt_of_lt_of_le (by have := World.block_lt_of_cell? _ _ hx129_0; first | rwa [add_block] at this | exact this) GW128.out); replace hx129_0 := (HB.out.cell (World.block_lt_of_cell? w _ hx129_0)).trans hx129_0; replace hx129_1 := (HB.out.cell (World.block_lt_of_cell? w _ hx129_1)).trans hx129_1; replace hx129_0 := (cell_far (p := ⟨gb128, 0, none⟩) (by first | (rw [add_block]; exact hn129_0) | (show (Addr.add _ _).block ≠ _; rw [add_block]; exact hn129_0) | exact hn129_0) (.int .i64 ((rd_T33 t124 x18_1).f0))).trans hx129_0; replace hx129_1 := (cell_far (p := ⟨gb128, 0, none⟩) (by first | (rw [add_block]; exact hn129_0) | (show (Addr.add _ _).block ≠ _; rw [add_block]; exact hn129_0) | exact hn129_0) (.int .i64 ((rd_T33 t124 x18_1).f0))).trans hx129_1; replace hx129_0 := (cell_far (p := ⟨gb128, 1, none⟩) (by first | (rw [add_block]; exact hn129_1) | (show (Addr.add _ _).block ≠ _; rw [add_block]; exact hn129_1) | exact hn129_1) (.int .i64 ((rd_T33 t124 x18_1).f1))).trans hx129_0; replace hx129_1 := (cell_far (p := ⟨gb128, 1, none⟩) (by first | (rw [add_block]; exact hn129_1) | (show (Addr.add _ _).block ≠ _; rw [add_block]; exact hn129_1) | exact hn129_1) (.int .i64 ((rd_T33 t124 x18_1).f1))).trans hx129_1; (try have hy129_0 := fun (n_ : Nat) => (show ((((w14.drewN n_).setCell ⟨gb128, 0, none⟩ (.int .i64 ((rd_T33 t124 x18_1).f0))).setCell ⟨gb128, 1, none⟩ (.int .i64 ((rd_T33 t124 x18_1).f1)))).cell? _ = some _ from hx129_0)); (try have hy129_1 := fun (n_ : Nat) => (show ((((w14.drewN n_).setCell ⟨gb128, 0, none⟩ (.int .i64 ((rd_T33 t124 x18_1).f0))).setCell ⟨gb128, 1, none⟩ (.int .i64 ((rd_T33 t124 x18_1).f1)))).cell? _ = some _ from hx129_1)); clear hn129_0; clear hn129_1; replace p129 := eq_true p129; replace q129 := eq_true q129)); try go_wp2_with (first | ((with_reducible refine gate_dst (N := 5) rfl ?_); refine box_event ?hg (N := 5) ?hd (cs := #[.int .i64 0, .int .i64 0]) (t := 33) ?hr ?_; (case hd => rfl); (case hg => rfl); (case hr => first | (go_simp; done) | (go_simp; rfl)); intro gb128 hg w14 hbox hb; have n0_ := aM (Kd.R_below (Kd.R_elderB (by (with_reducible repeat (first | apply Kd.R_alloc | apply Kd.R_drewN | apply Kd.R_drew)); exact HO_16.out) gb128 (Nat.le_of_eq hg.symm)) hb); have n1_ := aM (blk_below (g := gb123) (o := .cells #[.slice A0_0 l0_0.length c0_0] 25 (0, 0)) (by (with_reducible repeat (first | refine bkN ?_ _ | refine bkD ?_ | refine bkA ?_ _)); exact BK123.out) hb); have n2_ := aM (bSp (by repeat (first | (with_reducible first | exact HB.out | apply bAl | apply pbN | apply bD1 | refine bSt ?_ GE123.out) | exact HB.out)) hb); have n3_ := aM (hbox); have n4_ := aM ((by rw [hg]; exact (bSz (by repeat (first | (with_reducible first | exact HB.out | apply bAl | apply pbN | apply bD1 | refine bSt ?_ GE123.out) | exact HB.out))) : w.heap.size ≤ gb128)); have n5_ := aM ((by rw [hg]; exact (bSz (by repeat (first | (with_reducible first | exact HB.out | apply bAl | apply pbN | apply bD1 | refine bSt ?_ GE123.out) | exact HB.out))) : w.heap.size ≤ gb128)); have n6_ := aM ((by rw [hg]; exact Nat.ne_of_lt (blk_lt (g := gb123) (o := .cells #[.slice A0_0 l0_0.length c0_0] 25 (0, 0)) (by (with_reducible repeat (first | refine bkN ?_ _ | refine bkD ?_ | refine bkA ?_ _)); exact BK123.out)) : gb123 ≠ gb128)); have n7_ := aM ((by rw [hg]; exact Nat.ne_of_gt (blk_lt (g := gb123) (o := .cells #[.slice A0_0 l0_0.length c0_0] 25 (0, 0)) (by (with_reducible repeat (first | refine bkN ?_ _ | refine bkD ?_ | refine bkA ?_ _)); exact BK123.out)) : gb128 ≠ gb123)); clear HO_16; clear BK123; clear HB; have HO_16 := n0_; have BK123 := n1_; have HB := n2_; have BK128 := n3_; have GW128 := n4_; have GE128 := n5_; have NB123_128 := n6_; have NB128_123 := n7_; clear n0_ n1_ n2_ n3_ n4_ n5_ n6_ n7_; clear hb hbox hg; have hnb15 := NB128_123.out; have hnc15 := NB123_128.out; have hcz16_0 : w14.cell? ⟨gb128, 0, none⟩ = some (.int .i64 0) := (bkC BK128.out 0).trans rfl; have hcz16_1 : w14.cell? ⟨gb128, 1, none⟩ = some (.int .i64 0) := (bkC BK128.out 1).trans rfl; have hfz16_0 := bkF BK128.out 0; have hfz16_1 := bkF BK128.out 1; have hcz17_0 : w14.cell? ⟨gb123, 0, none⟩ = some (.slice A0_0 l0_0.length c0_0) := (bkC BK123.out 0).trans rfl; have hfz17_0 := bkF BK123.out 0; have p129 : 0 ≤ (x18_1 : Int) := oD (by first | (with_reducible assumption) | assumption); have q129 : x18_1 < (l0_0.length : Int) := oD (by first | (with_reducible assumption) | assumption); obtain ⟨ad129, e129, hx129_0, hx129_1⟩ := at_T33 HR0_0.out x18_1 p129 q129; cases e129; have hn129_0 : ad129.block ≠ gb128 := Nat.ne_of_lt (Nat.lt_of_lt_of_le (by have := World.block_lt_of_cell? _ _ hx129_0; first | rwa [add_block] at this | exact this) GW128.out); have hn129_1 : ad129.block ≠ gb128 := Nat.ne_of_lt (Nat.lt_of_lt_of_le (by have := World.block_lt_of_cell? _ _ hx129_0; first | rwa [add_block] at this | exact this) GW128.out); replace hx129_0 := (HB.out.cell (World.block_lt_of_cell? w _ hx129_0)).trans hx129_0; replace hx129_1 := (HB.out.cell (World.block_lt_of_cell? w _ hx129_1)).trans hx129_1; replace hx129_0 := (cell_far (p := ⟨gb128, 0, none⟩) (by first | (rw [add_block]; exact hn129_0) | (show (Addr.add _ _).block ≠ _; rw [add_block]; exact hn129_0) | exact hn129_0) (.int .i64 ((rd_T33 t124 x18_1).f0))).trans hx129_0; replace hx129_1 := (cell_far (p := ⟨gb128, 0, none⟩) (by first | (rw [add_block]; exact hn129_0) | (show (Addr.add _ _).block ≠ _; rw [add_block]; exact hn129_0) | exact hn129_0) (.int .i64 ((rd_T33 t124 x18_1).f0))).trans hx129_1; replace hx129_0 := (cell_far (p := ⟨gb128, 1, none⟩) (by first | (rw [add_block]; exact hn129_1) | (show (Addr.add _ _).block ≠ _; rw [add_block]; exact hn129_1) | exact hn129_1) (.int .i64 ((rd_T33 t124 x18_1).f1))).trans hx129_0; replace hx129_1 := (cell_far (p := ⟨gb128, 1, none⟩) (by first | (rw [add_block]; exact hn129_1) | (show (Addr.add _ _).block ≠ _; rw [add_block]; exact hn129_1) | exact hn129_1) (.int .i64 ((rd_T33 t124 x18_1).f1))).trans hx129_1; (try have hy129_0 := fun (n_ : Nat) => (show ((((w14.drewN n_).setCell ⟨gb128, 0, none⟩ (.int .i64 ((rd_T33 t124 x18_1).f0))).setCell ⟨gb128, 1, none⟩ (.int .i64 ((rd_T33 t124 x18_1).f1)))).cell? _ = some _ from hx129_0)); (try have hy129_1 := fun (n_ : Nat) => (show ((((w14.drewN n_).setCell ⟨gb128, 0, none⟩ (.int .i64 ((rd_T33 t124 x18_1).f0))).setCell ⟨gb128, 1, none⟩ (.int .i64 ((rd_T33 t124 x18_1).f1)))).cell? _ = some _ from hx129_1)); clear hn129_0; clear hn129_1; replace p129 := eq_true p129; replace q129 := eq_true q129)))
         go_ret
         exact ⟨by first | rfl | (simp [eN, eS] <;> rfl) | (simp [*, eN, eS] <;> rfl), by repeat (first | (with_reducible first | exact HB.out | apply bAl | apply pbN | apply bD1 | refine bSt ?_ GE123.out | refine bSt ?_ GE128.out) | exact HB.out)⟩
        ·rw [if_neg c13] at H
         have c13b0 : (!(((rd_T33 t124 x18_1).f0) == ((rd_T33 l0_0 x18_1).f0)) || (!(((rd_T33 t124 x18_1).f1) == ((rd_T33 l0_0 x18_1).f1)))) = false := by simpa using c13
         clear c13
         have H' := aM H
         clear H
         have p127 : 0 ≤ (x18_1 : Int) := oD (by first | (with_reducible assumption) | assumption)
         have q127 : x18_1 < (t124.length : Int) := oD (by first | (with_reducible assumption) | assumption)
         obtain ⟨ad127, e127, hx127_0, hx127_1⟩ := at_T33 (Kd.R_reads' HO_16.out).2.2 x18_1 p127 q127
         cases e127
         replace p127 := eq_true p127
         replace q127 := eq_true q127
         go_wp2_with (first | ((with_reducible refine gate_dst (N := 5) rfl ?_); refine box_event ?hg (N := 5) ?hd (cs := #[.int .i64 0, .int .i64 0]) (t := 33) ?hr ?_; (case hd => rfl); (case hg => rfl); (case hr => first | (go_simp; done) | (go_simp; rfl)); intro gb128 hg w18 hbox hb; have n0_ := aM (Kd.R_below (Kd.R_elderB (by (with_reducible repeat (first | apply Kd.R_alloc | apply Kd.R_drewN | apply Kd.R_drew)); exact HO_16.out) gb128 (Nat.le_of_eq hg.symm)) hb); have n1_ := aM (blk_below (g := gb123) (o := .cells #[.slice A0_0 l0_0.length c0_0] 25 (0, 0)) (by (with_reducible repeat (first | refine bkN ?_ _ | refine bkD ?_ | refine bkA ?_ _)); exact BK123.out) hb); have n2_ := aM (bSp (by repeat (first | (with_reducible first | exact HB.out | apply bAl | apply pbN | apply bD1 | refine bSt ?_ GE123.out) | exact HB.out)) hb); have n3_ := aM (hbox); have n4_ := aM ((by rw [hg]; exact (bSz (by repeat (first | (with_reducible first | exact HB.out | apply bAl | apply pbN | apply bD1 | refine bSt ?_ GE123.out) | exact HB.out))) : w.heap.size ≤ gb128)); have n5_ := aM ((by rw [hg]; exact (bSz (by repeat (first | (with_reducible first | exact HB.out | apply bAl | apply pbN | apply bD1 | refine bSt ?_ GE123.out) | exact HB.out))) : w.heap.size ≤ gb128)); have n6_ := aM ((by rw [hg]; exact Nat.ne_of_lt (blk_lt (g := gb123) (o := .cells #[.slice A0_0 l0_0.length c0_0] 25 (0, 0)) (by (with_reducible repeat (first | refine bkN ?_ _ | refine bkD ?_ | refine bkA ?_ _)); exact BK123.out)) : gb123 ≠ gb128)); have n7_ := aM ((by rw [hg]; exact Nat.ne_of_gt (blk_lt (g := gb123) (o := .cells #[.slice A0_0 l0_0.length c0_0] 25 (0, 0)) (by (with_reducible repeat (first | refine bkN ?_ _ | refine bkD ?_ | refine bkA ?_ _)); exact BK123.out)) : gb128 ≠ gb123)); clear HO_16; clear BK123; clear HB; have HO_16 := n0_; have BK123 := n1_; have HB := n2_; have BK128 := n3_; have GW128 := n4_; have GE128 := n5_; have NB123_128 := n6_; have NB128_123 := n7_; clear n0_ n1_ n2_ n3_ n4_ n5_ n6_ n7_; clear hb hbox hg; have hnb19 := NB128_123.out; have hnc19 := NB123_128.out; have hcz20_0 : w18.cell? ⟨gb128, 0, none⟩ = some (.int .i64 0) := (bkC BK128.out 0).trans rfl; have hcz20_1 : w18.cell? ⟨gb128, 1, none⟩ = some (.int .i64 0) := (bkC BK128.out 1).trans rfl; have hfz20_0 := bkF BK128.out 0; have hfz20_1 := bkF BK128.out 1; have hcz21_0 : w18.cell? ⟨gb123, 0, none⟩ = some (.slice A0_0 l0_0.length c0_0) := (bkC BK123.out 0).trans rfl; have hfz21_0 := bkF BK123.out 0; have p129 : 0 ≤ (x18_1 : Int) := oD (by first | (with_reducible assumption) | assumption); have q129 : x18_1 < (l0_0.length : Int) := oD (by first | (with_reducible assumption) | assumption); obtain ⟨ad129, e129, hx129_0, hx129_1⟩ := at_T33 HR0_0.out x18_1 p129 q129; cases e129; have hn129_0 : ad129.block ≠ gb128 := Nat.ne_of_lt (Nat.lt_of_lt_of_le (by have := World.block_lt_of_cell? _ _ hx129_0; first | rwa [add_block] at this | exact this) GW128.out); have hn129_1 : ad129.block ≠ gb128 := Nat.ne_of_lt (Nat.lt_of_lt_of_le (by have := World.block_lt_of_cell? _ _ hx129_0; first | rwa [add_block] at this | exact this) GW128.out); replace hx129_0 := (HB.out.cell (World.block_lt_of_cell? w _ hx129_0)).trans hx129_0; replace hx129_1 := (HB.out.cell (World.block_lt_of_cell? w _ hx129_1)).trans hx129_1; replace hx129_0 := (cell_far (p := ⟨gb128, 0, none⟩) (by first | (rw [add_block]; exact hn129_0) | (show (Addr.add _ _).block ≠ _; rw [add_block]; exact hn129_0) | exact hn129_0) (.int .i64 ((rd_T33 t124 x18_1).f0))).trans hx129_0; replace hx129_1 := (cell_far (p := ⟨gb128, 0, none⟩) (by first | (rw [add_block]; exact hn129_0) | (show (Addr.add _ _).block ≠ _; rw [add_block]; exact hn129_0) | exact hn129_0) (.int .i64 ((rd_T33 t124 x18_1).f0))).trans hx129_1; replace hx129_0 := (cell_far (p := ⟨gb128, 1, none⟩) (by first | (rw [add_block]; exact hn129_1) | (show (Addr.add _ _).block ≠ _; rw [add_block]; exact hn129_1) | exact hn129_1) (.int .i64 ((rd_T33 t124 x18_1).f1))).trans hx129_0; replace hx129_1 := (cell_far (p := ⟨gb128, 1, none⟩) (by first | (rw [add_block]; exact hn129_1) | (show (Addr.add _ _).block ≠ _; rw [add_block]; exact hn129_1) | exact hn129_1) (.int .i64 ((rd_T33 t124 x18_1).f1))).trans hx129_1; (try have hy129_0 := fun (n_ : Nat) => (show ((((w18.drewN n_).setCell ⟨gb128, 0, none⟩ (.int .i64 ((rd_T33 t124 x18_1).f0))).setCell ⟨gb128, 1, none⟩ (.int .i64 ((rd_T33 t124 x18_1).f1)))).cell? _ = some _ from hx129_0)); (try have hy129_1 := fun (n_ : Nat) => (show ((((w18.drewN n_).setCell ⟨gb128, 0, none⟩ (.int .i64 ((rd_T33 t124 x18_1).f0))).setCell ⟨gb128, 1, none⟩ (.int .i64 ((rd_T33 t124 x18_1).f1)))).cell? _ = some _ from hx129_1)); clear hn129_0; clear hn129_1; replace p129 := eq_true p129; replace q129 := eq_true q129))
         repeat (go_quiet (first | ((with_reducible refine gate_dst (N := 5) rfl ?_); refine box_event ?hg (N := 5) ?hd (cs := #[.int .i64 0, .int .i64 0]) (t := 33) ?hr ?_; (case hd => rfl); (case hg => rfl); (case hr => first | (go_simp; done) | (go_simp; rfl)); intro gb128 hg w18 hbox hb; have n0_ := aM (Kd.R_below (Kd.R_elderB (by (with_reducible repeat (first | apply Kd.R_alloc | apply Kd.R_drewN | apply Kd.R_drew)); exact HO_16.out) gb128 (Nat.le_of_eq hg.symm)) hb); have n1_ := aM (blk_below (g := gb123) (o := .cells #[.slice A0_0 l0_0.length c0_0] 25 (0, 0)) (by (with_reducible repeat (first | refine bkN ?_ _ | refine bkD ?_ | refine bkA ?_ _)); exact BK123.out) hb); have n2_ := aM (bSp (by repeat (first | (with_reducible first | exact HB.out | apply bAl | apply pbN | apply bD1 | refine bSt ?_ GE123.out) | exact HB.out)) hb); have n3_ := aM (hbox); have n4_ := aM ((by rw [hg]; exact (bSz (by repeat (first | (with_reducible first | exact HB.out | apply bAl | apply pbN | apply bD1 | refine bSt ?_ GE123.out) | exact HB.out))) : w.heap.size ≤ gb128)); have n5_ := aM ((by rw [hg]; exact (bSz (by repeat (first | (with_reducible first | exact HB.out | apply bAl | apply pbN | apply bD1 | refine bSt ?_ GE123.out) | exact HB.out))) : w.heap.size ≤ gb128)); have n6_ := aM ((by rw [hg]; exact Nat.ne_of_lt (blk_lt (g := gb123) (o := .cells #[.slice A0_0 l0_0.length c0_0] 25 (0, 0)) (by (with_reducible repeat (first | refine bkN ?_ _ | refine bkD ?_ | refine bkA ?_ _)); exact BK123.out)) : gb123 ≠ gb128)); have n7_ := aM ((by rw [hg]; exact Nat.ne_of_gt (blk_lt (g := gb123) (o := .cells #[.slice A0_0 l0_0.length c0_0] 25 (0, 0)) (by (with_reducible repeat (first | refine bkN ?_ _ | refine bkD ?_ | refine bkA ?_ _)); exact BK123.out)) : gb128 ≠ gb123)); clear HO_16; clear BK123; clear HB; have HO_16 := n0_; have BK123 := n1_; have HB := n2_; have BK128 := n3_; have GW128 := n4_; have GE128 := n5_; have NB123_128 := n6_; have NB128_123 := n7_; clear n0_ n1_ n2_ n3_ n4_ n5_ n6_ n7_; clear hb hbox hg; have hnb19 := NB128_123.out; have hnc19 := NB123_128.out; have hcz20_0 : w18.cell? ⟨gb128, 0, none⟩ = some (.int .i64 0) := (bkC BK128.out 0).trans rfl; have hcz20_1 : w18.cell? ⟨gb128, 1, none⟩ = some (.int .i64 0) := (bkC BK128.out 1).trans rfl; have hfz20_0 := bkF BK128.out 0; have hfz20_1 := bkF BK128.out 1; have hcz21_0 : w18.cell? ⟨gb123, 0, none⟩ = some (.slice A0_0 l0_0.length c0_0) := (bkC BK123.out 0).trans rfl; have hfz21_0 := bkF BK123.out 0; have p129 : 0 ≤ (x18_1 : Int) := oD (by first | (with_reducible assumption) | assumption); have q129 : x18_1 < (l0_0.length : Int) := oD (by first | (with_reducible assumption) | assumption); obtain ⟨ad129, e129, hx129_0, hx129_1⟩ := at_T33 HR0_0.out x18_1 p129 q129; cases e129; have hn129_0 : ad129.block ≠ gb128 := Nat.ne_of_lt (Nat.lt_of_lt_of_le (by have := World.block_lt_of_cell? _ _ hx129_0; first | rwa [add_block] at this | exact this) GW128.out); have hn129_1 : ad129.block ≠ gb128 := Nat.ne_of_lt (Nat.lt_of_lt_of_le (by have := World.block_lt_of_cell? _ _ hx129_0; first | rwa [add_block] at this | exact this) GW128.out); replace hx129_0 := (HB.out.cell (World.block_lt_of_cell? w _ hx129_0)).trans hx129_0; replace hx129_1 := (HB.out.cell (World.block_lt_of_cell? w _ hx129_1)).trans hx129_1; replace hx129_0 := (cell_far (p := ⟨gb128, 0, none⟩) (by first | (rw [add_block]; exact hn129_0) | (show (Addr.add _ _).block ≠ _; rw [add_block]; exact hn129_0) | exact hn129_0) (.int .i64 ((rd_T33 t124 x18_1).f0))).trans hx129_0; replace hx129_1 := (cell_far (p := ⟨gb128, 0, none⟩) (by first | (rw [add_block]; exact hn129_0) | (show (Addr.add _ _).block ≠ _; rw [add_block]; exact hn129_0) | exact hn129_0) (.int .i64 ((rd_T33 t124 x18_1).f0))).trans hx129_1; replace hx129_0 := (cell_far (p := ⟨gb128, 1, none⟩) (by first | (rw [add_block]; exact hn129_1) | (show (Addr.add _ _).block ≠ _; rw [add_block]; exact hn129_1) | exact hn129_1) (.int .i64 ((rd_T33 t124 x18_1).f1))).trans hx129_0; replace hx129_1 := (cell_far (p := ⟨gb128, 1, none⟩) (by first | (rw [add_block]; exact hn129_1) | (show (Addr.add _ _).block ≠ _; rw [add_block]; exact hn129_1) | exact hn129_1) (.int .i64 ((rd_T33 t124 x18_1).f1))).trans hx129_1; (try have hy129_0 := fun (n_ : Nat) => (show ((((w18.drewN n_).setCell ⟨gb128, 0, none⟩ (.int .i64 ((rd_T33 t124 x18_1).f0))).setCell ⟨gb128, 1, none⟩ (.int .i64 ((rd_T33 t124 x18_1).f1)))).cell? _ = some _ from hx129_0)); (try have hy129_1 := fun (n_ : Nat) => (show ((((w18.drewN n_).setCell ⟨gb128, 0, none⟩ (.int .i64 ((rd_T33 t124 x18_1).f0))).setCell ⟨gb128, 1, none⟩ (.int .i64 ((rd_T33 t124 x18_1).f1)))).cell? _ = some _ from hx129_1)); clear hn129_0; clear hn129_1; replace p129 := eq_true p129; replace q129 := eq_true q129)); try go_wp2_with (first | ((with_reducible refine gate_dst (N := 5) rfl ?_); refine box_event ?hg (N := 5) ?hd (cs := #[.int .i64 0, .int .i64 0]) (t := 33) ?hr ?_; (case hd => rfl); (case hg => rfl); (case hr => first | (go_simp; done) | (go_simp; rfl)); intro gb128 hg w18 hbox hb; have n0_ := aM (Kd.R_below (Kd.R_elderB (by (with_reducible repeat (first | apply Kd.R_alloc | apply Kd.R_drewN | apply Kd.R_drew)); exact HO_16.out) gb128 (Nat.le_of_eq hg.symm)) hb); have n1_ := aM (blk_below (g := gb123) (o := .cells #[.slice A0_0 l0_0.length c0_0] 25 (0, 0)) (by (with_reducible repeat (first | refine bkN ?_ _ | refine bkD ?_ | refine bkA ?_ _)); exact BK123.out) hb); have n2_ := aM (bSp (by repeat (first | (with_reducible first | exact HB.out | apply bAl | apply pbN | apply bD1 | refine bSt ?_ GE123.out) | exact HB.out)) hb); have n3_ := aM (hbox); have n4_ := aM ((by rw [hg]; exact (bSz (by repeat (first | (with_reducible first | exact HB.out | apply bAl | apply pbN | apply bD1 | refine bSt ?_ GE123.out) | exact HB.out))) : w.heap.size ≤ gb128)); have n5_ := aM ((by rw [hg]; exact (bSz (by repeat (first | (with_reducible first | exact HB.out | apply bAl | apply pbN | apply bD1 | refine bSt ?_ GE123.out) | exact HB.out))) : w.heap.size ≤ gb128)); have n6_ := aM ((by rw [hg]; exact Nat.ne_of_lt (blk_lt (g := gb123) (o := .cells #[.slice A0_0 l0_0.length c0_0] 25 (0, 0)) (by (with_reducible repeat (first | refine bkN ?_ _ | refine bkD ?_ | refine bkA ?_ _)); exact BK123.out)) : gb123 ≠ gb128)); have n7_ := aM ((by rw [hg]; exact Nat.ne_of_gt (blk_lt (g := gb123) (o := .cells #[.slice A0_0 l0_0.length c0_0] 25 (0, 0)) (by (with_reducible repeat (first | refine bkN ?_ _ | refine bkD ?_ | refine bkA ?_ _)); exact BK123.out)) : gb128 ≠ gb123)); clear HO_16; clear BK123; clear HB; have HO_16 := n0_; have BK123 := n1_; have HB := n2_; have BK128 := n3_; have GW128 := n4_; have GE128 := n5_; have NB123_128 := n6_; have NB128_123 := n7_; clear n0_ n1_ n2_ n3_ n4_ n5_ n6_ n7_; clear hb hbox hg; have hnb19 := NB128_123.out; have hnc19 := NB123_128.out; have hcz20_0 : w18.cell? ⟨gb128, 0, none⟩ = some (.int .i64 0) := (bkC BK128.out 0).trans rfl; have hcz20_1 : w18.cell? ⟨gb128, 1, none⟩ = some (.int .i64 0) := (bkC BK128.out 1).trans rfl; have hfz20_0 := bkF BK128.out 0; have hfz20_1 := bkF BK128.out 1; have hcz21_0 : w18.cell? ⟨gb123, 0, none⟩ = some (.slice A0_0 l0_0.length c0_0) := (bkC BK123.out 0).trans rfl; have hfz21_0 := bkF BK123.out 0; have p129 : 0 ≤ (x18_1 : Int) := oD (by first | (with_reducible assumption) | assumption); have q129 : x18_1 < (l0_0.length : Int) := oD (by first | (with_reducible assumption) | assumption); obtain ⟨ad129, e129, hx129_0, hx129_1⟩ := at_T33 HR0_0.out x18_1 p129 q129; cases e129; have hn129_0 : ad129.block ≠ gb128 := Nat.ne_of_lt (Nat.lt_of_lt_of_le (by have := World.block_lt_of_cell? _ _ hx129_0; first | rwa [add_block] at this | exact this) GW128.out); have hn129_1 : ad129.block ≠ gb128 := Nat.ne_of_lt (Nat.lt_of_lt_of_le (by have := World.block_lt_of_cell? _ _ hx129_0; first | rwa [add_block] at this | exact this) GW128.out); replace hx129_0 := (HB.out.cell (World.block_lt_of_cell? w _ hx129_0)).trans hx129_0; replace hx129_1 := (HB.out.cell (World.block_lt_of_cell? w _ hx129_1)).trans hx129_1; replace hx129_0 := (cell_far (p := ⟨gb128, 0, none⟩) (by first | (rw [add_block]; exact hn129_0) | (show (Addr.add _ _).block ≠ _; rw [add_block]; exact hn129_0) | exact hn129_0) (.int .i64 ((rd_T33 t124 x18_1).f0))).trans hx129_0; replace hx129_1 := (cell_far (p := ⟨gb128, 0, none⟩) (by first | (rw [add_block]; exact hn129_0) | (show (Addr.add _ _).block ≠ _; rw [add_block]; exact hn129_0) | exact hn129_0) (.int .i64 ((rd_T33 t124 x18_1).f0))).trans hx129_1; replace hx129_0 := (cell_far (p := ⟨gb128, 1, none⟩) (by first | (rw [add_block]; exact hn129_1) | (show (Addr.add _ _).block ≠ _; rw [add_block]; exact hn129_1) | exact hn129_1) (.int .i64 ((rd_T33 t124 x18_1).f1))).trans hx129_0; replace hx129_1 := (cell_far (p := ⟨gb128, 1, none⟩) (by first | (rw [add_block]; exact hn129_1) | (show (Addr.add _ _).block ≠ _; rw [add_block]; exact hn129_1) | exact hn129_1) (.int .i64 ((rd_T33 t124 x18_1).f1))).trans hx129_1; (try have hy129_0 := fun (n_ : Nat) => (show ((((w18.drewN n_).setCell ⟨gb128, 0, none⟩ (.int .i64 ((rd_T33 t124 x18_1).f0))).setCell ⟨gb128, 1, none⟩ (.int .i64 ((rd_T33 t124 x18_1).f1)))).cell? _ = some _ from hx129_0)); (try have hy129_1 := fun (n_ : Nat) => (show ((((w18.drewN n_).setCell ⟨gb128, 0, none⟩ (.int .i64 ((rd_T33 t124 x18_1).f0))).setCell ⟨gb128, 1, none⟩ (.int .i64 ((rd_T33 t124 x18_1).f1)))).cell? _ = some _ from hx129_1)); clear hn129_0; clear hn129_1; replace p129 := eq_true p129; replace q129 := eq_true q129)))
         go_roundg k1
         case measure => have := HK1.out; omega
         case rel => exact ⟨(wrap64 (x18_1 + 1)), (by first | rfl | (simp; done) | (simp [*]; done)), H', ⟨by have := HK1.out; omega⟩, ⟨by (with_reducible repeat (first | apply Kd.R_alloc | apply Kd.R_drewN | apply Kd.R_drew)); exact Kd.R_mono (Kd.R_far (p := ⟨gb128, 1, none⟩) (Kd.R_far (p := ⟨gb128, 0, none⟩) (Kd.R_mono HO_16.out (fun k_ hk => (⟨hk, hk.2⟩ : _ ∧ k_ ≠ gb128))) (fun _ hk => hk.2) (.int .i64 ((rd_T33 t124 x18_1).f0))) (fun _ hk => hk.2) (.int .i64 ((rd_T33 t124 x18_1).f1))) (fun _ hk => trivial)⟩, ⟨by (with_reducible repeat (first | refine bkN ?_ _ | refine bkD ?_ | refine bkA ?_ _)); refine blk_far ?_ NB123_128.out _; (with_reducible repeat (first | refine bkN ?_ _ | refine bkD ?_ | refine bkA ?_ _)); refine blk_far ?_ NB123_128.out _; (with_reducible repeat (first | refine bkN ?_ _ | refine bkD ?_ | refine bkA ?_ _)); exact BK123.out⟩, ⟨by repeat (first | (with_reducible first | exact HB.out | apply bAl | apply pbN | apply bD1 | refine bSt ?_ GE123.out | refine bSt ?_ GE128.out) | exact HB.out)⟩⟩
       ·rw [if_neg c12] at H
        exact absurd H (by simp)
      ·rw [if_neg c11] at H
       exact absurd H (by simp)
     ·rw [if_neg c10] at H
      exact absurd H (by simp)
    ·rw [if_neg c9] at H
     have c9b0 : decide (x18_1 < (t124.length : Int)) = false := decide_eq_false c9
     clear c9
     obtain rfl := Option.some.inj H
     go_wp2
     repeat (go_quiet (fail); try go_wp2)
     go_ret
     exact ⟨by first | rfl | (simp [eN, eS] <;> rfl) | (simp [*, eN, eS] <;> rfl), by repeat (first | (with_reducible first | exact HB.out | apply bAl | apply pbN | apply bD1 | refine bSt ?_ GE123.out) | exact HB.out)⟩
 ·rw [if_neg c3] at H
  have c3b0 : ((t124.length : Int) == (l0_0.length : Int)) = false := beq_eq_false_iff_ne.mpr c3
  have c3b1 : ((t124.length : Int) != (l0_0.length : Int)) = true := bne_iff_ne.mpr c3
  have c3b2 : (t124.length == l0_0.length) = false := by first | simpa using c3 | (simp at c3 ⊢; omega)
  obtain rfl := Option.some.inj H
  go_enter Try.func44, Try.ntmps44
  go_wp2_with (first | ((with_reducible refine gate_dst (N := 1) rfl ?_); refine box_event ?hg (N := 1) ?hd (cs := #[.slice A0_0 l0_0.length c0_0]) (t := 25) ?hr ?_; (case hd => rfl); (case hg => rfl); (case hr => first | (go_simp; done) | (go_simp; rfl)); intro gb123 hg w22 hbox hb; have n0_ := aM (bSp (by repeat (first | (with_reducible first | exact HB.out | apply bAl | apply pbN | apply bD1) | exact HB.out)) hb); have n1_ := aM (hbox); have n2_ := aM ((by rw [hg]; exact (bSz (by repeat (first | (with_reducible first | exact HB.out | apply bAl | apply pbN | apply bD1) | exact HB.out))) : w.heap.size ≤ gb123)); have n3_ := aM ((by rw [hg]; exact (bSz (by repeat (first | (with_reducible first | exact HB.out | apply bAl | apply pbN | apply bD1) | exact HB.out))) : w.heap.size ≤ gb123)); clear HB; have HB := n0_; have BK123 := n1_; have GW123 := n2_; have GE123 := n3_; clear n0_ n1_ n2_ n3_; clear hb hbox hg; have hcz23_0 : w22.cell? ⟨gb123, 0, none⟩ = some (.slice A0_0 l0_0.length c0_0) := (bkC BK123.out 0).trans rfl; have hfz23_0 := bkF BK123.out 0) | (go_at_call 64; (with_reducible refine (cpset_Make.calls _ _ l0_0 t124 _ ?side1 ?side2 A2.out).mono ?_); (case side1 => repeat (first | exact (Kd.C_below HR0_0.out HB.out) | (with_reducible refine Kd.C_alloc ?_ _) | (with_reducible refine Kd.C_drewN ?_ _) | (with_reducible refine Kd.C_drew ?_))); (case side2 => exact HC0_0.out); rintro e w24 ⟨v125, rfl, ho0, hb⟩; have n0_ := aM (Kd.R_lower ho0 (bSz (by repeat (first | (with_reducible first | exact HB.out | apply bAl | apply pbN | apply bD1 | refine bSt ?_ GE123.out) | exact HB.out)))); have n1_ := aM (blk_below (g := gb123) (o := .cells #[.slice A0_0 l0_0.length c0_0] 25 (0, 0)) (by (with_reducible repeat (first | refine bkN ?_ _ | refine bkD ?_ | refine bkA ?_ _)); exact BK123.out) hb); have n2_ := aM (bSp (by repeat (first | (with_reducible first | exact HB.out | apply bAl | apply pbN | apply bD1 | refine bSt ?_ GE123.out) | exact HB.out)) hb); clear BK123; clear HB; have HO126 := n0_; have BK123 := n1_; have HB := n2_; clear n0_ n1_ n2_; (try clear hb); (try clear hb2); (try clear hk); (try clear hi); (try clear ho0); obtain ⟨Ao25, co25, eo25⟩ := Kd.R_slice HO126.out; subst eo25; have hcz26_0 : w24.cell? ⟨gb123, 0, none⟩ = some (.slice A0_0 l0_0.length c0_0) := (bkC BK123.out 0).trans rfl; have hfz26_0 := bkF BK123.out 0))
  repeat (go_quiet (first | ((with_reducible refine gate_dst (N := 1) rfl ?_); refine box_event ?hg (N := 1) ?hd (cs := #[.slice A0_0 l0_0.length c0_0]) (t := 25) ?hr ?_; (case hd => rfl); (case hg => rfl); (case hr => first | (go_simp; done) | (go_simp; rfl)); intro gb123 hg w22 hbox hb; have n0_ := aM (bSp (by repeat (first | (with_reducible first | exact HB.out | apply bAl | apply pbN | apply bD1) | exact HB.out)) hb); have n1_ := aM (hbox); have n2_ := aM ((by rw [hg]; exact (bSz (by repeat (first | (with_reducible first | exact HB.out | apply bAl | apply pbN | apply bD1) | exact HB.out))) : w.heap.size ≤ gb123)); have n3_ := aM ((by rw [hg]; exact (bSz (by repeat (first | (with_reducible first | exact HB.out | apply bAl | apply pbN | apply bD1) | exact HB.out))) : w.heap.size ≤ gb123)); clear HB; have HB := n0_; have BK123 := n1_; have GW123 := n2_; have GE123 := n3_; clear n0_ n1_ n2_ n3_; clear hb hbox hg; have hcz23_0 : w22.cell? ⟨gb123, 0, none⟩ = some (.slice A0_0 l0_0.length c0_0) := (bkC BK123.out 0).trans rfl; have hfz23_0 := bkF BK123.out 0) | (go_at_call 64; (with_reducible refine (cpset_Make.calls _ _ l0_0 t124 _ ?side1 ?side2 A2.out).mono ?_); (case side1 => repeat (first | exact (Kd.C_below HR0_0.out HB.out) | (with_reducible refine Kd.C_alloc ?_ _) | (with_reducible refine Kd.C_drewN ?_ _) | (with_reducible refine Kd.C_drew ?_))); (case side2 => exact HC0_0.out); rintro e w24 ⟨v125, rfl, ho0, hb⟩; have n0_ := aM (Kd.R_lower ho0 (bSz (by repeat (first | (with_reducible first | exact HB.out | apply bAl | apply pbN | apply bD1 | refine bSt ?_ GE123.out) | exact HB.out)))); have n1_ := aM (blk_below (g := gb123) (o := .cells #[.slice A0_0 l0_0.length c0_0] 25 (0, 0)) (by (with_reducible repeat (first | refine bkN ?_ _ | refine bkD ?_ | refine bkA ?_ _)); exact BK123.out) hb); have n2_ := aM (bSp (by repeat (first | (with_reducible first | exact HB.out | apply bAl | apply pbN | apply bD1 | refine bSt ?_ GE123.out) | exact HB.out)) hb); clear BK123; clear HB; have HO126 := n0_; have BK123 := n1_; have HB := n2_; clear n0_ n1_ n2_; (try clear hb); (try clear hb2); (try clear hk); (try clear hi); (try clear ho0); obtain ⟨Ao25, co25, eo25⟩ := Kd.R_slice HO126.out; subst eo25; have hcz26_0 : w24.cell? ⟨gb123, 0, none⟩ = some (.slice A0_0 l0_0.length c0_0) := (bkC BK123.out 0).trans rfl; have hfz26_0 := bkF BK123.out 0)); try go_wp2_with (first | ((with_reducible refine gate_dst (N := 1) rfl ?_); refine box_event ?hg (N := 1) ?hd (cs := #[.slice A0_0 l0_0.length c0_0]) (t := 25) ?hr ?_; (case hd => rfl); (case hg => rfl); (case hr => first | (go_simp; done) | (go_simp; rfl)); intro gb123 hg w22 hbox hb; have n0_ := aM (bSp (by repeat (first | (with_reducible first | exact HB.out | apply bAl | apply pbN | apply bD1) | exact HB.out)) hb); have n1_ := aM (hbox); have n2_ := aM ((by rw [hg]; exact (bSz (by repeat (first | (with_reducible first | exact HB.out | apply bAl | apply pbN | apply bD1) | exact HB.out))) : w.heap.size ≤ gb123)); have n3_ := aM ((by rw [hg]; exact (bSz (by repeat (first | (with_reducible first | exact HB.out | apply bAl | apply pbN | apply bD1) | exact HB.out))) : w.heap.size ≤ gb123)); clear HB; have HB := n0_; have BK123 := n1_; have GW123 := n2_; have GE123 := n3_; clear n0_ n1_ n2_ n3_; clear hb hbox hg; have hcz23_0 : w22.cell? ⟨gb123, 0, none⟩ = some (.slice A0_0 l0_0.length c0_0) := (bkC BK123.out 0).trans rfl; have hfz23_0 := bkF BK123.out 0) | (go_at_call 64; (with_reducible refine (cpset_Make.calls _ _ l0_0 t124 _ ?side1 ?side2 A2.out).mono ?_); (case side1 => repeat (first | exact (Kd.C_below HR0_0.out HB.out) | (with_reducible refine Kd.C_alloc ?_ _) | (with_reducible refine Kd.C_drewN ?_ _) | (with_reducible refine Kd.C_drew ?_))); (case side2 => exact HC0_0.out); rintro e w24 ⟨v125, rfl, ho0, hb⟩; have n0_ := aM (Kd.R_lower ho0 (bSz (by repeat (first | (with_reducible first | exact HB.out | apply bAl | apply pbN | apply bD1 | refine bSt ?_ GE123.out) | exact HB.out)))); have n1_ := aM (blk_below (g := gb123) (o := .cells #[.slice A0_0 l0_0.length c0_0] 25 (0, 0)) (by (with_reducible repeat (first | refine bkN ?_ _ | refine bkD ?_ | refine bkA ?_ _)); exact BK123.out) hb); have n2_ := aM (bSp (by repeat (first | (with_reducible first | exact HB.out | apply bAl | apply pbN | apply bD1 | refine bSt ?_ GE123.out) | exact HB.out)) hb); clear BK123; clear HB; have HO126 := n0_; have BK123 := n1_; have HB := n2_; clear n0_ n1_ n2_; (try clear hb); (try clear hb2); (try clear hk); (try clear hi); (try clear ho0); obtain ⟨Ao25, co25, eo25⟩ := Kd.R_slice HO126.out; subst eo25; have hcz26_0 : w24.cell? ⟨gb123, 0, none⟩ = some (.slice A0_0 l0_0.length c0_0) := (bkC BK123.out 0).trans rfl; have hfz26_0 := bkF BK123.out 0)))
  go_ret
  exact ⟨by first | rfl | (simp [eN, eS] <;> rfl) | (simp [*, eN, eS] <;> rfl), by repeat (first | (with_reducible first | exact HB.out | apply bAl | apply pbN | apply bD1 | refine bSt ?_ GE123.out) | exact HB.out)⟩
def casemap_mapped.f (l0 : List (S43)) (a1 : Int) : Option (List Int) := (mapping_Get.f l0 a1 (⟨#[]⟩ : ByteArray)).bind fun bt130 => (if bt130.2 = true then (some bt130.1) else (some (([a1] : List Int))))
set_option maxHeartbeats 8000000 in
set_option maxRecDepth 100000 in
theorem casemap_mapped.calls (A0 : Option Addr) (c0 : Nat) (l0 : List (S43)) (a1 : Int) (r : List Int) (w : World) (hr0 : Kd.C k43 w A0 l0.length l0) (hc0 : l0.length ≤ c0) (h : casemap_mapped.f l0 a1 = some r) :
  Calls Try.prog 51 #[.slice A0 l0.length c0, .int .i64 a1] w fun e w' => ∃ v0_ : Value, e = .returned (v0_) ∧ Kd.R (Kd.int .i64) 3 w' w.heap.size (fun _ => True) v0_ r ∧ Below w.heap.size w w' := by
 have HR0 := aM hr0
 have HC0 := aM hc0
 clear hr0 hc0
 have HB := aM (Below.refl w.heap.size w)
 have H : ((mapping_Get.f l0 a1 (⟨#[]⟩ : ByteArray)).bind fun bt130 => (if bt130.2 = true then (some bt130.1) else (some (([a1] : List Int))))) = some r := h
 clear h
 replace H := Option.bind_eq_some_iff.mp H
 obtain ⟨⟨t130, t131⟩, A30, H⟩ := H
 replace H : (if t131 = true then (some t130) else (some (([a1] : List Int)))) = some r := H
 have A3 := aM A30
 clear A30
 by_cases c4 : t131 = true
 ·subst c4
  have H1 : (some t130) = some r := by rw [if_pos rfl] at H; exact H
  clear H
  have H := H1
  clear H1
  obtain rfl := Option.some.inj H
  go_enter Try.func51, Try.ntmps51
  go_wp2_with (first | ((with_reducible refine gate_callee (f := 56) rfl ?_); refine goesL_ (some 10) rfl rfl Try.func56 (by kernel_rfl) rfl #[.slice A0 l0.length c0, .int .i64 a1, .string (⟨#[]⟩ : ByteArray)] rfl (by (try simp only [List.map_toArray, List.map_cons, List.map_nil]); first | done | rfl | (simp only [List.length_drop, List.length_take]; rfl)) ?_; (with_reducible refine (mapping_Get.calls _ _ l0 a1 (⟨#[]⟩ : ByteArray) t130 true _ ?side1 ?side2 A3.out).mono ?_); (case side1 => repeat (first | exact HR0.out | (with_reducible refine Kd.C_alloc ?_ _) | (with_reducible refine Kd.C_drewN ?_ _) | (with_reducible refine Kd.C_drew ?_))); (case side2 => exact HC0.out); rintro e w5 ⟨v132, rfl, ho0, hb⟩; refine ⟨_, rfl, ?_⟩; have n0_ := aM (Kd.R_lower ho0 (bSz (by repeat (first | (with_reducible first | exact HB.out | apply bAl | apply pbN | apply bD1) | exact HB.out)))); have n1_ := aM (bSp (by repeat (first | (with_reducible first | exact HB.out | apply bAl | apply pbN | apply bD1) | exact HB.out)) hb); clear HB; have HO133 := n0_; have HB := n1_; clear n0_ n1_; (try clear hb); (try clear hb2); (try clear hk); (try clear hi); (try clear ho0)))
  go_ret
  exact ⟨_, by first | rfl | (simp [eN, eS] <;> rfl) | (simp [*, eN, eS] <;> rfl), by (with_reducible repeat (first | apply Kd.R_alloc | apply Kd.R_drewN | apply Kd.R_drew)); exact HO133.out, by repeat (first | (with_reducible first | exact HB.out | apply bAl | apply pbN | apply bD1) | exact HB.out)⟩
 ·replace c4 := Bool.eq_false_iff.mpr c4
  subst c4
  have H1 : (some (([a1] : List Int))) = some r := by rw [if_neg (show ¬ (false = true) by decide)] at H; exact H
  clear H
  have H := H1
  clear H1
  obtain ⟨y134, hy134⟩ : ∃ y_ : List Int, y_ = (([a1] : List Int)) := ⟨_, rfl⟩
  replace H : (some y134) = some r := by first | (rw [hy134]; with_reducible exact H) | (have H2_ := (Option.bind_some _ _).symm.trans H; rw [hy134]; with_reducible exact H2_) | (have H2_ := (Option.bind_some _ _).symm.trans H; with_reducible exact H2_) | with_reducible exact H | (rw [hy134]; exact H) | exact H
  have Ny134 := aM hy134
  clear hy134
  obtain rfl := Option.some.inj H
  go_enter Try.func51, Try.ntmps51
  go_wp2_with (first | ((with_reducible refine gate_callee (f := 56) rfl ?_); refine goesL_ (some 10) rfl rfl Try.func56 (by kernel_rfl) rfl #[.slice A0 l0.length c0, .int .i64 a1, .string (⟨#[]⟩ : ByteArray)] rfl (by (try simp only [List.map_toArray, List.map_cons, List.map_nil]); first | done | rfl | (simp only [List.length_drop, List.length_take]; rfl)) ?_; (with_reducible refine (mapping_Get.calls _ _ l0 a1 (⟨#[]⟩ : ByteArray) t130 false _ ?side1 ?side2 A3.out).mono ?_); (case side1 => repeat (first | exact HR0.out | (with_reducible refine Kd.C_alloc ?_ _) | (with_reducible refine Kd.C_drewN ?_ _) | (with_reducible refine Kd.C_drew ?_))); (case side2 => exact HC0.out); rintro e w6 ⟨v132, rfl, ho0, hb⟩; refine ⟨_, rfl, ?_⟩; have n0_ := aM (Kd.R_lower ho0 (bSz (by repeat (first | (with_reducible first | exact HB.out | apply bAl | apply pbN | apply bD1) | exact HB.out)))); have n1_ := aM (bSp (by repeat (first | (with_reducible first | exact HB.out | apply bAl | apply pbN | apply bD1) | exact HB.out)) hb); clear HB; have HO133 := n0_; have HB := n1_; clear n0_ n1_; (try clear hb); (try clear hb2); (try clear hk); (try clear hi); (try clear ho0)) | ((with_reducible refine gate_dst (N := 16) rfl ?_); refine Kd.R_lit (Kd.int .i64) _ 3 ?hg (N := 16) ?hd (xs := ([a1] : List Int)) (inner := [.int .i64 a1]) (ok := fun _ => True) (okp := fun _ => True) ?hr ?hp (fun _ hk => hk) trivial (Below.refl _ _) (Nat.le_refl _) (by simp) ?_; (case hd => rfl); (case hg => rfl); (case hr => first | (go_simp; done) | (go_simp; rfl)); (case hp => exact (Reps.one (show Kd.M (Kd.int .i64) _ _ _ a1 [.int .i64 a1] from rfl) (Reps.none _ _))); intro v135 w7 ho8 hb hg_ hnew_; clear hg_ hnew_; (first | rw [← Ny134.out] at ho8 | (simp only [Int.reduceToNat] at ho8; rw [← Ny134.out] at ho8)); have n0_ := aM (Kd.R_elder' (by (with_reducible repeat (first | apply Kd.R_alloc | apply Kd.R_drewN | apply Kd.R_drew)); exact HO133.out) (Kd.R_base ho8) hb); have n1_ := aM (Kd.R_lower (Kd.R_new' ho8 (Kd.R_lt (by (with_reducible repeat (first | apply Kd.R_alloc | apply Kd.R_drewN | apply Kd.R_drew)); exact HO133.out))) (bSz (by repeat (first | (with_reducible first | exact HB.out | apply bAl | apply pbN | apply bD1) | exact HB.out)))); have n2_ := aM (bSp (by repeat (first | (with_reducible first | exact HB.out | apply bAl | apply pbN | apply bD1) | exact HB.out)) hb); clear HO133; clear HB; have HO133 := n0_; have HO136 := n1_; have HB := n2_; clear n0_ n1_ n2_; clear hb ho8))
  go_ret
  exact ⟨_, by first | rfl | (simp [eN, eS] <;> rfl) | (simp [*, eN, eS] <;> rfl), by (with_reducible repeat (first | apply Kd.R_alloc | apply Kd.R_drewN | apply Kd.R_drew)); exact Kd.R_mono HO136.out (fun _ hk => trivial), by repeat (first | (with_reducible first | exact HB.out | apply bAl | apply pbN | apply bD1) | exact HB.out)⟩
end Go.Proofs.Ythnkmcfhpjmihaa.Q
end
section
namespace Go.Proofs.Ythnkmcfhpjmihaa.Q
open Go.RowKit Go.Proofs.YthnkmcfhpjmihaaW.PrintWords Go.Proofs.YthnkmcfhpjmihaaW.PrintLast Go.Proofs.YthnkmcfhpjmihaaW.PrintMore
set_option linter.unusedVariables false
theorem rdG_mid (pre : List Rg) (x : Rg) (rest : List Rg) : rd_T33 (pre ++ x :: rest) (pre.length : Int) = x := by
 unfold rd_T33
 rw [Int.toNat_natCast, List.getD_eq_getElem?_getD, List.getElem?_append_right (Nat.le_refl _), Nat.sub_self]
 rfl
theorem wrap_suc {n : Nat} (h : n < 1000000000) : wrap64 ((n : Int) + 1) = ((n + 1 : Nat) : Int) := by unfold wrap64; omega
theorem valid_go : ∀ (xs ys px py : List Rg) (k : Nat), px.length = py.length → xs.length = ys.length → (px ++ xs).length < 1000000000 → xs.length + 1 ≤ k →
  cpset_Valid.l0 k (px ++ xs) ((px ++ xs).length : Int) (px.length : Int) (py ++ ys) = some (decide (xs.map toP = ys.map toP))
 | [], [], px, py, k, h1, h2, h3, h4 => by
  obtain ⟨k, rfl⟩ : ∃ j, k = j + 1 := ⟨k - 1, by omega⟩
  rw [cpset_Valid.l0, if_neg (by simp)]
  rfl
 | x :: xs, y :: ys, px, py, k, h1, h2, h3, h4 => by
  obtain ⟨k, rfl⟩ : ∃ j, k = j + 1 := ⟨k - 1, by omega⟩
  have hp : px.length < 1000000000 := by simp at h3; omega
  have ih := valid_go xs ys (px ++ [x]) (py ++ [y]) k (by simp [h1]) (by simpa using h2) (by simpa using h3) (by simp at h4; omega)
  have ex : (px ++ [x]) ++ xs = px ++ x :: xs := by simp
  have ey : (py ++ [y]) ++ ys = py ++ y :: ys := by simp
  have el : ((px ++ [x]).length : Int) = ((px.length + 1 : Nat) : Int) := by simp
  rw [ex, ey, el] at ih
  have e1 : rd_T33 (py ++ y :: ys) (px.length : Int) = y := by rw [h1]; exact rdG_mid _ _ _
  rw [cpset_Valid.l0, if_pos (by simp; omega), if_pos (by omega), if_pos (by simp; omega), if_pos (by simp at h2 ⊢; omega), rdG_mid, e1, wrap_suc hp]
  rw [ih]
  by_cases ha : x.f0 = y.f0
  ·by_cases hb : x.f1 = y.f1
   ·rw [if_neg (by simp [ha, hb])]
    simp [toP, ha, hb]
   ·rw [if_pos (by simp [hb])]
    simp [toP, hb]
  ·rw [if_pos (by simp [ha])]
   simp [toP, ha]
 | [], _ :: _, _, _, _, _, h2, _, _ => by simp at h2
 | _ :: _, [], _, _, _, _, h2, _, _ => by simp at h2
def mkRS (xs : List Rg) : List Rg := (CpM.make (xs.map toP)).map ofP
theorem valid_ok (l : List Rg) (h : l.length < 1000000000) : cpset_Valid.f (l.length + 1) l = some (validL l) := by
 have hm : cpset_Make.f l = some (mkRS l) := by unfold cpset_Make.f; rw [if_pos h]; rfl
 unfold cpset_Valid.f
 rw [hm]
 show (if ((mkRS l).length : Int) = (l.length : Int) then _ else _) = _
 unfold validL
 have e : (mkRS l).map toP = CpM.make (l.map toP) := toP_ofP _
 by_cases hl : (mkRS l).length = l.length
 ·rw [if_pos (by omega)]
  have := valid_go (mkRS l) l [] [] (l.length + 1) rfl hl (by simpa [hl] using h) (by omega)
  rw [List.nil_append, List.nil_append, e] at this
  exact this.trans (congrArg some (decide_eq_decide.2 eq_comm))
 ·rw [if_neg (by omega), decide_eq_false]
  intro hh
  rw [← e] at hh
  exact hl (by simpa using (congrArg List.length hh).symm)
/-- A row of four rows, as it was just built. -/
theorem C_four (W : World) (g : Nat) (hg : g = W.heap.size) (A0 : Option Addr) (c0 : Nat) (l0 : List Mp) (A1 : Option Addr) (c1 : Nat) (l1 : List Mp) (A2 : Option Addr) (c2 : Nat) (l2 : List Mp) (A3 : Option Addr) (c3 : Nat) (l3 : List Mp)
  (h0 : Kd.C k43 W A0 l0.length l0) (k0 : l0.length ≤ c0) (h1 : Kd.C k43 W A1 l1.length l1) (k1 : l1.length ≤ c1) (h2 : Kd.C k43 W A2 l2.length l2) (k2 : l2.length ≤ c2) (h3 : Kd.C k43 W A3 l3.length l3) (k3 : l3.length ≤ c3) :
  Kd.C (Kd.slice 43 k43) (W.alloc (.cells #[.slice A0 l0.length c0, .slice A1 l1.length c1, .slice A2 l2.length c2, .slice A3 l3.length c3] 22)) (some ⟨g, 0, none⟩) 4 [l0, l1, l2, l3] := by
 subst hg
 refine ⟨rfl, by omega, fun _ => ⟨_, rfl, fun j p hj => ?_⟩⟩
 have hb := bAl (Below.refl W.heap.size W) (.cells #[.slice A0 l0.length c0, .slice A1 l1.length c1, .slice A2 l2.length c2, .slice A3 l3.length c3] 22)
 have hcell := fun i => bkC (blk_new W (.cells #[.slice A0 l0.length c0, .slice A1 l1.length c1, .slice A2 l2.length c2, .slice A3 l3.length c3] 22)) i
 have key : ∀ (i : Nat) (A : Option Addr) (c : Nat) (l : List Mp), (#[Value.slice A0 l0.length c0, .slice A1 l1.length c1, .slice A2 l2.length c2, .slice A3 l3.length c3] : Array Value)[i]? = some (.slice A l.length c) → l.length ≤ c → Kd.C k43 W A l.length l → ∃ cs : List Value, cs.length = 1 ∧ (Kd.slice 43 k43).K (W.alloc (.cells #[.slice A0 l0.length c0, .slice A1 l1.length c1, .slice A2 l2.length c2, .slice A3 l3.length c3] 22)) l cs ∧ ∀ (i' : Nat) (u : Value), cs[i']? = some u → (W.alloc (.cells #[.slice A0 l0.length c0, .slice A1 l1.length c1, .slice A2 l2.length c2, .slice A3 l3.length c3] 22)).cell? ((⟨W.heap.size, 0, none⟩ : Addr).add (i * 1 + i')) = some u := by
  intro i A c l h hk hC
  refine ⟨[.slice A l.length c], rfl, ⟨A, c, rfl, hk, Kd.C_below hC hb⟩, fun i' u hu => ?_⟩
  cases i' with
  | zero =>
   simp only [List.getElem?_cons_zero, Option.some.injEq] at hu
   subst hu
   rw [Nat.mul_one, Nat.add_zero, add_plain, hcell]
   exact h
  | succ n => simp at hu
 rcases j with _ | _ | _ | _ | j
 ·simp only [List.getElem?_cons_zero, Option.some.injEq] at hj; subst hj; exact key 0 A0 c0 l0 rfl k0 h0
 ·simp only [List.getElem?_cons_succ, List.getElem?_cons_zero, Option.some.injEq] at hj; subst hj; exact key 1 A1 c1 l1 rfl k1 h1
 ·simp only [List.getElem?_cons_succ, List.getElem?_cons_zero, Option.some.injEq] at hj; subst hj; exact key 2 A2 c2 l2 rfl k2 h2
 ·simp only [List.getElem?_cons_succ, List.getElem?_cons_zero, Option.some.injEq] at hj; subst hj; exact key 3 A3 c3 l3 rfl k3 h3
 ·simp at hj
theorem okC_spec {c : CaseS} (h : okC c = true) : okM c.lo = true ∧ okM c.up = true ∧ okM c.ti = true ∧ okM c.fo = true ∧ c.ca.length < 1000000 ∧ c.ig.length < 1000000 := by
 unfold okC at h
 simp only [Bool.and_eq_true, decide_eq_true_eq] at h
 obtain ⟨⟨⟨⟨⟨h1, h2⟩, h3⟩, h4⟩, h5⟩, h6⟩ := h
 exact ⟨h1, h2, h3, h4, h5, h6⟩
/-- Tags that are not allowed, from list number i on. -/
def badN (i : Nat) (l : List Mp) : Bool := l.any (badTag (decide (i = 0)))
theorem rdL_mem (ls : List (List Mp)) (k : Nat) (h : k < ls.length) : rd_L5 ls (k : Int) ∈ ls ∧ ls[k]? = some (rd_L5 ls (k : Int)) := by
 have e : rd_L5 ls (k : Int) = ls[k] := by
  unfold rd_L5
  rw [Int.toNat_natCast, List.getD_eq_getElem?_getD, List.getElem?_eq_getElem h]; rfl
 rw [e]
 exact ⟨List.getElem_mem h, List.getElem?_eq_getElem h⟩
theorem firstE_all : ∀ ls : List (List Mp), (∀ l ∈ ls, checkM l = 0) → firstE ls = 0
 | [], _ => rfl
 | l :: ls, h => by
  rw [firstE, if_pos (h l List.mem_cons_self)]
  exact firstE_all ls (fun x hx => h x (List.mem_cons_of_mem _ hx))
theorem firstE_at : ∀ (ls : List (List Mp)) (k : Nat) (l : List Mp), (∀ x ∈ ls.take k, checkM x = 0) → ls[k]? = some l → checkM l ≠ 0 → firstE ls = checkM l
 | [], k, l, _, h, _ => by simp at h
 | x :: ls, 0, l, _, h, h2 => by
  simp only [List.getElem?_cons_zero, Option.some.injEq] at h
  subst h
  rw [firstE, if_neg h2]
 | x :: ls, k + 1, l, h1, h, h2 => by
  rw [firstE, if_pos (h1 x (by simp))]
  exact firstE_at ls k l (fun y hy => h1 y (by rw [List.take_succ_cons]; exact List.mem_cons_of_mem _ hy)) (by simpa using h) h2
theorem tagF_list : tagF.toList = ([102, 105, 110, 97, 108] : List UInt8) := by kernel_rfl
theorem chk_bad (c : CaseS) (k : Nat) (l : List Mp) (x : Mp) (hf : firstE [c.lo, c.up, c.ti, c.fo] = 0) (hl : l = rd_L5 [c.lo, c.up, c.ti, c.fo] (k : Int)) (hk : k < 4) (hx : x ∈ l) (hb : badTag (decide (k = 0)) x = true) : caseChk c = 6 := by
 have hany : badsS c = true := by
  have h1 : l.any (badTag (decide (k = 0))) = true := List.any_eq_true.2 ⟨x, hx, hb⟩
  subst hl
  unfold badsS
  rcases k with _ | _ | _ | _ | k
  ·have h2 : c.lo.any (badTag true) = true := h1
   simp [h2]
  ·have h2 : c.up.any (badTag false) = true := h1
   simp [h2]
  ·have h2 : c.ti.any (badTag false) = true := h1
   simp [h2]
  ·have h2 : c.fo.any (badTag false) = true := h1
   simp [h2]
  ·omega
 unfold caseChk
 rw [if_pos hf, hany]
 rfl
theorem chk_good (c : CaseS) (hf : firstE [c.lo, c.up, c.ti, c.fo] = 0) (h : ∀ j, j < 4 → badN j (rd_L5 [c.lo, c.up, c.ti, c.fo] (j : Int)) = false) : caseChk c = if validL c.ca && validL c.ig then 0 else 11 := by
 have hany : badsS c = false := by
  have h0 : c.lo.any (badTag true) = false := h 0 (by omega)
  have h1 : c.up.any (badTag false) = false := h 1 (by omega)
  have h2 : c.ti.any (badTag false) = false := h 2 (by omega)
  have h3 : c.fo.any (badTag false) = false := h 3 (by omega)
  unfold badsS
  rw [h0, h1, h2, h3]
  rfl
 unfold caseChk
 rw [if_pos hf, hany]
 rfl
set_option maxHeartbeats 8000000 in
set_option maxRecDepth 100000 in
theorem caseCheck_calls (A0_0 : Option Addr) (c0_0 : Nat) (l0_0 : List Mp) (A0_1 : Option Addr) (c0_1 : Nat) (l0_1 : List Mp) (A0_2 : Option Addr) (c0_2 : Nat) (l0_2 : List Mp) (A0_3 : Option Addr) (c0_3 : Nat) (l0_3 : List Mp) (A0_4 : Option Addr) (c0_4 : Nat) (l0_4 : List Rg) (A0_5 : Option Addr) (c0_5 : Nat) (l0_5 : List Rg) (w : World) (hr0_0 : Kd.C k43 w A0_0 l0_0.length l0_0) (hc0_0 : l0_0.length ≤ c0_0) (hr0_1 : Kd.C k43 w A0_1 l0_1.length l0_1) (hc0_1 : l0_1.length ≤ c0_1) (hr0_2 : Kd.C k43 w A0_2 l0_2.length l0_2) (hc0_2 : l0_2.length ≤ c0_2) (hr0_3 : Kd.C k43 w A0_3 l0_3.length l0_3) (hc0_3 : l0_3.length ≤ c0_3) (hr0_4 : Kd.C k33 w A0_4 l0_4.length l0_4) (hc0_4 : l0_4.length ≤ c0_4) (hr0_5 : Kd.C k33 w A0_5 l0_5.length l0_5) (hc0_5 : l0_5.length ≤ c0_5) (hok : okC ⟨l0_0, l0_1, l0_2, l0_3, l0_4, l0_5⟩ = true) :
  Calls Try.prog 21 #[.agg #[.slice A0_0 l0_0.length c0_0, .slice A0_1 l0_1.length c0_1, .slice A0_2 l0_2.length c0_2, .slice A0_3 l0_3.length c0_3, .slice A0_4 l0_4.length c0_4, .slice A0_5 l0_5.length c0_5]] w fun e w' => e = .returned (.int .i64 (caseChk ⟨l0_0, l0_1, l0_2, l0_3, l0_4, l0_5⟩)) ∧ Below w.heap.size w w' := by
 obtain ⟨ok0, ok1, ok2, ok3, ok4, ok5⟩ := okC_spec hok
 have hu := Try.underlying27
 have HR0 := aM hr0_0
 have HC0 := aM hc0_0
 have HOK0 := aM ok0
 have HR1 := aM hr0_1
 have HC1 := aM hc0_1
 have HOK1 := aM ok1
 have HR2 := aM hr0_2
 have HC2 := aM hc0_2
 have HOK2 := aM ok2
 have HR3 := aM hr0_3
 have HC3 := aM hc0_3
 have HOK3 := aM ok3
 have HR4 := aM hr0_4
 have HC4 := aM hc0_4
 have HOK4 := aM ok4
 have HR5 := aM hr0_5
 have HC5 := aM hc0_5
 have HOK5 := aM ok5
 clear hok hr0_0 hc0_0 ok0 hr0_1 hc0_1 ok1 hr0_2 hc0_2 ok2 hr0_3 hc0_3 ok3 hr0_4 hc0_4 ok4 hr0_5 hc0_5 ok5
 go_enter Try.func21, Try.ntmps21
 go_wp2
 have HU := aM hu
 obtain ⟨ls, hls⟩ : ∃ ls, ls = [l0_0, l0_1, l0_2, l0_3] := ⟨_, rfl⟩
 have HLS := aM hls
 have HOKL : Aside0 (∀ l ∈ ls, okM l = true) := ⟨fun l hl => by
  rw [hls] at hl
  simp only [List.mem_cons, List.not_mem_nil, or_false] at hl
  rcases hl with rfl | rfl | rfl | rfl
  ·exact HOK0.out
  ·exact HOK1.out
  ·exact HOK2.out
  ·exact HOK3.out⟩
 have HL4 : Aside0 (ls.length = 4) := ⟨by rw [hls]; rfl⟩
 have hbx := bAl (Below.refl w.heap.size w) (Obj.cells #[Value.slice A0_0 l0_0.length c0_0, Value.slice A0_1 l0_1.length c0_1, Value.slice A0_2 l0_2.length c0_2, Value.slice A0_3 l0_3.length c0_3, Value.slice A0_4 l0_4.length c0_4, Value.slice A0_5 l0_5.length c0_5] 27)
 have hrow := C_four (w.alloc (Obj.cells #[Value.slice A0_0 l0_0.length c0_0, Value.slice A0_1 l0_1.length c0_1, Value.slice A0_2 l0_2.length c0_2, Value.slice A0_3 l0_3.length c0_3, Value.slice A0_4 l0_4.length c0_4, Value.slice A0_5 l0_5.length c0_5] 27)) (w.heap.size + 1) (by rw [World.size_alloc]) A0_0 c0_0 l0_0 A0_1 c0_1 l0_1 A0_2 c0_2 l0_2 A0_3 c0_3 l0_3 (Kd.C_below HR0.out hbx) HC0.out (Kd.C_below HR1.out hbx) HC1.out (Kd.C_below HR2.out hbx) HC2.out (Kd.C_below HR3.out hbx) HC3.out
 rw [← hls] at hrow
 have hb2 := bAl hbx (Obj.cells #[Value.slice A0_0 l0_0.length c0_0, Value.slice A0_1 l0_1.length c0_1, Value.slice A0_2 l0_2.length c0_2, Value.slice A0_3 l0_3.length c0_3] 22)
 have k0 : ((w.alloc (Obj.cells #[Value.slice A0_0 l0_0.length c0_0, Value.slice A0_1 l0_1.length c0_1, Value.slice A0_2 l0_2.length c0_2, Value.slice A0_3 l0_3.length c0_3, Value.slice A0_4 l0_4.length c0_4, Value.slice A0_5 l0_5.length c0_5] 27)).alloc (Obj.cells #[Value.slice A0_0 l0_0.length c0_0, Value.slice A0_1 l0_1.length c0_1, Value.slice A0_2 l0_2.length c0_2, Value.slice A0_3 l0_3.length c0_3] 22)).heap[w.heap.size]? = some (Obj.cells #[Value.slice A0_0 l0_0.length c0_0, Value.slice A0_1 l0_1.length c0_1, Value.slice A0_2 l0_2.length c0_2, Value.slice A0_3 l0_3.length c0_3, Value.slice A0_4 l0_4.length c0_4, Value.slice A0_5 l0_5.length c0_5] 27 (0, 0)) := ((bAl (Below.refl (w.alloc (Obj.cells #[Value.slice A0_0 l0_0.length c0_0, Value.slice A0_1 l0_1.length c0_1, Value.slice A0_2 l0_2.length c0_2, Value.slice A0_3 l0_3.length c0_3, Value.slice A0_4 l0_4.length c0_4, Value.slice A0_5 l0_5.length c0_5] 27)).heap.size _) (Obj.cells #[Value.slice A0_0 l0_0.length c0_0, Value.slice A0_1 l0_1.length c0_1, Value.slice A0_2 l0_2.length c0_2, Value.slice A0_3 l0_3.length c0_3] 22)).block _ (by rw [World.size_alloc]; omega)).trans (blk_new w _)
 generalize (w.alloc (Obj.cells #[Value.slice A0_0 l0_0.length c0_0, Value.slice A0_1 l0_1.length c0_1, Value.slice A0_2 l0_2.length c0_2, Value.slice A0_3 l0_3.length c0_3, Value.slice A0_4 l0_4.length c0_4, Value.slice A0_5 l0_5.length c0_5] 27)).alloc (Obj.cells #[Value.slice A0_0 l0_0.length c0_0, Value.slice A0_1 l0_1.length c0_1, Value.slice A0_2 l0_2.length c0_2, Value.slice A0_3 l0_3.length c0_3] 22) = W0 at *
 have HROW := aM hrow
 have HBW := aM hb2
 have HK0 := aM k0
 clear hls hbx hrow hb2 k0 hu
 go_loopw [20] (fun i wr => ∃ k : Nat, i = .int .i64 k ∧ Aside0 (k ≤ 4) ∧ Aside0 (∀ l ∈ ls.take k, checkM l = 0) ∧ Aside0 (Below W0.heap.size W0 wr)) (fun i _ => 4 - (intOf i).toNat)
 case atStart => exact ⟨0, rfl, ⟨Nat.zero_le _⟩, ⟨fun x hx => by simp at hx⟩, ⟨Below.refl _ _⟩⟩
 case round =>
  obtain ⟨k, rfl, HK, HA, HB⟩ := hrel
  by_cases hlt : k < 4
  ·obtain ⟨ad, A, n, e, x0, z1, z2⟩ := at_L5 (Kd.C_below HROW.out HB.out) (k : Int) (by omega) (by omega)
   cases e
   rw [Int.toNat_natCast] at x0
   rw [add_plain] at x0
   have hp1 : (0 ≤ (k : Int)) = True := eq_true (by omega)
   have hp2 : ((k : Int) < 4) = True := eq_true (by omega)
   have hp3 : (k < 4) = True := eq_true hlt
   have hdl : decide ((k : Int) < 4) = true := dT (by omega)
   have hw : wrap64 ((k : Int) + 1) = (k : Int) + 1 := by unfold wrap64; omega
   obtain ⟨hm, hrd⟩ := rdL_mem ls k (by have := HL4.out; omega)
   obtain ⟨o1, o2⟩ := okM_spec (HOKL.out _ hm)
   have hst : ls.take (k + 1) = ls.take k ++ [rd_L5 ls (k : Int)] := by rw [List.take_add_one, hrd]; rfl
   have HMC := aM (mCheck_calls A n (rd_L5 ls (k : Int)) wr z2 (by omega) (fun x hx => by have := (o2 x hx).2; omega))
   have HFE := aM (firstE_at ls k (rd_L5 ls (k : Int)) HA.out hrd)
   have HST := aM hst
   have HLT := aM hlt
   clear hst hlt hrd hm z1 z2 o1 o2
   generalize rd_L5 ls (k : Int) = l at *
   by_cases h0 : checkM l = 0
   ·have HQ := aM h0
    rw [h0] at HMC
    clear h0
    go_wp2_with (go_at_call 43; (with_reducible refine HMC.out.mono ?_); rintro e w1 ⟨rfl, hb⟩; have HB1 := aM (bSp HB.out hb); clear hb)
    go_roundw
    case rel => exact ⟨k + 1, by rw [hw]; rfl, HLT, ⟨fun y hy => by rw [HST.out] at hy; exact (List.mem_append.1 hy).elim (HA.out y) (fun h => by rw [List.mem_singleton.1 h]; exact HQ.out)⟩, HB1⟩
    case measure => rw [hw]; simp only [intOf]; have := HLT.out; omega
   ·have HF := aM (HFE.out h0)
    have HNZ := aM h0
    generalize checkM l = u at *
    have y1 : (u != 0) = true := by simpa using h0
    have y2 : (u == 0) = false := by simpa using h0
    have y3 : decide (u = 0) = false := decide_eq_false h0
    clear h0 HFE
    go_wp2_with (go_at_call 43; (with_reducible refine HMC.out.mono ?_); rintro e w1 ⟨rfl, hb⟩; have HB1 := aM (bSp HB.out hb); clear hb)
    go_ret
    have hck : caseChk ⟨l0_0, l0_1, l0_2, l0_3, l0_4, l0_5⟩ = u := by
     unfold caseChk
     show (if firstE [l0_0, l0_1, l0_2, l0_3] = 0 then _ else firstE [l0_0, l0_1, l0_2, l0_3]) = u
     rw [← HLS.out, HF.out, if_neg HNZ.out]
    rw [hck]
    exact ⟨rfl, bSp HBW.out HB1.out⟩
  ·obtain rfl : k = 4 := by have := HK.out; omega
   have hdl : decide (((4 : Nat) : Int) < 4) = false := rfl
   have hall := HA.out
   rw [List.take_of_length_le (by rw [HL4.out]; omega)] at hall
   have HFE := aM (firstE_all ls hall)
   have HBW2 := aM (bSp HBW.out HB.out)
   have k1 := (HB.out.block _ (blk_lt HK0.out)).trans HK0.out
   have HK1 := aM k1
   clear hlt hall HA HK
   have a0 : wr.cell? ⟨w.heap.size, 0, none⟩ = some (.slice A0_0 l0_0.length c0_0) := (bkC HK1.out 0).trans rfl
   have a1 : wr.cell? ⟨w.heap.size, 1, none⟩ = some (.slice A0_1 l0_1.length c0_1) := (bkC HK1.out 1).trans rfl
   have a2 : wr.cell? ⟨w.heap.size, 2, none⟩ = some (.slice A0_2 l0_2.length c0_2) := (bkC HK1.out 2).trans rfl
   have a3 : wr.cell? ⟨w.heap.size, 3, none⟩ = some (.slice A0_3 l0_3.length c0_3) := (bkC HK1.out 3).trans rfl
   go_upto_region 9 with (fail)
   obtain ⟨g, hg⟩ : ∃ g, g = wr.heap.size := ⟨_, rfl⟩
   have hrow := C_four wr wr.heap.size rfl A0_0 c0_0 l0_0 A0_1 c0_1 l0_1 A0_2 c0_2 l0_2 A0_3 c0_3 l0_3 (Kd.C_below HR0.out HBW2.out) HC0.out (Kd.C_below HR1.out HBW2.out) HC1.out (Kd.C_below HR2.out HBW2.out) HC2.out (Kd.C_below HR3.out HBW2.out) HC3.out
   rw [← HLS.out] at hrow
   have HB2 := aM (bAl HBW2.out (Obj.cells #[Value.slice A0_0 l0_0.length c0_0, Value.slice A0_1 l0_1.length c0_1, Value.slice A0_2 l0_2.length c0_2, Value.slice A0_3 l0_3.length c0_3] 22))
   have HK2 := aM (((bAl (Below.refl wr.heap.size wr) (Obj.cells #[Value.slice A0_0 l0_0.length c0_0, Value.slice A0_1 l0_1.length c0_1, Value.slice A0_2 l0_2.length c0_2, Value.slice A0_3 l0_3.length c0_3] 22)).block _ (blk_lt HK1.out)).trans HK1.out)
   rw [← hg] at hrow
   rw [← hg]
   have HROW2 := aM hrow
   generalize wr.alloc (Obj.cells #[Value.slice A0_0 l0_0.length c0_0, Value.slice A0_1 l0_1.length c0_1, Value.slice A0_2 l0_2.length c0_2, Value.slice A0_3 l0_3.length c0_3] 22) = W2 at *
   clear hrow hg a0 a1 a2 a3 HK1 HB HBW2 hdl
   go_loopw [40] (fun i w3 => ∃ k : Nat, i = .int .i64 k ∧ Aside0 (k ≤ 4) ∧ Aside0 (∀ j, j < k → badN j (rd_L5 ls (j : Int)) = false) ∧ Aside0 (Below W2.heap.size W2 w3)) (fun i _ => 4 - (intOf i).toNat)
   case atStart => exact ⟨0, rfl, ⟨Nat.zero_le _⟩, ⟨fun j hj => by omega⟩, ⟨Below.refl _ _⟩⟩
   case round =>
    obtain ⟨k, rfl, HK, HA, HB⟩ := hrel
    by_cases hlt : k < 4
    ·rename World => W3
     obtain ⟨ad, A, n, e, x0, z1, z2⟩ := at_L5 (Kd.C_below HROW2.out HB.out) (k : Int) (by omega) (by omega)
     cases e
     rw [Int.toNat_natCast] at x0
     rw [add_plain] at x0
     have hp1 : (0 ≤ (k : Int)) = True := eq_true (by omega)
     have hp2 : ((k : Int) < 4) = True := eq_true (by omega)
     have hp3 : (k < 4) = True := eq_true hlt
     have hdl : decide ((k : Int) < 4) = true := dT (by omega)
     have hw : wrap64 ((k : Int) + 1) = (k : Int) + 1 := by unfold wrap64; omega
     obtain ⟨hm, hrd⟩ := rdL_mem ls k (by have := HL4.out; omega)
     obtain ⟨o1, o2⟩ := okM_spec (HOKL.out _ hm)
     have HLL := aM o1
     have HZ2 := aM z2
     have HLT := aM hlt
     obtain ⟨l, hl⟩ : ∃ l, l = rd_L5 ls (k : Int) := ⟨_, rfl⟩
     rw [← hl] at x0 HLL HZ2
     have HLE := aM hl
     obtain ⟨i0, hi0⟩ : ∃ i0, i0 = decide (k = 0) := ⟨_, rfl⟩
     have HI0 := aM hi0
     have hk0 : decide ((k : Int) > 0) = !i0 := by
      rw [hi0]
      by_cases h : k = 0
      ·simp [h]
      ·rw [dT (by omega : (k : Int) > 0), decide_eq_false h]; rfl
     have hk1 : decide (0 < k) = !i0 := by rw [← hk0]; simp
     clear hlt hrd hm z1 z2 o1 o2 hl hi0
     go_wp2
     go_loopw [47] (fun j w4 => ∃ m : Nat, j = .int .i64 m ∧ Aside0 (m ≤ l.length) ∧ Aside0 (∀ y ∈ l.take m, badTag i0 y = false) ∧ Aside0 (Below W3.heap.size W3 w4)) (fun j _ => l.length - (intOf j).toNat)
     case atStart => exact ⟨0, rfl, ⟨Nat.zero_le _⟩, ⟨fun x hx => by simp at hx⟩, ⟨Below.refl _ _⟩⟩
     case round =>
      obtain ⟨m, rfl, HKM, HAM, HBJ⟩ := hrel
      by_cases hlm : m < l.length
      ·obtain ⟨ad2, E1, g1, e2, y0, y1, y2, v1, v2⟩ := at_T43 (Kd.C_below HZ2.out HBJ.out) (m : Int) (by omega) (by omega)
       cases e2
       rw [Int.toNat_natCast] at y0 y1 y2
       have hm1 : (0 ≤ (m : Int)) = True := eq_true (by omega)
       have hm2 : ((m : Int) < (l.length : Int)) = True := eq_true (by omega)
       have hdm : decide ((m : Int) < (l.length : Int)) = true := dT (by omega)
       have hwm : wrap64 ((m : Int) + 1) = (m : Int) + 1 := by have := HLL.out; unfold wrap64; omega
       have hrd : l[m]? = some (rd_T43 l (m : Int)) := by unfold rd_T43; rw [Int.toNat_natCast, List.getD_eq_getElem?_getD, List.getElem?_eq_getElem hlm]; rfl
       have hst : l.take (m + 1) = l.take m ++ [rd_T43 l (m : Int)] := by rw [List.take_add_one, hrd]; rfl
       have HMEM : Aside0 (rd_T43 l (m : Int) ∈ l) := ⟨List.mem_of_getElem? hrd⟩
       have HSTM := aM hst
       have HLTM := aM hlm
       clear hst hlm hrd v1 v2
       generalize rd_T43 l (m : Int) = x at *
       by_cases h0 : x.f2.size = 0
       ·have b1 : (x.f2.toList == ([] : List UInt8)) = true := beq_iff_eq.mpr ((bytesEq_nil x.f2).2 h0)
        have b2 : (x.f2.toList != ([] : List UInt8)) = false := bne_eq_false_iff_eq.mpr ((bytesEq_nil x.f2).2 h0)
        have HQ := aM (show badTag i0 x = false by unfold badTag; rw [decide_eq_false (by simpa using h0)]; rfl)
        clear h0
        go_wp2
        go_roundw
        case rel => exact ⟨m + 1, by rw [hwm]; rfl, HLTM, ⟨fun y hy => by rw [HSTM.out] at hy; exact (List.mem_append.1 hy).elim (HAM.out y) (fun h => by rw [List.mem_singleton.1 h]; exact HQ.out)⟩, ⟨bAl HBJ.out _⟩⟩
        case measure => rw [hwm]; simp only [intOf]; have := HLTM.out; omega
       ·have b1 : (x.f2.toList == ([] : List UInt8)) = false := beq_eq_false_iff_ne.mpr (fun h => h0 ((bytesEq_nil x.f2).1 h))
        have b2 : (x.f2.toList != ([] : List UInt8)) = true := bne_iff_ne.mpr (fun h => h0 ((bytesEq_nil x.f2).1 h))
        have hbt : badTag i0 x = (!i0 || decide (x.f2 ≠ tagF)) := by unfold badTag; rw [dT h0]; rfl
        cases i0 with
        | false =>
         have HBT := aM hbt
         clear hbt h0
         simp only [Bool.not_false] at hk0 hk1
         have hk2 : (0 < k) = True := eq_true (oD hk1)
         go_wp2
         go_ret
         have hck := chk_bad ⟨l0_0, l0_1, l0_2, l0_3, l0_4, l0_5⟩ k l x (by rw [← HLS.out]; exact HFE.out) (by rw [← HLS.out]; exact HLE.out) HLT.out HMEM.out (by rw [← HI0.out, HBT.out]; rfl)
         rw [hck]
         exact ⟨rfl, bSp HB2.out (bSp HB.out (bAl HBJ.out _))⟩
        | true =>
         simp only [Bool.not_true] at hk0 hk1
         have hk2 : (0 < k) = False := eq_false (of_decide_eq_false hk1)
         by_cases hf : x.f2 = tagF
         ·have d1 : (x.f2.toList == ([102, 105, 110, 97, 108] : List UInt8)) = true := beq_iff_eq.mpr (by rw [hf]; exact tagF_list)
          have d2 : (x.f2.toList != ([102, 105, 110, 97, 108] : List UInt8)) = false := bne_eq_false_iff_eq.mpr (by rw [hf]; exact tagF_list)
          have HQ := aM (show badTag true x = false by rw [hbt, hf]; rfl)
          clear hbt h0 hf
          go_wp2
          go_roundw
          case rel => exact ⟨m + 1, by rw [hwm]; rfl, HLTM, ⟨fun y hy => by rw [HSTM.out] at hy; exact (List.mem_append.1 hy).elim (HAM.out y) (fun h => by rw [List.mem_singleton.1 h]; exact HQ.out)⟩, ⟨bAl HBJ.out _⟩⟩
          case measure => rw [hwm]; simp only [intOf]; have := HLTM.out; omega
         ·have d1 : (x.f2.toList == ([102, 105, 110, 97, 108] : List UInt8)) = false := beq_eq_false_iff_ne.mpr (fun h => hf ((bytesEq_iff _ _).1 (h.trans tagF_list.symm)))
          have d2 : (x.f2.toList != ([102, 105, 110, 97, 108] : List UInt8)) = true := bne_iff_ne.mpr (fun h => hf ((bytesEq_iff _ _).1 (h.trans tagF_list.symm)))
          have HBT := aM (show badTag true x = (!false || decide (x.f2 ≠ tagF)) by rw [hbt, dT hf]; rfl)
          clear hbt h0 hf
          go_wp2
          go_ret
          have hck := chk_bad ⟨l0_0, l0_1, l0_2, l0_3, l0_4, l0_5⟩ k l x (by rw [← HLS.out]; exact HFE.out) (by rw [← HLS.out]; exact HLE.out) HLT.out HMEM.out (by rw [← HI0.out, HBT.out]; rfl)
          rw [hck]
          exact ⟨rfl, bSp HB2.out (bSp HB.out (bAl HBJ.out _))⟩
      ·obtain rfl : m = l.length := by have := HKM.out; omega
       have hdm : decide ((l.length : Int) < (l.length : Int)) = false := decide_eq_false (by omega)
       have HNB : Aside0 (badN k l = false) := ⟨by
        have h := HAM.out
        rw [List.take_length] at h
        unfold badN
        rw [← HI0.out, List.any_eq_false]
        intro y hy
        rw [h y hy]; decide⟩
       clear hlm
       go_wp2
       go_roundw
       case rel => exact ⟨k + 1, by rw [hw]; rfl, HLT, ⟨fun j hj => by
        by_cases he : j = k
        ·subst he; rw [← HLE.out]; exact HNB.out
        ·exact HA.out j (by omega)⟩, ⟨bSp HB.out HBJ.out⟩⟩
       case measure => rw [hw]; simp only [intOf]; have := HLT.out; omega
    ·obtain rfl : k = 4 := by have := HK.out; omega
     have hdl : decide (((4 : Nat) : Int) < 4) = false := rfl
     rename World => W3
     have k2 := (HB.out.block _ (blk_lt HK2.out)).trans HK2.out
     have a4 : W3.cell? ⟨w.heap.size, 4, none⟩ = some (.slice A0_4 l0_4.length c0_4) := (bkC k2 4).trans rfl
     have a5 : W3.cell? ⟨w.heap.size, 5, none⟩ = some (.slice A0_5 l0_5.length c0_5) := (bkC k2 5).trans rfl
     have HB3 := aM (bSp HB2.out HB.out)
     have hgood := chk_good ⟨l0_0, l0_1, l0_2, l0_3, l0_4, l0_5⟩ (by rw [← HLS.out]; exact HFE.out) (by rw [← HLS.out]; exact HA.out)
     have hg2 : caseChk ⟨l0_0, l0_1, l0_2, l0_3, l0_4, l0_5⟩ = if validL l0_4 && validL l0_5 then 0 else 11 := hgood
     have HV4 := aM (fun (W : World) (h : Kd.C k33 W A0_4 l0_4.length l0_4) => cpset_Valid.calls (l0_4.length + 1) A0_4 c0_4 l0_4 (validL l0_4) W h HC4.out (valid_ok l0_4 (by have := HOK4.out; show l0_4.length < _; have h2 : l0_4.length < 1000000 := this; omega)))
     have HV5 := aM (fun (W : World) (h : Kd.C k33 W A0_5 l0_5.length l0_5) => cpset_Valid.calls (l0_5.length + 1) A0_5 c0_5 l0_5 (validL l0_5) W h HC5.out (valid_ok l0_5 (by have := HOK5.out; have h2 : l0_5.length < 1000000 := this; omega)))
     clear k2 hlt hgood
     cases hv4 : validL l0_4 with
     | false =>
      rw [hv4] at HV4
      have HG2 := aM (show caseChk ⟨l0_0, l0_1, l0_2, l0_3, l0_4, l0_5⟩ = 11 by rw [hg2, hv4]; rfl)
      clear hv4 hg2
      go_wp2_with (first | (go_at_call 44; (with_reducible refine (HV4.out _ (Kd.C_below HR4.out HB3.out)).mono ?_); rintro e w5 ⟨rfl, hb⟩; have a5 := pcb hb a5; have HB5 := aM (bSp HB3.out hb); clear hb))
      go_ret
      rw [HG2.out]
      exact ⟨rfl, HB5.out⟩
     | true =>
      rw [hv4] at HV4
      cases hv5 : validL l0_5 with
      | false =>
       rw [hv5] at HV5
       have HG2 := aM (show caseChk ⟨l0_0, l0_1, l0_2, l0_3, l0_4, l0_5⟩ = 11 by rw [hg2, hv4, hv5]; rfl)
       clear hv4 hv5 hg2
       go_wp2_with (first | (go_at_call 44; (with_reducible refine (HV4.out _ (Kd.C_below HR4.out HB3.out)).mono ?_); rintro e w5 ⟨rfl, hb⟩; have a5 := pcb hb a5; have HB5 := aM (bSp HB3.out hb); clear hb) | (go_at_call 44; (with_reducible refine (HV5.out _ (Kd.C_below HR5.out HB5.out)).mono ?_); rintro e w6 ⟨rfl, hb⟩; have HB6 := aM (bSp HB5.out hb); clear hb))
       go_ret
       rw [HG2.out]
       exact ⟨rfl, HB6.out⟩
      | true =>
       rw [hv5] at HV5
       have HG2 := aM (show caseChk ⟨l0_0, l0_1, l0_2, l0_3, l0_4, l0_5⟩ = 0 by rw [hg2, hv4, hv5]; rfl)
       clear hv4 hv5 hg2
       go_wp2_with (first | (go_at_call 44; (with_reducible refine (HV4.out _ (Kd.C_below HR4.out HB3.out)).mono ?_); rintro e w5 ⟨rfl, hb⟩; have a5 := pcb hb a5; have HB5 := aM (bSp HB3.out hb); clear hb) | (go_at_call 44; (with_reducible refine (HV5.out _ (Kd.C_below HR5.out HB5.out)).mono ?_); rintro e w6 ⟨rfl, hb⟩; have HB6 := aM (bSp HB5.out hb); clear hb))
       go_ret
       rw [HG2.out]
       exact ⟨rfl, HB6.out⟩
end Go.Proofs.Ythnkmcfhpjmihaa.Q
end
section
namespace Go.Proofs.Ythnkmcfhpjmihaa.Q
open Go.RowKit Go.Proofs.YthnkmcfhpjmihaaW.PrintWords Go.Proofs.YthnkmcfhpjmihaaW.PrintLast Go.Proofs.YthnkmcfhpjmihaaW.PrintMore
attribute [local go_sem] max2_int min2_int max_two min_two max_three min_three max_four min_four
set_option linter.unusedVariables false
set_option linter.unusedSimpArgs false
def r01_Valid.f (a0 : Int) : Option (Bool) := if a0 ≥ 0 then (some (decide (a0 ≤ 1114111))) else (some false)
set_option maxHeartbeats 8000000 in
set_option maxRecDepth 100000 in
theorem r01_Valid.calls (a0 : Int) (r : Bool) (w : World) (h : r01_Valid.f a0 = some r) :
  Calls Try.prog 54 #[.int .i64 a0] w fun e w' => e = .returned (.bool r) ∧ Drawn0 w w' := by
 have H : (if a0 ≥ 0 then (some (decide (a0 ≤ 1114111))) else (some false)) = some r := h
 clear h
 by_cases c2 : a0 ≥ 0
 ·rw [if_pos c2] at H
  have c2b0 : decide (0 ≤ a0) = true := dT c2
  clear c2
  obtain rfl := Option.some.inj H
  go_enter Try.func54, Try.ntmps54
  go_wp2
  go_ret
  exact ⟨by first | rfl | (simp; done) | (simp [*]; done), by repeat (first | exact Drawn0.refl _ | apply Drawn0.step)⟩
 ·rw [if_neg c2] at H
  have c2b0 : decide (0 ≤ a0) = false := decide_eq_false c2
  clear c2
  obtain rfl := Option.some.inj H
  go_enter Try.func54, Try.ntmps54
  go_wp2
  go_ret
  exact ⟨by first | rfl | (simp; done) | (simp [*]; done), by repeat (first | exact Drawn0.refl _ | apply Drawn0.step)⟩
def r11_codes.l0 : Nat → Int → Int → List Int → ByteArray → Option (Bool)
 | 0, _, _, _, _ => none
 | k + 1, x3, x183000, x183001, x183002 => if x3 < (x183001.length : Int) then (if 0 ≤ x3 then ((r01_Valid.f (rd x183001 x3)).bind fun t184 => (if t184 = true then (r11_codes.l0 k (wrap64 (x3 + 1)) x183000 x183001 x183002) else (some false))) else (none)) else ((r01_Valid.f x183000).bind fun t185 => (some t185))
def r11_codes.f (k : Nat) (a0_0 : Int) (l0_1 : List Int) (a0_2 : ByteArray) : Option (Bool) := r11_codes.l0 k 0 a0_0 l0_1 a0_2
set_option maxHeartbeats 8000000 in
set_option maxRecDepth 100000 in
theorem r11_codes.calls (k : Nat) (a0_0 : Int) (A0_1 : Option Addr) (c0_1 : Nat) (l0_1 : List Int) (a0_2 : ByteArray) (r : Bool) (w : World) (hr0_1 : Kd.C (Kd.int .i64) w A0_1 l0_1.length l0_1) (hc0_1 : l0_1.length ≤ c0_1) (h : r11_codes.f k a0_0 l0_1 a0_2 = some r) :
  Calls Try.prog 74 #[.agg #[.int .i64 a0_0, .slice A0_1 l0_1.length c0_1, .string a0_2]] w fun e w' => e = .returned (.bool r) ∧ Below w.heap.size w w' := by
 have hu43 := Try.underlying43
 have HR0_1 := aM hr0_1
 have HC0_1 := aM hc0_1
 clear hr0_1 hc0_1
 have HB := aM (Below.refl w.heap.size w)
 have H : (r11_codes.l0 k 0 a0_0 l0_1 a0_2) = some r := h
 clear h
 have H' := aM H
 clear H
 go_enter Try.func74, Try.ntmps74
 go_wp2_with (first | ((with_reducible refine gate_dst (N := 1) rfl ?_); refine box_event ?hg (N := 1) ?hd (cs := #[.int .i64 a0_0, .slice A0_1 l0_1.length c0_1, .string a0_2]) (t := 43) ?hr ?_; (case hd => rfl); (case hg => rfl); (case hr => first | (go_simp; done) | (go_simp; rfl)); intro gb182 hg w2 hbox hb; have n0_ := aM (bSp (by repeat (first | (with_reducible first | exact HB.out | apply bAl | apply pbN | apply bD1) | exact HB.out)) hb); have n1_ := aM (hbox); have n2_ := aM ((by rw [hg]; exact (bSz (by repeat (first | (with_reducible first | exact HB.out | apply bAl | apply pbN | apply bD1) | exact HB.out))) : w.heap.size ≤ gb182)); have n3_ := aM ((by rw [hg]; exact (bSz (by repeat (first | (with_reducible first | exact HB.out | apply bAl | apply pbN | apply bD1) | exact HB.out))) : w.heap.size ≤ gb182)); clear HB; have HB := n0_; have BK182 := n1_; have GW182 := n2_; have GE182 := n3_; clear n0_ n1_ n2_ n3_; clear hb hbox hg))
 go_loopg [3] k (fun kq v3 w' => ∃ (x3_1 : Int), v3 = .int .i64 x3_1 ∧ Aside0 (r11_codes.l0 kq x3_1 a0_0 l0_1 a0_2 = some r) ∧ Aside0 (kq ≤ k) ∧ Aside0 (w'.heap[gb182]? = some (.cells #[.int .i64 a0_0, (.slice A0_1 l0_1.length c0_1), .string a0_2] 43 (0, 0))) ∧ Aside0 (Below w.heap.size w w'))
 case atStart => exact ⟨(0), (by first | rfl | (simp; done) | (simp [*]; done)), H', ⟨Nat.le_refl _⟩, ⟨by (with_reducible repeat (first | refine bkN ?_ _ | refine bkD ?_ | refine bkA ?_ _)); exact BK182.out⟩, ⟨by repeat (first | (with_reducible first | exact HB.out | apply bAl | apply pbN | apply bD1 | refine bSt ?_ GE182.out) | exact HB.out)⟩⟩
 case round =>
  clear H'
  try clear p2
  obtain ⟨x3_1, rfl, HA, HK1, BK182, HB⟩ := hrel
  cases gk with
  | zero => exact absurd HA.out (by simp [r11_codes.l0])
  | succ k1 =>
   have H := HA.out
   clear HA
   simp only [r11_codes.l0] at H
   by_cases c3 : x3_1 < (l0_1.length : Int)
   ·rw [if_pos c3] at H
    have c3b0 : decide (x3_1 < (l0_1.length : Int)) = true := dT c3
    clear c3
    by_cases c4 : 0 ≤ x3_1
    ·rw [if_pos c4] at H
     have c4b0 : decide (0 ≤ x3_1) = true := dT c4
     clear c4
     replace H := Option.bind_eq_some_iff.mp H
     obtain ⟨t184, A50, H⟩ := H
     replace H : (if t184 = true then (r11_codes.l0 k1 (wrap64 (x3_1 + 1)) a0_0 l0_1 a0_2) else (some false)) = some r := H
     have A5 := aM A50
     clear A50
     by_cases c6 : t184 = true
     ·subst c6
      have H1 : (r11_codes.l0 k1 (wrap64 (x3_1 + 1)) a0_0 l0_1 a0_2) = some r := by rw [if_pos rfl] at H; exact H
      clear H
      have H := H1
      clear H1
      have H' := aM H
      clear H
      have hcz7_0 : wr.cell? ⟨gb182, 0, none⟩ = some (.int .i64 a0_0) := (bkC BK182.out 0).trans rfl
      have hcz7_1 : wr.cell? ⟨gb182, 1, none⟩ = some (.slice A0_1 l0_1.length c0_1) := (bkC BK182.out 1).trans rfl
      have hcz7_2 : wr.cell? ⟨gb182, 2, none⟩ = some (.string a0_2) := (bkC BK182.out 2).trans rfl
      have hfz7_0 := bkF BK182.out 0
      have hfz7_1 := bkF BK182.out 1
      have hfz7_2 := bkF BK182.out 2
      have p183 : 0 ≤ (x3_1 : Int) := oD (by first | (with_reducible assumption) | assumption)
      have q183 : x3_1 < (l0_1.length : Int) := oD (by first | (with_reducible assumption) | assumption)
      obtain ⟨ad183, e183, hx183_0⟩ := Kd.at_int HR0_1.out x3_1 p183 q183
      cases e183
      replace hx183_0 := (HB.out.cell (World.block_lt_of_cell? w _ hx183_0)).trans hx183_0
      replace p183 := eq_true p183
      replace q183 := eq_true q183
      go_wp2_with (first | ((with_reducible refine gate_callee (f := 54) rfl ?_); refine goesL_ (some 16) rfl rfl Try.func54 (by kernel_rfl) rfl #[.int .i64 (rd l0_1 x3_1)] rfl (by (try simp only [List.map_toArray, List.map_cons, List.map_nil]); first | done | rfl | (simp only [List.length_drop, List.length_take]; rfl)) ?_; (with_reducible refine (r01_Valid.calls (rd l0_1 x3_1) true _ A5.out).mono ?_); rintro e w' ⟨rfl, ⟨nd, rfl⟩⟩; refine ⟨_, rfl, ?_⟩))
      go_roundg k1
      case measure => have := HK1.out; omega
      case rel => exact ⟨(wrap64 (x3_1 + 1)), (by first | rfl | (simp; done) | (simp [*]; done)), H', ⟨by have := HK1.out; omega⟩, ⟨by (with_reducible repeat (first | refine bkN ?_ _ | refine bkD ?_ | refine bkA ?_ _)); exact BK182.out⟩, ⟨by repeat (first | (with_reducible first | exact HB.out | apply bAl | apply pbN | apply bD1 | refine bSt ?_ GE182.out) | exact HB.out)⟩⟩
     ·replace c6 := Bool.eq_false_iff.mpr c6
      subst c6
      have H1 : (some false) = some r := by rw [if_neg (show ¬ (false = true) by decide)] at H; exact H
      clear H
      have H := H1
      clear H1
      obtain rfl := Option.some.inj H
      have hcz8_0 : wr.cell? ⟨gb182, 0, none⟩ = some (.int .i64 a0_0) := (bkC BK182.out 0).trans rfl
      have hcz8_1 : wr.cell? ⟨gb182, 1, none⟩ = some (.slice A0_1 l0_1.length c0_1) := (bkC BK182.out 1).trans rfl
      have hcz8_2 : wr.cell? ⟨gb182, 2, none⟩ = some (.string a0_2) := (bkC BK182.out 2).trans rfl
      have hfz8_0 := bkF BK182.out 0
      have hfz8_1 := bkF BK182.out 1
      have hfz8_2 := bkF BK182.out 2
      have p183 : 0 ≤ (x3_1 : Int) := oD (by first | (with_reducible assumption) | assumption)
      have q183 : x3_1 < (l0_1.length : Int) := oD (by first | (with_reducible assumption) | assumption)
      obtain ⟨ad183, e183, hx183_0⟩ := Kd.at_int HR0_1.out x3_1 p183 q183
      cases e183
      replace hx183_0 := (HB.out.cell (World.block_lt_of_cell? w _ hx183_0)).trans hx183_0
      replace p183 := eq_true p183
      replace q183 := eq_true q183
      go_wp2_with (first | ((with_reducible refine gate_callee (f := 54) rfl ?_); refine goesL_ (some 16) rfl rfl Try.func54 (by kernel_rfl) rfl #[.int .i64 (rd l0_1 x3_1)] rfl (by (try simp only [List.map_toArray, List.map_cons, List.map_nil]); first | done | rfl | (simp only [List.length_drop, List.length_take]; rfl)) ?_; (with_reducible refine (r01_Valid.calls (rd l0_1 x3_1) false _ A5.out).mono ?_); rintro e w' ⟨rfl, ⟨nd, rfl⟩⟩; refine ⟨_, rfl, ?_⟩))
      go_ret
      exact ⟨by first | rfl | (simp [eN, eS] <;> rfl) | (simp [*, eN, eS] <;> rfl), by repeat (first | (with_reducible first | exact HB.out | apply bAl | apply pbN | apply bD1 | refine bSt ?_ GE182.out) | exact HB.out)⟩
    ·rw [if_neg c4] at H
     exact absurd H (by simp)
   ·rw [if_neg c3] at H
    have c3b0 : decide (x3_1 < (l0_1.length : Int)) = false := decide_eq_false c3
    clear c3
    replace H := Option.bind_eq_some_iff.mp H
    obtain ⟨t185, A90, H⟩ := H
    replace H : (some t185) = some r := H
    have A9 := aM A90
    clear A90
    obtain rfl := Option.some.inj H
    have hcz10_0 : wr.cell? ⟨gb182, 0, none⟩ = some (.int .i64 a0_0) := (bkC BK182.out 0).trans rfl
    have hcz10_1 : wr.cell? ⟨gb182, 1, none⟩ = some (.slice A0_1 l0_1.length c0_1) := (bkC BK182.out 1).trans rfl
    have hcz10_2 : wr.cell? ⟨gb182, 2, none⟩ = some (.string a0_2) := (bkC BK182.out 2).trans rfl
    have hfz10_0 := bkF BK182.out 0
    have hfz10_1 := bkF BK182.out 1
    have hfz10_2 := bkF BK182.out 2
    go_wp2_with (first | ((with_reducible refine gate_callee (f := 54) rfl ?_); refine goesL_ (some 20) rfl rfl Try.func54 (by kernel_rfl) rfl #[.int .i64 a0_0] rfl (by (try simp only [List.map_toArray, List.map_cons, List.map_nil]); first | done | rfl | (simp only [List.length_drop, List.length_take]; rfl)) ?_; (with_reducible refine (r01_Valid.calls a0_0 t185 _ A9.out).mono ?_); rintro e w' ⟨rfl, ⟨nd, rfl⟩⟩; refine ⟨_, rfl, ?_⟩))
    go_ret
    exact ⟨by first | rfl | (simp [eN, eS] <;> rfl) | (simp [*, eN, eS] <;> rfl), by repeat (first | (with_reducible first | exact HB.out | apply bAl | apply pbN | apply bD1 | refine bSt ?_ GE182.out) | exact HB.out)⟩
attribute [local go_sem] max2_int min2_int max_two min_two max_three min_three max_four min_four
set_option linter.unusedVariables false
set_option linter.unusedSimpArgs false
def r11_Name.l0 : Nat → ByteArray → Int → Option (Bool)
 | 0, _, _ => none
 | k + 1, x0, x3 => if x3 < (x0.size : Int) then (if 0 ≤ x3 then (if (bt x0 x3) ≥ 65 then (if (bt x0 x3) ≤ 90 then (r11_Name.l0 k x0 (wrap64 (x3 + 1))) else (if (bt x0 x3) ≥ 97 then (if (bt x0 x3) ≤ 122 then (r11_Name.l0 k x0 (wrap64 (x3 + 1))) else (if (bt x0 x3) ≥ 48 then (if (bt x0 x3) ≤ 57 then (r11_Name.l0 k x0 (wrap64 (x3 + 1))) else (if ((bt x0 x3) = 95) then (r11_Name.l0 k x0 (wrap64 (x3 + 1))) else (some false))) else (if ((bt x0 x3) = 95) then (r11_Name.l0 k x0 (wrap64 (x3 + 1))) else (some false)))) else (if (bt x0 x3) ≥ 48 then (if (bt x0 x3) ≤ 57 then (r11_Name.l0 k x0 (wrap64 (x3 + 1))) else (if ((bt x0 x3) = 95) then (r11_Name.l0 k x0 (wrap64 (x3 + 1))) else (some false))) else (if ((bt x0 x3) = 95) then (r11_Name.l0 k x0 (wrap64 (x3 + 1))) else (some false))))) else (if (bt x0 x3) ≥ 97 then (if (bt x0 x3) ≤ 122 then (r11_Name.l0 k x0 (wrap64 (x3 + 1))) else (if (bt x0 x3) ≥ 48 then (if (bt x0 x3) ≤ 57 then (r11_Name.l0 k x0 (wrap64 (x3 + 1))) else (if ((bt x0 x3) = 95) then (r11_Name.l0 k x0 (wrap64 (x3 + 1))) else (some false))) else (if ((bt x0 x3) = 95) then (r11_Name.l0 k x0 (wrap64 (x3 + 1))) else (some false)))) else (if (bt x0 x3) ≥ 48 then (if (bt x0 x3) ≤ 57 then (r11_Name.l0 k x0 (wrap64 (x3 + 1))) else (if ((bt x0 x3) = 95) then (r11_Name.l0 k x0 (wrap64 (x3 + 1))) else (some false))) else (if ((bt x0 x3) = 95) then (r11_Name.l0 k x0 (wrap64 (x3 + 1))) else (some false))))) else (none)) else (if (x0.size : Int) ≥ 1 then (some (decide ((x0.size : Int) ≤ 32))) else (some false))
def r11_Name.f (k : Nat) (a0 : ByteArray) : Option (Bool) := r11_Name.l0 k a0 0
set_option maxHeartbeats 8000000 in
set_option maxRecDepth 100000 in
theorem r11_Name.calls (k : Nat) (a0 : ByteArray) (r : Bool) (w : World) (h : r11_Name.f k a0 = some r) :
  Calls Try.prog 75 #[.string a0] w fun e w' => e = .returned (.bool r) ∧ Drawn0 w w' := by
 have H : (r11_Name.l0 k a0 0) = some r := h
 clear h
 have H' := aM H
 clear H
 go_enter Try.func75, Try.ntmps75
 go_wp2
 go_loopg [3] k (fun kq v3 w' => ∃ (x3_1 : Int), v3 = .int .i64 x3_1 ∧ Aside0 (r11_Name.l0 kq a0 x3_1 = some r) ∧ Aside0 (kq ≤ k) ∧ Drawn0 w w')
 case atStart => exact ⟨(0), (by first | rfl | (simp; done) | (simp [*]; done)), H', ⟨Nat.le_refl _⟩, by repeat (first | exact Drawn0.refl _ | apply Drawn0.step)⟩
 case round =>
  clear H'
  obtain ⟨x3_1, rfl, HA, HK1, ⟨m1, rfl⟩⟩ := hrel
  cases gk with
  | zero => exact absurd HA.out (by simp [r11_Name.l0])
  | succ k1 =>
   have H := HA.out
   clear HA
   simp only [r11_Name.l0] at H
   by_cases c2 : x3_1 < (a0.size : Int)
   ·rw [if_pos c2] at H
    have c2b0 : decide (x3_1 < (a0.size : Int)) = true := dT c2
    clear c2
    by_cases c3 : 0 ≤ x3_1
    ·rw [if_pos c3] at H
     have c3b0 : decide (0 ≤ x3_1) = true := dT c3
     clear c3
     by_cases c5 : (bt a0 x3_1) ≥ 65
     ·rw [if_pos c5] at H
      have c5b0 : decide (65 ≤ (bt a0 x3_1)) = true := dT c5
      clear c5
      by_cases c6 : (bt a0 x3_1) ≤ 90
      ·rw [if_pos c6] at H
       have c6b0 : decide ((bt a0 x3_1) ≤ 90) = true := dT c6
       clear c6
       have H' := aM H
       clear H
       have p4 : 0 ≤ (x3_1 : Int) := oD (by first | (with_reducible assumption) | assumption)
       have q4 : x3_1 < (a0.size : Int) := oD (by first | (with_reducible assumption) | assumption)
       have hx4 := bt_at a0 x3_1
       replace p4 := eq_true p4
       replace q4 := eq_true q4
       go_wp2
       go_roundg k1
       case measure => have := HK1.out; omega
       case rel => exact ⟨(wrap64 (x3_1 + 1)), (by first | rfl | (simp; done) | (simp [*]; done)), H', ⟨by have := HK1.out; omega⟩, by repeat (first | exact Drawn0.refl _ | apply Drawn0.step)⟩
      ·rw [if_neg c6] at H
       have c6b0 : decide ((bt a0 x3_1) ≤ 90) = false := decide_eq_false c6
       clear c6
       by_cases c7 : (bt a0 x3_1) ≥ 97
       ·rw [if_pos c7] at H
        have c7b0 : decide (97 ≤ (bt a0 x3_1)) = true := dT c7
        clear c7
        by_cases c8 : (bt a0 x3_1) ≤ 122
        ·rw [if_pos c8] at H
         have c8b0 : decide ((bt a0 x3_1) ≤ 122) = true := dT c8
         clear c8
         have H' := aM H
         clear H
         have p4 : 0 ≤ (x3_1 : Int) := oD (by first | (with_reducible assumption) | assumption)
         have q4 : x3_1 < (a0.size : Int) := oD (by first | (with_reducible assumption) | assumption)
         have hx4 := bt_at a0 x3_1
         replace p4 := eq_true p4
         replace q4 := eq_true q4
         go_wp2
         go_roundg k1
         case measure => have := HK1.out; omega
         case rel => exact ⟨(wrap64 (x3_1 + 1)), (by first | rfl | (simp; done) | (simp [*]; done)), H', ⟨by have := HK1.out; omega⟩, by repeat (first | exact Drawn0.refl _ | apply Drawn0.step)⟩
        ·rw [if_neg c8] at H
         have c8b0 : decide ((bt a0 x3_1) ≤ 122) = false := decide_eq_false c8
         clear c8
         by_cases c9 : (bt a0 x3_1) ≥ 48
         ·rw [if_pos c9] at H
          have c9b0 : decide (48 ≤ (bt a0 x3_1)) = true := dT c9
          clear c9
          by_cases c10 : (bt a0 x3_1) ≤ 57
          ·rw [if_pos c10] at H
           have c10b0 : decide ((bt a0 x3_1) ≤ 57) = true := dT c10
           clear c10
           have H' := aM H
           clear H
           have p4 : 0 ≤ (x3_1 : Int) := oD (by first | (with_reducible assumption) | assumption)
           have q4 : x3_1 < (a0.size : Int) := oD (by first | (with_reducible assumption) | assumption)
           have hx4 := bt_at a0 x3_1
           replace p4 := eq_true p4
           replace q4 := eq_true q4
           go_wp2
           go_roundg k1
           case measure => have := HK1.out; omega
           case rel => exact ⟨(wrap64 (x3_1 + 1)), (by first | rfl | (simp; done) | (simp [*]; done)), H', ⟨by have := HK1.out; omega⟩, by repeat (first | exact Drawn0.refl _ | apply Drawn0.step)⟩
          ·rw [if_neg c10] at H
           have c10b0 : decide ((bt a0 x3_1) ≤ 57) = false := decide_eq_false c10
           clear c10
           by_cases c11 : ((bt a0 x3_1) = 95)
           ·rw [if_pos c11] at H
            have c11b0 : ((bt a0 x3_1) == 95) = true := beq_iff_eq.mpr c11
            have c11b1 : ((bt a0 x3_1) != 95) = false := bne_eq_false_iff_eq.mpr c11
            clear c11
            have H' := aM H
            clear H
            have p4 : 0 ≤ (x3_1 : Int) := oD (by first | (with_reducible assumption) | assumption)
            have q4 : x3_1 < (a0.size : Int) := oD (by first | (with_reducible assumption) | assumption)
            have hx4 := bt_at a0 x3_1
            replace p4 := eq_true p4
            replace q4 := eq_true q4
            go_wp2
            go_roundg k1
            case measure => have := HK1.out; omega
            case rel => exact ⟨(wrap64 (x3_1 + 1)), (by first | rfl | (simp; done) | (simp [*]; done)), H', ⟨by have := HK1.out; omega⟩, by repeat (first | exact Drawn0.refl _ | apply Drawn0.step)⟩
           ·rw [if_neg c11] at H
            have c11b0 : ((bt a0 x3_1) == 95) = false := beq_eq_false_iff_ne.mpr c11
            have c11b1 : ((bt a0 x3_1) != 95) = true := bne_iff_ne.mpr c11
            obtain rfl := Option.some.inj H
            have p4 : 0 ≤ (x3_1 : Int) := oD (by first | (with_reducible assumption) | assumption)
            have q4 : x3_1 < (a0.size : Int) := oD (by first | (with_reducible assumption) | assumption)
            have hx4 := bt_at a0 x3_1
            replace p4 := eq_true p4
            replace q4 := eq_true q4
            go_wp2
            go_ret
            exact ⟨by first | rfl | (simp; done) | (simp [*]; done), by repeat (first | exact Drawn0.refl _ | apply Drawn0.step)⟩
         ·rw [if_neg c9] at H
          have c9b0 : decide (48 ≤ (bt a0 x3_1)) = false := decide_eq_false c9
          clear c9
          by_cases c12 : ((bt a0 x3_1) = 95)
          ·rw [if_pos c12] at H
           have c12b0 : ((bt a0 x3_1) == 95) = true := beq_iff_eq.mpr c12
           have c12b1 : ((bt a0 x3_1) != 95) = false := bne_eq_false_iff_eq.mpr c12
           clear c12
           have H' := aM H
           clear H
           have p4 : 0 ≤ (x3_1 : Int) := oD (by first | (with_reducible assumption) | assumption)
           have q4 : x3_1 < (a0.size : Int) := oD (by first | (with_reducible assumption) | assumption)
           have hx4 := bt_at a0 x3_1
           replace p4 := eq_true p4
           replace q4 := eq_true q4
           go_wp2
           go_roundg k1
           case measure => have := HK1.out; omega
           case rel => exact ⟨(wrap64 (x3_1 + 1)), (by first | rfl | (simp; done) | (simp [*]; done)), H', ⟨by have := HK1.out; omega⟩, by repeat (first | exact Drawn0.refl _ | apply Drawn0.step)⟩
          ·rw [if_neg c12] at H
           have c12b0 : ((bt a0 x3_1) == 95) = false := beq_eq_false_iff_ne.mpr c12
           have c12b1 : ((bt a0 x3_1) != 95) = true := bne_iff_ne.mpr c12
           obtain rfl := Option.some.inj H
           have p4 : 0 ≤ (x3_1 : Int) := oD (by first | (with_reducible assumption) | assumption)
           have q4 : x3_1 < (a0.size : Int) := oD (by first | (with_reducible assumption) | assumption)
           have hx4 := bt_at a0 x3_1
           replace p4 := eq_true p4
           replace q4 := eq_true q4
           go_wp2
           go_ret
           exact ⟨by first | rfl | (simp; done) | (simp [*]; done), by repeat (first | exact Drawn0.refl _ | apply Drawn0.step)⟩
       ·rw [if_neg c7] at H
        have c7b0 : decide (97 ≤ (bt a0 x3_1)) = false := decide_eq_false c7
        clear c7
        by_cases c13 : (bt a0 x3_1) ≥ 48
        ·rw [if_pos c13] at H
         have c13b0 : decide (48 ≤ (bt a0 x3_1)) = true := dT c13
         clear c13
         by_cases c14 : (bt a0 x3_1) ≤ 57
         ·rw [if_pos c14] at H
          have c14b0 : decide ((bt a0 x3_1) ≤ 57) = true := dT c14
          clear c14
          have H' := aM H
          clear H
          have p4 : 0 ≤ (x3_1 : Int) := oD (by first | (with_reducible assumption) | assumption)
          have q4 : x3_1 < (a0.size : Int) := oD (by first | (with_reducible assumption) | assumption)
          have hx4 := bt_at a0 x3_1
          replace p4 := eq_true p4
          replace q4 := eq_true q4
          go_wp2
          go_roundg k1
          case measure => have := HK1.out; omega
          case rel => exact ⟨(wrap64 (x3_1 + 1)), (by first | rfl | (simp; done) | (simp [*]; done)), H', ⟨by have := HK1.out; omega⟩, by repeat (first | exact Drawn0.refl _ | apply Drawn0.step)⟩
         ·rw [if_neg c14] at H
          have c14b0 : decide ((bt a0 x3_1) ≤ 57) = false := decide_eq_false c14
          clear c14
          by_cases c15 : ((bt a0 x3_1) = 95)
          ·rw [if_pos c15] at H
           have c15b0 : ((bt a0 x3_1) == 95) = true := beq_iff_eq.mpr c15
           have c15b1 : ((bt a0 x3_1) != 95) = false := bne_eq_false_iff_eq.mpr c15
           clear c15
           have H' := aM H
           clear H
           have p4 : 0 ≤ (x3_1 : Int) := oD (by first | (with_reducible assumption) | assumption)
           have q4 : x3_1 < (a0.size : Int) := oD (by first | (with_reducible assumption) | assumption)
           have hx4 := bt_at a0 x3_1
           replace p4 := eq_true p4
           replace q4 := eq_true q4
           go_wp2
           go_roundg k1
           case measure => have := HK1.out; omega
           case rel => exact ⟨(wrap64 (x3_1 + 1)), (by first | rfl | (simp; done) | (simp [*]; done)), H', ⟨by have := HK1.out; omega⟩, by repeat (first | exact Drawn0.refl _ | apply Drawn0.step)⟩
          ·rw [if_neg c15] at H
           have c15b0 : ((bt a0 x3_1) == 95) = false := beq_eq_false_iff_ne.mpr c15
           have c15b1 : ((bt a0 x3_1) != 95) = true := bne_iff_ne.mpr c15
           obtain rfl := Option.some.inj H
           have p4 : 0 ≤ (x3_1 : Int) := oD (by first | (with_reducible assumption) | assumption)
           have q4 : x3_1 < (a0.size : Int) := oD (by first | (with_reducible assumption) | assumption)
           have hx4 := bt_at a0 x3_1
           replace p4 := eq_true p4
           replace q4 := eq_true q4
           go_wp2
           go_ret
           exact ⟨by first | rfl | (simp; done) | (simp [*]; done), by repeat (first | exact Drawn0.refl _ | apply Drawn0.step)⟩
        ·rw [if_neg c13] at H
         have c13b0 : decide (48 ≤ (bt a0 x3_1)) = false := decide_eq_false c13
         clear c13
         by_cases c16 : ((bt a0 x3_1) = 95)
         ·rw [if_pos c16] at H
          have c16b0 : ((bt a0 x3_1) == 95) = true := beq_iff_eq.mpr c16
          have c16b1 : ((bt a0 x3_1) != 95) = false := bne_eq_false_iff_eq.mpr c16
          clear c16
          have H' := aM H
          clear H
          have p4 : 0 ≤ (x3_1 : Int) := oD (by first | (with_reducible assumption) | assumption)
          have q4 : x3_1 < (a0.size : Int) := oD (by first | (with_reducible assumption) | assumption)
          have hx4 := bt_at a0 x3_1
          replace p4 := eq_true p4
          replace q4 := eq_true q4
          go_wp2
          go_roundg k1
          case measure => have := HK1.out; omega
          case rel => exact ⟨(wrap64 (x3_1 + 1)), (by first | rfl | (simp; done) | (simp [*]; done)), H', ⟨by have := HK1.out; omega⟩, by repeat (first | exact Drawn0.refl _ | apply Drawn0.step)⟩
         ·rw [if_neg c16] at H
          have c16b0 : ((bt a0 x3_1) == 95) = false := beq_eq_false_iff_ne.mpr c16
          have c16b1 : ((bt a0 x3_1) != 95) = true := bne_iff_ne.mpr c16
          obtain rfl := Option.some.inj H
          have p4 : 0 ≤ (x3_1 : Int) := oD (by first | (with_reducible assumption) | assumption)
          have q4 : x3_1 < (a0.size : Int) := oD (by first | (with_reducible assumption) | assumption)
          have hx4 := bt_at a0 x3_1
          replace p4 := eq_true p4
          replace q4 := eq_true q4
          go_wp2
          go_ret
          exact ⟨by first | rfl | (simp; done) | (simp [*]; done), by repeat (first | exact Drawn0.refl _ | apply Drawn0.step)⟩
     ·rw [if_neg c5] at H
      have c5b0 : decide (65 ≤ (bt a0 x3_1)) = false := decide_eq_false c5
      clear c5
      by_cases c17 : (bt a0 x3_1) ≥ 97
      ·rw [if_pos c17] at H
       have c17b0 : decide (97 ≤ (bt a0 x3_1)) = true := dT c17
       clear c17
       by_cases c18 : (bt a0 x3_1) ≤ 122
       ·rw [if_pos c18] at H
        have c18b0 : decide ((bt a0 x3_1) ≤ 122) = true := dT c18
        clear c18
        have H' := aM H
        clear H
        have p4 : 0 ≤ (x3_1 : Int) := oD (by first | (with_reducible assumption) | assumption)
        have q4 : x3_1 < (a0.size : Int) := oD (by first | (with_reducible assumption) | assumption)
        have hx4 := bt_at a0 x3_1
        replace p4 := eq_true p4
        replace q4 := eq_true q4
        go_wp2
        go_roundg k1
        case measure => have := HK1.out; omega
        case rel => exact ⟨(wrap64 (x3_1 + 1)), (by first | rfl | (simp; done) | (simp [*]; done)), H', ⟨by have := HK1.out; omega⟩, by repeat (first | exact Drawn0.refl _ | apply Drawn0.step)⟩
       ·rw [if_neg c18] at H
        have c18b0 : decide ((bt a0 x3_1) ≤ 122) = false := decide_eq_false c18
        clear c18
        by_cases c19 : (bt a0 x3_1) ≥ 48
        ·rw [if_pos c19] at H
         have c19b0 : decide (48 ≤ (bt a0 x3_1)) = true := dT c19
         clear c19
         by_cases c20 : (bt a0 x3_1) ≤ 57
         ·rw [if_pos c20] at H
          have c20b0 : decide ((bt a0 x3_1) ≤ 57) = true := dT c20
          clear c20
          have H' := aM H
          clear H
          have p4 : 0 ≤ (x3_1 : Int) := oD (by first | (with_reducible assumption) | assumption)
          have q4 : x3_1 < (a0.size : Int) := oD (by first | (with_reducible assumption) | assumption)
          have hx4 := bt_at a0 x3_1
          replace p4 := eq_true p4
          replace q4 := eq_true q4
          go_wp2
          go_roundg k1
          case measure => have := HK1.out; omega
          case rel => exact ⟨(wrap64 (x3_1 + 1)), (by first | rfl | (simp; done) | (simp [*]; done)), H', ⟨by have := HK1.out; omega⟩, by repeat (first | exact Drawn0.refl _ | apply Drawn0.step)⟩
         ·rw [if_neg c20] at H
          have c20b0 : decide ((bt a0 x3_1) ≤ 57) = false := decide_eq_false c20
          clear c20
          by_cases c21 : ((bt a0 x3_1) = 95)
          ·rw [if_pos c21] at H
           have c21b0 : ((bt a0 x3_1) == 95) = true := beq_iff_eq.mpr c21
           have c21b1 : ((bt a0 x3_1) != 95) = false := bne_eq_false_iff_eq.mpr c21
           clear c21
           have H' := aM H
           clear H
           have p4 : 0 ≤ (x3_1 : Int) := oD (by first | (with_reducible assumption) | assumption)
           have q4 : x3_1 < (a0.size : Int) := oD (by first | (with_reducible assumption) | assumption)
           have hx4 := bt_at a0 x3_1
           replace p4 := eq_true p4
           replace q4 := eq_true q4
           go_wp2
           go_roundg k1
           case measure => have := HK1.out; omega
           case rel => exact ⟨(wrap64 (x3_1 + 1)), (by first | rfl | (simp; done) | (simp [*]; done)), H', ⟨by have := HK1.out; omega⟩, by repeat (first | exact Drawn0.refl _ | apply Drawn0.step)⟩
          ·rw [if_neg c21] at H
           have c21b0 : ((bt a0 x3_1) == 95) = false := beq_eq_false_iff_ne.mpr c21
           have c21b1 : ((bt a0 x3_1) != 95) = true := bne_iff_ne.mpr c21
           obtain rfl := Option.some.inj H
           have p4 : 0 ≤ (x3_1 : Int) := oD (by first | (with_reducible assumption) | assumption)
           have q4 : x3_1 < (a0.size : Int) := oD (by first | (with_reducible assumption) | assumption)
           have hx4 := bt_at a0 x3_1
           replace p4 := eq_true p4
           replace q4 := eq_true q4
           go_wp2
           go_ret
           exact ⟨by first | rfl | (simp; done) | (simp [*]; done), by repeat (first | exact Drawn0.refl _ | apply Drawn0.step)⟩
        ·rw [if_neg c19] at H
         have c19b0 : decide (48 ≤ (bt a0 x3_1)) = false := decide_eq_false c19
         clear c19
         by_cases c22 : ((bt a0 x3_1) = 95)
         ·rw [if_pos c22] at H
          have c22b0 : ((bt a0 x3_1) == 95) = true := beq_iff_eq.mpr c22
          have c22b1 : ((bt a0 x3_1) != 95) = false := bne_eq_false_iff_eq.mpr c22
          clear c22
          have H' := aM H
          clear H
          have p4 : 0 ≤ (x3_1 : Int) := oD (by first | (with_reducible assumption) | assumption)
          have q4 : x3_1 < (a0.size : Int) := oD (by first | (with_reducible assumption) | assumption)
          have hx4 := bt_at a0 x3_1
          replace p4 := eq_true p4
          replace q4 := eq_true q4
          go_wp2
          go_roundg k1
          case measure => have := HK1.out; omega
          case rel => exact ⟨(wrap64 (x3_1 + 1)), (by first | rfl | (simp; done) | (simp [*]; done)), H', ⟨by have := HK1.out; omega⟩, by repeat (first | exact Drawn0.refl _ | apply Drawn0.step)⟩
         ·rw [if_neg c22] at H
          have c22b0 : ((bt a0 x3_1) == 95) = false := beq_eq_false_iff_ne.mpr c22
          have c22b1 : ((bt a0 x3_1) != 95) = true := bne_iff_ne.mpr c22
          obtain rfl := Option.some.inj H
          have p4 : 0 ≤ (x3_1 : Int) := oD (by first | (with_reducible assumption) | assumption)
          have q4 : x3_1 < (a0.size : Int) := oD (by first | (with_reducible assumption) | assumption)
          have hx4 := bt_at a0 x3_1
          replace p4 := eq_true p4
          replace q4 := eq_true q4
          go_wp2
          go_ret
          exact ⟨by first | rfl | (simp; done) | (simp [*]; done), by repeat (first | exact Drawn0.refl _ | apply Drawn0.step)⟩
      ·rw [if_neg c17] at H
       have c17b0 : decide (97 ≤ (bt a0 x3_1)) = false := decide_eq_false c17
       clear c17
       by_cases c23 : (bt a0 x3_1) ≥ 48
       ·rw [if_pos c23] at H
        have c23b0 : decide (48 ≤ (bt a0 x3_1)) = true := dT c23
        clear c23
        by_cases c24 : (bt a0 x3_1) ≤ 57
        ·rw [if_pos c24] at H
         have c24b0 : decide ((bt a0 x3_1) ≤ 57) = true := dT c24
         clear c24
         have H' := aM H
         clear H
         have p4 : 0 ≤ (x3_1 : Int) := oD (by first | (with_reducible assumption) | assumption)
         have q4 : x3_1 < (a0.size : Int) := oD (by first | (with_reducible assumption) | assumption)
         have hx4 := bt_at a0 x3_1
         replace p4 := eq_true p4
         replace q4 := eq_true q4
         go_wp2
         go_roundg k1
         case measure => have := HK1.out; omega
         case rel => exact ⟨(wrap64 (x3_1 + 1)), (by first | rfl | (simp; done) | (simp [*]; done)), H', ⟨by have := HK1.out; omega⟩, by repeat (first | exact Drawn0.refl _ | apply Drawn0.step)⟩
        ·rw [if_neg c24] at H
         have c24b0 : decide ((bt a0 x3_1) ≤ 57) = false := decide_eq_false c24
         clear c24
         by_cases c25 : ((bt a0 x3_1) = 95)
         ·rw [if_pos c25] at H
          have c25b0 : ((bt a0 x3_1) == 95) = true := beq_iff_eq.mpr c25
          have c25b1 : ((bt a0 x3_1) != 95) = false := bne_eq_false_iff_eq.mpr c25
          clear c25
          have H' := aM H
          clear H
          have p4 : 0 ≤ (x3_1 : Int) := oD (by first | (with_reducible assumption) | assumption)
          have q4 : x3_1 < (a0.size : Int) := oD (by first | (with_reducible assumption) | assumption)
          have hx4 := bt_at a0 x3_1
          replace p4 := eq_true p4
          replace q4 := eq_true q4
          go_wp2
          go_roundg k1
          case measure => have := HK1.out; omega
          case rel => exact ⟨(wrap64 (x3_1 + 1)), (by first | rfl | (simp; done) | (simp [*]; done)), H', ⟨by have := HK1.out; omega⟩, by repeat (first | exact Drawn0.refl _ | apply Drawn0.step)⟩
         ·rw [if_neg c25] at H
          have c25b0 : ((bt a0 x3_1) == 95) = false := beq_eq_false_iff_ne.mpr c25
          have c25b1 : ((bt a0 x3_1) != 95) = true := bne_iff_ne.mpr c25
          obtain rfl := Option.some.inj H
          have p4 : 0 ≤ (x3_1 : Int) := oD (by first | (with_reducible assumption) | assumption)
          have q4 : x3_1 < (a0.size : Int) := oD (by first | (with_reducible assumption) | assumption)
          have hx4 := bt_at a0 x3_1
          replace p4 := eq_true p4
          replace q4 := eq_true q4
          go_wp2
          go_ret
          exact ⟨by first | rfl | (simp; done) | (simp [*]; done), by repeat (first | exact Drawn0.refl _ | apply Drawn0.step)⟩
       ·rw [if_neg c23] at H
        have c23b0 : decide (48 ≤ (bt a0 x3_1)) = false := decide_eq_false c23
        clear c23
        by_cases c26 : ((bt a0 x3_1) = 95)
        ·rw [if_pos c26] at H
         have c26b0 : ((bt a0 x3_1) == 95) = true := beq_iff_eq.mpr c26
         have c26b1 : ((bt a0 x3_1) != 95) = false := bne_eq_false_iff_eq.mpr c26
         clear c26
         have H' := aM H
         clear H
         have p4 : 0 ≤ (x3_1 : Int) := oD (by first | (with_reducible assumption) | assumption)
         have q4 : x3_1 < (a0.size : Int) := oD (by first | (with_reducible assumption) | assumption)
         have hx4 := bt_at a0 x3_1
         replace p4 := eq_true p4
         replace q4 := eq_true q4
         go_wp2
         go_roundg k1
         case measure => have := HK1.out; omega
         case rel => exact ⟨(wrap64 (x3_1 + 1)), (by first | rfl | (simp; done) | (simp [*]; done)), H', ⟨by have := HK1.out; omega⟩, by repeat (first | exact Drawn0.refl _ | apply Drawn0.step)⟩
        ·rw [if_neg c26] at H
         have c26b0 : ((bt a0 x3_1) == 95) = false := beq_eq_false_iff_ne.mpr c26
         have c26b1 : ((bt a0 x3_1) != 95) = true := bne_iff_ne.mpr c26
         obtain rfl := Option.some.inj H
         have p4 : 0 ≤ (x3_1 : Int) := oD (by first | (with_reducible assumption) | assumption)
         have q4 : x3_1 < (a0.size : Int) := oD (by first | (with_reducible assumption) | assumption)
         have hx4 := bt_at a0 x3_1
         replace p4 := eq_true p4
         replace q4 := eq_true q4
         go_wp2
         go_ret
         exact ⟨by first | rfl | (simp; done) | (simp [*]; done), by repeat (first | exact Drawn0.refl _ | apply Drawn0.step)⟩
    ·rw [if_neg c3] at H
     exact absurd H (by simp)
   ·rw [if_neg c2] at H
    have c2b0 : decide (x3_1 < (a0.size : Int)) = false := decide_eq_false c2
    clear c2
    by_cases c27 : (a0.size : Int) ≥ 1
    ·rw [if_pos c27] at H
     have c27b0 : decide (1 ≤ (a0.size : Int)) = true := dT c27
     have c27b1 : decide (1 ≤ a0.size) = true := dT (by omega)
     clear c27
     obtain rfl := Option.some.inj H
     go_wp2
     go_ret
     exact ⟨by first | rfl | (simp; done) | (simp [*]; done), by repeat (first | exact Drawn0.refl _ | apply Drawn0.step)⟩
    ·rw [if_neg c27] at H
     have c27b0 : decide (1 ≤ (a0.size : Int)) = false := decide_eq_false c27
     have c27b1 : decide (1 ≤ a0.size) = false := decide_eq_false (by omega)
     clear c27
     obtain rfl := Option.some.inj H
     go_wp2
     go_ret
     exact ⟨by first | rfl | (simp; done) | (simp [*]; done), by repeat (first | exact Drawn0.refl _ | apply Drawn0.step)⟩
end Go.Proofs.Ythnkmcfhpjmihaa.Q
end
