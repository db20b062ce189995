/- Lemmas, printed and written for this claim: part 6. -/
import Derived.Test.YthnkmcfhpjmihaaG2
import Derived.Test.YthnkmcfhpjmihaaG4
import Derived.IntWalk
import Derived.Deep.RegionHeld3
import Derived.Deep.RegionLaw
import Derived.Test.YthnkmcfhpjmihaaG5
section
namespace Go.Proofs.Ythnkmcfhpjmihaa.Q
open Go.RowKit Go.Proofs.YthnkmcfhpjmihaaW.PrintWords Go.Proofs.YthnkmcfhpjmihaaW.PrintLast Go.Proofs.YthnkmcfhpjmihaaW.PrintMore
attribute [local go_sem] max2_int min2_int max_two min_two max_three min_three max_four min_four
set_option linter.unusedVariables false
set_option linter.unusedSimpArgs false
mutual
def r02_place.l0 : Nat → List Int → Int → List Int → Bool → Int → Option (List Int)
 | 0, _, _, _, _, _ => none
 | k + 1, x0, x1, x5, x6, x7 => if x7 < (x0.length : Int) then (if x6 = true then (r02_place.j1 k x0 x1 x5 x6 x7 false) else (if 0 ≤ x7 then (r02_place.j1 k x0 x1 x5 x6 x7 (decide ((rd x0 x7) ≥ x1))) else (none))) else (if x6 = true then (some x5) else (if x5.length < 17592186044416 then (some (x5 ++ [x1])) else (none)))
def r02_place.j1 : Nat → List Int → Int → List Int → Bool → Int → Bool → Option (List Int)
 | 0, _, _, _, _, _, _ => none
 | k + 1, x0, x1, x5, x6, x7, x23 => if x23 = true then (if 0 ≤ x7 then (if x7 < (x0.length : Int) then (if (rd x0 x7) > x1 then (if x5.length < 17592186044416 then ((some (x5 ++ [x1] : List Int)).bind fun y218 => (if y218.length < 17592186044416 then (r02_place.l0 k x0 x1 (y218 ++ [rd x0 x7]) true (wrap64 (x7 + 1))) else (none))) else (none)) else (if x5.length < 17592186044416 then (r02_place.l0 k x0 x1 (x5 ++ [rd x0 x7]) true (wrap64 (x7 + 1))) else (none))) else (none)) else (none)) else (if 0 ≤ x7 then (if x7 < (x0.length : Int) then (if x5.length < 17592186044416 then (r02_place.l0 k x0 x1 (x5 ++ [rd x0 x7]) x6 (wrap64 (x7 + 1))) else (none)) else (none)) else (none))
end
def r02_place.f (k : Nat) (l0 : List Int) (a1 : Int) : Option (List Int) := r02_place.l0 k l0 a1 ([] : List Int) false 0
set_option maxHeartbeats 8000000 in
set_option maxRecDepth 100000 in
theorem r02_place.calls (k : Nat) (A0 : Option Addr) (c0 : Nat) (l0 : List Int) (a1 : Int) (r : List Int) (w : World) (hr0 : Kd.C (Kd.int .i64) w A0 l0.length l0) (hc0 : l0.length ≤ c0) (h : r02_place.f k l0 a1 = some r) :
  Calls Try.prog 100 #[.slice A0 l0.length c0, .int .i64 a1] w fun e w' => ∃ v0_ : Value, e = .returned (v0_) ∧ Kd.R (Kd.int .i64) 3 w' w.heap.size (fun _ => True) v0_ r ∧ Below w.heap.size w w' := by
 have HR0 := aM hr0
 have HC0 := aM hc0
 clear hr0 hc0
 have HB := aM (Below.refl w.heap.size w)
 have H : (r02_place.l0 k l0 a1 ([] : List Int) false 0) = some r := h
 clear h
 have H' := aM H
 clear H
 go_enter Try.func100, Try.ntmps100
 go_wp2
 go_loopg [5, 6, 7] k (fun kq v5 v6 v7 w' => ∃ (x5_1 : List Int) (x6_1 : Bool) (x7_1 : Int), v6 = .bool x6_1 ∧ v7 = .int .i64 x7_1 ∧ Aside0 (r02_place.l0 kq l0 a1 x5_1 x6_1 x7_1 = some r) ∧ Aside0 (kq ≤ k) ∧ Aside0 (Kd.R (Kd.int .i64) 3 w' w.heap.size (fun _ => True) v5 x5_1) ∧ Aside0 (Below w.heap.size w w'))
 case atStart => exact ⟨(([] : List Int)), (false), (0), (by first | rfl | (simp; done) | (simp [*]; done)), (by first | rfl | (simp; done) | (simp [*]; done)), H', ⟨Nat.le_refl _⟩, ⟨by first | exact Kd.R_nil _ _ _ _ _ | exact Kd.N_nil _ _ _ _ _ | exact Kd.V_nil _ _ _ _ _ | exact Kd.Q_nil _ _ _ _ _ | exact Kd.S_nil _ _ _ _ _⟩, ⟨by repeat (first | (with_reducible first | exact HB.out | apply bAl | apply pbN | apply bD1) | exact HB.out)⟩⟩
 case round =>
  clear H'
  try clear c1
  try clear p2
  obtain ⟨x5_1, x6_1, x7_1, rfl, rfl, HA, HK1, HO_5, HB⟩ := hrel
  cases gk with
  | zero => exact absurd HA.out (by simp [r02_place.l0])
  | succ k1 =>
   have H := HA.out
   clear HA
   simp only [r02_place.l0] at H
   by_cases c3 : x7_1 < (l0.length : Int)
   ·rw [if_pos c3] at H
    have c3b0 : decide (x7_1 < (l0.length : Int)) = true := dT c3
    clear c3
    have HC4 := aM H
    clear H
    go_upto_region 6 with (fail)
    go_cut [23] (fun v23 wc => ∃ (kq : Nat) (x23_3 : Bool), v23 = .bool x23_3 ∧ Aside0 (r02_place.j1 kq l0 a1 x5_1 x6_1 x7_1 x23_3 = some r) ∧ Aside0 (kq ≤ k1) ∧ Aside0 (Kd.R (Kd.int .i64) 3 wc w.heap.size (fun _ => True) u5 x5_1) ∧ Aside0 (Below w.heap.size w wc))
    case first =>
     have H := HC4.out
     clear HC4
     by_cases c5 : x6_1 = true
     ·subst c5
      have H1 : (r02_place.j1 k1 l0 a1 x5_1 true x7_1 false) = some r := by rw [if_pos rfl] at H; exact H
      clear H
      have H := H1
      clear H1
      have H' := aM H
      clear H
      go_wp2
      go_meet
      case rel => exact ⟨_, (false), (by first | rfl | (simp; done) | (simp [*]; done)), H', ⟨by have := HK1.out; first | omega | exact Nat.le_refl _⟩, ⟨by (with_reducible repeat (first | apply Kd.R_alloc | apply Kd.R_drewN | apply Kd.R_drew)); exact HO_5.out⟩, ⟨by repeat (first | (with_reducible first | exact HB.out | apply bAl | apply pbN | apply bD1) | exact HB.out)⟩⟩
     ·replace c5 := Bool.eq_false_iff.mpr c5
      subst c5
      have H1 : (if 0 ≤ x7_1 then (r02_place.j1 k1 l0 a1 x5_1 false x7_1 (decide ((rd l0 x7_1) ≥ a1))) else (none)) = some r := by rw [if_neg (show ¬ (false = true) by decide)] at H; exact H
      clear H
      have H := H1
      clear H1
      by_cases c6 : 0 ≤ x7_1
      ·rw [if_pos c6] at H
       have c6b0 : decide (0 ≤ x7_1) = true := dT c6
       clear c6
       (first | rw [c6b0] | (simp only [i64_w, i32_w]; rw [c6b0]) | skip)
       have H' := aM H
       clear H
       have p216 : 0 ≤ (x7_1 : Int) := oD (by first | (with_reducible assumption) | assumption)
       have q216 : x7_1 < (l0.length : Int) := oD (by first | (with_reducible assumption) | assumption)
       obtain ⟨ad216, e216, hx216_0⟩ := Kd.at_int HR0.out x7_1 p216 q216
       cases e216
       replace hx216_0 := (HB.out.cell (World.block_lt_of_cell? w _ hx216_0)).trans hx216_0
       replace p216 := eq_true p216
       replace q216 := eq_true q216
       go_wp2
       go_meet
       case rel => exact ⟨_, (decide ((rd l0 x7_1) ≥ a1)), (by first | rfl | (simp; done) | (simp [*]; done)), H', ⟨by have := HK1.out; first | omega | exact Nat.le_refl _⟩, ⟨by (with_reducible repeat (first | apply Kd.R_alloc | apply Kd.R_drewN | apply Kd.R_drew)); exact HO_5.out⟩, ⟨by repeat (first | (with_reducible first | exact HB.out | apply bAl | apply pbN | apply bD1) | exact HB.out)⟩⟩
      ·rw [if_neg c6] at H
       exact absurd H (by simp)
    case rest =>
     clear HC4
     try clear c1
     try clear p2
     try clear q2
     try clear hx2
     try clear c3
     try clear c3b0
     try clear c5
     try clear c6
     try clear c6b0
     try clear hx216_0
     try clear p2
     try clear p216
     try clear q216
     obtain ⟨kq, x23_3, rfl, HA, HJ3, HO_5, HB⟩ := hcut
     cases kq with
     | zero => exact absurd HA.out (by simp [r02_place.j1])
     | succ kj3 =>
      have H := HA.out
      clear HA
      simp only [r02_place.j1] at H
      by_cases c7 : x23_3 = true
      ·subst c7
       have H1 : (if 0 ≤ x7_1 then (if x7_1 < (l0.length : Int) then (if (rd l0 x7_1) > a1 then (if x5_1.length < 17592186044416 then ((some (x5_1 ++ [a1] : List Int)).bind fun y218 => (if y218.length < 17592186044416 then (r02_place.l0 kj3 l0 a1 (y218 ++ [rd l0 x7_1]) true (wrap64 (x7_1 + 1))) else (none))) else (none)) else (if x5_1.length < 17592186044416 then (r02_place.l0 kj3 l0 a1 (x5_1 ++ [rd l0 x7_1]) true (wrap64 (x7_1 + 1))) else (none))) else (none)) else (none)) = some r := by rw [if_pos rfl] at H; exact H
       clear H
       have H := H1
       clear H1
       by_cases c8 : 0 ≤ x7_1
       ·rw [if_pos c8] at H
        have c8b0 : decide (0 ≤ x7_1) = true := dT c8
        clear c8
        by_cases c9 : x7_1 < (l0.length : Int)
        ·rw [if_pos c9] at H
         have c9b0 : decide (x7_1 < (l0.length : Int)) = true := dT c9
         clear c9
         by_cases c10 : (rd l0 x7_1) > a1
         ·rw [if_pos c10] at H
          have c10b0 : decide (a1 < (rd l0 x7_1)) = true := dT c10
          clear c10
          by_cases c11 : x5_1.length < 17592186044416
          ·rw [if_pos c11] at H
           have LMc11 := aM c11
           clear c11
           obtain ⟨y218, hy218⟩ : ∃ y_ : List Int, y_ = (x5_1 ++ [a1]) := ⟨_, rfl⟩
           replace H : (if y218.length < 17592186044416 then (r02_place.l0 kj3 l0 a1 (y218 ++ [rd l0 x7_1]) true (wrap64 (x7_1 + 1))) else (none)) = some r := by first | (rw [hy218]; with_reducible exact H) | (have H2_ := (Option.bind_some _ _).symm.trans H; rw [hy218]; with_reducible exact H2_) | (have H2_ := (Option.bind_some _ _).symm.trans H; with_reducible exact H2_) | with_reducible exact H | (rw [hy218]; exact H) | exact H
           have Ny218 := aM hy218
           clear hy218
           by_cases c12 : y218.length < 17592186044416
           ·rw [if_pos c12] at H
            have LMc12 := aM c12
            clear c12
            obtain ⟨y222, hy222⟩ : ∃ y_ : List Int, y_ = (y218 ++ [rd l0 x7_1]) := ⟨_, rfl⟩
            replace H : (r02_place.l0 kj3 l0 a1 y222 true (wrap64 (x7_1 + 1))) = some r := by first | (rw [hy222]; with_reducible exact H) | (have H2_ := (Option.bind_some _ _).symm.trans H; rw [hy222]; with_reducible exact H2_) | (have H2_ := (Option.bind_some _ _).symm.trans H; with_reducible exact H2_) | with_reducible exact H | (rw [hy222]; exact H) | exact H
            have Ny222 := aM hy222
            clear hy222
            have H' := aM H
            clear H
            have p217 : 0 ≤ (x7_1 : Int) := oD (by first | (with_reducible assumption) | assumption)
            have q217 : x7_1 < (l0.length : Int) := oD (by first | (with_reducible assumption) | assumption)
            obtain ⟨ad217, e217, hx217_0⟩ := Kd.at_int HR0.out x7_1 p217 q217
            cases e217
            replace hx217_0 := (HB.out.cell (World.block_lt_of_cell? w _ hx217_0)).trans hx217_0
            replace p217 := eq_true p217
            replace q217 := eq_true q217
            go_wp2_with (first | ((with_reducible refine gate_builtin (b := .append) (xs := #[.tmp 30, .tmp 32]) rfl ?_); at_builtin; refine Kd.R_append (Kd.int .i64) (w0 := w) w.heap.size rfl (.tmp 30) (.tmp 32) 28 3 (.int .i64 0) 8 rfl Try.underlying28 info3 rfl (by decide) (by omega) u5 x5_1 a1 [.int .i64 a1] (fun _ => True) (fun _ => False) rfl rfl ?aP (fun _ hk => hk.elim) ?aF ?aO ?aB ?aS ?aL ?_; (case aP => exact rfl); (case aB => exact (by repeat (first | (with_reducible first | exact HB.out | apply bAl | apply pbN | apply bD1) | exact HB.out))); (case aF => exact (fun _ _ => trivial)); (case aO => exact (by (with_reducible repeat (first | apply Kd.R_alloc | apply Kd.R_drewN | apply Kd.R_drew)); exact HO_5.out)); (case aS => exact (bSz (by repeat (first | (with_reducible first | exact HB.out | apply bAl | apply pbN | apply bD1) | exact HB.out)))); (case aL => have := LMc11.out; omega); intro v219 w13 ho hb hg hat; rw [← Ny218.out] at ho; have n0_ := aM (hb); have n1_ := aM (ho); clear HB; clear HO_5; have HB := n0_; have HO220 := n1_; clear n0_ n1_; clear ho hb hg hat; have p221 : 0 ≤ (x7_1 : Int) := oD (by first | (with_reducible assumption) | assumption); have q221 : x7_1 < (l0.length : Int) := oD (by first | (with_reducible assumption) | assumption); obtain ⟨ad221, e221, hx221_0⟩ := Kd.at_int HR0.out x7_1 p221 q221; obtain rfl : ad217 = ad221 := (by injection e221); replace hx221_0 := (HB.out.cell (World.block_lt_of_cell? w _ hx221_0)).trans hx221_0; replace p221 := eq_true p221; replace q221 := eq_true q221) | ((with_reducible refine gate_builtin (b := .append) (xs := #[.tmp 34, .tmp 39]) rfl ?_); at_builtin; refine Kd.R_append (Kd.int .i64) (w0 := w) w.heap.size rfl (.tmp 34) (.tmp 39) 28 3 (.int .i64 0) 8 rfl Try.underlying28 info3 rfl (by decide) (by omega) v219 y218 (rd l0 x7_1) [.int .i64 (rd l0 x7_1)] (fun _ => True) (fun _ => False) rfl rfl ?aP (fun _ hk => hk.elim) ?aF ?aO ?aB ?aS ?aL ?_; (case aP => exact rfl); (case aB => exact (by repeat (first | (with_reducible first | exact HB.out | apply bAl | apply pbN | apply bD1) | exact HB.out))); (case aF => exact (fun _ _ => trivial)); (case aO => exact (by (with_reducible repeat (first | apply Kd.R_alloc | apply Kd.R_drewN | apply Kd.R_drew)); exact HO220.out)); (case aS => exact (bSz (by repeat (first | (with_reducible first | exact HB.out | apply bAl | apply pbN | apply bD1) | exact HB.out)))); (case aL => have := LMc12.out; omega); intro v223 w14 ho hb hg hat; rw [← Ny222.out] at ho; have n0_ := aM (hb); have n1_ := aM (ho); clear HB; clear HO220; have HB := n0_; have HO224 := n1_; clear n0_ n1_; clear ho hb hg hat))
            go_roundg kj3
            case measure => have := HK1.out; have := HJ3.out; omega
            case rel => exact ⟨(y222), (true), (wrap64 (x7_1 + 1)), (by first | rfl | (simp; done) | (simp [*]; done)), (by first | rfl | (simp; done) | (simp [*]; done)), H', ⟨by have := HK1.out; have := HJ3.out; omega⟩, ⟨by (with_reducible repeat (first | apply Kd.R_alloc | apply Kd.R_drewN | apply Kd.R_drew)); exact HO224.out⟩, ⟨by repeat (first | (with_reducible first | exact HB.out | apply bAl | apply pbN | apply bD1) | exact HB.out)⟩⟩
           ·rw [if_neg c12] at H
            exact absurd H (by simp)
          ·rw [if_neg c11] at H
           exact absurd H (by simp)
         ·rw [if_neg c10] at H
          have c10b0 : decide (a1 < (rd l0 x7_1)) = false := decide_eq_false c10
          clear c10
          by_cases c15 : x5_1.length < 17592186044416
          ·rw [if_pos c15] at H
           have LMc15 := aM c15
           clear c15
           obtain ⟨y226, hy226⟩ : ∃ y_ : List Int, y_ = (x5_1 ++ [rd l0 x7_1]) := ⟨_, rfl⟩
           replace H : (r02_place.l0 kj3 l0 a1 y226 true (wrap64 (x7_1 + 1))) = some r := by first | (rw [hy226]; with_reducible exact H) | (have H2_ := (Option.bind_some _ _).symm.trans H; rw [hy226]; with_reducible exact H2_) | (have H2_ := (Option.bind_some _ _).symm.trans H; with_reducible exact H2_) | with_reducible exact H | (rw [hy226]; exact H) | exact H
           have Ny226 := aM hy226
           clear hy226
           have H' := aM H
           clear H
           have p217 : 0 ≤ (x7_1 : Int) := oD (by first | (with_reducible assumption) | assumption)
           have q217 : x7_1 < (l0.length : Int) := oD (by first | (with_reducible assumption) | assumption)
           obtain ⟨ad217, e217, hx217_0⟩ := Kd.at_int HR0.out x7_1 p217 q217
           cases e217
           replace hx217_0 := (HB.out.cell (World.block_lt_of_cell? w _ hx217_0)).trans hx217_0
           replace p217 := eq_true p217
           replace q217 := eq_true q217
           have p225 : 0 ≤ (x7_1 : Int) := oD (by first | (with_reducible assumption) | assumption)
           have q225 : x7_1 < (l0.length : Int) := oD (by first | (with_reducible assumption) | assumption)
           obtain ⟨ad225, e225, hx225_0⟩ := Kd.at_int HR0.out x7_1 p225 q225
           obtain rfl : ad217 = ad225 := (by injection e225)
           replace hx225_0 := (HB.out.cell (World.block_lt_of_cell? w _ hx225_0)).trans hx225_0
           replace p225 := eq_true p225
           replace q225 := eq_true q225
           go_wp2_with (first | ((with_reducible refine gate_builtin (b := .append) (xs := #[.tmp 34, .tmp 39]) rfl ?_); at_builtin; refine Kd.R_append (Kd.int .i64) (w0 := w) w.heap.size rfl (.tmp 34) (.tmp 39) 28 3 (.int .i64 0) 8 rfl Try.underlying28 info3 rfl (by decide) (by omega) u5 x5_1 (rd l0 x7_1) [.int .i64 (rd l0 x7_1)] (fun _ => True) (fun _ => False) rfl rfl ?aP (fun _ hk => hk.elim) ?aF ?aO ?aB ?aS ?aL ?_; (case aP => exact rfl); (case aB => exact (by repeat (first | (with_reducible first | exact HB.out | apply bAl | apply pbN | apply bD1) | exact HB.out))); (case aF => exact (fun _ _ => trivial)); (case aO => exact (by (with_reducible repeat (first | apply Kd.R_alloc | apply Kd.R_drewN | apply Kd.R_drew)); exact HO_5.out)); (case aS => exact (bSz (by repeat (first | (with_reducible first | exact HB.out | apply bAl | apply pbN | apply bD1) | exact HB.out)))); (case aL => have := LMc15.out; omega); intro v227 w16 ho hb hg hat; rw [← Ny226.out] at ho; have n0_ := aM (hb); have n1_ := aM (ho); clear HB; clear HO_5; have HB := n0_; have HO228 := n1_; clear n0_ n1_; clear ho hb hg hat))
           go_roundg kj3
           case measure => have := HK1.out; have := HJ3.out; omega
           case rel => exact ⟨(y226), (true), (wrap64 (x7_1 + 1)), (by first | rfl | (simp; done) | (simp [*]; done)), (by first | rfl | (simp; done) | (simp [*]; done)), H', ⟨by have := HK1.out; have := HJ3.out; omega⟩, ⟨by (with_reducible repeat (first | apply Kd.R_alloc | apply Kd.R_drewN | apply Kd.R_drew)); exact HO228.out⟩, ⟨by repeat (first | (with_reducible first | exact HB.out | apply bAl | apply pbN | apply bD1) | exact HB.out)⟩⟩
          ·rw [if_neg c15] at H
           exact absurd H (by simp)
        ·rw [if_neg c9] at H
         exact absurd H (by simp)
       ·rw [if_neg c8] at H
        exact absurd H (by simp)
      ·replace c7 := Bool.eq_false_iff.mpr c7
       subst c7
       have H1 : (if 0 ≤ x7_1 then (if x7_1 < (l0.length : Int) then (if x5_1.length < 17592186044416 then (r02_place.l0 kj3 l0 a1 (x5_1 ++ [rd l0 x7_1]) x6_1 (wrap64 (x7_1 + 1))) else (none)) else (none)) else (none)) = some r := by rw [if_neg (show ¬ (false = true) by decide)] at H; exact H
       clear H
       have H := H1
       clear H1
       by_cases c17 : 0 ≤ x7_1
       ·rw [if_pos c17] at H
        have c17b0 : decide (0 ≤ x7_1) = true := dT c17
        clear c17
        by_cases c18 : x7_1 < (l0.length : Int)
        ·rw [if_pos c18] at H
         have c18b0 : decide (x7_1 < (l0.length : Int)) = true := dT c18
         clear c18
         by_cases c19 : x5_1.length < 17592186044416
         ·rw [if_pos c19] at H
          have LMc19 := aM c19
          clear c19
          obtain ⟨y230, hy230⟩ : ∃ y_ : List Int, y_ = (x5_1 ++ [rd l0 x7_1]) := ⟨_, rfl⟩
          replace H : (r02_place.l0 kj3 l0 a1 y230 x6_1 (wrap64 (x7_1 + 1))) = some r := by first | (rw [hy230]; with_reducible exact H) | (have H2_ := (Option.bind_some _ _).symm.trans H; rw [hy230]; with_reducible exact H2_) | (have H2_ := (Option.bind_some _ _).symm.trans H; with_reducible exact H2_) | with_reducible exact H | (rw [hy230]; exact H) | exact H
          have Ny230 := aM hy230
          clear hy230
          have H' := aM H
          clear H
          have p229 : 0 ≤ (x7_1 : Int) := oD (by first | (with_reducible assumption) | assumption)
          have q229 : x7_1 < (l0.length : Int) := oD (by first | (with_reducible assumption) | assumption)
          obtain ⟨ad229, e229, hx229_0⟩ := Kd.at_int HR0.out x7_1 p229 q229
          cases e229
          replace hx229_0 := (HB.out.cell (World.block_lt_of_cell? w _ hx229_0)).trans hx229_0
          replace p229 := eq_true p229
          replace q229 := eq_true q229
          go_wp2_with (first | ((with_reducible refine gate_builtin (b := .append) (xs := #[.tmp 34, .tmp 39]) rfl ?_); at_builtin; refine Kd.R_append (Kd.int .i64) (w0 := w) w.heap.size rfl (.tmp 34) (.tmp 39) 28 3 (.int .i64 0) 8 rfl Try.underlying28 info3 rfl (by decide) (by omega) u5 x5_1 (rd l0 x7_1) [.int .i64 (rd l0 x7_1)] (fun _ => True) (fun _ => False) rfl rfl ?aP (fun _ hk => hk.elim) ?aF ?aO ?aB ?aS ?aL ?_; (case aP => exact rfl); (case aB => exact (by repeat (first | (with_reducible first | exact HB.out | apply bAl | apply pbN | apply bD1) | exact HB.out))); (case aF => exact (fun _ _ => trivial)); (case aO => exact (by (with_reducible repeat (first | apply Kd.R_alloc | apply Kd.R_drewN | apply Kd.R_drew)); exact HO_5.out)); (case aS => exact (bSz (by repeat (first | (with_reducible first | exact HB.out | apply bAl | apply pbN | apply bD1) | exact HB.out)))); (case aL => have := LMc19.out; omega); intro v231 w20 ho hb hg hat; rw [← Ny230.out] at ho; have n0_ := aM (hb); have n1_ := aM (ho); clear HB; clear HO_5; have HB := n0_; have HO232 := n1_; clear n0_ n1_; clear ho hb hg hat))
          go_roundg kj3
          case measure => have := HK1.out; have := HJ3.out; omega
          case rel => exact ⟨(y230), (x6_1), (wrap64 (x7_1 + 1)), (by first | rfl | (simp; done) | (simp [*]; done)), (by first | rfl | (simp; done) | (simp [*]; done)), H', ⟨by have := HK1.out; have := HJ3.out; omega⟩, ⟨by (with_reducible repeat (first | apply Kd.R_alloc | apply Kd.R_drewN | apply Kd.R_drew)); exact HO232.out⟩, ⟨by repeat (first | (with_reducible first | exact HB.out | apply bAl | apply pbN | apply bD1) | exact HB.out)⟩⟩
         ·rw [if_neg c19] at H
          exact absurd H (by simp)
        ·rw [if_neg c18] at H
         exact absurd H (by simp)
       ·rw [if_neg c17] at H
        exact absurd H (by simp)
   ·rw [if_neg c3] at H
    have c3b0 : decide (x7_1 < (l0.length : Int)) = false := decide_eq_false c3
    clear c3
    by_cases c21 : x6_1 = true
    ·subst c21
     have H1 : (some x5_1) = some r := by rw [if_pos rfl] at H; exact H
     clear H
     have H := H1
     clear H1
     obtain rfl := Option.some.inj H
     go_wp2
     go_ret
     exact ⟨_, by first | rfl | (simp [eN, eS] <;> rfl) | (simp [*, eN, eS] <;> rfl), by (with_reducible repeat (first | apply Kd.R_alloc | apply Kd.R_drewN | apply Kd.R_drew)); exact HO_5.out, by repeat (first | (with_reducible first | exact HB.out | apply bAl | apply pbN | apply bD1) | exact HB.out)⟩
    ·replace c21 := Bool.eq_false_iff.mpr c21
     subst c21
     have H1 : (if x5_1.length < 17592186044416 then (some (x5_1 ++ [a1])) else (none)) = some r := by rw [if_neg (show ¬ (false = true) by decide)] at H; exact H
     clear H
     have H := H1
     clear H1
     by_cases c22 : x5_1.length < 17592186044416
     ·rw [if_pos c22] at H
      have LMc22 := aM c22
      clear c22
      obtain ⟨y213, hy213⟩ : ∃ y_ : List Int, y_ = (x5_1 ++ [a1]) := ⟨_, rfl⟩
      replace H : (some y213) = some r := by first | (rw [hy213]; with_reducible exact H) | (have H2_ := (Option.bind_some _ _).symm.trans H; rw [hy213]; with_reducible exact H2_) | (have H2_ := (Option.bind_some _ _).symm.trans H; with_reducible exact H2_) | with_reducible exact H | (rw [hy213]; exact H) | exact H
      have Ny213 := aM hy213
      clear hy213
      obtain rfl := Option.some.inj H
      go_wp2_with (first | ((with_reducible refine gate_builtin (b := .append) (xs := #[.tmp 43, .tmp 45]) rfl ?_); at_builtin; refine Kd.R_append (Kd.int .i64) (w0 := w) w.heap.size rfl (.tmp 43) (.tmp 45) 28 3 (.int .i64 0) 8 rfl Try.underlying28 info3 rfl (by decide) (by omega) u5 x5_1 a1 [.int .i64 a1] (fun _ => True) (fun _ => False) rfl rfl ?aP (fun _ hk => hk.elim) ?aF ?aO ?aB ?aS ?aL ?_; (case aP => exact rfl); (case aB => exact (by repeat (first | (with_reducible first | exact HB.out | apply bAl | apply pbN | apply bD1) | exact HB.out))); (case aF => exact (fun _ _ => trivial)); (case aO => exact (by (with_reducible repeat (first | apply Kd.R_alloc | apply Kd.R_drewN | apply Kd.R_drew)); exact HO_5.out)); (case aS => exact (bSz (by repeat (first | (with_reducible first | exact HB.out | apply bAl | apply pbN | apply bD1) | exact HB.out)))); (case aL => have := LMc22.out; omega); intro v214 w23 ho hb hg hat; rw [← Ny213.out] at ho; have n0_ := aM (hb); have n1_ := aM (ho); clear HB; clear HO_5; have HB := n0_; have HO215 := n1_; clear n0_ n1_; clear ho hb hg hat))
      go_ret
      exact ⟨_, by first | rfl | (simp [eN, eS] <;> rfl) | (simp [*, eN, eS] <;> rfl), by (with_reducible repeat (first | apply Kd.R_alloc | apply Kd.R_drewN | apply Kd.R_drew)); exact HO215.out, by repeat (first | (with_reducible first | exact HB.out | apply bAl | apply pbN | apply bD1) | exact HB.out)⟩
     ·rw [if_neg c22] at H
      exact absurd H (by simp)
def r02_keeps.f (a0 : Int) (a1 : Bool) (a2 : Bool) : Option (Bool) := if a0 = 1 then (if a1 = true then (some true) else (some a2)) else (if a0 = 2 then (if a1 = true then (some a2) else (some false)) else (if a1 = true then (some (!a2)) else (some false)))
set_option maxHeartbeats 8000000 in
set_option maxRecDepth 100000 in
theorem r02_keeps.calls (a0 : Int) (a1 : Bool) (a2 : Bool) (r : Bool) (w : World) (h : r02_keeps.f a0 a1 a2 = some r) :
  Calls Try.prog 90 #[.int .i64 a0, .bool a1, .bool a2] w fun e w' => e = .returned (.bool r) ∧ Drawn0 w w' := by
 have H : (if a0 = 1 then (if a1 = true then (some true) else (some a2)) else (if a0 = 2 then (if a1 = true then (some a2) else (some false)) else (if a1 = true then (some (!a2)) else (some false)))) = some r := h
 clear h
 by_cases c4 : a0 = 1
 ·rw [if_pos c4] at H
  have c4b0 : (a0 == 1) = true := beq_iff_eq.mpr c4
  have c4b1 : (a0 != 1) = false := bne_eq_false_iff_eq.mpr c4
  clear c4
  by_cases c5 : a1 = true
  ·subst c5
   have H1 : (some true) = some r := by rw [if_pos rfl] at H; exact H
   clear H
   have H := H1
   clear H1
   obtain rfl := Option.some.inj H
   go_enter Try.func90, Try.ntmps90
   go_wp2
   go_ret
   exact ⟨by first | rfl | (simp; done) | (simp [*]; done), by repeat (first | exact Drawn0.refl _ | apply Drawn0.step)⟩
  ·replace c5 := Bool.eq_false_iff.mpr c5
   subst c5
   have H1 : (some a2) = some r := by rw [if_neg (show ¬ (false = true) by decide)] at H; exact H
   clear H
   have H := H1
   clear H1
   obtain rfl := Option.some.inj H
   go_enter Try.func90, Try.ntmps90
   go_wp2
   go_ret
   exact ⟨by first | rfl | (simp; done) | (simp [*]; done), by repeat (first | exact Drawn0.refl _ | apply Drawn0.step)⟩
 ·rw [if_neg c4] at H
  have c4b0 : (a0 == 1) = false := beq_eq_false_iff_ne.mpr c4
  have c4b1 : (a0 != 1) = true := bne_iff_ne.mpr c4
  by_cases c6 : a0 = 2
  ·rw [if_pos c6] at H
   have c6b0 : (a0 == 2) = true := beq_iff_eq.mpr c6
   have c6b1 : (a0 != 2) = false := bne_eq_false_iff_eq.mpr c6
   clear c6
   by_cases c7 : a1 = true
   ·subst c7
    have H1 : (some a2) = some r := by rw [if_pos rfl] at H; exact H
    clear H
    have H := H1
    clear H1
    obtain rfl := Option.some.inj H
    go_enter Try.func90, Try.ntmps90
    go_wp2
    go_ret
    exact ⟨by first | rfl | (simp; done) | (simp [*]; done), by repeat (first | exact Drawn0.refl _ | apply Drawn0.step)⟩
   ·replace c7 := Bool.eq_false_iff.mpr c7
    subst c7
    have H1 : (some false) = some r := by rw [if_neg (show ¬ (false = true) by decide)] at H; exact H
    clear H
    have H := H1
    clear H1
    obtain rfl := Option.some.inj H
    go_enter Try.func90, Try.ntmps90
    go_wp2
    go_ret
    exact ⟨by first | rfl | (simp; done) | (simp [*]; done), by repeat (first | exact Drawn0.refl _ | apply Drawn0.step)⟩
  ·rw [if_neg c6] at H
   have c6b0 : (a0 == 2) = false := beq_eq_false_iff_ne.mpr c6
   have c6b1 : (a0 != 2) = true := bne_iff_ne.mpr c6
   by_cases c8 : a1 = true
   ·subst c8
    have H1 : (some (!a2)) = some r := by rw [if_pos rfl] at H; exact H
    clear H
    have H := H1
    clear H1
    obtain rfl := Option.some.inj H
    go_enter Try.func90, Try.ntmps90
    go_wp2
    go_ret
    exact ⟨by first | rfl | (simp; done) | (simp [*]; done), by repeat (first | exact Drawn0.refl _ | apply Drawn0.step)⟩
   ·replace c8 := Bool.eq_false_iff.mpr c8
    subst c8
    have H1 : (some false) = some r := by rw [if_neg (show ¬ (false = true) by decide)] at H; exact H
    clear H
    have H := H1
    clear H1
    obtain rfl := Option.some.inj H
    go_enter Try.func90, Try.ntmps90
    go_wp2
    go_ret
    exact ⟨by first | rfl | (simp; done) | (simp [*]; done), by repeat (first | exact Drawn0.refl _ | apply Drawn0.step)⟩
end Go.Proofs.Ythnkmcfhpjmihaa.Q
end
section
namespace Go.Proofs.Ythnkmcfhpjmihaa.Q
open Go.RowKit Go.Proofs.YthnkmcfhpjmihaaW.PrintWords Go.Proofs.YthnkmcfhpjmihaaW.PrintLast Go.Proofs.YthnkmcfhpjmihaaW.PrintMore
set_option linter.unusedVariables false
theorem rd_mid (pre : List Int) (x : Int) (rest : List Int) : rd (pre ++ x :: rest) (pre.length : Int) = x := by
 unfold rd
 rw [Int.toNat_natCast, List.getD_eq_getElem?_getD, List.getElem?_append_right (Nat.le_refl _), Nat.sub_self]
 rfl
theorem wrap_succ {n : Nat} (h : n < 1000000000) : wrap64 ((n : Int) + 1) = ((n + 1 : Nat) : Int) := by unfold wrap64; omega
theorem place_done : ∀ (rest pre out : List Int) (n : Int) (k : Nat), (pre ++ rest).length < 1000000000 → out.length ≤ pre.length + 1 →
  2 * rest.length + 1 ≤ k → r02_place.l0 k (pre ++ rest) n out true (pre.length : Int) = some (out ++ rest)
 | [], pre, out, n, k, h1, h2, h3 => by
  obtain ⟨k, rfl⟩ : ∃ j, k = j + 1 := ⟨k - 1, by omega⟩
  rw [r02_place.l0, List.append_nil, if_neg (by omega), if_pos rfl, List.append_nil]
 | x :: rest, pre, out, n, k, h1, h2, h3 => by
  obtain ⟨k, rfl⟩ : ∃ j, k = j + 2 := ⟨k - 2, by simp at h3; omega⟩
  have hp : pre.length < 1000000000 := by simp at h1; omega
  rw [r02_place.l0, if_pos (by simp; omega), if_pos rfl, r02_place.j1, if_neg (by decide), if_pos (by omega), if_pos (by simp; omega), if_pos (by omega), rd_mid, wrap_succ hp]
  have := place_done rest (pre ++ [x]) (out ++ [x]) n k (by simpa using h1) (by simp; omega) (by simp at h3; omega)
  rw [List.append_assoc, List.append_assoc, List.length_append, List.length_singleton] at this
  exact this
theorem place_open : ∀ (rest pre out : List Int) (n : Int) (k : Nat), (pre ++ rest).length < 1000000000 → out.length ≤ pre.length →
  2 * rest.length + 1 ≤ k → r02_place.l0 k (pre ++ rest) n out false (pre.length : Int) = some (out ++ CpM.place n rest)
 | [], pre, out, n, k, h1, h2, h3 => by
  obtain ⟨k, rfl⟩ : ∃ j, k = j + 1 := ⟨k - 1, by omega⟩
  have hp : pre.length < 1000000000 := by simpa using h1
  rw [r02_place.l0, List.append_nil, if_neg (by omega), if_neg (by decide), if_pos (by omega)]
  rfl
 | x :: rest, pre, out, n, k, h1, h2, h3 => by
  obtain ⟨k, rfl⟩ : ∃ j, k = j + 2 := ⟨k - 2, by simp at h3; omega⟩
  have hp : pre.length < 1000000000 := by simp at h1; omega
  rw [r02_place.l0, if_pos (by simp; omega), if_neg (by decide), if_pos (by omega), rd_mid, r02_place.j1, CpM.place]
  have e2 : pre ++ x :: rest = (pre ++ [x]) ++ rest := by simp
  have e3 : (((pre.length + 1 : Nat)) : Int) = ((pre ++ [x]).length : Int) := by simp
  by_cases hx : x ≥ n
  ·rw [if_pos (dT hx), if_pos (by omega), if_pos (by simp; omega), rd_mid, if_pos hx, wrap_succ hp]
   by_cases hg : x > n
   ·rw [if_pos hg, if_pos hg, if_pos (by omega)]
    show (if (out ++ [n]).length < 17592186044416 then _ else _) = _
    rw [if_pos (by simp; omega), e3, e2, place_done rest (pre ++ [x]) _ n k (by simpa using h1) (by simp; omega) (by simp at h3; omega)]
    simp
   ·rw [if_neg hg, if_neg hg, if_pos (by omega), e3, e2, place_done rest (pre ++ [x]) _ n k (by simpa using h1) (by simp; omega) (by simp at h3; omega)]
    simp
  ·rw [if_neg (by simpa using hx), if_neg hx, if_pos (by omega), if_pos (by simp; omega), if_pos (by omega), rd_mid, wrap_succ hp, e3, e2,
    place_open rest (pre ++ [x]) _ n k (by simpa using h1) (by simp; omega) (by simp at h3; omega)]
   simp
theorem place_ok (l : List Int) (n : Int) (h : l.length < 1000000000) : r02_place.f (2 * l.length + 1) l n = some (CpM.place n l) := by
 have := place_open l [] [] n (2 * l.length + 1) (by simpa using h) (Nat.le_refl _) (Nat.le_refl _)
 exact this
theorem valid_eq (c : Int) : r01_Valid.f c = some (decide (0 ≤ c ∧ c ≤ 1114111)) := by
 unfold r01_Valid.f
 split
 ·rename_i h; simp only [ge_iff_le] at h; simp [h]
 ·rename_i h; simp only [ge_iff_le] at h; simp [h]
theorem place_length (n : Int) : ∀ l : List Int, (CpM.place n l).length ≤ l.length + 1
 | [] => Nat.le_refl _
 | x :: l => by
  have := place_length n l
  unfold CpM.place
  split
  ·split <;> simp
  ·simp; omega
theorem cut1_length (l : List Int) (r : Int × Int) : (CpM.cut1 l r).length ≤ l.length + 2 := by
 unfold CpM.cut1
 have h1 := place_length r.1 l
 simp only
 split <;> split <;> first | omega | (rename_i h _; have := place_length (r.2 + 1) (CpM.place r.1 l); have := place_length (r.2 + 1) l; omega)
theorem foldCut_length : ∀ (a : List (Int × Int)) (l : List Int), (a.foldl CpM.cut1 l).length ≤ l.length + 2 * a.length
 | [], l => by simp
 | r :: a, l => by
  have := foldCut_length a (CpM.cut1 l r)
  have := cut1_length l r
  simp only [List.foldl_cons, List.length_cons]
  omega
def r02_Cuts.f (l0 : List Int) (l1_0 : List S33) : Option (List Int) := if l0.length + l1_0.length * 2 < 100000000 then some (CpM.cuts l0 (l1_0.map toP)) else none
abbrev kInt : Kd Int := Kd.int .i64
set_option maxHeartbeats 4000000 in
set_option maxRecDepth 100000 in
theorem r02_Cuts.calls (A0 : Option Addr) (c0 : Nat) (l0 : List Int) (A1_0 : Option Addr) (c1_0 : Nat) (l1_0 : List S33) (r : List Int) (w : World) (hr0 : Kd.C kInt w A0 l0.length l0) (hc0 : l0.length ≤ c0) (hr1_0 : Kd.C k33 w A1_0 l1_0.length l1_0) (hc1_0 : l1_0.length ≤ c1_0) (h : r02_Cuts.f l0 l1_0 = some r) :
  Calls Try.prog 89 #[.slice A0 l0.length c0, .agg #[.slice A1_0 l1_0.length c1_0]] w fun e w' => ∃ v0_ : Value, e = .returned (v0_) ∧ Kd.R kInt 3 w' w.heap.size (fun _ => True) v0_ r ∧ Below w.heap.size w w' := by
 have hn : l0.length + l1_0.length * 2 < 100000000 ∧ CpM.cuts l0 (l1_0.map toP) = r := by
  unfold r02_Cuts.f at h
  split at h
  ·rename_i hl; exact ⟨hl, Option.some.inj h⟩
  ·cases h
 have HN := aM hn
 have HR := aM hr0
 have HC := aM hc0
 have HS := aM hr1_0
 clear hn h hr0 hc0 hr1_0
 go_enter Try.func89, Try.ntmps89
 go_wp2
 go_loopw [0, 5] (fun v i wr => ∃ (k : Nat) (A : Option Addr) (c : Nat) (l : List Int), v = .slice A l.length c ∧ i = .int .i64 k ∧ Aside0 (k ≤ l1_0.length) ∧ Aside0 (l = ((l1_0.take k).map toP).foldl CpM.cut1 l0) ∧ Aside0 (Kd.C kInt wr A l.length l) ∧ Aside0 (l.length ≤ c) ∧ Aside0 (wr.heap[w.heap.size]? = some (.cells #[.slice A1_0 l1_0.length c1_0] 25 (0, 0))) ∧ Aside0 (Below w.heap.size w wr)) (fun _ i _ => l1_0.length - (intOf i).toNat)
 case atStart => exact ⟨0, A0, c0, l0, rfl, rfl, ⟨Nat.zero_le _⟩, ⟨rfl⟩, ⟨Kd.C_alloc HR.out _⟩, HC, ⟨heap_alloc_new w _⟩, ⟨bAl (Below.refl _ w) _⟩⟩
 case round =>
  obtain ⟨k, A, c, l, rfl, rfl, HK, HL, HO, HCC, BK, HB⟩ := hrel
  have hbc : wr.cell? ⟨w.heap.size, 0, none⟩ = some (.slice A1_0 l1_0.length c1_0) := (bkC BK.out 0).trans rfl
  by_cases hlt : k < l1_0.length
  ·obtain ⟨ad, e, hx0, hx1⟩ := at_T33 HS.out (k : Int) (by omega) (by omega)
   cases e
   rw [Int.toNat_natCast] at hx0 hx1
   have hc0 := (HB.out.cell (World.block_lt_of_cell? w _ hx0)).trans hx0
   have hc1 := (HB.out.cell (World.block_lt_of_cell? w _ hx1)).trans hx1
   clear hx0 hx1
   have hst := aM (rd_take hlt)
   generalize rd_T33 l1_0 (k : Int) = x at hc0 hc1 hst
   have hp : (0 ≤ (k : Int)) = True := eq_true (by omega)
   have hw : wrap64 ((k : Int) + 1) = (k : Int) + 1 := by have := HN.out.1; unfold wrap64; omega
   have hLL := foldCut_length ((l1_0.take k).map toP) l0
   rw [← HL.out, List.length_map, List.length_take] at hLL
   have hlen : l.length < 100000000 := by have := HN.out.1; omega
   have hnx : ((l1_0.take (k + 1)).map toP).foldl CpM.cut1 l0 = CpM.cut1 l (toP x) := by rw [hst.out, List.map_append, List.foldl_append, ← HL.out]; rfl
   have HNX := aM hnx
   have HV := aM (valid_eq x.f0)
   have HP1 := aM (place_ok l x.f0 (by omega))
   have HP2 := aM (place_ok l (x.f1 + 1) (by omega))
   have HP3 := aM (place_ok (CpM.place x.f0 l) (x.f1 + 1) (by have := place_length x.f0 l; omega))
   clear hLL hnx
   by_cases hv : 0 ≤ x.f0 ∧ x.f0 ≤ 1114111
   ·rw [dT hv] at HV
    by_cases hh : 0 ≤ x.f1 ∧ x.f1 < 1114111
    ·have HX := aM (show CpM.cut1 l (toP x) = CpM.place (x.f1 + 1) (CpM.place x.f0 l) by unfold CpM.cut1 toP; simp only; rw [if_pos hv, if_pos hh])
     have hw1 : wrap64 (x.f1 + 1) = x.f1 + 1 := by unfold wrap64; omega
     obtain ⟨hh1, hh2⟩ := hh
     clear hv
     go_wp2
     go_quiet (fail)
     go_wp2_with (first | (go_at_call 54; refine (r01_Valid.calls x.f0 true _ HV.out).mono ?_; rintro e w' ⟨rfl, ⟨nd, rfl⟩⟩) | (go_at_call 100; (with_reducible refine (r02_place.calls (2 * (l).length + 1) _ _ (l) (x.f0) (CpM.place (x.f0) (l)) _ ?s1 HCC.out HP1.out).mono ?_); (case s1 => (with_reducible repeat (first | apply Kd.C_alloc | apply Kd.C_drewN | apply Kd.C_drew)); exact HO.out); rintro e w1 ⟨v1, rfl, ho, hb⟩; have n0_ := aM (bSp (by repeat (first | (with_reducible first | exact HB.out | apply bAl | apply pbN | apply bD1) | exact HB.out)) hb); have n1_ := aM (blk_below (g := w.heap.size) (o := .cells #[.slice (some ad) l1_0.length c1_0] 25 (0, 0)) (by (with_reducible repeat (first | refine bkN ?_ _ | refine bkD ?_ | refine bkA ?_ _)); exact BK.out) hb); clear HB BK; have HB := n0_; have BK := n1_; clear n0_ n1_ hb; obtain ⟨yA, yc, ev⟩ := Kd.R_slice ho; subst ev; have yO := aM (Kd.R_reads' ho).2.2; have yC := aM (Kd.R_reads' ho).2.1; clear ho) | (go_at_call 100; (with_reducible refine (r02_place.calls (2 * (CpM.place x.f0 l).length + 1) _ _ (CpM.place x.f0 l) (x.f1 + 1) (CpM.place (x.f1 + 1) (CpM.place x.f0 l)) _ ?s1 yC.out HP3.out).mono ?_); (case s1 => (with_reducible repeat (first | apply Kd.C_alloc | apply Kd.C_drewN | apply Kd.C_drew)); exact yO.out); rintro e w1 ⟨v1, rfl, ho, hb⟩; have n0_ := aM (bSp (by repeat (first | (with_reducible first | exact HB.out | apply bAl | apply pbN | apply bD1) | exact HB.out)) hb); have n1_ := aM (blk_below (g := w.heap.size) (o := .cells #[.slice (some ad) l1_0.length c1_0] 25 (0, 0)) (by (with_reducible repeat (first | refine bkN ?_ _ | refine bkD ?_ | refine bkA ?_ _)); exact BK.out) hb); clear HB BK; have HB := n0_; have BK := n1_; clear n0_ n1_ hb; obtain ⟨zA, zc, ev⟩ := Kd.R_slice ho; subst ev; have zO := aM (Kd.R_reads' ho).2.2; have zC := aM (Kd.R_reads' ho).2.1; clear ho))
     go_roundw
     case rel => exact ⟨k + 1, zA, zc, CpM.place (x.f1 + 1) (CpM.place x.f0 l), rfl, by rw [hw]; rfl, ⟨hlt⟩, ⟨by rw [HNX.out, HX.out]⟩, zO, zC, BK, HB⟩
     case measure => rw [hw]; simp only [intOf]; omega
    ·have HX := aM (show CpM.cut1 l (toP x) = CpM.place x.f0 l by unfold CpM.cut1 toP; simp only; rw [if_pos hv, if_neg hh])
     clear hv
     by_cases hh1 : 0 ≤ x.f1
     ·have hh2 : ¬ x.f1 < 1114111 := fun h => hh ⟨hh1, h⟩
      clear hh
      go_wp2
      go_quiet (fail)
      go_wp2_with (first | (go_at_call 54; refine (r01_Valid.calls x.f0 true _ HV.out).mono ?_; rintro e w' ⟨rfl, ⟨nd, rfl⟩⟩) | (go_at_call 100; (with_reducible refine (r02_place.calls (2 * (l).length + 1) _ _ (l) (x.f0) (CpM.place (x.f0) (l)) _ ?s1 HCC.out HP1.out).mono ?_); (case s1 => (with_reducible repeat (first | apply Kd.C_alloc | apply Kd.C_drewN | apply Kd.C_drew)); exact HO.out); rintro e w1 ⟨v1, rfl, ho, hb⟩; have n0_ := aM (bSp (by repeat (first | (with_reducible first | exact HB.out | apply bAl | apply pbN | apply bD1) | exact HB.out)) hb); have n1_ := aM (blk_below (g := w.heap.size) (o := .cells #[.slice (some ad) l1_0.length c1_0] 25 (0, 0)) (by (with_reducible repeat (first | refine bkN ?_ _ | refine bkD ?_ | refine bkA ?_ _)); exact BK.out) hb); clear HB BK; have HB := n0_; have BK := n1_; clear n0_ n1_ hb; obtain ⟨yA, yc, ev⟩ := Kd.R_slice ho; subst ev; have yO := aM (Kd.R_reads' ho).2.2; have yC := aM (Kd.R_reads' ho).2.1; clear ho))
      go_roundw
      case rel => exact ⟨k + 1, yA, yc, CpM.place x.f0 l, rfl, by rw [hw]; rfl, ⟨hlt⟩, ⟨by rw [HNX.out, HX.out]⟩, yO, yC, BK, HB⟩
      case measure => rw [hw]; simp only [intOf]; omega
     ·clear hh
      go_wp2
      go_quiet (fail)
      go_wp2_with (first | (go_at_call 54; refine (r01_Valid.calls x.f0 true _ HV.out).mono ?_; rintro e w' ⟨rfl, ⟨nd, rfl⟩⟩) | (go_at_call 100; (with_reducible refine (r02_place.calls (2 * (l).length + 1) _ _ (l) (x.f0) (CpM.place (x.f0) (l)) _ ?s1 HCC.out HP1.out).mono ?_); (case s1 => (with_reducible repeat (first | apply Kd.C_alloc | apply Kd.C_drewN | apply Kd.C_drew)); exact HO.out); rintro e w1 ⟨v1, rfl, ho, hb⟩; have n0_ := aM (bSp (by repeat (first | (with_reducible first | exact HB.out | apply bAl | apply pbN | apply bD1) | exact HB.out)) hb); have n1_ := aM (blk_below (g := w.heap.size) (o := .cells #[.slice (some ad) l1_0.length c1_0] 25 (0, 0)) (by (with_reducible repeat (first | refine bkN ?_ _ | refine bkD ?_ | refine bkA ?_ _)); exact BK.out) hb); clear HB BK; have HB := n0_; have BK := n1_; clear n0_ n1_ hb; obtain ⟨yA, yc, ev⟩ := Kd.R_slice ho; subst ev; have yO := aM (Kd.R_reads' ho).2.2; have yC := aM (Kd.R_reads' ho).2.1; clear ho))
      go_roundw
      case rel => exact ⟨k + 1, yA, yc, CpM.place x.f0 l, rfl, by rw [hw]; rfl, ⟨hlt⟩, ⟨by rw [HNX.out, HX.out]⟩, yO, yC, BK, HB⟩
      case measure => rw [hw]; simp only [intOf]; omega
   ·rw [decide_eq_false hv] at HV
    by_cases hh : 0 ≤ x.f1 ∧ x.f1 < 1114111
    ·have HX := aM (show CpM.cut1 l (toP x) = CpM.place (x.f1 + 1) l by unfold CpM.cut1 toP; simp only; rw [if_neg hv, if_pos hh])
     have hw1 : wrap64 (x.f1 + 1) = x.f1 + 1 := by unfold wrap64; omega
     obtain ⟨hh1, hh2⟩ := hh
     clear hv
     go_wp2
     go_quiet (fail)
     go_wp2_with (first | (go_at_call 54; refine (r01_Valid.calls x.f0 false _ HV.out).mono ?_; rintro e w' ⟨rfl, ⟨nd, rfl⟩⟩) | (go_at_call 100; (with_reducible refine (r02_place.calls (2 * (l).length + 1) _ _ (l) (x.f1 + 1) (CpM.place (x.f1 + 1) (l)) _ ?s1 HCC.out HP2.out).mono ?_); (case s1 => (with_reducible repeat (first | apply Kd.C_alloc | apply Kd.C_drewN | apply Kd.C_drew)); exact HO.out); rintro e w1 ⟨v1, rfl, ho, hb⟩; have n0_ := aM (bSp (by repeat (first | (with_reducible first | exact HB.out | apply bAl | apply pbN | apply bD1) | exact HB.out)) hb); have n1_ := aM (blk_below (g := w.heap.size) (o := .cells #[.slice (some ad) l1_0.length c1_0] 25 (0, 0)) (by (with_reducible repeat (first | refine bkN ?_ _ | refine bkD ?_ | refine bkA ?_ _)); exact BK.out) hb); clear HB BK; have HB := n0_; have BK := n1_; clear n0_ n1_ hb; obtain ⟨yA, yc, ev⟩ := Kd.R_slice ho; subst ev; have yO := aM (Kd.R_reads' ho).2.2; have yC := aM (Kd.R_reads' ho).2.1; clear ho))
     go_roundw
     case rel => exact ⟨k + 1, yA, yc, CpM.place (x.f1 + 1) l, rfl, by rw [hw]; rfl, ⟨hlt⟩, ⟨by rw [HNX.out, HX.out]⟩, yO, yC, BK, HB⟩
     case measure => rw [hw]; simp only [intOf]; omega
    ·have HX := aM (show CpM.cut1 l (toP x) = l by unfold CpM.cut1 toP; simp only; rw [if_neg hv, if_neg hh])
     clear hv
     by_cases hh1 : 0 ≤ x.f1
     ·have hh2 : ¬ x.f1 < 1114111 := fun h => hh ⟨hh1, h⟩
      clear hh
      go_wp2
      go_quiet (fail)
      go_wp2_with (first | (go_at_call 54; refine (r01_Valid.calls x.f0 false _ HV.out).mono ?_; rintro e w' ⟨rfl, ⟨nd, rfl⟩⟩))
      go_roundw
      case rel => exact ⟨k + 1, A, c, l, rfl, by rw [hw]; rfl, ⟨hlt⟩, ⟨by rw [HNX.out, HX.out]⟩, ⟨by (with_reducible repeat (first | apply Kd.C_alloc | apply Kd.C_drewN | apply Kd.C_drew)); exact HO.out⟩, HCC, ⟨by (with_reducible repeat (first | refine bkN ?_ _ | refine bkD ?_ | refine bkA ?_ _)); exact BK.out⟩, ⟨by repeat (first | (with_reducible first | exact HB.out | apply bAl | apply pbN | apply bD1) | exact HB.out)⟩⟩
      case measure => rw [hw]; simp only [intOf]; omega
     ·clear hh
      go_wp2
      go_quiet (fail)
      go_wp2_with (first | (go_at_call 54; refine (r01_Valid.calls x.f0 false _ HV.out).mono ?_; rintro e w' ⟨rfl, ⟨nd, rfl⟩⟩))
      go_roundw
      case rel => exact ⟨k + 1, A, c, l, rfl, by rw [hw]; rfl, ⟨hlt⟩, ⟨by rw [HNX.out, HX.out]⟩, ⟨by (with_reducible repeat (first | apply Kd.C_alloc | apply Kd.C_drewN | apply Kd.C_drew)); exact HO.out⟩, HCC, ⟨by (with_reducible repeat (first | refine bkN ?_ _ | refine bkD ?_ | refine bkA ?_ _)); exact BK.out⟩, ⟨by repeat (first | (with_reducible first | exact HB.out | apply bAl | apply pbN | apply bD1) | exact HB.out)⟩⟩
      case measure => rw [hw]; simp only [intOf]; omega
  ·obtain rfl : k = l1_0.length := by have := HK.out; omega
   rw [List.take_length] at HL
   have hLL := foldCut_length (l1_0.map toP) l0
   rw [← HL.out, List.length_map] at hLL
   have HP1 := aM (place_ok l 0 (by have := HN.out.1; omega))
   have HF := aM (show CpM.place 0 l = r by rw [← HN.out.2, HL.out]; rfl)
   clear hLL HL
   go_wp2_with (go_at_call 100; (with_reducible refine (r02_place.calls (2 * l.length + 1) _ _ l 0 (CpM.place 0 l) _ ?s1 HCC.out HP1.out).mono ?_); (case s1 => (with_reducible repeat (first | apply Kd.C_alloc | apply Kd.C_drewN | apply Kd.C_drew)); exact HO.out); rintro e w1 ⟨v1, rfl, ho, hb⟩; have HOO := aM ho; have HB1 := aM hb; clear ho hb)
   go_ret
   exact ⟨v1, rfl, by rw [← HF.out]; exact Kd.R_lower HOO.out HB.out.size, bSp HB.out HB1.out⟩
end Go.Proofs.Ythnkmcfhpjmihaa.Q
end
section
namespace Go.Proofs.Ythnkmcfhpjmihaa.Q
open Go.RowKit Go.Proofs.YthnkmcfhpjmihaaW.PrintWords Go.Proofs.YthnkmcfhpjmihaaW.PrintLast Go.Proofs.YthnkmcfhpjmihaaW.PrintMore
attribute [local go_sem] max2_int min2_int max_two min_two max_three min_three max_four min_four
set_option linter.unusedVariables false
set_option linter.unusedSimpArgs false
def r02_Has.l0 : Nat → Int → Int → List (S33) → Option (Bool)
 | 0, _, _, _ => none
 | k + 1, x1, x5, x210000 => if x5 < (x210000.length : Int) then ((r01_Valid.f x1).bind fun t210 => (if t210 = true then (if 0 ≤ x5 then (if ((rd_T33 x210000 x5).f0) ≤ x1 then (if x1 ≤ ((rd_T33 x210000 x5).f1) then (some true) else (r02_Has.l0 k x1 (wrap64 (x5 + 1)) x210000)) else (r02_Has.l0 k x1 (wrap64 (x5 + 1)) x210000)) else (none)) else (r02_Has.l0 k x1 (wrap64 (x5 + 1)) x210000))) else (some false)
def r02_Has.f (k : Nat) (l0_0 : List (S33)) (a1 : Int) : Option (Bool) := r02_Has.l0 k a1 0 l0_0
set_option maxHeartbeats 8000000 in
set_option maxRecDepth 100000 in
theorem r02_Has.calls (k : Nat) (A0_0 : Option Addr) (c0_0 : Nat) (l0_0 : List (S33)) (a1 : Int) (r : Bool) (w : World) (hr0_0 : Kd.C k33 w A0_0 l0_0.length l0_0) (hc0_0 : l0_0.length ≤ c0_0) (h : r02_Has.f k l0_0 a1 = some r) :
  Calls Try.prog 29 #[.agg #[.slice A0_0 l0_0.length c0_0], .int .i64 a1] w fun e w' => e = .returned (.bool r) ∧ Below w.heap.size w w' := by
 have hu25 := Try.underlying25
 have HR0_0 := aM hr0_0
 have HC0_0 := aM hc0_0
 clear hr0_0 hc0_0
 have HB := aM (Below.refl w.heap.size w)
 have H : (r02_Has.l0 k a1 0 l0_0) = some r := h
 clear h
 have H' := aM H
 clear H
 go_enter Try.func29, Try.ntmps29
 go_wp2_with (first | ((with_reducible refine gate_dst (N := 2) rfl ?_); refine box_event ?hg (N := 2) ?hd (cs := #[.slice A0_0 l0_0.length c0_0]) (t := 25) ?hr ?_; (case hd => rfl); (case hg => rfl); (case hr => first | (go_simp; done) | (go_simp; rfl)); intro gb209 hg w3 hbox hb; have n0_ := aM (bSp (by repeat (first | (with_reducible first | exact HB.out | apply bAl | apply pbN | apply bD1) | exact HB.out)) hb); have n1_ := aM (hbox); have n2_ := aM ((by rw [hg]; exact (bSz (by repeat (first | (with_reducible first | exact HB.out | apply bAl | apply pbN | apply bD1) | exact HB.out))) : w.heap.size ≤ gb209)); have n3_ := aM ((by rw [hg]; exact (bSz (by repeat (first | (with_reducible first | exact HB.out | apply bAl | apply pbN | apply bD1) | exact HB.out))) : w.heap.size ≤ gb209)); clear HB; have HB := n0_; have BK209 := n1_; have GW209 := n2_; have GE209 := n3_; clear n0_ n1_ n2_ n3_; clear hb hbox hg))
 go_loopg [5] k (fun kq v5 w' => ∃ (x5_1 : Int), v5 = .int .i64 x5_1 ∧ Aside0 (r02_Has.l0 kq a1 x5_1 l0_0 = some r) ∧ Aside0 (kq ≤ k) ∧ Aside0 (w'.heap[gb209]? = some (.cells #[(.slice A0_0 l0_0.length c0_0)] 25 (0, 0))) ∧ Aside0 (Below w.heap.size w w'))
 case atStart => exact ⟨(0), (by first | rfl | (simp; done) | (simp [*]; done)), H', ⟨Nat.le_refl _⟩, ⟨by (with_reducible repeat (first | refine bkN ?_ _ | refine bkD ?_ | refine bkA ?_ _)); exact BK209.out⟩, ⟨by repeat (first | (with_reducible first | exact HB.out | apply bAl | apply pbN | apply bD1 | refine bSt ?_ GE209.out) | exact HB.out)⟩⟩
 case round =>
  clear H'
  try clear c2
  try clear p2
  obtain ⟨x5_1, rfl, HA, HK1, BK209, HB⟩ := hrel
  cases gk with
  | zero => exact absurd HA.out (by simp [r02_Has.l0])
  | succ k1 =>
   have H := HA.out
   clear HA
   simp only [r02_Has.l0] at H
   by_cases c4 : x5_1 < (l0_0.length : Int)
   ·rw [if_pos c4] at H
    have c4b0 : decide (x5_1 < (l0_0.length : Int)) = true := dT c4
    clear c4
    replace H := Option.bind_eq_some_iff.mp H
    obtain ⟨t210, A50, H⟩ := H
    replace H : (if t210 = true then (if 0 ≤ x5_1 then (if ((rd_T33 l0_0 x5_1).f0) ≤ a1 then (if a1 ≤ ((rd_T33 l0_0 x5_1).f1) then (some true) else (r02_Has.l0 k1 a1 (wrap64 (x5_1 + 1)) l0_0)) else (r02_Has.l0 k1 a1 (wrap64 (x5_1 + 1)) l0_0)) else (none)) else (r02_Has.l0 k1 a1 (wrap64 (x5_1 + 1)) l0_0)) = some r := H
    have A5 := aM A50
    clear A50
    by_cases c6 : t210 = true
    ·subst c6
     have H1 : (if 0 ≤ x5_1 then (if ((rd_T33 l0_0 x5_1).f0) ≤ a1 then (if a1 ≤ ((rd_T33 l0_0 x5_1).f1) then (some true) else (r02_Has.l0 k1 a1 (wrap64 (x5_1 + 1)) l0_0)) else (r02_Has.l0 k1 a1 (wrap64 (x5_1 + 1)) l0_0)) else (none)) = some r := by rw [if_pos rfl] at H; exact H
     clear H
     have H := H1
     clear H1
     by_cases c7 : 0 ≤ x5_1
     ·rw [if_pos c7] at H
      have c7b0 : decide (0 ≤ x5_1) = true := dT c7
      clear c7
      by_cases c8 : ((rd_T33 l0_0 x5_1).f0) ≤ a1
      ·rw [if_pos c8] at H
       have c8b0 : decide (((rd_T33 l0_0 x5_1).f0) ≤ a1) = true := dT c8
       clear c8
       by_cases c9 : a1 ≤ ((rd_T33 l0_0 x5_1).f1)
       ·rw [if_pos c9] at H
        have c9b0 : decide (a1 ≤ ((rd_T33 l0_0 x5_1).f1)) = true := dT c9
        clear c9
        obtain rfl := Option.some.inj H
        have hcz10_0 : wr.cell? ⟨gb209, 0, none⟩ = some (.slice A0_0 l0_0.length c0_0) := (bkC BK209.out 0).trans rfl
        have hfz10_0 := bkF BK209.out 0
        go_wp2_with (first | ((with_reducible refine gate_callee (f := 54) rfl ?_); refine goesL_ (some 14) rfl rfl Try.func54 (by kernel_rfl) rfl #[.int .i64 a1] rfl (by (try simp only [List.map_toArray, List.map_cons, List.map_nil]); first | done | rfl | (simp only [List.length_drop, List.length_take]; rfl)) ?_; (with_reducible refine (r01_Valid.calls a1 true _ A5.out).mono ?_); rintro e w' ⟨rfl, ⟨nd, rfl⟩⟩; refine ⟨_, rfl, ?_⟩; have p211 : 0 ≤ (x5_1 : Int) := oD (by first | (with_reducible assumption) | assumption); have q211 : x5_1 < (l0_0.length : Int) := oD (by first | (with_reducible assumption) | assumption); obtain ⟨ad211, e211, hx211_0, hx211_1⟩ := at_T33 HR0_0.out x5_1 p211 q211; cases e211; replace hx211_0 := (HB.out.cell (World.block_lt_of_cell? w _ hx211_0)).trans hx211_0; replace hx211_1 := (HB.out.cell (World.block_lt_of_cell? w _ hx211_1)).trans hx211_1; replace p211 := eq_true p211; replace q211 := eq_true q211; have p212 : 0 ≤ (x5_1 : Int) := oD (by first | (with_reducible assumption) | assumption); have q212 : x5_1 < (l0_0.length : Int) := oD (by first | (with_reducible assumption) | assumption); obtain ⟨ad212, e212, hx212_0, hx212_1⟩ := at_T33 HR0_0.out x5_1 p212 q212; obtain rfl : ad211 = ad212 := (by injection e212); replace hx212_0 := (HB.out.cell (World.block_lt_of_cell? w _ hx212_0)).trans hx212_0; replace hx212_1 := (HB.out.cell (World.block_lt_of_cell? w _ hx212_1)).trans hx212_1; replace p212 := eq_true p212; replace q212 := eq_true q212))
        go_ret
        exact ⟨by first | rfl | (simp [eN, eS] <;> rfl) | (simp [*, eN, eS] <;> rfl), by repeat (first | (with_reducible first | exact HB.out | apply bAl | apply pbN | apply bD1 | refine bSt ?_ GE209.out) | exact HB.out)⟩
       ·rw [if_neg c9] at H
        have c9b0 : decide (a1 ≤ ((rd_T33 l0_0 x5_1).f1)) = false := decide_eq_false c9
        clear c9
        have H' := aM H
        clear H
        have hcz11_0 : wr.cell? ⟨gb209, 0, none⟩ = some (.slice A0_0 l0_0.length c0_0) := (bkC BK209.out 0).trans rfl
        have hfz11_0 := bkF BK209.out 0
        go_wp2_with (first | ((with_reducible refine gate_callee (f := 54) rfl ?_); refine goesL_ (some 14) rfl rfl Try.func54 (by kernel_rfl) rfl #[.int .i64 a1] rfl (by (try simp only [List.map_toArray, List.map_cons, List.map_nil]); first | done | rfl | (simp only [List.length_drop, List.length_take]; rfl)) ?_; (with_reducible refine (r01_Valid.calls a1 true _ A5.out).mono ?_); rintro e w' ⟨rfl, ⟨nd, rfl⟩⟩; refine ⟨_, rfl, ?_⟩; have p211 : 0 ≤ (x5_1 : Int) := oD (by first | (with_reducible assumption) | assumption); have q211 : x5_1 < (l0_0.length : Int) := oD (by first | (with_reducible assumption) | assumption); obtain ⟨ad211, e211, hx211_0, hx211_1⟩ := at_T33 HR0_0.out x5_1 p211 q211; cases e211; replace hx211_0 := (HB.out.cell (World.block_lt_of_cell? w _ hx211_0)).trans hx211_0; replace hx211_1 := (HB.out.cell (World.block_lt_of_cell? w _ hx211_1)).trans hx211_1; replace p211 := eq_true p211; replace q211 := eq_true q211; have p212 : 0 ≤ (x5_1 : Int) := oD (by first | (with_reducible assumption) | assumption); have q212 : x5_1 < (l0_0.length : Int) := oD (by first | (with_reducible assumption) | assumption); obtain ⟨ad212, e212, hx212_0, hx212_1⟩ := at_T33 HR0_0.out x5_1 p212 q212; obtain rfl : ad211 = ad212 := (by injection e212); replace hx212_0 := (HB.out.cell (World.block_lt_of_cell? w _ hx212_0)).trans hx212_0; replace hx212_1 := (HB.out.cell (World.block_lt_of_cell? w _ hx212_1)).trans hx212_1; replace p212 := eq_true p212; replace q212 := eq_true q212))
        go_roundg k1
        case measure => have := HK1.out; omega
        case rel => exact ⟨(wrap64 (x5_1 + 1)), (by first | rfl | (simp; done) | (simp [*]; done)), H', ⟨by have := HK1.out; omega⟩, ⟨by (with_reducible repeat (first | refine bkN ?_ _ | refine bkD ?_ | refine bkA ?_ _)); exact BK209.out⟩, ⟨by repeat (first | (with_reducible first | exact HB.out | apply bAl | apply pbN | apply bD1 | refine bSt ?_ GE209.out) | exact HB.out)⟩⟩
      ·rw [if_neg c8] at H
       have c8b0 : decide (((rd_T33 l0_0 x5_1).f0) ≤ a1) = false := decide_eq_false c8
       clear c8
       have H' := aM H
       clear H
       have hcz12_0 : wr.cell? ⟨gb209, 0, none⟩ = some (.slice A0_0 l0_0.length c0_0) := (bkC BK209.out 0).trans rfl
       have hfz12_0 := bkF BK209.out 0
       go_wp2_with (first | ((with_reducible refine gate_callee (f := 54) rfl ?_); refine goesL_ (some 14) rfl rfl Try.func54 (by kernel_rfl) rfl #[.int .i64 a1] rfl (by (try simp only [List.map_toArray, List.map_cons, List.map_nil]); first | done | rfl | (simp only [List.length_drop, List.length_take]; rfl)) ?_; (with_reducible refine (r01_Valid.calls a1 true _ A5.out).mono ?_); rintro e w' ⟨rfl, ⟨nd, rfl⟩⟩; refine ⟨_, rfl, ?_⟩; have p211 : 0 ≤ (x5_1 : Int) := oD (by first | (with_reducible assumption) | assumption); have q211 : x5_1 < (l0_0.length : Int) := oD (by first | (with_reducible assumption) | assumption); obtain ⟨ad211, e211, hx211_0, hx211_1⟩ := at_T33 HR0_0.out x5_1 p211 q211; cases e211; replace hx211_0 := (HB.out.cell (World.block_lt_of_cell? w _ hx211_0)).trans hx211_0; replace hx211_1 := (HB.out.cell (World.block_lt_of_cell? w _ hx211_1)).trans hx211_1; replace p211 := eq_true p211; replace q211 := eq_true q211))
       go_roundg k1
       case measure => have := HK1.out; omega
       case rel => exact ⟨(wrap64 (x5_1 + 1)), (by first | rfl | (simp; done) | (simp [*]; done)), H', ⟨by have := HK1.out; omega⟩, ⟨by (with_reducible repeat (first | refine bkN ?_ _ | refine bkD ?_ | refine bkA ?_ _)); exact BK209.out⟩, ⟨by repeat (first | (with_reducible first | exact HB.out | apply bAl | apply pbN | apply bD1 | refine bSt ?_ GE209.out) | exact HB.out)⟩⟩
     ·rw [if_neg c7] at H
      exact absurd H (by simp)
    ·replace c6 := Bool.eq_false_iff.mpr c6
     subst c6
     have H1 : (r02_Has.l0 k1 a1 (wrap64 (x5_1 + 1)) l0_0) = some r := by rw [if_neg (show ¬ (false = true) by decide)] at H; exact H
     clear H
     have H := H1
     clear H1
     have H' := aM H
     clear H
     have hcz13_0 : wr.cell? ⟨gb209, 0, none⟩ = some (.slice A0_0 l0_0.length c0_0) := (bkC BK209.out 0).trans rfl
     have hfz13_0 := bkF BK209.out 0
     go_wp2_with (first | ((with_reducible refine gate_callee (f := 54) rfl ?_); refine goesL_ (some 14) rfl rfl Try.func54 (by kernel_rfl) rfl #[.int .i64 a1] rfl (by (try simp only [List.map_toArray, List.map_cons, List.map_nil]); first | done | rfl | (simp only [List.length_drop, List.length_take]; rfl)) ?_; (with_reducible refine (r01_Valid.calls a1 false _ A5.out).mono ?_); rintro e w' ⟨rfl, ⟨nd, rfl⟩⟩; refine ⟨_, rfl, ?_⟩))
     go_roundg k1
     case measure => have := HK1.out; omega
     case rel => exact ⟨(wrap64 (x5_1 + 1)), (by first | rfl | (simp; done) | (simp [*]; done)), H', ⟨by have := HK1.out; omega⟩, ⟨by (with_reducible repeat (first | refine bkN ?_ _ | refine bkD ?_ | refine bkA ?_ _)); exact BK209.out⟩, ⟨by repeat (first | (with_reducible first | exact HB.out | apply bAl | apply pbN | apply bD1 | refine bSt ?_ GE209.out) | exact HB.out)⟩⟩
   ·rw [if_neg c4] at H
    have c4b0 : decide (x5_1 < (l0_0.length : Int)) = false := decide_eq_false c4
    clear c4
    obtain rfl := Option.some.inj H
    have hcz14_0 : wr.cell? ⟨gb209, 0, none⟩ = some (.slice A0_0 l0_0.length c0_0) := (bkC BK209.out 0).trans rfl
    have hfz14_0 := bkF BK209.out 0
    go_wp2
    go_ret
    exact ⟨by first | rfl | (simp [eN, eS] <;> rfl) | (simp [*, eN, eS] <;> rfl), by repeat (first | (with_reducible first | exact HB.out | apply bAl | apply pbN | apply bD1 | refine bSt ?_ GE209.out) | exact HB.out)⟩
end Go.Proofs.Ythnkmcfhpjmihaa.Q
end
section
namespace Go.Proofs.Ythnkmcfhpjmihaa.Q
open Go.RowKit Go.Proofs.YthnkmcfhpjmihaaW.PrintWords Go.Proofs.YthnkmcfhpjmihaaW.PrintLast Go.Proofs.YthnkmcfhpjmihaaW.PrintMore
set_option linter.unusedVariables false
theorem rdR_mid (pre : List Rg) (x : Rg) (rest : List Rg) : rd_T33 (pre ++ x :: rest) (pre.length : Int) = x := by
 unfold rd_T33
 rw [Int.toNat_natCast, List.getD_eq_getElem?_getD, List.getElem?_append_right (Nat.le_refl _), Nat.sub_self]
 rfl
theorem hasB_cons (r : Int × Int) (l : List (Int × Int)) (c : Int) : CpM.hasB (r :: l) c = ((decide (0 ≤ c ∧ c ≤ 1114111) && (decide (r.1 ≤ c) && decide (c ≤ r.2))) || CpM.hasB l c) := by
 unfold CpM.hasB
 rw [List.any_cons, Bool.decide_and]
theorem has_go : ∀ (rest pre : List Rg) (c : Int) (k : Nat), (pre ++ rest).length < 1000000000 → rest.length + 1 ≤ k →
  r02_Has.l0 k c (pre.length : Int) (pre ++ rest) = some (CpM.hasB (rest.map toP) c)
 | [], pre, c, k, h1, h2 => by
  obtain ⟨k, rfl⟩ : ∃ j, k = j + 1 := ⟨k - 1, by omega⟩
  rw [r02_Has.l0, List.append_nil, if_neg (by omega)]
  rfl
 | x :: rest, pre, c, k, h1, h2 => by
  obtain ⟨k, rfl⟩ : ∃ j, k = j + 1 := ⟨k - 1, by omega⟩
  have hp : pre.length < 1000000000 := by simp at h1; omega
  have e2 : pre ++ x :: rest = (pre ++ [x]) ++ rest := by simp
  have e3 : (((pre.length + 1 : Nat)) : Int) = ((pre ++ [x]).length : Int) := by simp
  have ih := has_go rest (pre ++ [x]) c k (by simpa using h1) (by simp at h2; omega)
  rw [← e2, ← e3] at ih
  rw [r02_Has.l0, if_pos (by simp; omega), valid_eq, rdR_mid, wrap_succ hp, ih, List.map_cons, hasB_cons]
  show (if decide (0 ≤ c ∧ c ≤ 1114111) = true then _ else _) = _
  by_cases hv : 0 ≤ c ∧ c ≤ 1114111
  ·rw [dT hv, if_pos rfl, if_pos (by omega)]
   unfold toP
   by_cases h3 : x.f0 ≤ c
   ·by_cases h4 : c ≤ x.f1
    ·simp [h3, h4]
    ·simp [h3, h4]
   ·simp [h3]
  ·rw [decide_eq_false hv, if_neg (by decide)]
   rfl
theorem has_ok (l : List Rg) (c : Int) (h : l.length < 1000000000) : r02_Has.f (l.length + 1) l c = some (CpM.hasB (l.map toP) c) :=
 has_go l [] c (l.length + 1) (by simpa using h) (Nat.le_refl _)
def keepsB (op : Int) (x y : Bool) : Bool := if op = 1 then x || y else if op = 2 then x && y else x && !y
theorem keeps_ok (op : Int) (x y : Bool) : r02_keeps.f op x y = some (keepsB op x y) := by
 unfold r02_keeps.f keepsB
 cases x <;> cases y <;> split <;> first | rfl | (split <;> rfl)
def keepAB (l0 l1 : List Rg) (op : Int) (c : Int) : Bool := keepsB op (CpM.hasB (l0.map toP) c) (CpM.hasB (l1.map toP) c)
def cutsAB (l0 l1 : List Rg) : List Int := CpM.cuts (CpM.cuts [] (l0.map toP)) (l1.map toP)
def combS (l0 l1 : List Rg) (op : Int) : List (Int × Int) := CpM.runs (keepAB l0 l1 op) none (CpM.segs (cutsAB l0 l1))
def r02_combine.f (l0_0 : List S33) (l1_0 : List S33) (a2 : Int) : Option (List S33) := if l0_0.length + l1_0.length < 10000000 then some ((combS l0_0 l1_0 a2).map ofP) else none
theorem cuts_length (l : List Int) (a : List (Int × Int)) : (CpM.cuts l a).length ≤ l.length + 2 * a.length + 1 := by
 unfold CpM.cuts
 have := place_length 0 (a.foldl CpM.cut1 l)
 have := foldCut_length a l
 omega
def hiOf (rest : List Int) : Int := match rest with | [] => 1114111 | y :: _ => y - 1
theorem segs_cons (x : Int) (rest : List Int) : CpM.segs (x :: rest) = (x, hiOf rest) :: CpM.segs rest := by cases rest <;> rfl
theorem drop_rd (l : List Int) (k : Nat) (h : k < l.length) : l.drop k = rd l (k : Int) :: l.drop (k + 1) := by
 rw [List.drop_eq_getElem_cons h]
 unfold rd
 rw [Int.toNat_natCast, List.getD_eq_getElem?_getD, List.getElem?_eq_getElem h]
 rfl
theorem hiOf_last (l : List Int) (k : Nat) (h : ¬ k + 1 < l.length) : hiOf (l.drop (k + 1)) = 1114111 := by
 rw [List.drop_eq_nil_of_le (by omega)]; rfl
theorem hiOf_more (l : List Int) (k : Nat) (h : k + 1 < l.length) : hiOf (l.drop (k + 1)) = rd l ((k : Int) + 1) - 1 := by
 rw [drop_rd l (k + 1) h]; rfl
theorem cutsAB_in (l0 l1 : List Rg) : ∀ y ∈ cutsAB l0 l1, 0 ≤ y ∧ y ≤ 1114111 :=
 (CpM.cuts_ok _ _ (CpM.cuts_ok _ _ List.Pairwise.nil (fun y hy => by cases hy)).1 (CpM.cuts_ok _ _ List.Pairwise.nil (fun y hy => by cases hy)).2.1).2.1
set_option maxHeartbeats 8000000 in
set_option maxRecDepth 100000 in
theorem r02_combine.calls (A0_0 : Option Addr) (c0_0 : Nat) (l0_0 : List S33) (A1_0 : Option Addr) (c1_0 : Nat) (l1_0 : List S33) (a2 : Int) (r : List S33) (w : World) (hr0_0 : Kd.C k33 w A0_0 l0_0.length l0_0) (hc0_0 : l0_0.length ≤ c0_0) (hr1_0 : Kd.C k33 w A1_0 l1_0.length l1_0) (hc1_0 : l1_0.length ≤ c1_0) (h : r02_combine.f l0_0 l1_0 a2 = some r) :
  Calls Try.prog 77 #[.agg #[.slice A0_0 l0_0.length c0_0], .agg #[.slice A1_0 l1_0.length c1_0], .int .i64 a2] w fun e w' => ∃ v0_ : Value, e = .returned (.agg #[v0_]) ∧ Kd.R k33 33 w' w.heap.size (fun _ => True) v0_ r ∧ Below w.heap.size w w' := by
 have hn : l0_0.length + l1_0.length < 10000000 ∧ (combS l0_0 l1_0 a2).map ofP = r := by
  unfold r02_combine.f at h
  split at h
  ·rename_i hl; exact ⟨hl, Option.some.inj h⟩
  ·cases h
 have HN := aM hn
 have HRA := aM hr0_0
 have HCA := aM hc0_0
 have HRB := aM hr1_0
 have HCB := aM hc1_0
 have hcl := cuts_length [] (l0_0.map toP)
 have hcl2 := cuts_length (CpM.cuts [] (l0_0.map toP)) (l1_0.map toP)
 rw [List.length_map, List.length_nil] at hcl
 rw [List.length_map] at hcl2
 have HC1 : Aside0 (r02_Cuts.f [] l0_0 = some (CpM.cuts [] (l0_0.map toP))) := ⟨by unfold r02_Cuts.f; rw [if_pos (by simp; omega)]⟩
 have HC2 : Aside0 (r02_Cuts.f (CpM.cuts [] (l0_0.map toP)) l1_0 = some (cutsAB l0_0 l1_0)) := ⟨by unfold r02_Cuts.f; rw [if_pos (by omega)]; rfl⟩
 have HLC : Aside0 ((cutsAB l0_0 l1_0).length < 100000000) := ⟨by unfold cutsAB; omega⟩
 have HIN := aM (cutsAB_in l0_0 l1_0)
 have HB := aM (Below.refl w.heap.size w)
 clear hn h hr0_0 hc0_0 hr1_0 hc1_0 hcl hcl2
 generalize hq : cutsAB l0_0 l1_0 = cuts at HC2 HLC HIN
 have HQ := aM hq
 clear hq
 have HBX := aM (bAl (bAl (bAl (Below.refl w.heap.size w) (.cells #[.slice A0_0 l0_0.length c0_0] 25)) (.cells #[.slice A1_0 l1_0.length c1_0] 25)) (.cells #[.slice none 0 0] 25))
 have HCC1 : Aside0 (∀ W, Kd.C k33 W A0_0 l0_0.length l0_0 → Calls Try.prog 89 #[.slice none 0 0, .agg #[.slice A0_0 l0_0.length c0_0]] W fun e w' => ∃ v0_ : Value, e = .returned (v0_) ∧ Kd.R kInt 3 w' W.heap.size (fun _ => True) v0_ (CpM.cuts [] (l0_0.map toP)) ∧ Below W.heap.size W w') := ⟨fun W hW => r02_Cuts.calls none 0 [] A0_0 c0_0 l0_0 _ W (Kd.C_nil _ _) (Nat.le_refl _) hW HCA.out HC1.out⟩
 go_enter Try.func77, Try.ntmps77
 have s0 : (((w.alloc (.cells #[.slice A0_0 l0_0.length c0_0] 25)).alloc (.cells #[.slice A1_0 l1_0.length c1_0] 25)).alloc (.cells #[.slice none 0 0] 25)).cell? ⟨w.heap.size, 0, none⟩ = some (.slice A0_0 l0_0.length c0_0) := cell_alloc_sl _ (cell_alloc_sl _ (cell_new_sl _ _ _))
 have s1 : (((w.alloc (.cells #[.slice A0_0 l0_0.length c0_0] 25)).alloc (.cells #[.slice A1_0 l1_0.length c1_0] 25)).alloc (.cells #[.slice none 0 0] 25)).cell? ⟨w.heap.size + 1, 0, none⟩ = some (.slice A1_0 l1_0.length c1_0) := by have := cell_new_sl (w.alloc (.cells #[.slice A0_0 l0_0.length c0_0] 25)) (.slice A1_0 l1_0.length c1_0) 25; rw [World.size_alloc] at this; exact cell_alloc_sl _ this
 go_wp2
 go_region_held3 (fun w' => w'.cell? ⟨w.heap.size, 0, none⟩ = some (.slice A0_0 l0_0.length c0_0) ∧ w'.cell? ⟨w.heap.size + 1, 0, none⟩ = some (.slice A1_0 l1_0.length c1_0)) (first | go_keep | (go_split_ands; constructor; (refine pcb hb ?_; assumption); (refine pcb hb ?_; assumption)))
  (first | (go_at_call 89; (with_reducible refine (HCC1.out _ ?s1).mono ?_); (case s1 => exact Kd.C_below HRA.out (bD1 HBX.out)); rintro e w1 ⟨v1, rfl, ho, hb⟩; have HO1 := aM ho; have HB1 := aM (bSp (bD1 HBX.out) hb); have HD1 := aM hb; obtain ⟨Ay, cy, ev⟩ := Kd.R_slice ho; subst ev; clear ho) | (go_at_call 89; (with_reducible refine (r02_Cuts.calls _ _ (CpM.cuts [] (l0_0.map toP)) A1_0 c1_0 l1_0 cuts _ (Kd.R_reads' HO1.out).2.2 (Kd.R_reads' HO1.out).2.1 ?s2 HCB.out HC2.out).mono ?_); (case s2 => exact Kd.C_below HRB.out HB1.out); rintro e w2 ⟨v2, rfl, ho, hb⟩; have HO2 := aM ho; have HB2 := aM hb; have HD2 := aM hb; obtain ⟨Az, cz, ev⟩ := Kd.R_slice ho; subst ev; clear ho))
 have HRA2 := aM (Kd.C_below HRA.out (bSp HB1.out HB2.out))
 have HRB2 := aM (Kd.C_below HRB.out (bSp HB1.out HB2.out))
 have hbw := bSp HB1.out HB2.out
 have hxx : (((w.alloc (.cells #[.slice A0_0 l0_0.length c0_0] 25)).alloc (.cells #[.slice A1_0 l1_0.length c1_0] 25)).alloc (.cells #[.slice none 0 0] 25)).heap[w.heap.size + 1 + 1]? = some (.cells #[.slice none 0 0] 25 (0, 0)) := by have := heap_alloc_new ((w.alloc (.cells #[.slice A0_0 l0_0.length c0_0] 25)).alloc (.cells #[.slice A1_0 l1_0.length c1_0] 25)) (.cells #[.slice none 0 0] 25); rw [World.size_alloc, World.size_alloc] at this; exact this
 have BR := aM (blk_below (blk_below (bkD hxx) HD1.out) HD2.out)
 have HBW := aM hbw
 have S0 : Aside0 (w2.cell? ⟨w.heap.size, 0, none⟩ = some (.slice A0_0 l0_0.length c0_0)) := ⟨by go_split_ands; assumption⟩
 have S1 : Aside0 (w2.cell? ⟨w.heap.size + 1, 0, none⟩ = some (.slice A1_0 l1_0.length c1_0)) := ⟨by go_split_ands; assumption⟩
 have HLB := aM (World.block_lt_of_cell? w2 _ S1.out)
 have HCU := aM (Kd.R_reads' HO2.out).2.2
 clear hxx hbw s0 s1 HB HBX HCC1 HB1 HD1 HD2 HO1 HRA HRB HC1 HC2
 try clear hHeld
 try clear hb
 try clear hb
 go_wp2
 go_loopw [9, 10] (fun ov i wr => ∃ (k : Nat) (v : Value) (dn : List Rg) (cur : Option Rg), ov = .bool cur.isSome ∧ i = .int .i64 k ∧ Aside0 (k ≤ cuts.length) ∧ Aside0 ((dn ++ cur.toList).length ≤ k) ∧ Aside0 (combS l0_0 l1_0 a2 = dn.map toP ++ CpM.runs (keepAB l0_0 l1_0 a2) (cur.map toP) (CpM.segs (cuts.drop k))) ∧ Aside0 (Kd.R kRg 33 wr w2.heap.size (fun _ => True) v (dn ++ cur.toList)) ∧ Aside0 (wr.heap[w2.heap.size]? = some (.cells #[v] 25 (0, 0))) ∧ Aside0 (Below w2.heap.size w2 wr)) (fun _ i _ => cuts.length - (intOf i).toNat)
 case atStart => exact ⟨0, .slice none 0 0, [], none, rfl, rfl, ⟨Nat.zero_le _⟩, ⟨Nat.le_refl _⟩, ⟨by rw [← HQ.out]; rfl⟩, ⟨Kd.R_nil _ _ _ _ _⟩, ⟨heap_alloc_new w2 _⟩, ⟨bAl (Below.refl _ w2) _⟩⟩
 case round =>
  obtain ⟨k, v, dn, cur, rfl, rfl, HK, HKL, HS, HO, BO, HB⟩ := hrel
  by_cases hlt : k < cuts.length
  ·have hx : rd cuts (k : Int) ∈ cuts := by unfold rd; rw [Int.toNat_natCast, List.getD_eq_getElem?_getD, List.getElem?_eq_getElem hlt]; exact List.getElem_mem hlt
   have hxr := HIN.out _ hx
   obtain ⟨ad, e, hx0⟩ := Kd.at_int HCU.out (k : Int) (by omega) (by omega)
   cases e
   rw [Int.toNat_natCast] at hx0
   have hc0 := (HB.out.cell (World.block_lt_of_cell? w2 _ hx0)).trans hx0
   have HX0 := aM hx0
   clear hx0 hx
   have hs0 := (HB.out.cell (p := ⟨w.heap.size, 0, none⟩) (World.block_lt_of_cell? w2 _ S0.out)).trans S0.out
   have hs1 := (HB.out.cell (p := ⟨w.heap.size + 1, 0, none⟩) (World.block_lt_of_cell? w2 _ S1.out)).trans S1.out
   have hp : (0 ≤ (k : Int)) = True := eq_true (by omega)
   have hp2 : ((k : Int) < (cuts.length : Int)) = True := eq_true (by omega)
   have hw : wrap64 ((k : Int) + 1) = (k : Int) + 1 := by have := HLC.out; unfold wrap64; omega
   have hdr := drop_rd cuts k hlt
   have HSEG : Aside0 (CpM.segs (cuts.drop k) = (rd cuts (k : Int), hiOf (cuts.drop (k + 1))) :: CpM.segs (cuts.drop (k + 1))) := ⟨by rw [hdr, segs_cons]⟩
   clear hdr
   have hdlt : decide ((k : Int) < (cuts.length : Int)) = true := dT (by omega)
   go_upto_if 27 with (fail)
   go_cut [11] (fun v11 wc => v11 = .int .i64 (hiOf (cuts.drop (k + 1))) ∧ wc = wr)
   case first =>
    by_cases hl2 : k + 1 < cuts.length
    ·have HHI := aM (hiOf_more cuts k hl2)
     have hy : rd cuts ((k : Int) + 1) ∈ cuts := by unfold rd; rw [show ((k : Int) + 1).toNat = k + 1 by omega, List.getD_eq_getElem?_getD, List.getElem?_eq_getElem hl2]; exact List.getElem_mem hl2
     have hyr := HIN.out _ hy
     obtain ⟨ad2, e2, hx2⟩ := Kd.at_int HCU.out ((k : Int) + 1) (by omega) (by omega)
     cases e2
     have hc2 := (HB.out.cell (World.block_lt_of_cell? w2 _ hx2)).trans hx2
     rw [show ((k : Int) + 1).toNat = k + 1 by omega, Addr.add, if_neg (by omega)] at hc2
     have hwy : wrap64 (rd cuts ((k : Int) + 1) - 1) = rd cuts ((k : Int) + 1) - 1 := by unfold wrap64; omega
     have hl3 : (k : Int) + 1 < (cuts.length : Int) := by omega
     have hp3 : (0 ≤ (k : Int) + 1) = True := eq_true (by omega)
     have hp4 : ((k : Int) + 1 < (cuts.length : Int)) = True := eq_true (by omega)
     have hd4 : decide ((k : Int) + 1 < (cuts.length : Int)) = true := dT hl3
     have HP3 := aM hp3
     have HP4 := aM hp4
     clear hy hx2 hyr hl3 hp3 hp4 hl2
     generalize rd cuts ((k : Int) + 1) = y at *
     rw [hd4]
     go_upto_region 9 with (fail)
     have hp3 := HP3.out
     have hp4 := HP4.out
     go_wp2
     go_meet
     case rel => exact ⟨by rw [HHI.out, hwy], rfl⟩
    ·have HHI := aM (hiOf_last cuts k hl2)
     have hl3 : ¬ (k : Int) + 1 < (cuts.length : Int) := by omega
     have hd4 : decide ((k : Int) + 1 < (cuts.length : Int)) = false := decide_eq_false hl3
     clear hl3 hl2
     rw [hd4]
     go_wp2
     go_meet
     case rel => exact ⟨by rw [HHI.out], rfl⟩
   case rest =>
    obtain ⟨rfl, rfl⟩ := hcut
    have HA := aM (has_ok l0_0 (rd cuts (k : Int)) (by have := HN.out.1; omega))
    have HBB := aM (has_ok l1_0 (rd cuts (k : Int)) (by have := HN.out.1; omega))
    generalize hkx : keepAB l0_0 l1_0 a2 (rd cuts (k : Int)) = kx
    have HKX := aM hkx
    have HKP : Aside0 (r02_keeps.f a2 (CpM.hasB (l0_0.map toP) (rd cuts (k : Int))) (CpM.hasB (l1_0.map toP) (rd cuts (k : Int))) = some kx) := ⟨by rw [keeps_ok]; exact congrArg some hkx⟩
    clear hkx
    generalize hhi : hiOf (cuts.drop (k + 1)) = hi at HSEG ⊢
    generalize rd cuts (k : Int) = x at *
    generalize CpM.hasB (l0_0.map toP) x = ha at HA HKP
    generalize CpM.hasB (l1_0.map toP) x = hb' at HBB HKP
    clear hhi hw
    go_wp2
    go_region_held3 (fun w' => w'.cell? ⟨w.heap.size, 0, none⟩ = some (.slice A0_0 l0_0.length c0_0) ∧ w'.cell? ⟨w.heap.size + 1, 0, none⟩ = some (.slice A1_0 l1_0.length c1_0) ∧ w'.cell? (ad.add k) = some (.int .i64 x)) (first | go_keep | (go_split_ands; refine ⟨?_, ?_, ?_⟩; (refine pcb hb ?_; assumption); (refine pcb hb ?_; assumption); (refine pcb hb ?_; assumption)))
     (first | (go_at_call 29; (with_reducible refine (r02_Has.calls ((l0_0).length + 1) A0_0 c0_0 l0_0 x _ _ ?s1 HCA.out HA.out).mono ?_); (case s1 => exact Kd.C_below HRA2.out (by repeat (first | (with_reducible first | exact HB.out | apply bAl | apply pbN | apply bD1) | exact HB.out))); rintro e w1 ⟨rfl, hb⟩; have n0_ := aM (bSp (by repeat (first | (with_reducible first | exact HB.out | apply bAl | apply pbN | apply bD1) | exact HB.out)) hb); have n4_ := aM (blk_below (by (with_reducible repeat (first | refine bkN ?_ _ | refine bkD ?_ | refine bkA ?_ _)); exact BO.out) hb); have n6_ := aM (Kd.R_below (by (with_reducible repeat (first | apply Kd.R_alloc | apply Kd.R_drewN | apply Kd.R_drew)); exact HO.out) hb); clear HB BO HO; have HB := n0_; have BO := n4_; have HO := n6_; clear n0_ n4_ n6_) | (go_at_call 29; (with_reducible refine (r02_Has.calls ((l1_0).length + 1) A1_0 c1_0 l1_0 x _ _ ?s2 HCB.out HBB.out).mono ?_); (case s2 => exact Kd.C_below HRB2.out (by repeat (first | (with_reducible first | exact HB.out | apply bAl | apply pbN | apply bD1) | exact HB.out))); rintro e w1 ⟨rfl, hb⟩; have n0_ := aM (bSp (by repeat (first | (with_reducible first | exact HB.out | apply bAl | apply pbN | apply bD1) | exact HB.out)) hb); have n4_ := aM (blk_below (by (with_reducible repeat (first | refine bkN ?_ _ | refine bkD ?_ | refine bkA ?_ _)); exact BO.out) hb); have n6_ := aM (Kd.R_below (by (with_reducible repeat (first | apply Kd.R_alloc | apply Kd.R_drewN | apply Kd.R_drew)); exact HO.out) hb); clear HB BO HO; have HB := n0_; have BO := n4_; have HO := n6_; clear n0_ n4_ n6_) | (go_at_call 90; (with_reducible refine (r02_keeps.calls a2 _ _ kx _ HKP.out).mono ?_); rintro e w1 ⟨rfl, ⟨nd, rfl⟩⟩))
    have n0_ := aM (pbN HB.out nd)
    have n1_ := aM (bkN BO.out nd)
    have n2_ := aM (Kd.R_drewN HO.out nd)
    clear HB BO HO
    generalize w1.drewN nd = W at n0_ n1_ n2_ ⊢
    have HB := n0_
    have BO := n1_
    have HO := n2_
    clear n0_ n1_ n2_
    have hc0 := (HB.out.cell (World.block_lt_of_cell? w2 _ HX0.out)).trans HX0.out
    have hw : wrap64 ((k : Int) + 1) = (k : Int) + 1 := by have := HLC.out; unfold wrap64; omega
    have hvc := (bkC BO.out 0).trans rfl
    have hvf := bkF BO.out 0
    obtain ⟨Av, cv, ev⟩ := Kd.R_slice HO.out
    subst ev
    cases kx with
    | false => cases cur with
     | none =>
      have HX : Aside0 (combS l0_0 l1_0 a2 = dn.map toP ++ CpM.runs (keepAB l0_0 l1_0 a2) none (CpM.segs (cuts.drop (k + 1)))) := ⟨by rw [HS.out, HSEG.out]; show _ ++ CpM.runs _ none _ = _; rw [CpM.runs, HKX.out, if_neg (by decide)]⟩
      go_wp2
      go_roundw
      case rel => exact ⟨k + 1, _, dn, none, rfl, by rw [hw]; rfl, ⟨hlt⟩, ⟨Nat.le_succ_of_le HKL.out⟩, HX, HO, BO, HB⟩
      case measure => rw [hw]; simp only [intOf]; omega
     | some q =>
      have HX : Aside0 (combS l0_0 l1_0 a2 = (dn ++ [q]).map toP ++ CpM.runs (keepAB l0_0 l1_0 a2) none (CpM.segs (cuts.drop (k + 1)))) := ⟨by rw [HS.out, HSEG.out]; show _ ++ CpM.runs _ (some (toP q)) _ = _; rw [CpM.runs, HKX.out, if_neg (by decide), List.map_append, List.append_assoc]; rfl⟩
      go_wp2
      go_roundw
      case rel => exact ⟨k + 1, _, dn ++ [q], none, rfl, by rw [hw]; rfl, ⟨hlt⟩, ⟨by have := HKL.out; simp at this ⊢; omega⟩, HX, ⟨by have := HO.out; simpa using this⟩, ⟨by have := BO.out; simpa using this⟩, HB⟩
      case measure => rw [hw]; simp only [intOf]; omega
    | true => cases cur with
     | none =>
      have HX : Aside0 (combS l0_0 l1_0 a2 = dn.map toP ++ CpM.runs (keepAB l0_0 l1_0 a2) (some (toP ⟨x, hi⟩)) (CpM.segs (cuts.drop (k + 1)))) := ⟨by rw [HS.out, HSEG.out]; show _ ++ CpM.runs _ none _ = _; rw [CpM.runs, HKX.out, if_pos rfl]; rfl⟩
      have hnn : dn ++ (none : Option Rg).toList = dn := List.append_nil dn
      rw [hnn] at HO BO HKL hvc
      clear hnn
      have hvc4 : (W.alloc (.cells #[.int .i64 x, .int .i64 hi] 33)).cell? ⟨w2.heap.size, 0, none⟩ = some (.slice Av dn.length cv) := pcb (bAl (Below.refl _ W) _) hvc
      go_wp2
      go_region_law ((refine Kd.R_append_step kRg (w0 := w2) w2.heap.size (by rfl) (.tmp 67) (.tmp 74) 23 33 (.agg #[.int .i64 0, .int .i64 0]) 16 (by rfl) Try.underlying23 info33 rfl (by decide) (by omega) _ dn ⟨x, hi⟩ [.int .i64 x, .int .i64 hi] (fun _ => True) (fun _ => False) (by rfl) (by first | (go_simp; done) | (go_simp; rfl)) (k33_mkM _ _ _ ⟨x, hi⟩) (fun _ h => h.elim) (fun _ _ => trivial) (Kd.R_drew HO.out) (bD1 HB.out) (by have := HB.out.size; simp; omega) (by have h1_ := HKL.out; have h2_ := HLC.out; omega) ?_; intro v1 w3 ho hb3 hg hat; obtain ⟨Av3, cv3, ev3⟩ := Kd.R_slice ho; subst ev3; have HO1 := aM ho; have HB3 := aM hb3; have BO1 := aM (blk_grown (bkD BO.out) hg (Kd.R_ne (Kd.R_drew HO.out) (bkD BO.out) (by decide))); have hbc3 := (bkC BO1.out 0).trans rfl; have hbf3 := bkF BO1.out 0; clear ho hb3 hg hat))
      all_goals go_wp2
      all_goals (go_roundw; (case rel => exact ⟨k + 1, .slice Av3 (dn.length + 1) cv3, dn, some ⟨x, hi⟩, rfl, by rw [hw]; rfl, ⟨hlt⟩, ⟨by have := HKL.out; simp only [Option.toList_some, List.length_append, List.length_singleton]; omega⟩, HX, ⟨by have h1_ := Kd.R_set HO1.out BO1.out (by decide) 0 (.slice Av3 (dn.length + 1) cv3); rw [List.length_append, List.length_singleton] at h1_; exact h1_⟩, ⟨blk_put BO1.out 0 _ rfl⟩, ⟨HB3.out.setCell (Nat.le_refl _) _⟩⟩); (case measure => rw [hw]; simp only [intOf]; omega))
     | some q =>
      have HX : Aside0 (combS l0_0 l1_0 a2 = dn.map toP ++ CpM.runs (keepAB l0_0 l1_0 a2) (some (toP ⟨q.f0, hi⟩)) (CpM.segs (cuts.drop (k + 1)))) := ⟨by rw [HS.out, HSEG.out]; show _ ++ CpM.runs _ (some (toP q)) _ = _; rw [CpM.runs, HKX.out, if_pos rfl]; rfl⟩
      have hmm : dn ++ (some q).toList = dn ++ [q] := rfl
      rw [hmm] at HO BO HKL hvc
      clear hmm
      have hmi : (dn ++ [q])[dn.length]? = some q := by simp
      obtain ⟨_, _, ⟨_, hz⟩ | ⟨g, co, cu, hv, hbg, _⟩⟩ := R_own_iff.1 HO.out
      ·simp at hz
      cases hv
      have hcs := R_cells HO.out hmi
      obtain ⟨hq0, hq1, hqf⟩ := hcs
      have HG := aM hbg
      have HMI := aM hmi
      have hlen3 : (dn ++ [q]).length = dn.length + 1 := by simp
      obtain ⟨n, hn⟩ : ∃ n, (dn ++ [q]).length = n := ⟨_, rfl⟩
      obtain ⟨J, hJ⟩ : ∃ J : Int, (dn.length : Int) = J := ⟨_, rfl⟩
      have hJn : J.toNat = dn.length := by omega
      rw [← hJn] at hq0 hq1 hqf
      rw [hn] at HO BO HKL hvc
      have hb1 : (0 ≤ J) = True := eq_true (by omega)
      have hb2 : (J < (n : Int)) = True := eq_true (by omega)
      have hw2 : wrap64 ((n : Int) - 1) = J := by have h_ := HKL.out; have h2_ := HLC.out; unfold wrap64; omega
      have hw4 : IntKind.i64.wrap ((n : Int) - 1) = J := by have h_ := HKL.out; have h2_ := HLC.out; rw [IntWalk.i64_in _ (by omega)]; omega
      have HJ := aM hJn
      have HNN := aM hn
      clear hmi hbg hlen3 hn hJ hJn
      have hdc := aM (Kd.R_ne HO.out BO.out (by decide))
      go_wp2
      go_roundw
      case rel =>
       have h1 := R_set_hi (y := hi) HO.out HMI.out
       have e : (dn ++ [q]).set dn.length ⟨q.f0, hi⟩ = dn ++ [⟨q.f0, hi⟩] := by simp
       rw [e] at h1
       rw [HJ.out]
       refine ⟨k + 1, _, dn, some ⟨q.f0, hi⟩, rfl, by rw [hw]; rfl, ⟨hlt⟩, ⟨?_⟩, HX, ⟨h1⟩, ⟨?_⟩, ⟨HB.out.setCell HG.out _⟩⟩
       ·have := HKL.out; have := HNN.out; simp only [Option.toList_some, List.length_append, List.length_singleton] at *; omega
       ·exact blk_far BO.out (by have := hdc.out; simpa [Value.ownBlock] using this) _
      case measure => rw [hw]; simp only [intOf]; omega
  ·obtain rfl : k = cuts.length := by have := HK.out; omega
   have hbc := (bkC BO.out 0).trans rfl
   have hbr := blk_below BR.out HB.out
   have hbrc : wr.cell? ⟨w.heap.size + 1 + 1, 0, none⟩ = some (.slice none 0 0) := (bkC hbr 0).trans rfl
   have hbrf := bkF hbr 0
   have HBR := aM hbr
   have hfin : dn ++ cur.toList = r := by
    have h1 := HS.out
    rw [List.drop_length] at h1
    have h2 : CpM.runs (keepAB l0_0 l1_0 a2) (cur.map toP) (CpM.segs []) = cur.toList.map toP := by cases cur <;> rfl
    rw [h2, ← List.map_append] at h1
    rw [← HN.out.2, h1, ofP_toP]
   have HF := aM hfin
   clear hfin hbr
   clear HS HKL
   generalize dn ++ cur.toList = out at *
   obtain ⟨Av, cv, ev⟩ := Kd.R_slice HO.out
   subst ev
   go_wp2
   refine bodyPost_ret (results_cell_row rfl _ _ (w.heap.size + 1 + 1) 25 #[.slice Av out.length cv] (0, 0) _ rfl (blk_put (cs := #[.slice none 0 0]) HBR.out 0 _ rfl) Try.underlying25 rfl (by kernel_rfl)) rfl ?_
   refine ⟨_, rfl, ?_, ?_⟩
   ·rw [← HF.out]
    exact Kd.R_lower (Kd.R_set HO.out HBR.out (by decide) 0 _) HBW.out.size
   ·exact (bSp HBW.out HB.out).setCell (by show w.heap.size ≤ w.heap.size + 1 + 1; omega) _
end Go.Proofs.Ythnkmcfhpjmihaa.Q
end
section
namespace Go.Proofs.Ythnkmcfhpjmihaa.Q
open Go.RowKit Go.Proofs.YthnkmcfhpjmihaaW.PrintWords Go.Proofs.YthnkmcfhpjmihaaW.PrintLast Go.Proofs.YthnkmcfhpjmihaaW.PrintMore
attribute [local go_sem] max2_int min2_int max_two min_two max_three min_three max_four min_four
set_option linter.unusedVariables false
set_option linter.unusedSimpArgs false
def r02_Make.f (l0 : List (S33)) : Option ((List (S33))) := (r02_combine.f l0 ([] : List (S33)) 1).bind fun t234 => (some t234)
set_option maxHeartbeats 8000000 in
set_option maxRecDepth 100000 in
theorem r02_Make.calls (A0 : Option Addr) (c0 : Nat) (l0 : List (S33)) (r : List (S33)) (w : World) (hr0 : Kd.C k33 w A0 l0.length l0) (hc0 : l0.length ≤ c0) (h : r02_Make.f l0 = some r) :
  Calls Try.prog 60 #[.slice A0 l0.length c0] w fun e w' => ∃ v0_ : Value, e = .returned (.agg #[v0_]) ∧ Kd.R k33 33 w' w.heap.size (fun _ => True) v0_ r ∧ Below w.heap.size w w' := by
 have hu25 := Try.underlying25
 have HR0 := aM hr0
 have HC0 := aM hc0
 clear hr0 hc0
 have HB := aM (Below.refl w.heap.size w)
 have H : ((r02_combine.f l0 ([] : List (S33)) 1).bind fun t234 => (some t234)) = some r := h
 clear h
 replace H := Option.bind_eq_some_iff.mp H
 obtain ⟨t234, A20, H⟩ := H
 replace H : (some t234) = some r := H
 have A2 := aM A20
 clear A20
 obtain rfl := Option.some.inj H
 go_enter Try.func60, Try.ntmps60
 go_wp2_with (first | ((with_reducible refine gate_dst (N := 2) rfl ?_); refine box_event ?hg (N := 2) ?hd (cs := #[.slice none 0 0]) (t := 25) ?hr ?_; (case hd => rfl); (case hg => rfl); (case hr => first | (go_simp; done) | (go_simp; rfl)); intro gb233 hg w3 hbox hb; have n0_ := aM (bSp (by repeat (first | (with_reducible first | exact HB.out | apply bAl | apply pbN | apply bD1) | exact HB.out)) hb); have n1_ := aM (hbox); have n2_ := aM ((by rw [hg]; exact (bSz (by repeat (first | (with_reducible first | exact HB.out | apply bAl | apply pbN | apply bD1) | exact HB.out))) : w.heap.size ≤ gb233)); have n3_ := aM ((by rw [hg]; exact (bSz (by repeat (first | (with_reducible first | exact HB.out | apply bAl | apply pbN | apply bD1) | exact HB.out))) : w.heap.size ≤ gb233)); clear HB; have HB := n0_; have BK233 := n1_; have GW233 := n2_; have GE233 := n3_; clear n0_ n1_ n2_ n3_; clear hb hbox hg) | ((with_reducible refine gate_callee (f := 77) rfl ?_); refine goesL_ (some 6) rfl rfl Try.func77 (by kernel_rfl) rfl #[.agg #[.slice A0 l0.length c0], .agg #[.slice none 0 0], .int .i64 1] rfl (by (try simp only [List.map_toArray, List.map_cons, List.map_nil]); first | done | rfl | (simp only [List.length_drop, List.length_take]; rfl)) ?_; (refine (r02_combine.calls _ _ l0 _ _ ([] : List (S33)) 1 t234 _ ?side1 ?side2 ?side3 ?side4 A2.out).mono ?_); (case side1 => repeat (first | exact (Kd.C_below HR0.out HB.out) | (with_reducible refine Kd.C_alloc ?_ _) | (with_reducible refine Kd.C_drewN ?_ _) | (with_reducible refine Kd.C_drew ?_))); (case side2 => exact HC0.out); (case side3 => exact Kd.C_nil _ _); (case side4 => exact Nat.le_refl _); rintro e w4 ⟨v235, rfl, ho0, hb⟩; refine ⟨_, rfl, ?_⟩; have n0_ := aM (Kd.R_lower ho0 (bSz (by repeat (first | (with_reducible first | exact HB.out | apply bAl | apply pbN | apply bD1 | refine bSt ?_ GE233.out) | exact HB.out)))); have n1_ := aM (blk_below (g := gb233) (o := .cells #[.slice none 0 0] 25 (0, 0)) (by (with_reducible repeat (first | refine bkN ?_ _ | refine bkD ?_ | refine bkA ?_ _)); exact BK233.out) hb); have n2_ := aM (bSp (by repeat (first | (with_reducible first | exact HB.out | apply bAl | apply pbN | apply bD1 | refine bSt ?_ GE233.out) | exact HB.out)) hb); clear BK233; clear HB; have HO236 := n0_; have BK233 := n1_; have HB := n2_; clear n0_ n1_ n2_; (try clear hb); (try clear hb2); (try clear hk); (try clear hi); (try clear ho0); obtain ⟨Ao5, co5, eo5⟩ := Kd.R_slice HO236.out; subst eo5; have hcz6_0 : w4.cell? ⟨gb233, 0, none⟩ = some (.slice none 0 0) := (bkC BK233.out 0).trans rfl; have hfz6_0 := bkF BK233.out 0))
 refine bodyPost_ret (results_cell_row rfl _ _ gb233 25 #[.slice Ao5 t234.length co5] (0, 0) _ rfl (by (with_reducible repeat (first | refine bkN ?_ _ | refine bkD ?_ | refine bkA ?_ _)); refine blk_put (cs := #[.slice none 0 0]) ?_ 0 _ rfl; (with_reducible repeat (first | refine bkN ?_ _ | refine bkD ?_ | refine bkA ?_ _)); exact BK233.out) Try.underlying25 rfl (by kernel_rfl)) rfl ?_
 exact ⟨_, by first | rfl | (simp [eN, eS] <;> rfl) | (simp [*, eN, eS] <;> rfl), by (with_reducible repeat (first | apply Kd.R_alloc | apply Kd.R_drewN | apply Kd.R_drew)); exact Kd.R_mono (Kd.R_far (p := ⟨gb233, 0, none⟩) (Kd.R_types HO236.out BK233.out (by decide)) (fun _ hk => hk.2) (.slice Ao5 t234.length co5)) (fun _ hk => trivial), by repeat (first | (with_reducible first | exact HB.out | apply bAl | apply pbN | apply bD1 | refine bSt ?_ GE233.out) | exact HB.out)⟩
def r02_Valid.f (k : Nat) (l0_0 : List (S33)) : Option (Bool) := (r02_Make.f l0_0).bind fun t238 => ((r02_Same.f k l0_0 t238).bind fun t241 => (some t241))
set_option maxHeartbeats 8000000 in
set_option maxRecDepth 100000 in
theorem r02_Valid.calls (k : Nat) (A0_0 : Option Addr) (c0_0 : Nat) (l0_0 : List (S33)) (r : Bool) (w : World) (hr0_0 : Kd.C k33 w A0_0 l0_0.length l0_0) (hc0_0 : l0_0.length ≤ c0_0) (h : r02_Valid.f k l0_0 = some r) :
  Calls Try.prog 38 #[.agg #[.slice A0_0 l0_0.length c0_0]] w fun e w' => e = .returned (.bool r) ∧ Below w.heap.size w w' := by
 have hu25 := Try.underlying25
 have HR0_0 := aM hr0_0
 have HC0_0 := aM hc0_0
 clear hr0_0 hc0_0
 have HB := aM (Below.refl w.heap.size w)
 have H : ((r02_Make.f l0_0).bind fun t238 => ((r02_Same.f k l0_0 t238).bind fun t241 => (some t241))) = some r := h
 clear h
 replace H := Option.bind_eq_some_iff.mp H
 obtain ⟨t238, A20, H⟩ := H
 replace H : ((r02_Same.f k l0_0 t238).bind fun t241 => (some t241)) = some r := H
 have A2 := aM A20
 clear A20
 replace H := Option.bind_eq_some_iff.mp H
 obtain ⟨t241, A30, H⟩ := H
 replace H : (some t241) = some r := H
 have A3 := aM A30
 clear A30
 obtain rfl := Option.some.inj H
 go_enter Try.func38, Try.ntmps38
 try go_wp2_with (first | ((with_reducible refine gate_dst (N := 1) rfl ?_); refine box_event ?hg (N := 1) ?hd (cs := #[.slice A0_0 l0_0.length c0_0]) (t := 25) ?hr ?_; (case hd => rfl); (case hg => rfl); (case hr => first | (go_simp; done) | (go_simp; rfl)); intro gb237 hg w4 hbox hb; have n0_ := aM (bSp (by repeat (first | (with_reducible first | exact HB.out | apply bAl | apply pbN | apply bD1) | exact HB.out)) hb); have n1_ := aM (hbox); have n2_ := aM ((by rw [hg]; exact (bSz (by repeat (first | (with_reducible first | exact HB.out | apply bAl | apply pbN | apply bD1) | exact HB.out))) : w.heap.size ≤ gb237)); have n3_ := aM ((by rw [hg]; exact (bSz (by repeat (first | (with_reducible first | exact HB.out | apply bAl | apply pbN | apply bD1) | exact HB.out))) : w.heap.size ≤ gb237)); clear HB; have HB := n0_; have BK237 := n1_; have GW237 := n2_; have GE237 := n3_; clear n0_ n1_ n2_ n3_; clear hb hbox hg))
 have n0_ := aM (bkD BK237.out)
 have n1_ := aM (bD1 HB.out)
 clear BK237
 clear HB
 have BK237 := n0_
 have HB := n1_
 clear n0_ n1_
 refine start_ (n := 6) (S := fun w' => w'.cell? ⟨gb237, 0, none⟩ = some (.slice A0_0 l0_0.length c0_0)) (ds := []) #[false, false, false, false, false, false] (by kernel_rfl) rfl rfl ((bkC BK237.out 0).trans rfl) (fun hHeld => ?_)
 generalize w4.drew = w5 at BK237 HB hHeld ⊢
 refine pure_ (i := 1) (N := some 4) (v := ?_) (a' := ?_) #[false, true, false, false, false, false] rfl rfl (by kernel_rfl) (fun _ _ _ h => h) (Or.inl ⟨by rfl, ?_⟩) ?_ ?_
 rotate_left
 ·intro w'
  go_simp
  with_reducible rfl
 rotate_left
 ·simp only [Act.put, sI, sZ, sS, i64_w, i32_w]
  rfl
 refine take_ (i := 0) (N := some 3) (v := ?_) (a' := ?_) #[true, true, false, false, false, false] rfl rfl (by kernel_rfl) (fun _ _ _ h => h) (Or.inl ⟨by rfl, ?_⟩) hHeld ?_ ?_
 rotate_left
 ·intro w' s0
  go_simp
  with_reducible rfl
 rotate_left
 ·simp only [Act.put, sI, sZ, sS, i64_w, i32_w]
  rfl
 refine take_ (i := 2) (N := some 5) (v := ?_) (a' := ?_) #[true, true, true, false, false, false] rfl rfl (by kernel_rfl) (fun _ _ _ h => h) (Or.inl ⟨by rfl, ?_⟩) hHeld ?_ ?_
 rotate_left
 ·intro w' s0
  go_simp
  with_reducible rfl
 rotate_left
 ·simp only [Act.put, sI, sZ, sS, i64_w, i32_w]
  rfl
 refine one_ (i := 3) (N := some 6) #[true, true, true, true, false, false] rfl rfl (by kernel_rfl) (by decide) (fun K hK => ?_)
 refine goes_ Try.func60 (by kernel_rfl) rfl #[.slice A0_0 l0_0.length c0_0] (by rfl) rfl rfl (by (try simp only [List.map_toArray, List.map_cons, List.map_nil]); first | done | rfl | (simp only [List.length_drop, List.length_take]; rfl)) ?_
 with_reducible refine (r02_Make.calls _ _ l0_0 t238 _ ?side1 ?side2 A2.out).mono ?_
 (case side1 => repeat (first | exact (Kd.C_below HR0_0.out HB.out) | (with_reducible refine Kd.C_alloc ?_ _) | (with_reducible refine Kd.C_drewN ?_ _) | (with_reducible refine Kd.C_drew ?_)))
 (case side2 => exact HC0_0.out)
 rintro e w6 ⟨v239, rfl, ho0, hb⟩
 refine ⟨_, rfl, ?_⟩
 have n0_ := aM (Kd.R_lower ho0 (bSz (by repeat (first | (with_reducible first | exact HB.out | apply bAl | apply pbN | apply bD1 | refine bSt ?_ GE237.out) | exact HB.out))))
 have n1_ := aM (blk_below (g := gb237) (o := .cells #[.slice A0_0 l0_0.length c0_0] 25 (0, 0)) (by (with_reducible repeat (first | refine bkN ?_ _ | refine bkD ?_ | refine bkA ?_ _)); exact BK237.out) hb)
 have n2_ := aM (bSp (by repeat (first | (with_reducible first | exact HB.out | apply bAl | apply pbN | apply bD1 | refine bSt ?_ GE237.out) | exact HB.out)) hb)
 clear BK237
 clear HB
 have HO240 := n0_
 have BK237 := n1_
 have HB := n2_
 clear n0_ n1_ n2_
 (try clear hb)
 (try clear hb2)
 (try clear hk)
 (try clear hi)
 (try clear ho0)
 obtain ⟨Ao7, co7, eo7⟩ := Kd.R_slice HO240.out
 (first | subst eo7 | (injection eo7 with f1_ f2_ f3_; have f4_ := f1_.symm; have f5_ := f3_.symm; clear f1_ f2_ f3_; subst f4_; subst f5_))
 refine hK.out _ _ ((bkC BK237.out 0).trans rfl) (fun hHeld => ?_)
 clear hK K
 refine norm_ (a' := ?_) ?_ ?_
 rotate_left
 ·show Act.put _ (some 6) _ = _
  simp only [Act.put, sI, sZ, sS, i64_w, i32_w]
  rfl
 refine one_ (i := 4) (N := some 7) #[true, true, true, true, true, false] rfl rfl (by kernel_rfl) (by decide) (fun K hK => ?_)
 refine goes_ Try.func59 (by kernel_rfl) rfl #[.agg #[.slice A0_0 l0_0.length c0_0], .agg #[.slice Ao7 t238.length co7]] (by rfl) rfl rfl (by (try simp only [List.map_toArray, List.map_cons, List.map_nil]); first | done | rfl | (simp only [List.length_drop, List.length_take]; rfl)) ?_
 with_reducible refine (r02_Same.calls k _ _ l0_0 _ _ t238 t241 _ ?side1 ?side2 ?side3 ?side4 A3.out).mono ?_
 (case side1 => repeat (first | exact (Kd.C_below HR0_0.out HB.out) | (with_reducible refine Kd.C_alloc ?_ _) | (with_reducible refine Kd.C_drewN ?_ _) | (with_reducible refine Kd.C_drew ?_)))
 (case side2 => exact HC0_0.out)
 (case side3 => repeat (first | exact (Kd.R_reads' HO240.out).2.2 | (with_reducible refine Kd.C_alloc ?_ _) | (with_reducible refine Kd.C_drewN ?_ _) | (with_reducible refine Kd.C_drew ?_)))
 (case side4 => exact (Kd.R_reads' HO240.out).2.1)
 rintro e w8 ⟨rfl, hb⟩
 refine ⟨_, rfl, ?_⟩
 have n0_ := aM (Kd.R_below (by (with_reducible repeat (first | apply Kd.R_alloc | apply Kd.R_drewN | apply Kd.R_drew)); exact HO240.out) hb)
 have n1_ := aM (blk_below (g := gb237) (o := .cells #[.slice A0_0 l0_0.length c0_0] 25 (0, 0)) (by (with_reducible repeat (first | refine bkN ?_ _ | refine bkD ?_ | refine bkA ?_ _)); exact BK237.out) hb)
 have n2_ := aM (bSp (by repeat (first | (with_reducible first | exact HB.out | apply bAl | apply pbN | apply bD1 | refine bSt ?_ GE237.out) | exact HB.out)) hb)
 clear HO240
 clear BK237
 clear HB
 have HO240 := n0_
 have BK237 := n1_
 have HB := n2_
 clear n0_ n1_ n2_
 (try clear hb)
 (try clear hb2)
 (try clear hk)
 (try clear hi)
 refine hK.out _ _ ((bkC BK237.out 0).trans rfl) (fun hHeld => ?_)
 clear hK K
 refine norm_ (a' := ?_) ?_ ?_
 rotate_left
 ·show Act.put _ (some 7) _ = _
  simp only [Act.put, sI, sZ, sS, i64_w, i32_w]
  rfl
 refine pure_ (i := 5) (N := some 2) (v := ?_) (a' := ?_) #[true, true, true, true, true, true] rfl rfl (by kernel_rfl) (fun _ _ _ h => h) (Or.inl ⟨by rfl, ?_⟩) ?_ ?_
 rotate_left
 ·intro w'
  go_simp
  with_reducible rfl
 rotate_left
 ·simp only [Act.put, sI, sZ, sS, i64_w, i32_w]
  rfl
 refine done_ (by kernel_rfl) ?_
 try go_wp2
 go_ret
 exact ⟨by first | rfl | (simp [eN, eS] <;> rfl) | (simp [*, eN, eS] <;> rfl), by repeat (first | (with_reducible first | exact HB.out | apply bAl | apply pbN | apply bD1 | refine bSt ?_ GE237.out) | exact HB.out)⟩
end Go.Proofs.Ythnkmcfhpjmihaa.Q
end
