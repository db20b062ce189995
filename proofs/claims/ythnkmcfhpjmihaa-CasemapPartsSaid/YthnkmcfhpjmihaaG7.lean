/- Lemmas, printed and written for this claim: part 7. -/
import Derived.Test.YthnkmcfhpjmihaaG2
import Derived.Test.YthnkmcfhpjmihaaG4
import Derived.Test.YthnkmcfhpjmihaaG5
import Derived.Test.YthnkmcfhpjmihaaG6
section
namespace Go.Proofs.Ythnkmcfhpjmihaa.Q
open Go.RowKit Go.Proofs.YthnkmcfhpjmihaaW.PrintWords Go.Proofs.YthnkmcfhpjmihaaW.PrintLast Go.Proofs.YthnkmcfhpjmihaaW.PrintMore
attribute [local go_sem] max2_int min2_int max_two min_two max_three min_three max_four min_four
set_option linter.unusedVariables false
set_option linter.unusedSimpArgs false
abbrev cB2 := @Kd.C_below
abbrev cA2 := @Kd.C_alloc
abbrev cN2 := @Kd.C_drewN
abbrev cD2 := @Kd.C_drew
abbrev rA2 := @Kd.R_alloc
abbrev rN2 := @Kd.R_drewN
abbrev rD2 := @Kd.R_drew
theorem bk62 {w : World} {g : Nat} {t : TypeId} {a b c d e f : Value} (h : w.heap[g]? = some (.cells #[a, b, c, d, e, f] t (0, 0))) : w.cell? ⟨g, 0, none⟩ = some a ∧ w.cell? ⟨g, 1, none⟩ = some b ∧ w.cell? ⟨g, 2, none⟩ = some c ∧ w.cell? ⟨g, 3, none⟩ = some d ∧ w.cell? ⟨g, 4, none⟩ = some e ∧ w.cell? ⟨g, 5, none⟩ = some f := ⟨(bkC h 0).trans rfl, (bkC h 1).trans rfl, (bkC h 2).trans rfl, (bkC h 3).trans rfl, (bkC h 4).trans rfl, (bkC h 5).trans rfl⟩
mutual
def w37_CasemapParts.j0 : Nat → List Int → List (S33) → Bool → List (S43) → List (S43) → List (S43) → List (S43) → List (S33) → List (S33) → Option (Bool)
 | 0, _, _, _, _, _, _, _, _, _ => none
 | k + 1, x1, x2, x28, x138000, x138001, x138002, x138003, x138004, x138005 => if x28 = true then ((w37_alive.f).bind fun t140 => (some t140)) else (w37_CasemapParts.l0 k x1 x2 ([] : List Int) 0 0 x138000 x138001 x138002 x138003 x138004 x138005)
def w37_CasemapParts.l0 : Nat → List Int → List (S33) → List Int → Int → Int → List (S43) → List (S43) → List (S43) → List (S43) → List (S33) → List (S33) → Option (Bool)
 | 0, _, _, _, _, _, _, _, _, _, _, _ => none
 | k + 1, x1, x2, x7, x8, x9, x138000, x138001, x138002, x138003, x138004, x138005 => if x9 < (x2.length : Int) then (if 0 ≤ x9 then (if x9 ≤ (wrap64 (x9 + 1)) then (if (wrap64 (x9 + 1)) ≤ (x2.length : Int) then ((casemap_Title.f x138000 x138001 x138002 x138003 x138004 x138005 x1 ((x2.take ((wrap64 (x9 + 1)) : Int).toNat).drop (x9 : Int).toNat)).bind fun t156 => (if (t156.length : Int) < (wrap64 (((rd_T33 x2 x9).f0) + (wrap64 ((x1.length : Int) - ((rd_T33 x2 x9).f1))))) then (some false) else (if 0 ≤ ((rd_T33 x2 x9).f0) then (if ((rd_T33 x2 x9).f0) ≤ (t156.length : Int) then (if ((rd_T33 x2 x9).f0) ≤ (x1.length : Int) then ((r01_Equal.f k (t156.take (((rd_T33 x2 x9).f0) : Int).toNat) (x1.take (((rd_T33 x2 x9).f0) : Int).toNat)).bind fun t164 => (if t164 = true then (if 0 ≤ (wrap64 ((t156.length : Int) - (wrap64 ((x1.length : Int) - ((rd_T33 x2 x9).f1))))) then (if (wrap64 ((t156.length : Int) - (wrap64 ((x1.length : Int) - ((rd_T33 x2 x9).f1))))) ≤ (t156.length : Int) then (if 0 ≤ ((rd_T33 x2 x9).f1) then (if ((rd_T33 x2 x9).f1) ≤ (x1.length : Int) then ((r01_Equal.f k (t156.drop ((wrap64 ((t156.length : Int) - (wrap64 ((x1.length : Int) - ((rd_T33 x2 x9).f1))))) : Int).toNat) (x1.drop (((rd_T33 x2 x9).f1) : Int).toNat)).bind fun t170 => (if t170 = true then (if 0 ≤ x8 then (if x8 ≤ ((rd_T33 x2 x9).f0) then (if x7.length + ((x1.take (((rd_T33 x2 x9).f0) : Int).toNat).drop (x8 : Int).toNat).length < 17592186044416 then ((some (x7 ++ ((x1.take (((rd_T33 x2 x9).f0) : Int).toNat).drop (x8 : Int).toNat) : List Int)).bind fun y172 => (if ((rd_T33 x2 x9).f0) ≤ (wrap64 ((t156.length : Int) - (wrap64 ((x1.length : Int) - ((rd_T33 x2 x9).f1))))) then ((some ((t156.take ((wrap64 ((t156.length : Int) - (wrap64 ((x1.length : Int) - ((rd_T33 x2 x9).f1))))) : Int).toNat).drop (((rd_T33 x2 x9).f0) : Int).toNat : List Int)).bind fun y175 => (if y172.length + y175.length < 17592186044416 then (w37_CasemapParts.l0 k x1 x2 (y172 ++ y175) ((rd_T33 x2 x9).f1) (wrap64 (x9 + 1)) x138000 x138001 x138002 x138003 x138004 x138005) else (none))) else (none))) else (none)) else (none)) else (none)) else (some false))) else (none)) else (none)) else (none)) else (none)) else (some false))) else (none)) else (none)) else (none)))) else (none)) else (none)) else (none)) else (if 0 ≤ x8 then (if x8 ≤ (x1.length : Int) then (if x7.length + (x1.drop (x8 : Int).toNat).length < 17592186044416 then ((casemap_Title.f x138000 x138001 x138002 x138003 x138004 x138005 x1 x2).bind fun t145 => ((r01_Equal.f k t145 (x7 ++ (x1.drop (x8 : Int).toNat))).bind fun t148 => (if t148 = true then ((w37_alive.f).bind fun t149 => (some t149)) else (some false)))) else (none)) else (none)) else (none))
end
def w37_CasemapParts.f (k : Nat) (q0 : List (S43)) (q1 : List (S43)) (q2 : List (S43)) (q3 : List (S43)) (q4 : List (S33)) (q5 : List (S33)) (l1 : List Int) (l2 : List (S33)) : Option (Bool) := (w37_few.f k q0 q1 q2 q3 q4 q5 l1).bind fun t138 => (if t138 = true then (if (l2.length : Int) > 40 then (w37_CasemapParts.j0 k l1 l2 true q0 q1 q2 q3 q4 q5) else ((r37_Within.f k l2 (l1.length : Int)).bind fun t139 => (w37_CasemapParts.j0 k l1 l2 (!t139) q0 q1 q2 q3 q4 q5))) else (w37_CasemapParts.j0 k l1 l2 true q0 q1 q2 q3 q4 q5))
def w37_CasemapParts.T9 : Bool × List (List Nat × List Nat) := (true, [([], []), ([], []), ([], []), ([], []), ([], []), ([4], [4]), ([2, 3, 5], [2, 3, 5]), ([0, 1, 6], [0, 1, 6]), ([7, 7, 0, 1, 2, 3, 4, 5, 6, 7], [7])])
def w37_CasemapParts.B9 : List Nat := [0, 0, 0, 0, 0, 16, 60, 127, 255]
theorem w37_CasemapParts.tab9 : rtab .any (opsOf Try.f3 9) = w37_CasemapParts.T9 := by kernel_rfl
theorem w37_CasemapParts.bits9 : waitsOk w37_CasemapParts.T9.2 w37_CasemapParts.B9 = true := by kernel_rfl
def w37_CasemapParts.T11 : Bool × List (List Nat × List Nat) := (true, [([], []), ([0], [0]), ([], []), ([2], [2]), ([], []), ([3, 4], [3, 4]), ([1, 5], [1, 5]), ([6], [6]), ([7], [7]), ([7], [7]), ([9, 7], [7, 9]), ([8, 10, 7], [7, 8, 10]), ([7], [7]), ([7], [7]), ([13, 7], [7, 13]), ([12, 14, 7], [7, 12, 14]), ([11, 15, 7, 7], [7, 11, 15]), ([16, 7], [7, 16]), ([7, 17], [7, 17]), ([18, 16], [18]), ([19], [19]), ([19], [19]), ([21, 19], [19, 21]), ([19], [19]), ([22, 23, 19], [19, 22, 23]), ([20, 24, 19], [19, 20, 24]), ([19], [19]), ([19], [19]), ([27, 19], [19, 27]), ([26, 28, 19], [19, 26, 28]), ([25, 29, 19, 19], [19, 25, 29]), ([30, 19], [19, 30]), ([19, 31], [19, 31])])
def w37_CasemapParts.B11 : List Nat := [0, 1, 0, 4, 0, 28, 63, 127, 255, 255, 767, 2047, 255, 255, 8447, 28927, 65535, 131071, 262143, 524287, 1048575, 1048575, 3145727, 1048575, 15728639, 33554431, 1048575, 1048575, 135266303, 470810623, 1073741823, 2147483647, 4294967295]
theorem w37_CasemapParts.tab11 : rtab .any (opsOf Try.f3 11) = w37_CasemapParts.T11 := by kernel_rfl
theorem w37_CasemapParts.bits11 : waitsOk w37_CasemapParts.T11.2 w37_CasemapParts.B11 = true := by kernel_rfl
set_option maxHeartbeats 8000000 in
set_option maxRecDepth 100000 in
theorem w37_CasemapParts.calls (k : Nat) (P0 : Option Addr) (n0 : Nat) (q0 : List (S43)) (P1 : Option Addr) (n1 : Nat) (q1 : List (S43)) (P2 : Option Addr) (n2 : Nat) (q2 : List (S43)) (P3 : Option Addr) (n3 : Nat) (q3 : List (S43)) (P4 : Option Addr) (n4 : Nat) (q4 : List (S33)) (P5 : Option Addr) (n5 : Nat) (q5 : List (S33)) (A1 : Option Addr) (c1 : Nat) (l1 : List Int) (A2 : Option Addr) (c2 : Nat) (l2 : List (S33)) (r : Bool) (w : World) (hr0_0 : Kd.C k43 w P0 q0.length q0) (hc0_0 : q0.length ≤ n0) (hr0_1 : Kd.C k43 w P1 q1.length q1) (hc0_1 : q1.length ≤ n1) (hr0_2 : Kd.C k43 w P2 q2.length q2) (hc0_2 : q2.length ≤ n2) (hr0_3 : Kd.C k43 w P3 q3.length q3) (hc0_3 : q3.length ≤ n3) (hr0_4 : Kd.C k33 w P4 q4.length q4) (hc0_4 : q4.length ≤ n4) (hr0_5 : Kd.C k33 w P5 q5.length q5) (hc0_5 : q5.length ≤ n5) (hr1 : Kd.C (Kd.int .i64) w A1 l1.length l1) (hc1 : l1.length ≤ c1) (hr2 : Kd.C k33 w A2 l2.length l2) (hc2 : l2.length ≤ c2) (h : w37_CasemapParts.f k q0 q1 q2 q3 q4 q5 l1 l2 = some r) :
  Calls Try.prog 3 #[.agg #[.slice P0 q0.length n0, .slice P1 q1.length n1, .slice P2 q2.length n2, .slice P3 q3.length n3, .slice P4 q4.length n4, .slice P5 q5.length n5], .slice A1 l1.length c1, .slice A2 l2.length c2] w fun e w' => e = .returned (.bool r) ∧ Below w.heap.size w w' := by
 have hu27 := Try.underlying27
 have hu33 := Try.underlying33
 have R0 := aM hr0_0
 have N0 := aM hc0_0
 clear hr0_0 hc0_0
 have R1 := aM hr0_1
 have N1 := aM hc0_1
 clear hr0_1 hc0_1
 have R2 := aM hr0_2
 have N2 := aM hc0_2
 clear hr0_2 hc0_2
 have R3 := aM hr0_3
 have N3 := aM hc0_3
 clear hr0_3 hc0_3
 have R4 := aM hr0_4
 have N4 := aM hc0_4
 clear hr0_4 hc0_4
 have R5 := aM hr0_5
 have N5 := aM hc0_5
 clear hr0_5 hc0_5
 have HR1 := aM hr1
 have HC1 := aM hc1
 clear hr1 hc1
 have HR2 := aM hr2
 have HC2 := aM hc2
 clear hr2 hc2
 have HB := aM (Below.refl w.heap.size w)
 have H : ((w37_few.f k q0 q1 q2 q3 q4 q5 l1).bind fun t138 => (if t138 = true then (if (l2.length : Int) > 40 then (w37_CasemapParts.j0 k l1 l2 true q0 q1 q2 q3 q4 q5) else ((r37_Within.f k l2 (l1.length : Int)).bind fun t139 => (w37_CasemapParts.j0 k l1 l2 (!t139) q0 q1 q2 q3 q4 q5))) else (w37_CasemapParts.j0 k l1 l2 true q0 q1 q2 q3 q4 q5))) = some r := h
 clear h
 have HC4 := aM H
 clear H
 go_enter Try.func3, Try.ntmps3
 go_upto_region 1 with (first | ((with_reducible refine gate_dst (N := 3) rfl ?_); (try (refine gate_guard (by rfl) ?_; dsimp only)); refine box_event ?hg (N := 3) ?hd (cs := #[.slice P0 q0.length n0, .slice P1 q1.length n1, .slice P2 q2.length n2, .slice P3 q3.length n3, .slice P4 q4.length n4, .slice P5 q5.length n5]) (t := 27) ?hr ?_; (case hd => rfl); (case hg => rfl); (case hr => first | (go_simp; done) | (go_simp; rfl)); intro gb137 hg w5 hbox hb; have n0_ := aM (bSp (by repeat (first | (with_reducible first | exact HB.1 | apply bAl | apply pbN | apply bD1) | exact HB.1)) hb); have n1_ := aM (hbox); have n2_ := aM ((by rw [hg]; exact (bSz (by repeat (first | (with_reducible first | exact HB.1 | apply bAl | apply pbN | apply bD1) | exact HB.1))) : w.heap.size ≤ gb137)); have n3_ := aM ((by rw [hg]; exact (bSz (by repeat (first | (with_reducible first | exact HB.1 | apply bAl | apply pbN | apply bD1) | exact HB.1))) : w.heap.size ≤ gb137)); clear HB; have HB := n0_; have BK137 := n1_; have GW137 := n2_; have GE137 := n3_; clear n0_ n1_ n2_ n3_; clear hb hbox hg))
 (try simp only [Act.put, sI, sZ, sS])
 go_cut [28] (fun v28 wc => ∃ (kq : Nat) (x28_3 : Bool), v28 = .bool x28_3 ∧ Aside0 (w37_CasemapParts.j0 kq l1 l2 x28_3 q0 q1 q2 q3 q4 q5 = some r) ∧ Aside0 (kq ≤ k) ∧ Aside0 (wc.heap[gb137]? = some (.cells #[(.slice P0 q0.length n0), (.slice P1 q1.length n1), (.slice P2 q2.length n2), (.slice P3 q3.length n3), (.slice P4 q4.length n4), (.slice P5 q5.length n5)] 27 (0, 0))) ∧ Aside0 (Below w.heap.size w wc))
 case first =>
  have H := HC4.1
  clear HC4
  replace H := Option.bind_eq_some_iff.mp H
  obtain ⟨t138, A60, H⟩ := H
  replace H : (if t138 = true then (if (l2.length : Int) > 40 then (w37_CasemapParts.j0 k l1 l2 true q0 q1 q2 q3 q4 q5) else ((r37_Within.f k l2 (l1.length : Int)).bind fun t139 => (w37_CasemapParts.j0 k l1 l2 (!t139) q0 q1 q2 q3 q4 q5))) else (w37_CasemapParts.j0 k l1 l2 true q0 q1 q2 q3 q4 q5)) = some r := H
  have A6 := aM A60
  clear A60
  by_cases c7 : t138 = true
  ·subst c7
   have H1 : (if (l2.length : Int) > 40 then (w37_CasemapParts.j0 k l1 l2 true q0 q1 q2 q3 q4 q5) else ((r37_Within.f k l2 (l1.length : Int)).bind fun t139 => (w37_CasemapParts.j0 k l1 l2 (!t139) q0 q1 q2 q3 q4 q5))) = some r := by rw [if_pos rfl] at H; exact H
   clear H
   have H := H1
   clear H1
   by_cases c8 : (l2.length : Int) > 40
   ·rw [if_pos c8] at H
    have c8b0 : decide (40 < (l2.length : Int)) = true := dT c8
    have c8b1 : decide (40 < l2.length) = true := dT (by omega)
    clear c8
    (first | rw [c8b0] | (simp only [i64_w, i32_w]; rw [c8b0]) | skip)
    have H' := aM H
    clear H
    have hcz9_0 : w5.cell? ⟨gb137, 0, none⟩ = some (.slice P0 q0.length n0) := (bkC BK137.1 0).trans rfl
    have hcz9_1 : w5.cell? ⟨gb137, 1, none⟩ = some (.slice P1 q1.length n1) := (bkC BK137.1 1).trans rfl
    have hcz9_2 : w5.cell? ⟨gb137, 2, none⟩ = some (.slice P2 q2.length n2) := (bkC BK137.1 2).trans rfl
    have hcz9_3 : w5.cell? ⟨gb137, 3, none⟩ = some (.slice P3 q3.length n3) := (bkC BK137.1 3).trans rfl
    have hcz9_4 : w5.cell? ⟨gb137, 4, none⟩ = some (.slice P4 q4.length n4) := (bkC BK137.1 4).trans rfl
    have hcz9_5 : w5.cell? ⟨gb137, 5, none⟩ = some (.slice P5 q5.length n5) := (bkC BK137.1 5).trans rfl
    have hfz9_0 := bkF BK137.1 0
    have hfz9_1 := bkF BK137.1 1
    have hfz9_2 := bkF BK137.1 2
    have hfz9_3 := bkF BK137.1 3
    have hfz9_4 := bkF BK137.1 4
    have hfz9_5 := bkF BK137.1 5
    go_wp2_with (first | ((with_reducible refine gate_callee (f := 12) rfl ?_); refine goesL_ (some 15) rfl rfl Try.func12 (by kernel_rfl) rfl #[.agg #[.slice P0 q0.length n0, .slice P1 q1.length n1, .slice P2 q2.length n2, .slice P3 q3.length n3, .slice P4 q4.length n4, .slice P5 q5.length n5], .slice A1 l1.length c1] rfl (by (try simp only [List.map_toArray, List.map_cons, List.map_nil]); first | done | rfl | (simp only [List.length_drop, List.length_take]; rfl)) ?_; (with_reducible refine (w37_few.calls k _ _ q0 _ _ q1 _ _ q2 _ _ q3 _ _ q4 _ _ q5 _ _ l1 true _ ?z1 ?z2 ?z3 ?z4 ?z5 ?z6 ?z7 ?z8 ?z9 ?z10 ?z11 ?z12 ?z13 ?z14 A6.1).mono ?_); (case z1 => repeat (first | exact cB2 R0.1 HB.1 | with_reducible first | refine cA2 ?_ _ | refine cN2 ?_ _ | refine cD2 ?_)); (case z2 => exact N0.1); (case z3 => repeat (first | exact cB2 R1.1 HB.1 | with_reducible first | refine cA2 ?_ _ | refine cN2 ?_ _ | refine cD2 ?_)); (case z4 => exact N1.1); (case z5 => repeat (first | exact cB2 R2.1 HB.1 | with_reducible first | refine cA2 ?_ _ | refine cN2 ?_ _ | refine cD2 ?_)); (case z6 => exact N2.1); (case z7 => repeat (first | exact cB2 R3.1 HB.1 | with_reducible first | refine cA2 ?_ _ | refine cN2 ?_ _ | refine cD2 ?_)); (case z8 => exact N3.1); (case z9 => repeat (first | exact cB2 R4.1 HB.1 | with_reducible first | refine cA2 ?_ _ | refine cN2 ?_ _ | refine cD2 ?_)); (case z10 => exact N4.1); (case z11 => repeat (first | exact cB2 R5.1 HB.1 | with_reducible first | refine cA2 ?_ _ | refine cN2 ?_ _ | refine cD2 ?_)); (case z12 => exact N5.1); (case z13 => repeat (first | exact cB2 HR1.1 HB.1 | with_reducible first | refine cA2 ?_ _ | refine cN2 ?_ _ | refine cD2 ?_)); (case z14 => exact HC1.1); rintro e w10 ⟨rfl, hb⟩; refine ⟨_, rfl, ?_⟩; have n0_ := aM (blk_below (g := gb137) (o := .cells #[.slice P0 q0.length n0, .slice P1 q1.length n1, .slice P2 q2.length n2, .slice P3 q3.length n3, .slice P4 q4.length n4, .slice P5 q5.length n5] 27 (0, 0)) (by (with_reducible repeat (first | refine bkN ?_ _ | refine bkD ?_ | refine bkA ?_ _)); exact BK137.1) hb); have n1_ := aM (bSp (by repeat (first | (with_reducible first | exact HB.1 | apply bAl | apply pbN | apply bD1 | refine bSt ?_ GE137.1) | exact HB.1)) hb); clear BK137; clear HB; have BK137 := n0_; have HB := n1_; clear n0_ n1_; (try clear hb); (try clear hb2); (try clear hk); (try clear hi)))
    go_meet
    case rel => exact ⟨_, (true), (by first | rfl | (simp; done) | (simp [*]; done)), H', ⟨by first | omega | exact Nat.le_refl _⟩, ⟨by (with_reducible repeat (first | refine bkN ?_ _ | refine bkD ?_ | refine bkA ?_ _)); exact BK137.1⟩, ⟨by repeat (first | (with_reducible first | exact HB.1 | apply bAl | apply pbN | apply bD1 | refine bSt ?_ GE137.1) | exact HB.1)⟩⟩
   ·rw [if_neg c8] at H
    have c8b0 : decide (40 < (l2.length : Int)) = false := decide_eq_false c8
    have c8b1 : decide (40 < l2.length) = false := decide_eq_false (by omega)
    clear c8
    (first | rw [c8b0] | (simp only [i64_w, i32_w]; rw [c8b0]) | skip)
    replace H := Option.bind_eq_some_iff.mp H
    obtain ⟨t139, A110, H⟩ := H
    replace H : (w37_CasemapParts.j0 k l1 l2 (!t139) q0 q1 q2 q3 q4 q5) = some r := H
    have A11 := aM A110
    clear A110
    have H' := aM H
    clear H
    have hcz12_0 : w5.cell? ⟨gb137, 0, none⟩ = some (.slice P0 q0.length n0) := (bkC BK137.1 0).trans rfl
    have hcz12_1 : w5.cell? ⟨gb137, 1, none⟩ = some (.slice P1 q1.length n1) := (bkC BK137.1 1).trans rfl
    have hcz12_2 : w5.cell? ⟨gb137, 2, none⟩ = some (.slice P2 q2.length n2) := (bkC BK137.1 2).trans rfl
    have hcz12_3 : w5.cell? ⟨gb137, 3, none⟩ = some (.slice P3 q3.length n3) := (bkC BK137.1 3).trans rfl
    have hcz12_4 : w5.cell? ⟨gb137, 4, none⟩ = some (.slice P4 q4.length n4) := (bkC BK137.1 4).trans rfl
    have hcz12_5 : w5.cell? ⟨gb137, 5, none⟩ = some (.slice P5 q5.length n5) := (bkC BK137.1 5).trans rfl
    have hfz12_0 := bkF BK137.1 0
    have hfz12_1 := bkF BK137.1 1
    have hfz12_2 := bkF BK137.1 2
    have hfz12_3 := bkF BK137.1 3
    have hfz12_4 := bkF BK137.1 4
    have hfz12_5 := bkF BK137.1 5
    go_wp2_with (first | ((with_reducible refine gate_callee (f := 12) rfl ?_); refine goesL_ (some 15) rfl rfl Try.func12 (by kernel_rfl) rfl #[.agg #[.slice P0 q0.length n0, .slice P1 q1.length n1, .slice P2 q2.length n2, .slice P3 q3.length n3, .slice P4 q4.length n4, .slice P5 q5.length n5], .slice A1 l1.length c1] rfl (by (try simp only [List.map_toArray, List.map_cons, List.map_nil]); first | done | rfl | (simp only [List.length_drop, List.length_take]; rfl)) ?_; (with_reducible refine (w37_few.calls k _ _ q0 _ _ q1 _ _ q2 _ _ q3 _ _ q4 _ _ q5 _ _ l1 true _ ?z1 ?z2 ?z3 ?z4 ?z5 ?z6 ?z7 ?z8 ?z9 ?z10 ?z11 ?z12 ?z13 ?z14 A6.1).mono ?_); (case z1 => repeat (first | exact cB2 R0.1 HB.1 | with_reducible first | refine cA2 ?_ _ | refine cN2 ?_ _ | refine cD2 ?_)); (case z2 => exact N0.1); (case z3 => repeat (first | exact cB2 R1.1 HB.1 | with_reducible first | refine cA2 ?_ _ | refine cN2 ?_ _ | refine cD2 ?_)); (case z4 => exact N1.1); (case z5 => repeat (first | exact cB2 R2.1 HB.1 | with_reducible first | refine cA2 ?_ _ | refine cN2 ?_ _ | refine cD2 ?_)); (case z6 => exact N2.1); (case z7 => repeat (first | exact cB2 R3.1 HB.1 | with_reducible first | refine cA2 ?_ _ | refine cN2 ?_ _ | refine cD2 ?_)); (case z8 => exact N3.1); (case z9 => repeat (first | exact cB2 R4.1 HB.1 | with_reducible first | refine cA2 ?_ _ | refine cN2 ?_ _ | refine cD2 ?_)); (case z10 => exact N4.1); (case z11 => repeat (first | exact cB2 R5.1 HB.1 | with_reducible first | refine cA2 ?_ _ | refine cN2 ?_ _ | refine cD2 ?_)); (case z12 => exact N5.1); (case z13 => repeat (first | exact cB2 HR1.1 HB.1 | with_reducible first | refine cA2 ?_ _ | refine cN2 ?_ _ | refine cD2 ?_)); (case z14 => exact HC1.1); rintro e w13 ⟨rfl, hb⟩; refine ⟨_, rfl, ?_⟩; have n0_ := aM (blk_below (g := gb137) (o := .cells #[.slice P0 q0.length n0, .slice P1 q1.length n1, .slice P2 q2.length n2, .slice P3 q3.length n3, .slice P4 q4.length n4, .slice P5 q5.length n5] 27 (0, 0)) (by (with_reducible repeat (first | refine bkN ?_ _ | refine bkD ?_ | refine bkA ?_ _)); exact BK137.1) hb); have n1_ := aM (bSp (by repeat (first | (with_reducible first | exact HB.1 | apply bAl | apply pbN | apply bD1 | refine bSt ?_ GE137.1) | exact HB.1)) hb); clear BK137; clear HB; have BK137 := n0_; have HB := n1_; clear n0_ n1_; (try clear hb); (try clear hb2); (try clear hk); (try clear hi)) | (go_at_call 13; (with_reducible refine (r37_Within.calls k _ _ l2 (l1.length : Int) t139 _ ?z1 ?z2 A11.1).mono ?_); (case z1 => repeat (first | exact cB2 HR2.1 HB.1 | with_reducible first | refine cA2 ?_ _ | refine cN2 ?_ _ | refine cD2 ?_)); (case z2 => exact HC2.1); rintro e w' ⟨rfl, ⟨nd, rfl⟩⟩))
    go_meet
    case rel => exact ⟨_, (!t139), (by first | rfl | (simp; done) | (simp [*]; done)), H', ⟨by first | omega | exact Nat.le_refl _⟩, ⟨by (with_reducible repeat (first | refine bkN ?_ _ | refine bkD ?_ | refine bkA ?_ _)); exact BK137.1⟩, ⟨by repeat (first | (with_reducible first | exact HB.1 | apply bAl | apply pbN | apply bD1 | refine bSt ?_ GE137.1) | exact HB.1)⟩⟩
  ·replace c7 := Bool.eq_false_iff.mpr c7
   subst c7
   have H1 : (w37_CasemapParts.j0 k l1 l2 true q0 q1 q2 q3 q4 q5) = some r := by rw [if_neg (show ¬ (false = true) by decide)] at H; exact H
   clear H
   have H := H1
   clear H1
   have H' := aM H
   clear H
   have hcz14_0 : w5.cell? ⟨gb137, 0, none⟩ = some (.slice P0 q0.length n0) := (bkC BK137.1 0).trans rfl
   have hcz14_1 : w5.cell? ⟨gb137, 1, none⟩ = some (.slice P1 q1.length n1) := (bkC BK137.1 1).trans rfl
   have hcz14_2 : w5.cell? ⟨gb137, 2, none⟩ = some (.slice P2 q2.length n2) := (bkC BK137.1 2).trans rfl
   have hcz14_3 : w5.cell? ⟨gb137, 3, none⟩ = some (.slice P3 q3.length n3) := (bkC BK137.1 3).trans rfl
   have hcz14_4 : w5.cell? ⟨gb137, 4, none⟩ = some (.slice P4 q4.length n4) := (bkC BK137.1 4).trans rfl
   have hcz14_5 : w5.cell? ⟨gb137, 5, none⟩ = some (.slice P5 q5.length n5) := (bkC BK137.1 5).trans rfl
   have hfz14_0 := bkF BK137.1 0
   have hfz14_1 := bkF BK137.1 1
   have hfz14_2 := bkF BK137.1 2
   have hfz14_3 := bkF BK137.1 3
   have hfz14_4 := bkF BK137.1 4
   have hfz14_5 := bkF BK137.1 5
   go_wp2_with (first | ((with_reducible refine gate_callee (f := 12) rfl ?_); refine goesL_ (some 15) rfl rfl Try.func12 (by kernel_rfl) rfl #[.agg #[.slice P0 q0.length n0, .slice P1 q1.length n1, .slice P2 q2.length n2, .slice P3 q3.length n3, .slice P4 q4.length n4, .slice P5 q5.length n5], .slice A1 l1.length c1] rfl (by (try simp only [List.map_toArray, List.map_cons, List.map_nil]); first | done | rfl | (simp only [List.length_drop, List.length_take]; rfl)) ?_; (with_reducible refine (w37_few.calls k _ _ q0 _ _ q1 _ _ q2 _ _ q3 _ _ q4 _ _ q5 _ _ l1 false _ ?z1 ?z2 ?z3 ?z4 ?z5 ?z6 ?z7 ?z8 ?z9 ?z10 ?z11 ?z12 ?z13 ?z14 A6.1).mono ?_); (case z1 => repeat (first | exact cB2 R0.1 HB.1 | with_reducible first | refine cA2 ?_ _ | refine cN2 ?_ _ | refine cD2 ?_)); (case z2 => exact N0.1); (case z3 => repeat (first | exact cB2 R1.1 HB.1 | with_reducible first | refine cA2 ?_ _ | refine cN2 ?_ _ | refine cD2 ?_)); (case z4 => exact N1.1); (case z5 => repeat (first | exact cB2 R2.1 HB.1 | with_reducible first | refine cA2 ?_ _ | refine cN2 ?_ _ | refine cD2 ?_)); (case z6 => exact N2.1); (case z7 => repeat (first | exact cB2 R3.1 HB.1 | with_reducible first | refine cA2 ?_ _ | refine cN2 ?_ _ | refine cD2 ?_)); (case z8 => exact N3.1); (case z9 => repeat (first | exact cB2 R4.1 HB.1 | with_reducible first | refine cA2 ?_ _ | refine cN2 ?_ _ | refine cD2 ?_)); (case z10 => exact N4.1); (case z11 => repeat (first | exact cB2 R5.1 HB.1 | with_reducible first | refine cA2 ?_ _ | refine cN2 ?_ _ | refine cD2 ?_)); (case z12 => exact N5.1); (case z13 => repeat (first | exact cB2 HR1.1 HB.1 | with_reducible first | refine cA2 ?_ _ | refine cN2 ?_ _ | refine cD2 ?_)); (case z14 => exact HC1.1); rintro e w15 ⟨rfl, hb⟩; refine ⟨_, rfl, ?_⟩; have n0_ := aM (blk_below (g := gb137) (o := .cells #[.slice P0 q0.length n0, .slice P1 q1.length n1, .slice P2 q2.length n2, .slice P3 q3.length n3, .slice P4 q4.length n4, .slice P5 q5.length n5] 27 (0, 0)) (by (with_reducible repeat (first | refine bkN ?_ _ | refine bkD ?_ | refine bkA ?_ _)); exact BK137.1) hb); have n1_ := aM (bSp (by repeat (first | (with_reducible first | exact HB.1 | apply bAl | apply pbN | apply bD1 | refine bSt ?_ GE137.1) | exact HB.1)) hb); clear BK137; clear HB; have BK137 := n0_; have HB := n1_; clear n0_ n1_; (try clear hb); (try clear hb2); (try clear hk); (try clear hi)))
   go_meet
   case rel => exact ⟨_, (true), (by first | rfl | (simp; done) | (simp [*]; done)), H', ⟨by first | omega | exact Nat.le_refl _⟩, ⟨by (with_reducible repeat (first | refine bkN ?_ _ | refine bkD ?_ | refine bkA ?_ _)); exact BK137.1⟩, ⟨by repeat (first | (with_reducible first | exact HB.1 | apply bAl | apply pbN | apply bD1 | refine bSt ?_ GE137.1) | exact HB.1)⟩⟩
 case rest =>
  clear HC4
  (try clear c1); (try clear c2); (try clear p2); (try clear c3); (try clear c7); (try clear c8); (try clear c8b0); (try clear c8b1); (try clear c12); (try clear hcz12_0); (try clear hcz12_1); (try clear hcz12_2); (try clear hcz12_3); (try clear hcz12_4); (try clear hcz12_5); (try clear hcz14_0); (try clear hcz14_1); (try clear hcz14_2); (try clear hcz14_3); (try clear hcz14_4); (try clear hcz14_5); (try clear hcz9_0); (try clear hcz9_1); (try clear hcz9_2); (try clear hcz9_3); (try clear hcz9_4); (try clear hcz9_5); (try clear hfz12_0); (try clear hfz12_1); (try clear hfz12_2); (try clear hfz12_3); (try clear hfz12_4); (try clear hfz12_5); (try clear hfz14_0); (try clear hfz14_1); (try clear hfz14_2); (try clear hfz14_3); (try clear hfz14_4); (try clear hfz14_5); (try clear hfz9_0); (try clear hfz9_1); (try clear hfz9_2); (try clear hfz9_3); (try clear hfz9_4); (try clear hfz9_5)
  obtain ⟨kq, x28_3, rfl, HA, HJ3, BK137, HB⟩ := hcut
  cases kq with
  | zero => exact absurd HA.1 (by simp [w37_CasemapParts.j0])
  | succ kj3 =>
   have H := HA.1
   clear HA
   simp only [w37_CasemapParts.j0] at H
   by_cases c16 : x28_3 = true
   ·subst c16
    have H1 : ((w37_alive.f).bind fun t140 => (some t140)) = some r := by rw [if_pos rfl] at H; exact H
    clear H
    have H := H1
    clear H1
    replace H := Option.bind_eq_some_iff.mp H
    obtain ⟨t140, A170, H⟩ := H
    replace H : (some t140) = some r := H
    have A17 := aM A170
    clear A170
    obtain rfl := Option.some.inj H
    go_wp2_with (first | ((with_reducible refine gate_callee (f := 14) rfl ?_); refine goesL_ (some 29) rfl rfl Try.func14 (by kernel_rfl) rfl #[] rfl (by (try simp only [List.map_toArray, List.map_cons, List.map_nil]); first | done | rfl | (simp only [List.length_drop, List.length_take]; rfl)) ?_; (with_reducible refine (w37_alive.calls  t140 _ A17.1).mono ?_); rintro e w18 ⟨rfl, hb⟩; refine ⟨_, rfl, ?_⟩; have n0_ := aM (blk_below (g := gb137) (o := .cells #[.slice P0 q0.length n0, .slice P1 q1.length n1, .slice P2 q2.length n2, .slice P3 q3.length n3, .slice P4 q4.length n4, .slice P5 q5.length n5] 27 (0, 0)) (by (with_reducible repeat (first | refine bkN ?_ _ | refine bkD ?_ | refine bkA ?_ _)); exact BK137.1) hb); have n1_ := aM (bSp (by repeat (first | (with_reducible first | exact HB.1 | apply bAl | apply pbN | apply bD1 | refine bSt ?_ GE137.1) | exact HB.1)) hb); clear BK137; clear HB; have BK137 := n0_; have HB := n1_; clear n0_ n1_; (try clear hb); (try clear hb2); (try clear hk); (try clear hi)))
    go_ret
    exact ⟨by first | rfl | (simp [eN, eS] <;> rfl) | (simp [*, eN, eS] <;> rfl), by repeat (first | (with_reducible first | exact HB.1 | apply bAl | apply pbN | apply bD1 | refine bSt ?_ GE137.1) | exact HB.1)⟩
   ·replace c16 := Bool.eq_false_iff.mpr c16
    subst c16
    have H1 : (w37_CasemapParts.l0 kj3 l1 l2 ([] : List Int) 0 0 q0 q1 q2 q3 q4 q5) = some r := by rw [if_neg (show ¬ (false = true) by decide)] at H; exact H
    clear H
    have H := H1
    clear H1
    have H' := aM H
    clear H
    go_wp2
    go_loopg [7, 8, 9] kj3 (fun kq v7 v8 v9 w' => ∃ (x7_2 : List Int) (x8_2 : Int) (x9_2 : Int), v8 = .int .i64 x8_2 ∧ v9 = .int .i64 x9_2 ∧ Aside0 (w37_CasemapParts.l0 kq l1 l2 x7_2 x8_2 x9_2 q0 q1 q2 q3 q4 q5 = some r) ∧ Aside0 (kq ≤ kj3) ∧ Aside0 (Kd.R (Kd.int .i64) 3 w' w.heap.size (fun _ => True) v7 x7_2) ∧ Aside0 (w'.heap[gb137]? = some (.cells #[(.slice P0 q0.length n0), (.slice P1 q1.length n1), (.slice P2 q2.length n2), (.slice P3 q3.length n3), (.slice P4 q4.length n4), (.slice P5 q5.length n5)] 27 (0, 0))) ∧ Aside0 (Below w.heap.size w w'))
    case atStart => exact ⟨(([] : List Int)), (0), (0), (by first | rfl | (simp; done) | (simp [*]; done)), (by first | rfl | (simp; done) | (simp [*]; done)), H', ⟨Nat.le_refl _⟩, ⟨by first | exact Kd.R_nil _ _ _ _ _ | exact Kd.N_nil _ _ _ _ _ | exact Kd.V_nil _ _ _ _ _ | exact Kd.Q_nil _ _ _ _ _ | exact Kd.S_nil _ _ _ _ _⟩, ⟨by (with_reducible repeat (first | refine bkN ?_ _ | refine bkD ?_ | refine bkA ?_ _)); exact BK137.1⟩, ⟨by repeat (first | (with_reducible first | exact HB.1 | apply bAl | apply pbN | apply bD1 | refine bSt ?_ GE137.1) | exact HB.1)⟩⟩
    case round =>
     clear H'
     (try clear c1); (try clear c2); (try clear p2); (try clear c3); (try clear c7); (try clear c8); (try clear c8b0); (try clear c8b1); (try clear c12); (try clear c14); (try clear c16); (try clear hcz12_0); (try clear hcz12_1); (try clear hcz12_2); (try clear hcz12_3); (try clear hcz12_4); (try clear hcz12_5); (try clear hcz14_0); (try clear hcz14_1); (try clear hcz14_2); (try clear hcz14_3); (try clear hcz14_4); (try clear hcz14_5); (try clear hcz9_0); (try clear hcz9_1); (try clear hcz9_2); (try clear hcz9_3); (try clear hcz9_4); (try clear hcz9_5); (try clear hfz12_0); (try clear hfz12_1); (try clear hfz12_2); (try clear hfz12_3); (try clear hfz12_4); (try clear hfz12_5); (try clear hfz14_0); (try clear hfz14_1); (try clear hfz14_2); (try clear hfz14_3); (try clear hfz14_4); (try clear hfz14_5); (try clear hfz9_0); (try clear hfz9_1); (try clear hfz9_2); (try clear hfz9_3); (try clear hfz9_4); (try clear hfz9_5); (try clear p2)
     obtain ⟨x7_2, x8_2, x9_2, rfl, rfl, HA, HK2, HO_7, BK137, HB⟩ := hrel
     cases gk with
     | zero => exact absurd HA.1 (by simp [w37_CasemapParts.l0])
     | succ k2 =>
      have H := HA.1
      clear HA
      simp only [w37_CasemapParts.l0] at H
      by_cases c19 : x9_2 < (l2.length : Int)
      ·rw [if_pos c19] at H
       have c19b0 : decide (x9_2 < (l2.length : Int)) = true := dT c19
       clear c19
       by_cases c20 : 0 ≤ x9_2
       ·rw [if_pos c20] at H
        have c20b0 : decide (0 ≤ x9_2) = true := dT c20
        clear c20
        have c21b0 := eq_true (oD (by first | (with_reducible assumption) | assumption) : 0 ≤ x9_2)
        by_cases c22 : x9_2 ≤ (wrap64 (x9_2 + 1))
        ·rw [if_pos c22] at H
         have c22b0 := eq_true c22
         have c22b1 : decide (x9_2 ≤ (wrap64 (x9_2 + 1))) = true := dT c22
         by_cases c23 : (wrap64 (x9_2 + 1)) ≤ (l2.length : Int)
         ·rw [if_pos c23] at H
          have c23b0 := eq_true c23
          have c23b1 : decide ((wrap64 (x9_2 + 1)) ≤ (l2.length : Int)) = true := dT c23
          obtain ⟨y152, hy152⟩ : ∃ y_ : List (S33), y_ = ((l2.take ((wrap64 (x9_2 + 1)) : Int).toNat).drop (x9_2 : Int).toNat) := ⟨_, rfl⟩
          replace H : ((casemap_Title.f q0 q1 q2 q3 q4 q5 l1 y152).bind fun t156 => (if (t156.length : Int) < (wrap64 (((rd_T33 l2 x9_2).f0) + (wrap64 ((l1.length : Int) - ((rd_T33 l2 x9_2).f1))))) then (some false) else (if 0 ≤ ((rd_T33 l2 x9_2).f0) then (if ((rd_T33 l2 x9_2).f0) ≤ (t156.length : Int) then (if ((rd_T33 l2 x9_2).f0) ≤ (l1.length : Int) then ((r01_Equal.f k2 (t156.take (((rd_T33 l2 x9_2).f0) : Int).toNat) (l1.take (((rd_T33 l2 x9_2).f0) : Int).toNat)).bind fun t164 => (if t164 = true then (if 0 ≤ (wrap64 ((t156.length : Int) - (wrap64 ((l1.length : Int) - ((rd_T33 l2 x9_2).f1))))) then (if (wrap64 ((t156.length : Int) - (wrap64 ((l1.length : Int) - ((rd_T33 l2 x9_2).f1))))) ≤ (t156.length : Int) then (if 0 ≤ ((rd_T33 l2 x9_2).f1) then (if ((rd_T33 l2 x9_2).f1) ≤ (l1.length : Int) then ((r01_Equal.f k2 (t156.drop ((wrap64 ((t156.length : Int) - (wrap64 ((l1.length : Int) - ((rd_T33 l2 x9_2).f1))))) : Int).toNat) (l1.drop (((rd_T33 l2 x9_2).f1) : Int).toNat)).bind fun t170 => (if t170 = true then (if 0 ≤ x8_2 then (if x8_2 ≤ ((rd_T33 l2 x9_2).f0) then (if x7_2.length + ((l1.take (((rd_T33 l2 x9_2).f0) : Int).toNat).drop (x8_2 : Int).toNat).length < 17592186044416 then ((some (x7_2 ++ ((l1.take (((rd_T33 l2 x9_2).f0) : Int).toNat).drop (x8_2 : Int).toNat) : List Int)).bind fun y172 => (if ((rd_T33 l2 x9_2).f0) ≤ (wrap64 ((t156.length : Int) - (wrap64 ((l1.length : Int) - ((rd_T33 l2 x9_2).f1))))) then ((some ((t156.take ((wrap64 ((t156.length : Int) - (wrap64 ((l1.length : Int) - ((rd_T33 l2 x9_2).f1))))) : Int).toNat).drop (((rd_T33 l2 x9_2).f0) : Int).toNat : List Int)).bind fun y175 => (if y172.length + y175.length < 17592186044416 then (w37_CasemapParts.l0 k2 l1 l2 (y172 ++ y175) ((rd_T33 l2 x9_2).f1) (wrap64 (x9_2 + 1)) q0 q1 q2 q3 q4 q5) else (none))) else (none))) else (none)) else (none)) else (none)) else (some false))) else (none)) else (none)) else (none)) else (none)) else (some false))) else (none)) else (none)) else (none)))) = some r := by first | (rw [hy152]; with_reducible exact H) | (have H2_ := (Option.bind_some _ _).symm.trans H; rw [hy152]; with_reducible exact H2_) | (have H2_ := (Option.bind_some _ _).symm.trans H; with_reducible exact H2_) | with_reducible exact H | (rw [hy152]; exact H) | exact H
          have Ny152 := aM hy152
          clear hy152
          replace H := Option.bind_eq_some_iff.mp H
          obtain ⟨t156, A240, H⟩ := H
          replace H : (if (t156.length : Int) < (wrap64 (((rd_T33 l2 x9_2).f0) + (wrap64 ((l1.length : Int) - ((rd_T33 l2 x9_2).f1))))) then (some false) else (if 0 ≤ ((rd_T33 l2 x9_2).f0) then (if ((rd_T33 l2 x9_2).f0) ≤ (t156.length : Int) then (if ((rd_T33 l2 x9_2).f0) ≤ (l1.length : Int) then ((r01_Equal.f k2 (t156.take (((rd_T33 l2 x9_2).f0) : Int).toNat) (l1.take (((rd_T33 l2 x9_2).f0) : Int).toNat)).bind fun t164 => (if t164 = true then (if 0 ≤ (wrap64 ((t156.length : Int) - (wrap64 ((l1.length : Int) - ((rd_T33 l2 x9_2).f1))))) then (if (wrap64 ((t156.length : Int) - (wrap64 ((l1.length : Int) - ((rd_T33 l2 x9_2).f1))))) ≤ (t156.length : Int) then (if 0 ≤ ((rd_T33 l2 x9_2).f1) then (if ((rd_T33 l2 x9_2).f1) ≤ (l1.length : Int) then ((r01_Equal.f k2 (t156.drop ((wrap64 ((t156.length : Int) - (wrap64 ((l1.length : Int) - ((rd_T33 l2 x9_2).f1))))) : Int).toNat) (l1.drop (((rd_T33 l2 x9_2).f1) : Int).toNat)).bind fun t170 => (if t170 = true then (if 0 ≤ x8_2 then (if x8_2 ≤ ((rd_T33 l2 x9_2).f0) then (if x7_2.length + ((l1.take (((rd_T33 l2 x9_2).f0) : Int).toNat).drop (x8_2 : Int).toNat).length < 17592186044416 then ((some (x7_2 ++ ((l1.take (((rd_T33 l2 x9_2).f0) : Int).toNat).drop (x8_2 : Int).toNat) : List Int)).bind fun y172 => (if ((rd_T33 l2 x9_2).f0) ≤ (wrap64 ((t156.length : Int) - (wrap64 ((l1.length : Int) - ((rd_T33 l2 x9_2).f1))))) then ((some ((t156.take ((wrap64 ((t156.length : Int) - (wrap64 ((l1.length : Int) - ((rd_T33 l2 x9_2).f1))))) : Int).toNat).drop (((rd_T33 l2 x9_2).f0) : Int).toNat : List Int)).bind fun y175 => (if y172.length + y175.length < 17592186044416 then (w37_CasemapParts.l0 k2 l1 l2 (y172 ++ y175) ((rd_T33 l2 x9_2).f1) (wrap64 (x9_2 + 1)) q0 q1 q2 q3 q4 q5) else (none))) else (none))) else (none)) else (none)) else (none)) else (some false))) else (none)) else (none)) else (none)) else (none)) else (some false))) else (none)) else (none)) else (none))) = some r := H
          have A24 := aM A240
          clear A240
          by_cases c25 : (t156.length : Int) < (wrap64 (((rd_T33 l2 x9_2).f0) + (wrap64 ((l1.length : Int) - ((rd_T33 l2 x9_2).f1)))))
          ·rw [if_pos c25] at H
           have c25b0 : decide ((t156.length : Int) < (wrap64 (((rd_T33 l2 x9_2).f0) + (wrap64 ((l1.length : Int) - ((rd_T33 l2 x9_2).f1)))))) = true := dT c25
           clear c25
           obtain rfl := Option.some.inj H
           have p150 : 0 ≤ (x9_2 : Int) := oD (by first | (with_reducible assumption) | assumption)
           have q150 : x9_2 < (l2.length : Int) := oD (by first | (with_reducible assumption) | assumption)
           obtain ⟨ad150, e150, hx150_0, hx150_1⟩ := at_T33 HR2.1 x9_2 p150 q150
           cases e150
           replace hx150_0 := (HB.1.cell (World.block_lt_of_cell? w _ hx150_0)).trans hx150_0
           replace hx150_1 := (HB.1.cell (World.block_lt_of_cell? w _ hx150_1)).trans hx150_1
           replace p150 := eq_true p150
           replace q150 := eq_true q150
           try go_wp2_with (first | ((with_reducible refine gate_dst (N := 10) rfl ?_); (try (refine gate_guard (by rfl) ?_; dsimp only)); refine box_event ?hg (N := 10) ?hd (cs := #[.int .i64 0, .int .i64 0]) (t := 33) ?hr ?_; (case hd => rfl); (case hg => rfl); (case hr => first | (go_simp; done) | (go_simp; rfl)); intro gb151 hg w26 hbox hb; have n0_ := aM (Kd.R_below (by (with_reducible repeat first | apply rA2 | apply rN2 | apply rD2); exact HO_7.1) hb); have n1_ := aM (blk_below (g := gb137) (o := .cells #[.slice P0 q0.length n0, .slice P1 q1.length n1, .slice P2 q2.length n2, .slice P3 q3.length n3, .slice P4 q4.length n4, .slice P5 q5.length n5] 27 (0, 0)) (by (with_reducible repeat (first | refine bkN ?_ _ | refine bkD ?_ | refine bkA ?_ _)); exact BK137.1) hb); have n2_ := aM (bSp (by repeat (first | (with_reducible first | exact HB.1 | apply bAl | apply pbN | apply bD1 | refine bSt ?_ GE137.1) | exact HB.1)) hb); have n3_ := aM (hbox); have n4_ := aM ((by rw [hg]; exact (bSz (by repeat (first | (with_reducible first | exact HB.1 | apply bAl | apply pbN | apply bD1 | refine bSt ?_ GE137.1) | exact HB.1))) : w.heap.size ≤ gb151)); have n5_ := aM ((by rw [hg]; exact (bSz (by repeat (first | (with_reducible first | exact HB.1 | apply bAl | apply pbN | apply bD1 | refine bSt ?_ GE137.1) | exact HB.1))) : w.heap.size ≤ gb151)); have n6_ := aM ((by rw [hg]; exact Nat.ne_of_lt (blk_lt (g := gb137) (o := .cells #[.slice P0 q0.length n0, .slice P1 q1.length n1, .slice P2 q2.length n2, .slice P3 q3.length n3, .slice P4 q4.length n4, .slice P5 q5.length n5] 27 (0, 0)) (by (with_reducible repeat (first | refine bkN ?_ _ | refine bkD ?_ | refine bkA ?_ _)); exact BK137.1)) : gb137 ≠ gb151)); have n7_ := aM ((by rw [hg]; exact Nat.ne_of_gt (blk_lt (g := gb137) (o := .cells #[.slice P0 q0.length n0, .slice P1 q1.length n1, .slice P2 q2.length n2, .slice P3 q3.length n3, .slice P4 q4.length n4, .slice P5 q5.length n5] 27 (0, 0)) (by (with_reducible repeat (first | refine bkN ?_ _ | refine bkD ?_ | refine bkA ?_ _)); exact BK137.1)) : gb151 ≠ gb137)); clear HO_7; clear BK137; clear HB; have HO_7 := n0_; have BK137 := n1_; have HB := n2_; have BK151 := n3_; have GW151 := n4_; have GE151 := n5_; have NB137_151 := n6_; have NB151_137 := n7_; clear n0_ n1_ n2_ n3_ n4_ n5_ n6_ n7_; clear hb hbox hg; have hnb27 := NB151_137.1; have hnc27 := NB137_151.1; have hcz28_0 : w26.cell? ⟨gb151, 0, none⟩ = some (.int .i64 0) := (bkC BK151.1 0).trans rfl; have hcz28_1 : w26.cell? ⟨gb151, 1, none⟩ = some (.int .i64 0) := (bkC BK151.1 1).trans rfl; have hfz28_0 := bkF BK151.1 0; have hfz28_1 := bkF BK151.1 1))
           have n0_ : Aside0 (Kd.R (Kd.int .i64) 3 ((w26.setCell ⟨gb151, 0, none⟩ (.int .i64 ((rd_T33 l2 x9_2).f0))).setCell ⟨gb151, 1, none⟩ (.int .i64 ((rd_T33 l2 x9_2).f1))) w.heap.size (fun _ => True) u7 x7_2) := ⟨by (with_reducible repeat first | apply rA2 | apply rN2 | apply rD2); exact Kd.R_mono (Kd.R_far (p := ⟨gb151, 1, none⟩) (Kd.R_far (p := ⟨gb151, 0, none⟩) (Kd.R_types HO_7.1 BK151.1 (by decide)) (fun _ hk => hk.2) (.int .i64 ((rd_T33 l2 x9_2).f0))) (fun _ hk => hk.2) (.int .i64 ((rd_T33 l2 x9_2).f1))) (fun _ hk => trivial)⟩
           have n1_ : Aside0 (((w26.setCell ⟨gb151, 0, none⟩ (.int .i64 ((rd_T33 l2 x9_2).f0))).setCell ⟨gb151, 1, none⟩ (.int .i64 ((rd_T33 l2 x9_2).f1))).heap[gb137]? = some (.cells #[.slice P0 q0.length n0, .slice P1 q1.length n1, .slice P2 q2.length n2, .slice P3 q3.length n3, .slice P4 q4.length n4, .slice P5 q5.length n5] 27 (0, 0))) := ⟨by (with_reducible repeat (first | refine bkN ?_ _ | refine bkD ?_ | refine bkA ?_ _)); refine blk_far ?_ NB137_151.1 _; (with_reducible repeat (first | refine bkN ?_ _ | refine bkD ?_ | refine bkA ?_ _)); refine blk_far ?_ NB137_151.1 _; (with_reducible repeat (first | refine bkN ?_ _ | refine bkD ?_ | refine bkA ?_ _)); exact BK137.1⟩
           have n2_ : Aside0 (((w26.setCell ⟨gb151, 0, none⟩ (.int .i64 ((rd_T33 l2 x9_2).f0))).setCell ⟨gb151, 1, none⟩ (.int .i64 ((rd_T33 l2 x9_2).f1))).heap[gb151]? = some (.cells #[.int .i64 ((rd_T33 l2 x9_2).f0), .int .i64 ((rd_T33 l2 x9_2).f1)] 33 (0, 0))) := ⟨by (with_reducible repeat (first | refine bkN ?_ _ | refine bkD ?_ | refine bkA ?_ _)); refine blk_put (cs := #[.int .i64 ((rd_T33 l2 x9_2).f0), .int .i64 0]) ?_ 1 _ rfl; (with_reducible repeat (first | refine bkN ?_ _ | refine bkD ?_ | refine bkA ?_ _)); refine blk_put (cs := #[.int .i64 0, .int .i64 0]) ?_ 0 _ rfl; (with_reducible repeat (first | refine bkN ?_ _ | refine bkD ?_ | refine bkA ?_ _)); exact BK151.1⟩
           have n3_ : Aside0 (Below w.heap.size w ((w26.setCell ⟨gb151, 0, none⟩ (.int .i64 ((rd_T33 l2 x9_2).f0))).setCell ⟨gb151, 1, none⟩ (.int .i64 ((rd_T33 l2 x9_2).f1)))) := ⟨by repeat (first | (with_reducible first | exact HB.1 | apply bAl | apply pbN | apply bD1 | refine bSt ?_ GE137.1 | refine bSt ?_ GE151.1) | exact HB.1)⟩
           (try clear HO_7)
           (try clear BK137)
           (try clear BK151)
           (try clear HB)
           generalize ((w26.setCell ⟨gb151, 0, none⟩ (.int .i64 ((rd_T33 l2 x9_2).f0))).setCell ⟨gb151, 1, none⟩ (.int .i64 ((rd_T33 l2 x9_2).f1))) = w29 at n0_ n1_ n2_ n3_ ⊢
           have HO_7 := n0_
           have BK137 := n1_
           have BK151 := n2_
           have HB := n3_
           clear n0_ n1_ n2_ n3_
           have n0_ := aM (Kd.R_drew HO_7.1)
           have n1_ := aM (bkD BK137.1)
           have n2_ := aM (bkD BK151.1)
           have n3_ := aM (bD1 HB.1)
           clear HO_7
           clear BK137
           clear BK151
           clear HB
           have HO_7 := n0_
           have BK137 := n1_
           have BK151 := n2_
           have HB := n3_
           clear n0_ n1_ n2_ n3_
           have q31 : ((wrap64 (x9_2 + 1)) : Int) ≤ ((l2.length : Int) : Int) := oD (by first | (with_reducible assumption) | assumption)
           obtain ⟨i031, hi031, _, hsz31, _⟩ := info_parts info33
           have hroom31 : l2.length ≤ c2 := HC2.1
           have hC31 : Kd.C k33 _ (some ad150) l2.length l2 := HR2.1
           have ql31 : (x9_2 : Int) ≤ ((wrap64 (x9_2 + 1)) : Int) := oD (by first | (with_reducible assumption) | assumption)
           have q031 : (0 : Int) ≤ (x9_2 : Int) := oD (by first | (with_reducible assumption) | assumption)
           have hcut31 := cut_mid (P := Try.prog) 23 33 .i64 .i64 Try.underlying23 hi031 2 hsz31 (some ad150) l2.length c2 x9_2 (wrap64 (x9_2 + 1)) q031 ql31 q31 hroom31
           have hr31 := Kd.C_mid (lo := (x9_2 : Int).toNat) (hi := ((wrap64 (x9_2 + 1)) : Int).toNat) (c := c2) hC31 (by omega) (by omega) hroom31
           obtain ⟨A31, hA31⟩ : ∃ A1, A1 = (if c2 = (x9_2 : Int).toNat then (some ad150) else ((some ad150) : Option Addr).map (·.add ((x9_2 : Int).toNat * 2))) := ⟨_, rfl⟩
           obtain ⟨c31, hc31⟩ : ∃ c1, c1 = c2 - (x9_2 : Int).toNat := ⟨_, rfl⟩
           have hy31 : y152.length = ((wrap64 (x9_2 + 1)) : Int).toNat - (x9_2 : Int).toNat := (by rw [Ny152.1, List.length_drop, List.length_take] <;> omega)
           rw [show ((l2).take ((wrap64 (x9_2 + 1)) : Int).toNat).drop (x9_2 : Int).toNat = y152 from Ny152.1.symm] at hr31
           replace hr31 : Kd.C k33 _ A31 y152.length y152 := (by rw [hA31]; exact hr31)
           rw [← hy31, ← hA31, ← hc31] at hcut31
           have HR155 := aM hr31
           have HC155 := aM (show y152.length ≤ c31 from by rw [hy31, hc31]; exact Nat.sub_le_sub_right (Nat.le_trans (by omega) hroom31) _)
           clear hr31 hC31 hroom31 hi031 hsz31 hc31
           have KY31 := aM hy31
           have KA31 := aM hA31
           clear hy31 hA31
           replace q31 := eq_true q31
           refine start_ (n := 9) (S := fun w' => w'.cell? ⟨gb137, 0, none⟩ = some (.slice P0 q0.length n0) ∧ w'.cell? ⟨gb137, 1, none⟩ = some (.slice P1 q1.length n1) ∧ w'.cell? ⟨gb137, 2, none⟩ = some (.slice P2 q2.length n2) ∧ w'.cell? ⟨gb137, 3, none⟩ = some (.slice P3 q3.length n3) ∧ w'.cell? ⟨gb137, 4, none⟩ = some (.slice P4 q4.length n4) ∧ w'.cell? ⟨gb137, 5, none⟩ = some (.slice P5 q5.length n5)) (ds := []) #[false, false, false, false, false, false, false, false, false] (by kernel_rfl) rfl rfl (bk62 BK137.1) (fun hHeld => ?_); refine with_tabW w37_CasemapParts.tab9 w37_CasemapParts.bits9 (fun HT_ HW_ => ?_)
           generalize w29.drew = w30 at HO_7 BK137 BK151 HB HR155 hHeld ⊢
           refine pure_ (i := 1) (N := some 41) (v := ?_) (a' := ?_) #[false, true, false, false, false, false, false, false, false] rfl rfl (any_of HT_.1 (by kernel_rfl)) (fun _ _ _ h => h) (Or.inl ⟨by rfl, ?_⟩) ?_ ?_
           rotate_left
           ·intro w'
            go_simp
            with_reducible rfl
           rotate_left
           ·simp only [Act.put, sI, sZ, sS, i64_w, i32_w]
            rfl
           refine pure_ (i := 2) (N := some 42) (v := ?_) (a' := ?_) #[false, true, true, false, false, false, false, false, false] rfl rfl (any_of HT_.1 (by kernel_rfl)) (fun _ _ _ h => h) (Or.inl ⟨by rfl, ?_⟩) ?_ ?_
           rotate_left
           ·intro w'
            go_simp
            with_reducible rfl
           rotate_left
           ·simp only [Act.put, sI, sZ, sS, i64_w, i32_w]
            rfl
           refine pure_ (i := 3) (N := some 43) (v := ?_) (a' := ?_) #[false, true, true, true, false, false, false, false, false] rfl rfl (any_of HT_.1 (by kernel_rfl)) (fun _ _ _ h => h) (Or.inl ⟨by rfl, ?_⟩) ?_ ?_
           rotate_left
           ·intro w'
            go_simp
            with_reducible rfl
           rotate_left
           ·simp only [Act.put, sI, sZ, sS, i64_w, i32_w]
            rfl
           refine pure_ (i := 4) (N := some 44) (v := ?_) (a' := ?_) #[false, true, true, true, true, false, false, false, false] rfl rfl (any_of HT_.1 (by kernel_rfl)) (fun _ _ _ h => h) (Or.inl ⟨by rfl, ?_⟩) ?_ ?_
           rotate_left
           ·intro w'
            go_simp
            with_reducible rfl
           rotate_left
           ·simp only [Act.put, sI, sZ, sS, i64_w, i32_w]
            rfl
           refine pure_ (i := 5) (N := some 45) (v := ?_) (a' := ?_) #[false, true, true, true, true, true, false, false, false] rfl rfl (any_of HT_.1 (by kernel_rfl)) (fun _ _ _ h => h) (Or.inl ⟨by rfl, ?_⟩) ?_ ?_
           rotate_left
           ·intro w'
            go_simp
            with_reducible rfl
           rotate_left
           ·simp only [Act.put, sI, sZ, sS, i64_w, i32_w]
            rfl
           refine pure_ (i := 6) (N := some 46) (v := ?_) (a' := ?_) #[false, true, true, true, true, true, true, false, false] rfl rfl (any_of HT_.1 (by kernel_rfl)) (fun _ _ _ h => h) (Or.inl ⟨by rfl, ?_⟩) ?_ ?_
           rotate_left
           ·intro w'
            go_simp
            with_reducible rfl
           rotate_left
           ·simp only [Act.put, sI, sZ, sS, i64_w, i32_w]
            rfl
           refine take_ (i := 0) (N := some 40) (v := ?_) (a' := ?_) #[true, true, true, true, true, true, true, false, false] rfl rfl (take_ofW HT_.1 HW_.1 (by kernel_rfl)) (fun _ _ _ h => h) (Or.inl ⟨by rfl, ?_⟩) hHeld ?_ ?_
           rotate_left
           ·rintro w' ⟨s0, s1, s2, s3, s4, s5⟩
            go_simp
            with_reducible rfl
           rotate_left
           ·simp only [Act.put, sI, sZ, sS, i64_w, i32_w]
            rfl
           refine one_ (i := 7) (N := some 47) #[true, true, true, true, true, true, true, true, false] rfl rfl (one_of HT_.1 (by kernel_rfl)) (by decide) (fun K hK => ?_)
           refine goes_ Try.func15 (by kernel_rfl) rfl #[.agg #[.slice P0 q0.length n0, .slice P1 q1.length n1, .slice P2 q2.length n2, .slice P3 q3.length n3, .slice P4 q4.length n4, .slice P5 q5.length n5], .slice A1 l1.length c1, .slice A31 y152.length c31] (by rfl) rfl rfl (by (try simp only [List.map_toArray, List.map_cons, List.map_nil]); first | done | rfl | (simp only [List.length_drop, List.length_take]; rfl)) ?_
           with_reducible refine (casemap_Title.calls _ _ q0 _ _ q1 _ _ q2 _ _ q3 _ _ q4 _ _ q5 _ _ l1 _ _ y152 t156 _ ?z1 ?z2 ?z3 ?z4 ?z5 ?z6 ?z7 ?z8 ?z9 ?z10 ?z11 ?z12 ?z13 ?z14 ?z15 ?z16 A24.1).mono ?_
           (case z1 => repeat (first | exact cB2 R0.1 HB.1 | with_reducible first | refine cA2 ?_ _ | refine cN2 ?_ _ | refine cD2 ?_))
           (case z2 => exact N0.1)
           (case z3 => repeat (first | exact cB2 R1.1 HB.1 | with_reducible first | refine cA2 ?_ _ | refine cN2 ?_ _ | refine cD2 ?_))
           (case z4 => exact N1.1)
           (case z5 => repeat (first | exact cB2 R2.1 HB.1 | with_reducible first | refine cA2 ?_ _ | refine cN2 ?_ _ | refine cD2 ?_))
           (case z6 => exact N2.1)
           (case z7 => repeat (first | exact cB2 R3.1 HB.1 | with_reducible first | refine cA2 ?_ _ | refine cN2 ?_ _ | refine cD2 ?_))
           (case z8 => exact N3.1)
           (case z9 => repeat (first | exact cB2 R4.1 HB.1 | with_reducible first | refine cA2 ?_ _ | refine cN2 ?_ _ | refine cD2 ?_))
           (case z10 => exact N4.1)
           (case z11 => repeat (first | exact cB2 R5.1 HB.1 | with_reducible first | refine cA2 ?_ _ | refine cN2 ?_ _ | refine cD2 ?_))
           (case z12 => exact N5.1)
           (case z13 => repeat (first | exact cB2 HR1.1 HB.1 | with_reducible first | refine cA2 ?_ _ | refine cN2 ?_ _ | refine cD2 ?_))
           (case z14 => exact HC1.1)
           (case z15 => repeat (first | exact cB2 HR155.1 HB.1 | with_reducible first | refine cA2 ?_ _ | refine cN2 ?_ _ | refine cD2 ?_))
           (case z16 => exact HC155.1)
           rintro e w32 ⟨v157, rfl, ho0, hb⟩
           refine ⟨_, rfl, ?_⟩
           have n0_ := aM (Kd.R_elder' (by (with_reducible repeat first | apply rA2 | apply rN2 | apply rD2); exact HO_7.1) (Kd.R_base ho0) hb)
           have n1_ := aM (Kd.R_lower (Kd.R_new' ho0 (Kd.R_lt (by (with_reducible repeat first | apply rA2 | apply rN2 | apply rD2); exact HO_7.1))) (bSz (by repeat (first | (with_reducible first | exact HB.1 | apply bAl | apply pbN | apply bD1 | refine bSt ?_ GE137.1 | refine bSt ?_ GE151.1) | exact HB.1))))
           have n2_ := aM (blk_below (g := gb137) (o := .cells #[.slice P0 q0.length n0, .slice P1 q1.length n1, .slice P2 q2.length n2, .slice P3 q3.length n3, .slice P4 q4.length n4, .slice P5 q5.length n5] 27 (0, 0)) (by (with_reducible repeat (first | refine bkN ?_ _ | refine bkD ?_ | refine bkA ?_ _)); exact BK137.1) hb)
           have n3_ := aM (blk_below (g := gb151) (o := .cells #[.int .i64 ((rd_T33 l2 x9_2).f0), .int .i64 ((rd_T33 l2 x9_2).f1)] 33 (0, 0)) (by (with_reducible repeat (first | refine bkN ?_ _ | refine bkD ?_ | refine bkA ?_ _)); exact BK151.1) hb)
           have n4_ := aM (bSp (by repeat (first | (with_reducible first | exact HB.1 | apply bAl | apply pbN | apply bD1 | refine bSt ?_ GE137.1 | refine bSt ?_ GE151.1) | exact HB.1)) hb)
           clear HO_7
           clear BK137
           clear BK151
           clear HB
           have HO_7 := n0_
           have HO158 := n1_
           have BK137 := n2_
           have BK151 := n3_
           have HB := n4_
           clear n0_ n1_ n2_ n3_ n4_
           (try clear hb)
           (try clear hb2)
           (try clear hk)
           (try clear hi)
           (try clear ho0)
           refine hK.out _ _ (bk62 BK137.1) (fun hHeld => ?_)
           clear hK K
           refine norm_ (a' := ?_) ?_ ?_
           rotate_left
           ·show Act.put _ (some 47) _ = _
            simp only [Act.put, sI, sZ, sS, i64_w, i32_w]
            rfl
           refine pure_ (i := 8) (N := some 11) (v := ?_) (a' := ?_) #[true, true, true, true, true, true, true, true, true] rfl rfl (any_of HT_.1 (by kernel_rfl)) (fun _ _ _ h => h) (Or.inl ⟨by rfl, ?_⟩) ?_ ?_
           rotate_left
           ·intro w'
            go_simp
            with_reducible rfl
           rotate_left
           ·simp only [Act.put, sI, sZ, sS, i64_w, i32_w]
            rfl
           refine done_ (done_of HT_.1 (by kernel_rfl)) ?_
           have hcz33_0 : w32.cell? ⟨gb151, 0, none⟩ = some (.int .i64 ((rd_T33 l2 x9_2).f0)) := (bkC BK151.1 0).trans rfl
           have hcz33_1 : w32.cell? ⟨gb151, 1, none⟩ = some (.int .i64 ((rd_T33 l2 x9_2).f1)) := (bkC BK151.1 1).trans rfl
           have hfz33_0 := bkF BK151.1 0
           have hfz33_1 := bkF BK151.1 1
           try go_wp2
           have n0_ := aM (Kd.R_drew HO_7.1)
           have n1_ := aM (Kd.R_drew HO158.1)
           have n2_ := aM (bkD BK137.1)
           have n3_ := aM (bkD BK151.1)
           have n4_ := aM (bD1 HB.1)
           clear HO_7
           clear HO158
           clear BK137
           clear BK151
           clear HB
           have HO_7 := n0_
           have HO158 := n1_
           have BK137 := n2_
           have BK151 := n3_
           have HB := n4_
           clear n0_ n1_ n2_ n3_ n4_
           obtain ⟨Ao35, co35, eo35⟩ := Kd.R_slice HO158.1
           (first | subst eo35 | (injection eo35 with f1_ f2_ f3_; have f4_ := f1_.symm; have f5_ := f3_.symm; clear f1_ f2_ f3_; subst f4_; subst f5_))
           refine start_ (n := 33) (S := fun w' => w'.cell? ⟨gb151, 0, none⟩ = some (.int .i64 ((rd_T33 l2 x9_2).f0)) ∧ w'.cell? ⟨gb151, 1, none⟩ = some (.int .i64 ((rd_T33 l2 x9_2).f1))) (ds := []) #[false, false, false, false, false, false, false, false, false, false, false, false, false, false, false, false, false, false, false, false, false, false, false, false, false, false, false, false, false, false, false, false, false] (by kernel_rfl) rfl rfl ⟨(bkC BK151.1 0).trans rfl, (bkC BK151.1 1).trans rfl⟩ (fun hHeld => ?_); refine with_tabW w37_CasemapParts.tab11 w37_CasemapParts.bits11 (fun HT_ HW_ => ?_)
           generalize w32.drew = w34 at HO_7 HO158 BK137 BK151 HB hHeld ⊢
           refine pure_ (i := 0) (N := some 53) (v := ?_) (a' := ?_) #[true, false, false, false, false, false, false, false, false, false, false, false, false, false, false, false, false, false, false, false, false, false, false, false, false, false, false, false, false, false, false, false, false] rfl rfl (any_of HT_.1 (by kernel_rfl)) (fun _ _ _ h => h) (Or.inl ⟨by rfl, ?_⟩) ?_ ?_
           rotate_left
           ·intro w'
            go_simp
            with_reducible rfl
           rotate_left
           ·simp only [Act.put, sI, sZ, sS, i64_w, i32_w]
            rfl
           refine pure_ (i := 1) (N := some 54) (v := ?_) (a' := ?_) #[true, true, false, false, false, false, false, false, false, false, false, false, false, false, false, false, false, false, false, false, false, false, false, false, false, false, false, false, false, false, false, false, false] rfl rfl (any_of HT_.1 (by kernel_rfl)) (fun _ _ _ h => h) (Or.inl ⟨by rfl, ?_⟩) ?_ ?_
           rotate_left
           ·intro w'
            go_simp
            with_reducible rfl
           rotate_left
           ·simp only [Act.put, sI, sZ, sS, i64_w, i32_w]
            rfl
           refine pure_ (i := 2) (N := some 55) (v := ?_) (a' := ?_) #[true, true, true, false, false, false, false, false, false, false, false, false, false, false, false, false, false, false, false, false, false, false, false, false, false, false, false, false, false, false, false, false, false] rfl rfl (any_of HT_.1 (by kernel_rfl)) (fun _ _ _ h => h) (Or.inl ⟨by rfl, ?_⟩) ?_ ?_
           rotate_left
           ·intro w'
            go_simp
            with_reducible rfl
           rotate_left
           ·simp only [Act.put, sI, sZ, sS, i64_w, i32_w]
            rfl
           refine pure_ (i := 4) (N := some 57) (v := ?_) (a' := ?_) #[true, true, true, false, true, false, false, false, false, false, false, false, false, false, false, false, false, false, false, false, false, false, false, false, false, false, false, false, false, false, false, false, false] rfl rfl (any_of HT_.1 (by kernel_rfl)) (fun _ _ _ h => h) (Or.inl ⟨by rfl, ?_⟩) ?_ ?_
           rotate_left
           ·intro w'
            go_simp
            with_reducible rfl
           rotate_left
           ·simp only [Act.put, sI, sZ, sS, i64_w, i32_w]
            rfl
           refine take_ (i := 3) (N := some 56) (v := ?_) (a' := ?_) #[true, true, true, true, true, false, false, false, false, false, false, false, false, false, false, false, false, false, false, false, false, false, false, false, false, false, false, false, false, false, false, false, false] rfl rfl (take_ofW HT_.1 HW_.1 (by kernel_rfl)) (fun _ _ _ h => h) (Or.inl ⟨by rfl, ?_⟩) hHeld ?_ ?_
           rotate_left
           ·rintro w' ⟨s0, s1⟩
            go_simp
            with_reducible rfl
           rotate_left
           ·simp only [Act.put, sI, sZ, sS, i64_w, i32_w]
            rfl
           refine pure_ (i := 5) (N := some 58) (v := ?_) (a' := ?_) #[true, true, true, true, true, true, false, false, false, false, false, false, false, false, false, false, false, false, false, false, false, false, false, false, false, false, false, false, false, false, false, false, false] rfl rfl (any_of HT_.1 (by kernel_rfl)) (fun _ _ _ h => h) (Or.inl ⟨by rfl, ?_⟩) ?_ ?_
           rotate_left
           ·intro w'
            go_simp
            with_reducible rfl
           rotate_left
           ·simp only [Act.put, sI, sZ, sS, i64_w, i32_w]
            rfl
           refine pure_ (i := 6) (N := some 59) (v := ?_) (a' := ?_) #[true, true, true, true, true, true, true, false, false, false, false, false, false, false, false, false, false, false, false, false, false, false, false, false, false, false, false, false, false, false, false, false, false] rfl rfl (any_of HT_.1 (by kernel_rfl)) (fun _ _ _ h => h) (Or.inl ⟨by rfl, ?_⟩) ?_ ?_
           rotate_left
           ·intro w'
            go_simp
            with_reducible rfl
           rotate_left
           ·simp only [Act.put, sI, sZ, sS, i64_w, i32_w]
            rfl
           refine pure_ (i := 7) (N := some 60) (v := ?_) (a' := ?_) #[true, true, true, true, true, true, true, true, false, false, false, false, false, false, false, false, false, false, false, false, false, false, false, false, false, false, false, false, false, false, false, false, false] rfl rfl (any_of HT_.1 (by kernel_rfl)) (fun _ _ _ h => h) (Or.inl ⟨by rfl, ?_⟩) ?_ ?_
           rotate_left
           ·intro w'
            go_simp
            with_reducible rfl
           rotate_left
           ·simp only [Act.put, sI, sZ, sS, i64_w, i32_w]
            rfl
           refine pure_ (i := 8) (N := some 61) (v := undef) (a' := ?_) #[true, true, true, true, true, true, true, true, true, false, false, false, false, false, false, false, false, false, false, false, false, false, false, false, false, false, false, false, false, false, false, false, false] rfl rfl (any_of HT_.1 (by kernel_rfl)) (fun _ _ _ h => h) (Or.inr ⟨by rfl, rfl⟩) ?_ ?_
           rotate_left
           ·simp only [Act.put, sI, sZ, sS, i64_w, i32_w]
            rfl
           refine pure_ (i := 9) (N := some 62) (v := undef) (a' := ?_) #[true, true, true, true, true, true, true, true, true, true, false, false, false, false, false, false, false, false, false, false, false, false, false, false, false, false, false, false, false, false, false, false, false] rfl rfl (any_of HT_.1 (by kernel_rfl)) (fun _ _ _ h => h) (Or.inr ⟨by rfl, rfl⟩) ?_ ?_
           rotate_left
           ·simp only [Act.put, sI, sZ, sS, i64_w, i32_w]
            rfl
           refine pure_ (i := 10) (N := some 63) (v := undef) (a' := ?_) #[true, true, true, true, true, true, true, true, true, true, true, false, false, false, false, false, false, false, false, false, false, false, false, false, false, false, false, false, false, false, false, false, false] rfl rfl (any_of HT_.1 (by kernel_rfl)) (fun _ _ _ h => h) (Or.inr ⟨by rfl, rfl⟩) ?_ ?_
           rotate_left
           ·simp only [Act.put, sI, sZ, sS, i64_w, i32_w]
            rfl
           refine pure_ (i := 11) (N := some 64) (v := undef) (a' := ?_) #[true, true, true, true, true, true, true, true, true, true, true, true, false, false, false, false, false, false, false, false, false, false, false, false, false, false, false, false, false, false, false, false, false] rfl rfl (any_of HT_.1 (by kernel_rfl)) (fun _ _ _ h => h) (Or.inr ⟨by rfl, rfl⟩) ?_ ?_
           rotate_left
           ·simp only [Act.put, sI, sZ, sS, i64_w, i32_w]
            rfl
           refine pure_ (i := 12) (N := some 65) (v := undef) (a' := ?_) #[true, true, true, true, true, true, true, true, true, true, true, true, true, false, false, false, false, false, false, false, false, false, false, false, false, false, false, false, false, false, false, false, false] rfl rfl (any_of HT_.1 (by kernel_rfl)) (fun _ _ _ h => h) (Or.inr ⟨by rfl, rfl⟩) ?_ ?_
           rotate_left
           ·simp only [Act.put, sI, sZ, sS, i64_w, i32_w]
            rfl
           refine pure_ (i := 13) (N := some 66) (v := undef) (a' := ?_) #[true, true, true, true, true, true, true, true, true, true, true, true, true, true, false, false, false, false, false, false, false, false, false, false, false, false, false, false, false, false, false, false, false] rfl rfl (any_of HT_.1 (by kernel_rfl)) (fun _ _ _ h => h) (Or.inr ⟨by rfl, rfl⟩) ?_ ?_
           rotate_left
           ·simp only [Act.put, sI, sZ, sS, i64_w, i32_w]
            rfl
           refine pure_ (i := 14) (N := some 67) (v := undef) (a' := ?_) #[true, true, true, true, true, true, true, true, true, true, true, true, true, true, true, false, false, false, false, false, false, false, false, false, false, false, false, false, false, false, false, false, false] rfl rfl (any_of HT_.1 (by kernel_rfl)) (fun _ _ _ h => h) (Or.inr ⟨by rfl, rfl⟩) ?_ ?_
           rotate_left
           ·simp only [Act.put, sI, sZ, sS, i64_w, i32_w]
            rfl
           refine pure_ (i := 15) (N := some 68) (v := undef) (a' := ?_) #[true, true, true, true, true, true, true, true, true, true, true, true, true, true, true, true, false, false, false, false, false, false, false, false, false, false, false, false, false, false, false, false, false] rfl rfl (any_of HT_.1 (by kernel_rfl)) (fun _ _ _ h => h) (Or.inr ⟨by rfl, rfl⟩) ?_ ?_
           rotate_left
           ·simp only [Act.put, sI, sZ, sS, i64_w, i32_w]
            rfl
           refine pure_ (i := 16) (N := some 69) (v := undef) (a' := ?_) #[true, true, true, true, true, true, true, true, true, true, true, true, true, true, true, true, true, false, false, false, false, false, false, false, false, false, false, false, false, false, false, false, false] rfl rfl (any_of HT_.1 (by kernel_rfl)) (fun _ _ _ h => h) (Or.inr ⟨by rfl, rfl⟩) ?_ ?_
           rotate_left
           ·simp only [Act.put, sI, sZ, sS, i64_w, i32_w]
            rfl
           refine pure_ (i := 17) (N := some 70) (v := undef) (a' := ?_) #[true, true, true, true, true, true, true, true, true, true, true, true, true, true, true, true, true, true, false, false, false, false, false, false, false, false, false, false, false, false, false, false, false] rfl rfl (any_of HT_.1 (by kernel_rfl)) (fun _ _ _ h => h) (Or.inr ⟨by rfl, rfl⟩) ?_ ?_
           rotate_left
           ·simp only [Act.put, sI, sZ, sS, i64_w, i32_w]
            rfl
           refine pure_ (i := 18) (N := some 71) (v := ?_) (a' := ?_) #[true, true, true, true, true, true, true, true, true, true, true, true, true, true, true, true, true, true, true, false, false, false, false, false, false, false, false, false, false, false, false, false, false] rfl rfl (any_of HT_.1 (by kernel_rfl)) (fun _ _ _ h => h) (Or.inl ⟨by rfl, ?_⟩) ?_ ?_
           rotate_left
           ·intro w'
            go_simp
            with_reducible rfl
           rotate_left
           ·simp only [Act.put, sI, sZ, sS, i64_w, i32_w]
            rfl
           refine pure_ (i := 19) (N := some 72) (v := ?_) (a' := ?_) #[true, true, true, true, true, true, true, true, true, true, true, true, true, true, true, true, true, true, true, true, false, false, false, false, false, false, false, false, false, false, false, false, false] rfl rfl (any_of HT_.1 (by kernel_rfl)) (fun _ _ _ h => h) (Or.inl ⟨by rfl, ?_⟩) ?_ ?_
           rotate_left
           ·intro w'
            go_simp
            with_reducible rfl
           rotate_left
           ·simp only [Act.put, sI, sZ, sS, i64_w, i32_w]
            rfl
           refine pure_ (i := 20) (N := some 73) (v := undef) (a' := ?_) #[true, true, true, true, true, true, true, true, true, true, true, true, true, true, true, true, true, true, true, true, true, false, false, false, false, false, false, false, false, false, false, false, false] rfl rfl (any_of HT_.1 (by kernel_rfl)) (fun _ _ _ h => h) (Or.inr ⟨by rfl, rfl⟩) ?_ ?_
           rotate_left
           ·simp only [Act.put, sI, sZ, sS, i64_w, i32_w]
            rfl
           refine pure_ (i := 21) (N := some 74) (v := undef) (a' := ?_) #[true, true, true, true, true, true, true, true, true, true, true, true, true, true, true, true, true, true, true, true, true, true, false, false, false, false, false, false, false, false, false, false, false] rfl rfl (any_of HT_.1 (by kernel_rfl)) (fun _ _ _ h => h) (Or.inr ⟨by rfl, rfl⟩) ?_ ?_
           rotate_left
           ·simp only [Act.put, sI, sZ, sS, i64_w, i32_w]
            rfl
           refine pure_ (i := 22) (N := some 75) (v := undef) (a' := ?_) #[true, true, true, true, true, true, true, true, true, true, true, true, true, true, true, true, true, true, true, true, true, true, true, false, false, false, false, false, false, false, false, false, false] rfl rfl (any_of HT_.1 (by kernel_rfl)) (fun _ _ _ h => h) (Or.inr ⟨by rfl, rfl⟩) ?_ ?_
           rotate_left
           ·simp only [Act.put, sI, sZ, sS, i64_w, i32_w]
            rfl
           refine pure_ (i := 23) (N := some 76) (v := undef) (a' := ?_) #[true, true, true, true, true, true, true, true, true, true, true, true, true, true, true, true, true, true, true, true, true, true, true, true, false, false, false, false, false, false, false, false, false] rfl rfl (any_of HT_.1 (by kernel_rfl)) (fun _ _ _ h => h) (Or.inr ⟨by rfl, rfl⟩) ?_ ?_
           rotate_left
           ·simp only [Act.put, sI, sZ, sS, i64_w, i32_w]
            rfl
           refine pure_ (i := 24) (N := some 77) (v := undef) (a' := ?_) #[true, true, true, true, true, true, true, true, true, true, true, true, true, true, true, true, true, true, true, true, true, true, true, true, true, false, false, false, false, false, false, false, false] rfl rfl (any_of HT_.1 (by kernel_rfl)) (fun _ _ _ h => h) (Or.inr ⟨by rfl, rfl⟩) ?_ ?_
           rotate_left
           ·simp only [Act.put, sI, sZ, sS, i64_w, i32_w]
            rfl
           refine pure_ (i := 25) (N := some 78) (v := undef) (a' := ?_) #[true, true, true, true, true, true, true, true, true, true, true, true, true, true, true, true, true, true, true, true, true, true, true, true, true, true, false, false, false, false, false, false, false] rfl rfl (any_of HT_.1 (by kernel_rfl)) (fun _ _ _ h => h) (Or.inr ⟨by rfl, rfl⟩) ?_ ?_
           rotate_left
           ·simp only [Act.put, sI, sZ, sS, i64_w, i32_w]
            rfl
           refine pure_ (i := 26) (N := some 79) (v := undef) (a' := ?_) #[true, true, true, true, true, true, true, true, true, true, true, true, true, true, true, true, true, true, true, true, true, true, true, true, true, true, true, false, false, false, false, false, false] rfl rfl (any_of HT_.1 (by kernel_rfl)) (fun _ _ _ h => h) (Or.inr ⟨by rfl, rfl⟩) ?_ ?_
           rotate_left
           ·simp only [Act.put, sI, sZ, sS, i64_w, i32_w]
            rfl
           refine pure_ (i := 27) (N := some 80) (v := undef) (a' := ?_) #[true, true, true, true, true, true, true, true, true, true, true, true, true, true, true, true, true, true, true, true, true, true, true, true, true, true, true, true, false, false, false, false, false] rfl rfl (any_of HT_.1 (by kernel_rfl)) (fun _ _ _ h => h) (Or.inr ⟨by rfl, rfl⟩) ?_ ?_
           rotate_left
           ·simp only [Act.put, sI, sZ, sS, i64_w, i32_w]
            rfl
           refine pure_ (i := 28) (N := some 81) (v := undef) (a' := ?_) #[true, true, true, true, true, true, true, true, true, true, true, true, true, true, true, true, true, true, true, true, true, true, true, true, true, true, true, true, true, false, false, false, false] rfl rfl (any_of HT_.1 (by kernel_rfl)) (fun _ _ _ h => h) (Or.inr ⟨by rfl, rfl⟩) ?_ ?_
           rotate_left
           ·simp only [Act.put, sI, sZ, sS, i64_w, i32_w]
            rfl
           refine pure_ (i := 29) (N := some 82) (v := undef) (a' := ?_) #[true, true, true, true, true, true, true, true, true, true, true, true, true, true, true, true, true, true, true, true, true, true, true, true, true, true, true, true, true, true, false, false, false] rfl rfl (any_of HT_.1 (by kernel_rfl)) (fun _ _ _ h => h) (Or.inr ⟨by rfl, rfl⟩) ?_ ?_
           rotate_left
           ·simp only [Act.put, sI, sZ, sS, i64_w, i32_w]
            rfl
           refine pure_ (i := 30) (N := some 83) (v := undef) (a' := ?_) #[true, true, true, true, true, true, true, true, true, true, true, true, true, true, true, true, true, true, true, true, true, true, true, true, true, true, true, true, true, true, true, false, false] rfl rfl (any_of HT_.1 (by kernel_rfl)) (fun _ _ _ h => h) (Or.inr ⟨by rfl, rfl⟩) ?_ ?_
           rotate_left
           ·simp only [Act.put, sI, sZ, sS, i64_w, i32_w]
            rfl
           refine pure_ (i := 31) (N := some 84) (v := undef) (a' := ?_) #[true, true, true, true, true, true, true, true, true, true, true, true, true, true, true, true, true, true, true, true, true, true, true, true, true, true, true, true, true, true, true, true, false] rfl rfl (any_of HT_.1 (by kernel_rfl)) (fun _ _ _ h => h) (Or.inr ⟨by rfl, rfl⟩) ?_ ?_
           rotate_left
           ·simp only [Act.put, sI, sZ, sS, i64_w, i32_w]
            rfl
           refine pure_ (i := 32) (N := some 85) (v := ?_) (a' := ?_) #[true, true, true, true, true, true, true, true, true, true, true, true, true, true, true, true, true, true, true, true, true, true, true, true, true, true, true, true, true, true, true, true, true] rfl rfl (any_of HT_.1 (by kernel_rfl)) (fun _ _ _ h => h) (Or.inl ⟨by rfl, ?_⟩) ?_ ?_
           rotate_left
           ·intro w'
            go_simp
            with_reducible rfl
           rotate_left
           ·simp only [Act.put, sI, sZ, sS, i64_w, i32_w]
            rfl
           refine done_ (done_of HT_.1 (by kernel_rfl)) ?_
           try go_wp2
           go_ret
           exact ⟨by first | rfl | (simp [eN, eS] <;> rfl) | (simp [*, eN, eS] <;> rfl), by repeat (first | (with_reducible first | exact HB.1 | apply bAl | apply pbN | apply bD1 | refine bSt ?_ GE137.1 | refine bSt ?_ GE151.1) | exact HB.1)⟩
          ·rw [if_neg c25] at H
           have c25b0 : decide ((t156.length : Int) < (wrap64 (((rd_T33 l2 x9_2).f0) + (wrap64 ((l1.length : Int) - ((rd_T33 l2 x9_2).f1)))))) = false := decide_eq_false c25
           clear c25
           by_cases c36 : 0 ≤ ((rd_T33 l2 x9_2).f0)
           ·rw [if_pos c36] at H
            have c36b0 := eq_true c36
            have c36b1 : decide (0 ≤ ((rd_T33 l2 x9_2).f0)) = true := dT c36
            clear c36
            by_cases c37 : ((rd_T33 l2 x9_2).f0) ≤ (t156.length : Int)
            ·rw [if_pos c37] at H
             have c37b0 := eq_true c37
             have c37b1 : decide (((rd_T33 l2 x9_2).f0) ≤ (t156.length : Int)) = true := dT c37
             clear c37
             obtain ⟨y159, hy159⟩ : ∃ y_ : List Int, y_ = (t156.take (((rd_T33 l2 x9_2).f0) : Int).toNat) := ⟨_, rfl⟩
             replace H : (if ((rd_T33 l2 x9_2).f0) ≤ (l1.length : Int) then ((r01_Equal.f k2 y159 (l1.take (((rd_T33 l2 x9_2).f0) : Int).toNat)).bind fun t164 => (if t164 = true then (if 0 ≤ (wrap64 ((t156.length : Int) - (wrap64 ((l1.length : Int) - ((rd_T33 l2 x9_2).f1))))) then (if (wrap64 ((t156.length : Int) - (wrap64 ((l1.length : Int) - ((rd_T33 l2 x9_2).f1))))) ≤ (t156.length : Int) then (if 0 ≤ ((rd_T33 l2 x9_2).f1) then (if ((rd_T33 l2 x9_2).f1) ≤ (l1.length : Int) then ((r01_Equal.f k2 (t156.drop ((wrap64 ((t156.length : Int) - (wrap64 ((l1.length : Int) - ((rd_T33 l2 x9_2).f1))))) : Int).toNat) (l1.drop (((rd_T33 l2 x9_2).f1) : Int).toNat)).bind fun t170 => (if t170 = true then (if 0 ≤ x8_2 then (if x8_2 ≤ ((rd_T33 l2 x9_2).f0) then (if x7_2.length + ((l1.take (((rd_T33 l2 x9_2).f0) : Int).toNat).drop (x8_2 : Int).toNat).length < 17592186044416 then ((some (x7_2 ++ ((l1.take (((rd_T33 l2 x9_2).f0) : Int).toNat).drop (x8_2 : Int).toNat) : List Int)).bind fun y172 => (if ((rd_T33 l2 x9_2).f0) ≤ (wrap64 ((t156.length : Int) - (wrap64 ((l1.length : Int) - ((rd_T33 l2 x9_2).f1))))) then ((some ((t156.take ((wrap64 ((t156.length : Int) - (wrap64 ((l1.length : Int) - ((rd_T33 l2 x9_2).f1))))) : Int).toNat).drop (((rd_T33 l2 x9_2).f0) : Int).toNat : List Int)).bind fun y175 => (if y172.length + y175.length < 17592186044416 then (w37_CasemapParts.l0 k2 l1 l2 (y172 ++ y175) ((rd_T33 l2 x9_2).f1) (wrap64 (x9_2 + 1)) q0 q1 q2 q3 q4 q5) else (none))) else (none))) else (none)) else (none)) else (none)) else (some false))) else (none)) else (none)) else (none)) else (none)) else (some false))) else (none)) = some r := by first | (rw [hy159]; with_reducible exact H) | (have H2_ := (Option.bind_some _ _).symm.trans H; rw [hy159]; with_reducible exact H2_) | (have H2_ := (Option.bind_some _ _).symm.trans H; with_reducible exact H2_) | with_reducible exact H | (rw [hy159]; exact H) | exact H
             have Ny159 := aM hy159
             clear hy159
             have c38b0 := eq_true (oD (by first | (with_reducible assumption) | assumption) : 0 ≤ ((rd_T33 l2 x9_2).f0))
             by_cases c39 : ((rd_T33 l2 x9_2).f0) ≤ (l1.length : Int)
             ·rw [if_pos c39] at H
              have c39b0 := eq_true c39
              have c39b1 : decide (((rd_T33 l2 x9_2).f0) ≤ (l1.length : Int)) = true := dT c39
              clear c39
              replace H := Option.bind_eq_some_iff.mp H
              obtain ⟨t164, A400, H⟩ := H
              replace H : (if t164 = true then (if 0 ≤ (wrap64 ((t156.length : Int) - (wrap64 ((l1.length : Int) - ((rd_T33 l2 x9_2).f1))))) then (if (wrap64 ((t156.length : Int) - (wrap64 ((l1.length : Int) - ((rd_T33 l2 x9_2).f1))))) ≤ (t156.length : Int) then (if 0 ≤ ((rd_T33 l2 x9_2).f1) then (if ((rd_T33 l2 x9_2).f1) ≤ (l1.length : Int) then ((r01_Equal.f k2 (t156.drop ((wrap64 ((t156.length : Int) - (wrap64 ((l1.length : Int) - ((rd_T33 l2 x9_2).f1))))) : Int).toNat) (l1.drop (((rd_T33 l2 x9_2).f1) : Int).toNat)).bind fun t170 => (if t170 = true then (if 0 ≤ x8_2 then (if x8_2 ≤ ((rd_T33 l2 x9_2).f0) then (if x7_2.length + ((l1.take (((rd_T33 l2 x9_2).f0) : Int).toNat).drop (x8_2 : Int).toNat).length < 17592186044416 then ((some (x7_2 ++ ((l1.take (((rd_T33 l2 x9_2).f0) : Int).toNat).drop (x8_2 : Int).toNat) : List Int)).bind fun y172 => (if ((rd_T33 l2 x9_2).f0) ≤ (wrap64 ((t156.length : Int) - (wrap64 ((l1.length : Int) - ((rd_T33 l2 x9_2).f1))))) then ((some ((t156.take ((wrap64 ((t156.length : Int) - (wrap64 ((l1.length : Int) - ((rd_T33 l2 x9_2).f1))))) : Int).toNat).drop (((rd_T33 l2 x9_2).f0) : Int).toNat : List Int)).bind fun y175 => (if y172.length + y175.length < 17592186044416 then (w37_CasemapParts.l0 k2 l1 l2 (y172 ++ y175) ((rd_T33 l2 x9_2).f1) (wrap64 (x9_2 + 1)) q0 q1 q2 q3 q4 q5) else (none))) else (none))) else (none)) else (none)) else (none)) else (some false))) else (none)) else (none)) else (none)) else (none)) else (some false)) = some r := H
              have A40 := aM A400
              clear A400
              by_cases c41 : t164 = true
              ·subst c41
               have H1 : (if 0 ≤ (wrap64 ((t156.length : Int) - (wrap64 ((l1.length : Int) - ((rd_T33 l2 x9_2).f1))))) then (if (wrap64 ((t156.length : Int) - (wrap64 ((l1.length : Int) - ((rd_T33 l2 x9_2).f1))))) ≤ (t156.length : Int) then (if 0 ≤ ((rd_T33 l2 x9_2).f1) then (if ((rd_T33 l2 x9_2).f1) ≤ (l1.length : Int) then ((r01_Equal.f k2 (t156.drop ((wrap64 ((t156.length : Int) - (wrap64 ((l1.length : Int) - ((rd_T33 l2 x9_2).f1))))) : Int).toNat) (l1.drop (((rd_T33 l2 x9_2).f1) : Int).toNat)).bind fun t170 => (if t170 = true then (if 0 ≤ x8_2 then (if x8_2 ≤ ((rd_T33 l2 x9_2).f0) then (if x7_2.length + ((l1.take (((rd_T33 l2 x9_2).f0) : Int).toNat).drop (x8_2 : Int).toNat).length < 17592186044416 then ((some (x7_2 ++ ((l1.take (((rd_T33 l2 x9_2).f0) : Int).toNat).drop (x8_2 : Int).toNat) : List Int)).bind fun y172 => (if ((rd_T33 l2 x9_2).f0) ≤ (wrap64 ((t156.length : Int) - (wrap64 ((l1.length : Int) - ((rd_T33 l2 x9_2).f1))))) then ((some ((t156.take ((wrap64 ((t156.length : Int) - (wrap64 ((l1.length : Int) - ((rd_T33 l2 x9_2).f1))))) : Int).toNat).drop (((rd_T33 l2 x9_2).f0) : Int).toNat : List Int)).bind fun y175 => (if y172.length + y175.length < 17592186044416 then (w37_CasemapParts.l0 k2 l1 l2 (y172 ++ y175) ((rd_T33 l2 x9_2).f1) (wrap64 (x9_2 + 1)) q0 q1 q2 q3 q4 q5) else (none))) else (none))) else (none)) else (none)) else (none)) else (some false))) else (none)) else (none)) else (none)) else (none)) = some r := by rw [if_pos rfl] at H; exact H
               clear H
               have H := H1
               clear H1
               obtain ⟨ji42, hji42⟩ : ∃ j_ : Int, (wrap64 ((t156.length : Int) - (wrap64 ((l1.length : Int) - ((rd_T33 l2 x9_2).f1))))) = j_ := ⟨_, rfl⟩
               replace H : (if 0 ≤ (ji42) then (if (ji42) ≤ (t156.length : Int) then (if 0 ≤ ((rd_T33 l2 x9_2).f1) then (if ((rd_T33 l2 x9_2).f1) ≤ (l1.length : Int) then ((r01_Equal.f k2 (t156.drop ((ji42) : Int).toNat) (l1.drop (((rd_T33 l2 x9_2).f1) : Int).toNat)).bind fun t170 => (if t170 = true then (if 0 ≤ x8_2 then (if x8_2 ≤ ((rd_T33 l2 x9_2).f0) then (if x7_2.length + ((l1.take (((rd_T33 l2 x9_2).f0) : Int).toNat).drop (x8_2 : Int).toNat).length < 17592186044416 then ((some (x7_2 ++ ((l1.take (((rd_T33 l2 x9_2).f0) : Int).toNat).drop (x8_2 : Int).toNat) : List Int)).bind fun y172 => (if ((rd_T33 l2 x9_2).f0) ≤ (ji42) then ((some ((t156.take ((ji42) : Int).toNat).drop (((rd_T33 l2 x9_2).f0) : Int).toNat : List Int)).bind fun y175 => (if y172.length + y175.length < 17592186044416 then (w37_CasemapParts.l0 k2 l1 l2 (y172 ++ y175) ((rd_T33 l2 x9_2).f1) (wrap64 (x9_2 + 1)) q0 q1 q2 q3 q4 q5) else (none))) else (none))) else (none)) else (none)) else (none)) else (some false))) else (none)) else (none)) else (none)) else (none)) = some r := by first | (rw [hji42] at H; exact H) | (simp only [hji42] at H ⊢; exact H)
               (try rw [hji42] at A24)
               (try rw [hji42] at A40)
               have hji42w : (IntKind.i64.wrap ((t156.length : Int) - (wrap64 ((l1.length : Int) - ((rd_T33 l2 x9_2).f1))))) = ji42 := (i64_w _).trans hji42
               by_cases c43 : 0 ≤ (ji42)
               ·rw [if_pos c43] at H
                have c43b0 := eq_true c43
                have c43b1 : decide (0 ≤ (ji42)) = true := dT c43
                clear c43
                by_cases c44 : (ji42) ≤ (t156.length : Int)
                ·rw [if_pos c44] at H
                 have c44b0 := eq_true c44
                 have c44b1 : decide ((ji42) ≤ (t156.length : Int)) = true := dT c44
                 clear c44
                 obtain ⟨y165, hy165⟩ : ∃ y_ : List Int, y_ = (t156.drop ((ji42) : Int).toNat) := ⟨_, rfl⟩
                 replace H : (if 0 ≤ ((rd_T33 l2 x9_2).f1) then (if ((rd_T33 l2 x9_2).f1) ≤ (l1.length : Int) then ((r01_Equal.f k2 y165 (l1.drop (((rd_T33 l2 x9_2).f1) : Int).toNat)).bind fun t170 => (if t170 = true then (if 0 ≤ x8_2 then (if x8_2 ≤ ((rd_T33 l2 x9_2).f0) then (if x7_2.length + ((l1.take (((rd_T33 l2 x9_2).f0) : Int).toNat).drop (x8_2 : Int).toNat).length < 17592186044416 then ((some (x7_2 ++ ((l1.take (((rd_T33 l2 x9_2).f0) : Int).toNat).drop (x8_2 : Int).toNat) : List Int)).bind fun y172 => (if ((rd_T33 l2 x9_2).f0) ≤ (ji42) then ((some ((t156.take ((ji42) : Int).toNat).drop (((rd_T33 l2 x9_2).f0) : Int).toNat : List Int)).bind fun y175 => (if y172.length + y175.length < 17592186044416 then (w37_CasemapParts.l0 k2 l1 l2 (y172 ++ y175) ((rd_T33 l2 x9_2).f1) (wrap64 (x9_2 + 1)) q0 q1 q2 q3 q4 q5) else (none))) else (none))) else (none)) else (none)) else (none)) else (some false))) else (none)) else (none)) = some r := by first | (rw [hy165]; with_reducible exact H) | (have H2_ := (Option.bind_some _ _).symm.trans H; rw [hy165]; with_reducible exact H2_) | (have H2_ := (Option.bind_some _ _).symm.trans H; with_reducible exact H2_) | with_reducible exact H | (rw [hy165]; exact H) | exact H
                 have Ny165 := aM hy165
                 clear hy165
                 by_cases c45 : 0 ≤ ((rd_T33 l2 x9_2).f1)
                 ·rw [if_pos c45] at H
                  have c45b0 := eq_true c45
                  have c45b1 : decide (0 ≤ ((rd_T33 l2 x9_2).f1)) = true := dT c45
                  clear c45
                  by_cases c46 : ((rd_T33 l2 x9_2).f1) ≤ (l1.length : Int)
                  ·rw [if_pos c46] at H
                   have c46b0 := eq_true c46
                   have c46b1 : decide (((rd_T33 l2 x9_2).f1) ≤ (l1.length : Int)) = true := dT c46
                   clear c46
                   replace H := Option.bind_eq_some_iff.mp H
                   obtain ⟨t170, A470, H⟩ := H
                   replace H : (if t170 = true then (if 0 ≤ x8_2 then (if x8_2 ≤ ((rd_T33 l2 x9_2).f0) then (if x7_2.length + ((l1.take (((rd_T33 l2 x9_2).f0) : Int).toNat).drop (x8_2 : Int).toNat).length < 17592186044416 then ((some (x7_2 ++ ((l1.take (((rd_T33 l2 x9_2).f0) : Int).toNat).drop (x8_2 : Int).toNat) : List Int)).bind fun y172 => (if ((rd_T33 l2 x9_2).f0) ≤ (ji42) then ((some ((t156.take ((ji42) : Int).toNat).drop (((rd_T33 l2 x9_2).f0) : Int).toNat : List Int)).bind fun y175 => (if y172.length + y175.length < 17592186044416 then (w37_CasemapParts.l0 k2 l1 l2 (y172 ++ y175) ((rd_T33 l2 x9_2).f1) (wrap64 (x9_2 + 1)) q0 q1 q2 q3 q4 q5) else (none))) else (none))) else (none)) else (none)) else (none)) else (some false)) = some r := H
                   have A47 := aM A470
                   clear A470
                   by_cases c48 : t170 = true
                   ·subst c48
                    have H1 : (if 0 ≤ x8_2 then (if x8_2 ≤ ((rd_T33 l2 x9_2).f0) then (if x7_2.length + ((l1.take (((rd_T33 l2 x9_2).f0) : Int).toNat).drop (x8_2 : Int).toNat).length < 17592186044416 then ((some (x7_2 ++ ((l1.take (((rd_T33 l2 x9_2).f0) : Int).toNat).drop (x8_2 : Int).toNat) : List Int)).bind fun y172 => (if ((rd_T33 l2 x9_2).f0) ≤ (ji42) then ((some ((t156.take ((ji42) : Int).toNat).drop (((rd_T33 l2 x9_2).f0) : Int).toNat : List Int)).bind fun y175 => (if y172.length + y175.length < 17592186044416 then (w37_CasemapParts.l0 k2 l1 l2 (y172 ++ y175) ((rd_T33 l2 x9_2).f1) (wrap64 (x9_2 + 1)) q0 q1 q2 q3 q4 q5) else (none))) else (none))) else (none)) else (none)) else (none)) = some r := by rw [if_pos rfl] at H; exact H
                    clear H
                    have H := H1
                    clear H1
                    by_cases c49 : 0 ≤ x8_2
                    ·rw [if_pos c49] at H
                     have c49b0 := eq_true c49
                     have c49b1 : decide (0 ≤ x8_2) = true := dT c49
                     clear c49
                     by_cases c50 : x8_2 ≤ ((rd_T33 l2 x9_2).f0)
                     ·rw [if_pos c50] at H
                      have c50b0 := eq_true c50
                      have c50b1 : decide (x8_2 ≤ ((rd_T33 l2 x9_2).f0)) = true := dT c50
                      clear c50
                      have c51b0 := eq_true (oD (by first | (with_reducible assumption) | assumption) : ((rd_T33 l2 x9_2).f0) ≤ (l1.length : Int))
                      by_cases c52 : x7_2.length + ((l1.take (((rd_T33 l2 x9_2).f0) : Int).toNat).drop (x8_2 : Int).toNat).length < 17592186044416
                      ·rw [if_pos c52] at H
                       have LMc52 := aM c52
                       clear c52
                       obtain ⟨y172, hy172⟩ : ∃ y_ : List Int, y_ = (x7_2 ++ ((l1.take (((rd_T33 l2 x9_2).f0) : Int).toNat).drop (x8_2 : Int).toNat)) := ⟨_, rfl⟩
                       replace H : (if ((rd_T33 l2 x9_2).f0) ≤ (ji42) then ((some ((t156.take ((ji42) : Int).toNat).drop (((rd_T33 l2 x9_2).f0) : Int).toNat : List Int)).bind fun y175 => (if y172.length + y175.length < 17592186044416 then (w37_CasemapParts.l0 k2 l1 l2 (y172 ++ y175) ((rd_T33 l2 x9_2).f1) (wrap64 (x9_2 + 1)) q0 q1 q2 q3 q4 q5) else (none))) else (none)) = some r := by first | (rw [hy172]; with_reducible exact H) | (have H2_ := (Option.bind_some _ _).symm.trans H; rw [hy172]; with_reducible exact H2_) | (have H2_ := (Option.bind_some _ _).symm.trans H; with_reducible exact H2_) | with_reducible exact H | (rw [hy172]; exact H) | exact H
                       have Ny172 := aM hy172
                       clear hy172
                       have c53b0 := eq_true (oD (by first | (with_reducible assumption) | assumption) : 0 ≤ ((rd_T33 l2 x9_2).f0))
                       by_cases c54 : ((rd_T33 l2 x9_2).f0) ≤ (ji42)
                       ·rw [if_pos c54] at H
                        have c54b0 := eq_true c54
                        have c54b1 : decide (((rd_T33 l2 x9_2).f0) ≤ (ji42)) = true := dT c54
                        clear c54
                        have c55b0 := eq_true (oD (by first | (with_reducible assumption) | assumption) : (ji42) ≤ (t156.length : Int))
                        obtain ⟨y175, hy175⟩ : ∃ y_ : List Int, y_ = ((t156.take ((ji42) : Int).toNat).drop (((rd_T33 l2 x9_2).f0) : Int).toNat) := ⟨_, rfl⟩
                        replace H : (if y172.length + y175.length < 17592186044416 then (w37_CasemapParts.l0 k2 l1 l2 (y172 ++ y175) ((rd_T33 l2 x9_2).f1) (wrap64 (x9_2 + 1)) q0 q1 q2 q3 q4 q5) else (none)) = some r := by first | (rw [hy175]; with_reducible exact H) | (have H2_ := (Option.bind_some _ _).symm.trans H; rw [hy175]; with_reducible exact H2_) | (have H2_ := (Option.bind_some _ _).symm.trans H; with_reducible exact H2_) | with_reducible exact H | (rw [hy175]; exact H) | exact H
                        have Ny175 := aM hy175
                        clear hy175
                        by_cases c56 : y172.length + y175.length < 17592186044416
                        ·rw [if_pos c56] at H
                         have LMc56 := aM c56
                         clear c56
                         obtain ⟨y179, hy179⟩ : ∃ y_ : List Int, y_ = (y172 ++ y175) := ⟨_, rfl⟩
                         replace H : (w37_CasemapParts.l0 k2 l1 l2 y179 ((rd_T33 l2 x9_2).f1) (wrap64 (x9_2 + 1)) q0 q1 q2 q3 q4 q5) = some r := by first | (rw [hy179]; with_reducible exact H) | (have H2_ := (Option.bind_some _ _).symm.trans H; rw [hy179]; with_reducible exact H2_) | (have H2_ := (Option.bind_some _ _).symm.trans H; with_reducible exact H2_) | with_reducible exact H | (rw [hy179]; exact H) | exact H
                         have Ny179 := aM hy179
                         clear hy179
                         have H' := aM H
                         clear H
                         have p150 : 0 ≤ (x9_2 : Int) := oD (by first | (with_reducible assumption) | assumption)
                         have q150 : x9_2 < (l2.length : Int) := oD (by first | (with_reducible assumption) | assumption)
                         obtain ⟨ad150, e150, hx150_0, hx150_1⟩ := at_T33 HR2.1 x9_2 p150 q150
                         cases e150
                         replace hx150_0 := (HB.1.cell (World.block_lt_of_cell? w _ hx150_0)).trans hx150_0
                         replace hx150_1 := (HB.1.cell (World.block_lt_of_cell? w _ hx150_1)).trans hx150_1
                         replace p150 := eq_true p150
                         replace q150 := eq_true q150
                         try go_wp2_with (first | ((with_reducible refine gate_dst (N := 10) rfl ?_); (try (refine gate_guard (by rfl) ?_; dsimp only)); refine box_event ?hg (N := 10) ?hd (cs := #[.int .i64 0, .int .i64 0]) (t := 33) ?hr ?_; (case hd => rfl); (case hg => rfl); (case hr => first | (go_simp; done) | (go_simp; rfl)); intro gb151 hg w57 hbox hb; have n0_ := aM (Kd.R_below (by (with_reducible repeat first | apply rA2 | apply rN2 | apply rD2); exact HO_7.1) hb); have n1_ := aM (blk_below (g := gb137) (o := .cells #[.slice P0 q0.length n0, .slice P1 q1.length n1, .slice P2 q2.length n2, .slice P3 q3.length n3, .slice P4 q4.length n4, .slice P5 q5.length n5] 27 (0, 0)) (by (with_reducible repeat (first | refine bkN ?_ _ | refine bkD ?_ | refine bkA ?_ _)); exact BK137.1) hb); have n2_ := aM (bSp (by repeat (first | (with_reducible first | exact HB.1 | apply bAl | apply pbN | apply bD1 | refine bSt ?_ GE137.1) | exact HB.1)) hb); have n3_ := aM (hbox); have n4_ := aM ((by rw [hg]; exact (bSz (by repeat (first | (with_reducible first | exact HB.1 | apply bAl | apply pbN | apply bD1 | refine bSt ?_ GE137.1) | exact HB.1))) : w.heap.size ≤ gb151)); have n5_ := aM ((by rw [hg]; exact (bSz (by repeat (first | (with_reducible first | exact HB.1 | apply bAl | apply pbN | apply bD1 | refine bSt ?_ GE137.1) | exact HB.1))) : w.heap.size ≤ gb151)); have n6_ := aM ((by rw [hg]; exact Nat.ne_of_lt (blk_lt (g := gb137) (o := .cells #[.slice P0 q0.length n0, .slice P1 q1.length n1, .slice P2 q2.length n2, .slice P3 q3.length n3, .slice P4 q4.length n4, .slice P5 q5.length n5] 27 (0, 0)) (by (with_reducible repeat (first | refine bkN ?_ _ | refine bkD ?_ | refine bkA ?_ _)); exact BK137.1)) : gb137 ≠ gb151)); have n7_ := aM ((by rw [hg]; exact Nat.ne_of_gt (blk_lt (g := gb137) (o := .cells #[.slice P0 q0.length n0, .slice P1 q1.length n1, .slice P2 q2.length n2, .slice P3 q3.length n3, .slice P4 q4.length n4, .slice P5 q5.length n5] 27 (0, 0)) (by (with_reducible repeat (first | refine bkN ?_ _ | refine bkD ?_ | refine bkA ?_ _)); exact BK137.1)) : gb151 ≠ gb137)); clear HO_7; clear BK137; clear HB; have HO_7 := n0_; have BK137 := n1_; have HB := n2_; have BK151 := n3_; have GW151 := n4_; have GE151 := n5_; have NB137_151 := n6_; have NB151_137 := n7_; clear n0_ n1_ n2_ n3_ n4_ n5_ n6_ n7_; clear hb hbox hg; have hnb58 := NB151_137.1; have hnc58 := NB137_151.1; have hcz59_0 : w57.cell? ⟨gb151, 0, none⟩ = some (.int .i64 0) := (bkC BK151.1 0).trans rfl; have hcz59_1 : w57.cell? ⟨gb151, 1, none⟩ = some (.int .i64 0) := (bkC BK151.1 1).trans rfl; have hfz59_0 := bkF BK151.1 0; have hfz59_1 := bkF BK151.1 1))
                         have n0_ : Aside0 (Kd.R (Kd.int .i64) 3 ((w57.setCell ⟨gb151, 0, none⟩ (.int .i64 ((rd_T33 l2 x9_2).f0))).setCell ⟨gb151, 1, none⟩ (.int .i64 ((rd_T33 l2 x9_2).f1))) w.heap.size (fun _ => True) u7 x7_2) := ⟨by (with_reducible repeat first | apply rA2 | apply rN2 | apply rD2); exact Kd.R_mono (Kd.R_far (p := ⟨gb151, 1, none⟩) (Kd.R_far (p := ⟨gb151, 0, none⟩) (Kd.R_types HO_7.1 BK151.1 (by decide)) (fun _ hk => hk.2) (.int .i64 ((rd_T33 l2 x9_2).f0))) (fun _ hk => hk.2) (.int .i64 ((rd_T33 l2 x9_2).f1))) (fun _ hk => trivial)⟩
                         have n1_ : Aside0 (((w57.setCell ⟨gb151, 0, none⟩ (.int .i64 ((rd_T33 l2 x9_2).f0))).setCell ⟨gb151, 1, none⟩ (.int .i64 ((rd_T33 l2 x9_2).f1))).heap[gb137]? = some (.cells #[.slice P0 q0.length n0, .slice P1 q1.length n1, .slice P2 q2.length n2, .slice P3 q3.length n3, .slice P4 q4.length n4, .slice P5 q5.length n5] 27 (0, 0))) := ⟨by (with_reducible repeat (first | refine bkN ?_ _ | refine bkD ?_ | refine bkA ?_ _)); refine blk_far ?_ NB137_151.1 _; (with_reducible repeat (first | refine bkN ?_ _ | refine bkD ?_ | refine bkA ?_ _)); refine blk_far ?_ NB137_151.1 _; (with_reducible repeat (first | refine bkN ?_ _ | refine bkD ?_ | refine bkA ?_ _)); exact BK137.1⟩
                         have n2_ : Aside0 (((w57.setCell ⟨gb151, 0, none⟩ (.int .i64 ((rd_T33 l2 x9_2).f0))).setCell ⟨gb151, 1, none⟩ (.int .i64 ((rd_T33 l2 x9_2).f1))).heap[gb151]? = some (.cells #[.int .i64 ((rd_T33 l2 x9_2).f0), .int .i64 ((rd_T33 l2 x9_2).f1)] 33 (0, 0))) := ⟨by (with_reducible repeat (first | refine bkN ?_ _ | refine bkD ?_ | refine bkA ?_ _)); refine blk_put (cs := #[.int .i64 ((rd_T33 l2 x9_2).f0), .int .i64 0]) ?_ 1 _ rfl; (with_reducible repeat (first | refine bkN ?_ _ | refine bkD ?_ | refine bkA ?_ _)); refine blk_put (cs := #[.int .i64 0, .int .i64 0]) ?_ 0 _ rfl; (with_reducible repeat (first | refine bkN ?_ _ | refine bkD ?_ | refine bkA ?_ _)); exact BK151.1⟩
                         have n3_ : Aside0 (Below w.heap.size w ((w57.setCell ⟨gb151, 0, none⟩ (.int .i64 ((rd_T33 l2 x9_2).f0))).setCell ⟨gb151, 1, none⟩ (.int .i64 ((rd_T33 l2 x9_2).f1)))) := ⟨by repeat (first | (with_reducible first | exact HB.1 | apply bAl | apply pbN | apply bD1 | refine bSt ?_ GE137.1 | refine bSt ?_ GE151.1) | exact HB.1)⟩
                         (try clear HO_7)
                         (try clear BK137)
                         (try clear BK151)
                         (try clear HB)
                         generalize ((w57.setCell ⟨gb151, 0, none⟩ (.int .i64 ((rd_T33 l2 x9_2).f0))).setCell ⟨gb151, 1, none⟩ (.int .i64 ((rd_T33 l2 x9_2).f1))) = w60 at n0_ n1_ n2_ n3_ ⊢
                         have HO_7 := n0_
                         have BK137 := n1_
                         have BK151 := n2_
                         have HB := n3_
                         clear n0_ n1_ n2_ n3_
                         have n0_ := aM (Kd.R_drew HO_7.1)
                         have n1_ := aM (bkD BK137.1)
                         have n2_ := aM (bkD BK151.1)
                         have n3_ := aM (bD1 HB.1)
                         clear HO_7
                         clear BK137
                         clear BK151
                         clear HB
                         have HO_7 := n0_
                         have BK137 := n1_
                         have BK151 := n2_
                         have HB := n3_
                         clear n0_ n1_ n2_ n3_
                         have q62 : ((wrap64 (x9_2 + 1)) : Int) ≤ ((l2.length : Int) : Int) := oD (by first | (with_reducible assumption) | assumption)
                         obtain ⟨i062, hi062, _, hsz62, _⟩ := info_parts info33
                         have hroom62 : l2.length ≤ c2 := HC2.1
                         have hC62 : Kd.C k33 _ (some ad150) l2.length l2 := HR2.1
                         have ql62 : (x9_2 : Int) ≤ ((wrap64 (x9_2 + 1)) : Int) := oD (by first | (with_reducible assumption) | assumption)
                         have q062 : (0 : Int) ≤ (x9_2 : Int) := oD (by first | (with_reducible assumption) | assumption)
                         have hcut62 := cut_mid (P := Try.prog) 23 33 .i64 .i64 Try.underlying23 hi062 2 hsz62 (some ad150) l2.length c2 x9_2 (wrap64 (x9_2 + 1)) q062 ql62 q62 hroom62
                         have hr62 := Kd.C_mid (lo := (x9_2 : Int).toNat) (hi := ((wrap64 (x9_2 + 1)) : Int).toNat) (c := c2) hC62 (by omega) (by omega) hroom62
                         obtain ⟨A62, hA62⟩ : ∃ A1, A1 = (if c2 = (x9_2 : Int).toNat then (some ad150) else ((some ad150) : Option Addr).map (·.add ((x9_2 : Int).toNat * 2))) := ⟨_, rfl⟩
                         obtain ⟨c62, hc62⟩ : ∃ c1, c1 = c2 - (x9_2 : Int).toNat := ⟨_, rfl⟩
                         have hy62 : y152.length = ((wrap64 (x9_2 + 1)) : Int).toNat - (x9_2 : Int).toNat := (by rw [Ny152.1, List.length_drop, List.length_take] <;> omega)
                         rw [show ((l2).take ((wrap64 (x9_2 + 1)) : Int).toNat).drop (x9_2 : Int).toNat = y152 from Ny152.1.symm] at hr62
                         replace hr62 : Kd.C k33 _ A62 y152.length y152 := (by rw [hA62]; exact hr62)
                         rw [← hy62, ← hA62, ← hc62] at hcut62
                         have HR155 := aM hr62
                         have HC155 := aM (show y152.length ≤ c62 from by rw [hy62, hc62]; exact Nat.sub_le_sub_right (Nat.le_trans (by omega) hroom62) _)
                         clear hr62 hC62 hroom62 hi062 hsz62 hc62
                         have KY62 := aM hy62
                         have KA62 := aM hA62
                         clear hy62 hA62
                         replace q62 := eq_true q62
                         refine start_ (n := 9) (S := fun w' => w'.cell? ⟨gb137, 0, none⟩ = some (.slice P0 q0.length n0) ∧ w'.cell? ⟨gb137, 1, none⟩ = some (.slice P1 q1.length n1) ∧ w'.cell? ⟨gb137, 2, none⟩ = some (.slice P2 q2.length n2) ∧ w'.cell? ⟨gb137, 3, none⟩ = some (.slice P3 q3.length n3) ∧ w'.cell? ⟨gb137, 4, none⟩ = some (.slice P4 q4.length n4) ∧ w'.cell? ⟨gb137, 5, none⟩ = some (.slice P5 q5.length n5)) (ds := []) #[false, false, false, false, false, false, false, false, false] (by kernel_rfl) rfl rfl (bk62 BK137.1) (fun hHeld => ?_); refine with_tabW w37_CasemapParts.tab9 w37_CasemapParts.bits9 (fun HT_ HW_ => ?_)
                         generalize w60.drew = w61 at HO_7 BK137 BK151 HB HR155 hHeld ⊢
                         refine pure_ (i := 1) (N := some 41) (v := ?_) (a' := ?_) #[false, true, false, false, false, false, false, false, false] rfl rfl (any_of HT_.1 (by kernel_rfl)) (fun _ _ _ h => h) (Or.inl ⟨by rfl, ?_⟩) ?_ ?_
                         rotate_left
                         ·intro w'
                          go_simp
                          with_reducible rfl
                         rotate_left
                         ·simp only [Act.put, sI, sZ, sS, i64_w, i32_w]
                          rfl
                         refine pure_ (i := 2) (N := some 42) (v := ?_) (a' := ?_) #[false, true, true, false, false, false, false, false, false] rfl rfl (any_of HT_.1 (by kernel_rfl)) (fun _ _ _ h => h) (Or.inl ⟨by rfl, ?_⟩) ?_ ?_
                         rotate_left
                         ·intro w'
                          go_simp
                          with_reducible rfl
                         rotate_left
                         ·simp only [Act.put, sI, sZ, sS, i64_w, i32_w]
                          rfl
                         refine pure_ (i := 3) (N := some 43) (v := ?_) (a' := ?_) #[false, true, true, true, false, false, false, false, false] rfl rfl (any_of HT_.1 (by kernel_rfl)) (fun _ _ _ h => h) (Or.inl ⟨by rfl, ?_⟩) ?_ ?_
                         rotate_left
                         ·intro w'
                          go_simp
                          with_reducible rfl
                         rotate_left
                         ·simp only [Act.put, sI, sZ, sS, i64_w, i32_w]
                          rfl
                         refine pure_ (i := 4) (N := some 44) (v := ?_) (a' := ?_) #[false, true, true, true, true, false, false, false, false] rfl rfl (any_of HT_.1 (by kernel_rfl)) (fun _ _ _ h => h) (Or.inl ⟨by rfl, ?_⟩) ?_ ?_
                         rotate_left
                         ·intro w'
                          go_simp
                          with_reducible rfl
                         rotate_left
                         ·simp only [Act.put, sI, sZ, sS, i64_w, i32_w]
                          rfl
                         refine pure_ (i := 5) (N := some 45) (v := ?_) (a' := ?_) #[false, true, true, true, true, true, false, false, false] rfl rfl (any_of HT_.1 (by kernel_rfl)) (fun _ _ _ h => h) (Or.inl ⟨by rfl, ?_⟩) ?_ ?_
                         rotate_left
                         ·intro w'
                          go_simp
                          with_reducible rfl
                         rotate_left
                         ·simp only [Act.put, sI, sZ, sS, i64_w, i32_w]
                          rfl
                         refine pure_ (i := 6) (N := some 46) (v := ?_) (a' := ?_) #[false, true, true, true, true, true, true, false, false] rfl rfl (any_of HT_.1 (by kernel_rfl)) (fun _ _ _ h => h) (Or.inl ⟨by rfl, ?_⟩) ?_ ?_
                         rotate_left
                         ·intro w'
                          go_simp
                          with_reducible rfl
                         rotate_left
                         ·simp only [Act.put, sI, sZ, sS, i64_w, i32_w]
                          rfl
                         refine take_ (i := 0) (N := some 40) (v := ?_) (a' := ?_) #[true, true, true, true, true, true, true, false, false] rfl rfl (take_ofW HT_.1 HW_.1 (by kernel_rfl)) (fun _ _ _ h => h) (Or.inl ⟨by rfl, ?_⟩) hHeld ?_ ?_
                         rotate_left
                         ·rintro w' ⟨s0, s1, s2, s3, s4, s5⟩
                          go_simp
                          with_reducible rfl
                         rotate_left
                         ·simp only [Act.put, sI, sZ, sS, i64_w, i32_w]
                          rfl
                         refine one_ (i := 7) (N := some 47) #[true, true, true, true, true, true, true, true, false] rfl rfl (one_of HT_.1 (by kernel_rfl)) (by decide) (fun K hK => ?_)
                         refine goes_ Try.func15 (by kernel_rfl) rfl #[.agg #[.slice P0 q0.length n0, .slice P1 q1.length n1, .slice P2 q2.length n2, .slice P3 q3.length n3, .slice P4 q4.length n4, .slice P5 q5.length n5], .slice A1 l1.length c1, .slice A62 y152.length c62] (by rfl) rfl rfl (by (try simp only [List.map_toArray, List.map_cons, List.map_nil]); first | done | rfl | (simp only [List.length_drop, List.length_take]; rfl)) ?_
                         with_reducible refine (casemap_Title.calls _ _ q0 _ _ q1 _ _ q2 _ _ q3 _ _ q4 _ _ q5 _ _ l1 _ _ y152 t156 _ ?z1 ?z2 ?z3 ?z4 ?z5 ?z6 ?z7 ?z8 ?z9 ?z10 ?z11 ?z12 ?z13 ?z14 ?z15 ?z16 A24.1).mono ?_
                         (case z1 => repeat (first | exact cB2 R0.1 HB.1 | with_reducible first | refine cA2 ?_ _ | refine cN2 ?_ _ | refine cD2 ?_))
                         (case z2 => exact N0.1)
                         (case z3 => repeat (first | exact cB2 R1.1 HB.1 | with_reducible first | refine cA2 ?_ _ | refine cN2 ?_ _ | refine cD2 ?_))
                         (case z4 => exact N1.1)
                         (case z5 => repeat (first | exact cB2 R2.1 HB.1 | with_reducible first | refine cA2 ?_ _ | refine cN2 ?_ _ | refine cD2 ?_))
                         (case z6 => exact N2.1)
                         (case z7 => repeat (first | exact cB2 R3.1 HB.1 | with_reducible first | refine cA2 ?_ _ | refine cN2 ?_ _ | refine cD2 ?_))
                         (case z8 => exact N3.1)
                         (case z9 => repeat (first | exact cB2 R4.1 HB.1 | with_reducible first | refine cA2 ?_ _ | refine cN2 ?_ _ | refine cD2 ?_))
                         (case z10 => exact N4.1)
                         (case z11 => repeat (first | exact cB2 R5.1 HB.1 | with_reducible first | refine cA2 ?_ _ | refine cN2 ?_ _ | refine cD2 ?_))
                         (case z12 => exact N5.1)
                         (case z13 => repeat (first | exact cB2 HR1.1 HB.1 | with_reducible first | refine cA2 ?_ _ | refine cN2 ?_ _ | refine cD2 ?_))
                         (case z14 => exact HC1.1)
                         (case z15 => repeat (first | exact cB2 HR155.1 HB.1 | with_reducible first | refine cA2 ?_ _ | refine cN2 ?_ _ | refine cD2 ?_))
                         (case z16 => exact HC155.1)
                         rintro e w63 ⟨v157, rfl, ho0, hb⟩
                         refine ⟨_, rfl, ?_⟩
                         have n0_ := aM (Kd.R_elder' (by (with_reducible repeat first | apply rA2 | apply rN2 | apply rD2); exact HO_7.1) (Kd.R_base ho0) hb)
                         have n1_ := aM (Kd.R_lower (Kd.R_new' ho0 (Kd.R_lt (by (with_reducible repeat first | apply rA2 | apply rN2 | apply rD2); exact HO_7.1))) (bSz (by repeat (first | (with_reducible first | exact HB.1 | apply bAl | apply pbN | apply bD1 | refine bSt ?_ GE137.1 | refine bSt ?_ GE151.1) | exact HB.1))))
                         have n2_ := aM (blk_below (g := gb137) (o := .cells #[.slice P0 q0.length n0, .slice P1 q1.length n1, .slice P2 q2.length n2, .slice P3 q3.length n3, .slice P4 q4.length n4, .slice P5 q5.length n5] 27 (0, 0)) (by (with_reducible repeat (first | refine bkN ?_ _ | refine bkD ?_ | refine bkA ?_ _)); exact BK137.1) hb)
                         have n3_ := aM (blk_below (g := gb151) (o := .cells #[.int .i64 ((rd_T33 l2 x9_2).f0), .int .i64 ((rd_T33 l2 x9_2).f1)] 33 (0, 0)) (by (with_reducible repeat (first | refine bkN ?_ _ | refine bkD ?_ | refine bkA ?_ _)); exact BK151.1) hb)
                         have n4_ := aM (bSp (by repeat (first | (with_reducible first | exact HB.1 | apply bAl | apply pbN | apply bD1 | refine bSt ?_ GE137.1 | refine bSt ?_ GE151.1) | exact HB.1)) hb)
                         clear HO_7
                         clear BK137
                         clear BK151
                         clear HB
                         have HO_7 := n0_
                         have HO158 := n1_
                         have BK137 := n2_
                         have BK151 := n3_
                         have HB := n4_
                         clear n0_ n1_ n2_ n3_ n4_
                         (try clear hb)
                         (try clear hb2)
                         (try clear hk)
                         (try clear hi)
                         (try clear ho0)
                         refine hK.out _ _ (bk62 BK137.1) (fun hHeld => ?_)
                         clear hK K
                         refine norm_ (a' := ?_) ?_ ?_
                         rotate_left
                         ·show Act.put _ (some 47) _ = _
                          simp only [Act.put, sI, sZ, sS, i64_w, i32_w]
                          rfl
                         refine pure_ (i := 8) (N := some 11) (v := ?_) (a' := ?_) #[true, true, true, true, true, true, true, true, true] rfl rfl (any_of HT_.1 (by kernel_rfl)) (fun _ _ _ h => h) (Or.inl ⟨by rfl, ?_⟩) ?_ ?_
                         rotate_left
                         ·intro w'
                          go_simp
                          with_reducible rfl
                         rotate_left
                         ·simp only [Act.put, sI, sZ, sS, i64_w, i32_w]
                          rfl
                         refine done_ (done_of HT_.1 (by kernel_rfl)) ?_
                         have hcz64_0 : w63.cell? ⟨gb151, 0, none⟩ = some (.int .i64 ((rd_T33 l2 x9_2).f0)) := (bkC BK151.1 0).trans rfl
                         have hcz64_1 : w63.cell? ⟨gb151, 1, none⟩ = some (.int .i64 ((rd_T33 l2 x9_2).f1)) := (bkC BK151.1 1).trans rfl
                         have hfz64_0 := bkF BK151.1 0
                         have hfz64_1 := bkF BK151.1 1
                         try go_wp2
                         have n0_ := aM (Kd.R_drew HO_7.1)
                         have n1_ := aM (Kd.R_drew HO158.1)
                         have n2_ := aM (bkD BK137.1)
                         have n3_ := aM (bkD BK151.1)
                         have n4_ := aM (bD1 HB.1)
                         clear HO_7
                         clear HO158
                         clear BK137
                         clear BK151
                         clear HB
                         have HO_7 := n0_
                         have HO158 := n1_
                         have BK137 := n2_
                         have BK151 := n3_
                         have HB := n4_
                         clear n0_ n1_ n2_ n3_ n4_
                         obtain ⟨Ao66, co66, eo66⟩ := Kd.R_slice HO158.1
                         (first | subst eo66 | (injection eo66 with f1_ f2_ f3_; have f4_ := f1_.symm; have f5_ := f3_.symm; clear f1_ f2_ f3_; subst f4_; subst f5_))
                         have q67 : (((rd_T33 l2 x9_2).f0) : Int) ≤ ((t156.length : Int) : Int) := oD (by first | (with_reducible assumption) | assumption)
                         obtain ⟨i067, hi067, _, hsz67, _⟩ := info_parts info3
                         have hroom67 : t156.length ≤ co66 := (Kd.R_reads' HO158.1).2.1
                         have hC67 : Kd.C (Kd.int .i64) _ Ao66 t156.length t156 := (Kd.R_reads' HO158.1).2.2
                         have hcut67 := cut_to (P := Try.prog) 28 3 .i64 Try.underlying28 hi067 Ao66 t156.length co66 ((rd_T33 l2 x9_2).f0) (oD (by first | (with_reducible assumption) | assumption)) q67 hroom67
                         have hr67 := Kd.C_take (m := (((rd_T33 l2 x9_2).f0) : Int).toNat) hC67 (by omega)
                         have hy67 : y159.length = (((rd_T33 l2 x9_2).f0) : Int).toNat := (by rw [Ny159.1, List.length_take]; omega)
                         rw [← Ny159.1] at hr67
                         rw [← hy67] at hcut67
                         have HR162 := aM hr67
                         have HC162 := aM (show y159.length ≤ co66 from by omega)
                         clear hr67 hC67 hroom67 hi067 hsz67
                         have KY67 := aM hy67
                         clear hy67
                         have KL67 := aM (show (((rd_T33 l2 x9_2).f0) : Int).toNat ≤ t156.length from by omega)
                         replace q67 := eq_true q67
                         obtain ⟨i068, hi068, _, hsz68, _⟩ := info_parts info3
                         obtain ⟨hcut68, hA68, hC68⟩ := print_take_of (P := Try.prog) (Value.int .i64) 0 28 3 .i64 Try.underlying28 hi068 hsz68 A1 c1 l1 ((rd_T33 l2 x9_2).f0) (oD (by first | (with_reducible assumption) | assumption)) (oD (by first | (with_reducible assumption) | assumption)) HC1.1
                         have HR163 := aM (Kd.C_of_reads (h1 := fun _ => rfl) (hA68 _ (Kd.reads_of_C HR1.1)))
                         have HC163 := aM hC68
                         clear hA68 hC68 hi068 hsz68
                         refine start_ (n := 33) (S := fun w' => w'.cell? ⟨gb151, 0, none⟩ = some (.int .i64 ((rd_T33 l2 x9_2).f0)) ∧ w'.cell? ⟨gb151, 1, none⟩ = some (.int .i64 ((rd_T33 l2 x9_2).f1))) (ds := []) #[false, false, false, false, false, false, false, false, false, false, false, false, false, false, false, false, false, false, false, false, false, false, false, false, false, false, false, false, false, false, false, false, false] (by kernel_rfl) rfl rfl ⟨(bkC BK151.1 0).trans rfl, (bkC BK151.1 1).trans rfl⟩ (fun hHeld => ?_); refine with_tabW w37_CasemapParts.tab11 w37_CasemapParts.bits11 (fun HT_ HW_ => ?_)
                         generalize w63.drew = w65 at HO_7 HO158 BK137 BK151 HB HR162 HR163 hHeld ⊢
                         refine pure_ (i := 0) (N := some 53) (v := ?_) (a' := ?_) #[true, false, false, false, false, false, false, false, false, false, false, false, false, false, false, false, false, false, false, false, false, false, false, false, false, false, false, false, false, false, false, false, false] rfl rfl (any_of HT_.1 (by kernel_rfl)) (fun _ _ _ h => h) (Or.inl ⟨by rfl, ?_⟩) ?_ ?_
                         rotate_left
                         ·intro w'
                          go_simp
                          with_reducible rfl
                         rotate_left
                         ·simp only [Act.put, sI, sZ, sS, i64_w, i32_w]
                          rfl
                         refine pure_ (i := 1) (N := some 54) (v := ?_) (a' := ?_) #[true, true, false, false, false, false, false, false, false, false, false, false, false, false, false, false, false, false, false, false, false, false, false, false, false, false, false, false, false, false, false, false, false] rfl rfl (any_of HT_.1 (by kernel_rfl)) (fun _ _ _ h => h) (Or.inl ⟨by rfl, ?_⟩) ?_ ?_
                         rotate_left
                         ·intro w'
                          go_simp
                          with_reducible rfl
                         rotate_left
                         ·simp only [Act.put, sI, sZ, sS, i64_w, i32_w]
                          rfl
                         refine pure_ (i := 2) (N := some 55) (v := ?_) (a' := ?_) #[true, true, true, false, false, false, false, false, false, false, false, false, false, false, false, false, false, false, false, false, false, false, false, false, false, false, false, false, false, false, false, false, false] rfl rfl (any_of HT_.1 (by kernel_rfl)) (fun _ _ _ h => h) (Or.inl ⟨by rfl, ?_⟩) ?_ ?_
                         rotate_left
                         ·intro w'
                          go_simp
                          with_reducible rfl
                         rotate_left
                         ·simp only [Act.put, sI, sZ, sS, i64_w, i32_w]
                          rfl
                         refine pure_ (i := 4) (N := some 57) (v := ?_) (a' := ?_) #[true, true, true, false, true, false, false, false, false, false, false, false, false, false, false, false, false, false, false, false, false, false, false, false, false, false, false, false, false, false, false, false, false] rfl rfl (any_of HT_.1 (by kernel_rfl)) (fun _ _ _ h => h) (Or.inl ⟨by rfl, ?_⟩) ?_ ?_
                         rotate_left
                         ·intro w'
                          go_simp
                          with_reducible rfl
                         rotate_left
                         ·simp only [Act.put, sI, sZ, sS, i64_w, i32_w]
                          rfl
                         refine take_ (i := 3) (N := some 56) (v := ?_) (a' := ?_) #[true, true, true, true, true, false, false, false, false, false, false, false, false, false, false, false, false, false, false, false, false, false, false, false, false, false, false, false, false, false, false, false, false] rfl rfl (take_ofW HT_.1 HW_.1 (by kernel_rfl)) (fun _ _ _ h => h) (Or.inl ⟨by rfl, ?_⟩) hHeld ?_ ?_
                         rotate_left
                         ·rintro w' ⟨s0, s1⟩
                          go_simp
                          with_reducible rfl
                         rotate_left
                         ·simp only [Act.put, sI, sZ, sS, i64_w, i32_w]
                          rfl
                         refine pure_ (i := 5) (N := some 58) (v := ?_) (a' := ?_) #[true, true, true, true, true, true, false, false, false, false, false, false, false, false, false, false, false, false, false, false, false, false, false, false, false, false, false, false, false, false, false, false, false] rfl rfl (any_of HT_.1 (by kernel_rfl)) (fun _ _ _ h => h) (Or.inl ⟨by rfl, ?_⟩) ?_ ?_
                         rotate_left
                         ·intro w'
                          go_simp
                          with_reducible rfl
                         rotate_left
                         ·simp only [Act.put, sI, sZ, sS, i64_w, i32_w]
                          rfl
                         refine pure_ (i := 6) (N := some 59) (v := ?_) (a' := ?_) #[true, true, true, true, true, true, true, false, false, false, false, false, false, false, false, false, false, false, false, false, false, false, false, false, false, false, false, false, false, false, false, false, false] rfl rfl (any_of HT_.1 (by kernel_rfl)) (fun _ _ _ h => h) (Or.inl ⟨by rfl, ?_⟩) ?_ ?_
                         rotate_left
                         ·intro w'
                          go_simp
                          with_reducible rfl
                         rotate_left
                         ·simp only [Act.put, sI, sZ, sS, i64_w, i32_w]
                          rfl
                         refine pure_ (i := 7) (N := some 60) (v := ?_) (a' := ?_) #[true, true, true, true, true, true, true, true, false, false, false, false, false, false, false, false, false, false, false, false, false, false, false, false, false, false, false, false, false, false, false, false, false] rfl rfl (any_of HT_.1 (by kernel_rfl)) (fun _ _ _ h => h) (Or.inl ⟨by rfl, ?_⟩) ?_ ?_
                         rotate_left
                         ·intro w'
                          go_simp
                          with_reducible rfl
                         rotate_left
                         ·simp only [Act.put, sI, sZ, sS, i64_w, i32_w]
                          rfl
                         refine pure_ (i := 8) (N := some 61) (v := ?_) (a' := ?_) #[true, true, true, true, true, true, true, true, true, false, false, false, false, false, false, false, false, false, false, false, false, false, false, false, false, false, false, false, false, false, false, false, false] rfl rfl (any_of HT_.1 (by kernel_rfl)) (fun _ _ _ h => h) (Or.inl ⟨by rfl, ?_⟩) ?_ ?_
                         rotate_left
                         ·intro w'
                          go_simp
                          with_reducible rfl
                         rotate_left
                         ·simp only [Act.put, sI, sZ, sS, i64_w, i32_w]
                          rfl
                         refine pure_ (i := 9) (N := some 62) (v := ?_) (a' := ?_) #[true, true, true, true, true, true, true, true, true, true, false, false, false, false, false, false, false, false, false, false, false, false, false, false, false, false, false, false, false, false, false, false, false] rfl rfl (any_of HT_.1 (by kernel_rfl)) (fun _ _ _ h => h) (Or.inl ⟨by rfl, ?_⟩) ?_ ?_
                         rotate_left
                         ·intro w'
                          go_simp
                          with_reducible rfl
                         rotate_left
                         ·simp only [Act.put, sI, sZ, sS, i64_w, i32_w]
                          rfl
                         refine pure_ (i := 12) (N := some 65) (v := ?_) (a' := ?_) #[true, true, true, true, true, true, true, true, true, true, false, false, true, false, false, false, false, false, false, false, false, false, false, false, false, false, false, false, false, false, false, false, false] rfl rfl (any_of HT_.1 (by kernel_rfl)) (fun _ _ _ h => h) (Or.inl ⟨by rfl, ?_⟩) ?_ ?_
                         rotate_left
                         ·intro w'
                          go_simp
                          with_reducible rfl
                         rotate_left
                         ·simp only [Act.put, sI, sZ, sS, i64_w, i32_w]
                          rfl
                         refine pure_ (i := 13) (N := some 66) (v := ?_) (a' := ?_) #[true, true, true, true, true, true, true, true, true, true, false, false, true, true, false, false, false, false, false, false, false, false, false, false, false, false, false, false, false, false, false, false, false] rfl rfl (any_of HT_.1 (by kernel_rfl)) (fun _ _ _ h => h) (Or.inl ⟨by rfl, ?_⟩) ?_ ?_
                         rotate_left
                         ·intro w'
                          go_simp
                          with_reducible rfl
                         rotate_left
                         ·simp only [Act.put, sI, sZ, sS, i64_w, i32_w]
                          rfl
                         refine take_ (i := 10) (N := some 63) (v := ?_) (a' := ?_) #[true, true, true, true, true, true, true, true, true, true, true, false, true, true, false, false, false, false, false, false, false, false, false, false, false, false, false, false, false, false, false, false, false] rfl rfl (take_ofW HT_.1 HW_.1 (by kernel_rfl)) (fun _ _ _ h => h) (Or.inl ⟨by rfl, ?_⟩) hHeld ?_ ?_
                         rotate_left
                         ·rintro w' ⟨s0, s1⟩
                          go_simp
                          with_reducible rfl
                         rotate_left
                         ·simp only [Act.put, sI, sZ, sS, i64_w, i32_w]
                          rfl
                         refine pure_ (i := 11) (N := some 64) (v := ?_) (a' := ?_) #[true, true, true, true, true, true, true, true, true, true, true, true, true, true, false, false, false, false, false, false, false, false, false, false, false, false, false, false, false, false, false, false, false] rfl rfl (any_of HT_.1 (by kernel_rfl)) (fun _ _ _ h => h) (Or.inl ⟨by rfl, ?_⟩) ?_ ?_
                         rotate_left
                         ·intro w'
                          go_simp
                          with_reducible rfl
                         rotate_left
                         ·simp only [Act.put, sI, sZ, sS, i64_w, i32_w]
                          rfl
                         refine take_ (i := 14) (N := some 67) (v := ?_) (a' := ?_) #[true, true, true, true, true, true, true, true, true, true, true, true, true, true, true, false, false, false, false, false, false, false, false, false, false, false, false, false, false, false, false, false, false] rfl rfl (take_ofW HT_.1 HW_.1 (by kernel_rfl)) (fun _ _ _ h => h) (Or.inl ⟨by rfl, ?_⟩) hHeld ?_ ?_
                         rotate_left
                         ·rintro w' ⟨s0, s1⟩
                          go_simp
                          with_reducible rfl
                         rotate_left
                         ·simp only [Act.put, sI, sZ, sS, i64_w, i32_w]
                          rfl
                         refine pure_ (i := 15) (N := some 68) (v := ?_) (a' := ?_) #[true, true, true, true, true, true, true, true, true, true, true, true, true, true, true, true, false, false, false, false, false, false, false, false, false, false, false, false, false, false, false, false, false] rfl rfl (any_of HT_.1 (by kernel_rfl)) (fun _ _ _ h => h) (Or.inl ⟨by rfl, ?_⟩) ?_ ?_
                         rotate_left
                         ·intro w'
                          go_simp
                          with_reducible rfl
                         rotate_left
                         ·simp only [Act.put, sI, sZ, sS, i64_w, i32_w]
                          rfl
                         refine one_ (i := 16) (N := some 69) #[true, true, true, true, true, true, true, true, true, true, true, true, true, true, true, true, true, false, false, false, false, false, false, false, false, false, false, false, false, false, false, false, false] rfl rfl (one_of HT_.1 (by kernel_rfl)) (by decide) (fun K hK => ?_)
                         refine goes_ Try.func16 (by kernel_rfl) rfl #[.slice Ao66 y159.length co66, .slice A1 (l1.take (((rd_T33 l2 x9_2).f0) : Int).toNat).length c1] (by rfl) rfl rfl (by (try simp only [List.map_toArray, List.map_cons, List.map_nil]); first | done | (rw [show (l1.take (((rd_T33 l2 x9_2).f0) : Int).toNat).length = ((rd_T33 l2 x9_2).f0).toNat from (by rw [List.length_take]; have h_ : (((rd_T33 l2 x9_2).f0) : Int) ≤ (l1.length : Int) := oD (by first | (with_reducible assumption) | assumption); omega)] <;> rfl) | rfl | (simp only [List.length_drop, List.length_take]; rfl)) ?_
                         with_reducible refine (r01_Equal.calls k2 _ _ y159 _ _ (l1.take (((rd_T33 l2 x9_2).f0) : Int).toNat) true _ ?z1 ?z2 ?z3 ?z4 A40.1).mono ?_
                         (case z1 => repeat (first | exact (by repeat (first | (with_reducible exact HR162.1) | (with_reducible refine Kd.C_alloc ?_ _) | (with_reducible refine Kd.C_drewN ?_ _) | (with_reducible refine Kd.C_drew ?_) | exact HR162.1)) | (with_reducible refine Kd.C_alloc ?_ _) | (with_reducible refine Kd.C_drewN ?_ _) | (with_reducible refine Kd.C_drew ?_)))
                         (case z2 => exact HC162.1)
                         (case z3 => repeat (first | exact cB2 HR163.1 HB.1 | with_reducible first | refine cA2 ?_ _ | refine cN2 ?_ _ | refine cD2 ?_))
                         (case z4 => exact HC163.1)
                         rintro e w' ⟨rfl, ⟨nd, rfl⟩⟩
                         refine ⟨_, rfl, ?_⟩
                         have q69 : ((ji42) : Int) ≤ ((t156.length : Int) : Int) := oD (by first | (with_reducible assumption) | assumption)
                         obtain ⟨i069, hi069, _, hsz69, _⟩ := info_parts info3
                         have hroom69 : t156.length ≤ co66 := (Kd.R_reads' HO158.1).2.1
                         have hC69 : Kd.C (Kd.int .i64) _ Ao66 t156.length t156 := (Kd.R_reads' HO158.1).2.2
                         have q069 : (0 : Int) ≤ ((ji42) : Int) := oD (by first | (with_reducible assumption) | assumption)
                         have hcut69 := cut_from (P := Try.prog) 28 3 .i64 Try.underlying28 hi069 1 hsz69 Ao66 t156.length co66 (ji42) q069 q69
                         have hr69 := Kd.C_drop (m := ((ji42) : Int).toNat) (c := co66) hC69 (by omega) hroom69
                         obtain ⟨A69, hA69⟩ : ∃ A1, A1 = (if co66 = ((ji42) : Int).toNat then Ao66 else (Ao66 : Option Addr).map (·.add (((ji42) : Int).toNat * 1))) := ⟨_, rfl⟩
                         obtain ⟨c69, hc69⟩ : ∃ c1, c1 = co66 - ((ji42) : Int).toNat := ⟨_, rfl⟩
                         have hy69 : y165.length = t156.length - ((ji42) : Int).toNat := (by rw [Ny165.1, List.length_drop] <;> omega)
                         rw [show (t156).drop ((ji42) : Int).toNat = y165 from Ny165.1.symm] at hr69
                         replace hr69 : Kd.C (Kd.int .i64) _ A69 y165.length y165 := (by rw [hA69]; exact hr69)
                         rw [← hy69, ← hA69, ← hc69] at hcut69
                         have HR168 := aM hr69
                         have HC168 := aM (show y165.length ≤ c69 from by rw [hy69, hc69]; exact Nat.sub_le_sub_right hroom69 _)
                         clear hr69 hC69 hroom69 hi069 hsz69 hc69
                         have KY69 := aM hy69
                         have KA69 := aM hA69
                         clear hy69 hA69
                         have KL69 := aM (show ((ji42) : Int).toNat ≤ t156.length from by omega)
                         replace q69 := eq_true q69
                         obtain ⟨i070, hi070, _, hsz70, _⟩ := info_parts info3
                         obtain ⟨A70, hcut70, hA70, hC70⟩ := print_drop_of (P := Try.prog) (Value.int .i64) 0 28 3 .i64 Try.underlying28 hi070 hsz70 A1 c1 l1 ((rd_T33 l2 x9_2).f1) (oD (by first | (with_reducible assumption) | assumption)) (oD (by first | (with_reducible assumption) | assumption)) HC1.1
                         have HR169 := aM (Kd.C_of_reads (h1 := fun _ => rfl) (hA70 _ (Kd.reads_of_C HR1.1)))
                         have HC169 := aM hC70
                         clear hA70 hC70 hi070 hsz70
                         refine hK.out _ _ ⟨(bkC BK151.1 0).trans rfl, (bkC BK151.1 1).trans rfl⟩ (fun hHeld => ?_)
                         clear hK K
                         refine norm_ (a' := ?_) ?_ ?_
                         rotate_left
                         ·show Act.put _ (some 69) _ = _
                          simp only [Act.put, sI, sZ, sS, i64_w, i32_w]
                          rfl
                         refine pure_ (i := 17) (N := some 70) (v := ?_) (a' := ?_) #[true, true, true, true, true, true, true, true, true, true, true, true, true, true, true, true, true, true, false, false, false, false, false, false, false, false, false, false, false, false, false, false, false] rfl rfl (any_of HT_.1 (by kernel_rfl)) (fun _ _ _ h => h) (Or.inl ⟨by rfl, ?_⟩) ?_ ?_
                         rotate_left
                         ·intro w'
                          go_simp
                          with_reducible rfl
                         rotate_left
                         ·simp only [Act.put, sI, sZ, sS, i64_w, i32_w]
                          rfl
                         refine pure_ (i := 18) (N := some 71) (v := ?_) (a' := ?_) #[true, true, true, true, true, true, true, true, true, true, true, true, true, true, true, true, true, true, true, false, false, false, false, false, false, false, false, false, false, false, false, false, false] rfl rfl (any_of HT_.1 (by kernel_rfl)) (fun _ _ _ h => h) (Or.inl ⟨by rfl, ?_⟩) ?_ ?_
                         rotate_left
                         ·intro w'
                          go_simp
                          with_reducible rfl
                         rotate_left
                         ·simp only [Act.put, sI, sZ, sS, i64_w, i32_w]
                          rfl
                         refine pure_ (i := 19) (N := some 72) (v := ?_) (a' := ?_) #[true, true, true, true, true, true, true, true, true, true, true, true, true, true, true, true, true, true, true, true, false, false, false, false, false, false, false, false, false, false, false, false, false] rfl rfl (any_of HT_.1 (by kernel_rfl)) (fun _ _ _ h => h) (Or.inl ⟨by rfl, ?_⟩) ?_ ?_
                         rotate_left
                         ·intro w'
                          go_simp
                          with_reducible rfl
                         rotate_left
                         ·simp only [Act.put, sI, sZ, sS, i64_w, i32_w]
                          rfl
                         refine pure_ (i := 20) (N := some 73) (v := ?_) (a' := ?_) #[true, true, true, true, true, true, true, true, true, true, true, true, true, true, true, true, true, true, true, true, true, false, false, false, false, false, false, false, false, false, false, false, false] rfl rfl (any_of HT_.1 (by kernel_rfl)) (fun _ _ _ h => h) (Or.inl ⟨by rfl, ?_⟩) ?_ ?_
                         rotate_left
                         ·intro w'
                          go_simp
                          with_reducible rfl
                         rotate_left
                         ·simp only [Act.put, sI, sZ, sS, i64_w, i32_w]
                          rfl
                         refine pure_ (i := 21) (N := some 74) (v := ?_) (a' := ?_) #[true, true, true, true, true, true, true, true, true, true, true, true, true, true, true, true, true, true, true, true, true, true, false, false, false, false, false, false, false, false, false, false, false] rfl rfl (any_of HT_.1 (by kernel_rfl)) (fun _ _ _ h => h) (Or.inl ⟨by rfl, ?_⟩) ?_ ?_
                         rotate_left
                         ·intro w'
                          go_simp
                          with_reducible rfl
                         rotate_left
                         ·simp only [Act.put, sI, sZ, sS, i64_w, i32_w]
                          rfl
                         refine pure_ (i := 22) (N := some 75) (v := ?_) (a' := ?_) #[true, true, true, true, true, true, true, true, true, true, true, true, true, true, true, true, true, true, true, true, true, true, true, false, false, false, false, false, false, false, false, false, false] rfl rfl (any_of HT_.1 (by kernel_rfl)) (fun _ _ _ h => h) (Or.inl ⟨by rfl, ?_⟩) ?_ ?_
                         rotate_left
                         ·intro w'
                          go_simp
                          with_reducible rfl
                         rotate_left
                         ·simp only [Act.put, sI, sZ, sS, i64_w, i32_w]
                          rfl
                         refine pure_ (i := 23) (N := some 76) (v := ?_) (a' := ?_) #[true, true, true, true, true, true, true, true, true, true, true, true, true, true, true, true, true, true, true, true, true, true, true, true, false, false, false, false, false, false, false, false, false] rfl rfl (any_of HT_.1 (by kernel_rfl)) (fun _ _ _ h => h) (Or.inl ⟨by rfl, ?_⟩) ?_ ?_
                         rotate_left
                         ·intro w'
                          go_simp
                          with_reducible rfl
                         rotate_left
                         ·simp only [Act.put, sI, sZ, sS, i64_w, i32_w]
                          rfl
                         refine pure_ (i := 24) (N := some 77) (v := ?_) (a' := ?_) #[true, true, true, true, true, true, true, true, true, true, true, true, true, true, true, true, true, true, true, true, true, true, true, true, true, false, false, false, false, false, false, false, false] rfl rfl (any_of HT_.1 (by kernel_rfl)) (fun _ _ _ h => h) (Or.inl ⟨by rfl, ?_⟩) ?_ ?_
                         rotate_left
                         ·intro w'
                          go_simp
                          with_reducible rfl
                         rotate_left
                         ·simp only [Act.put, sI, sZ, sS, i64_w, i32_w]
                          rfl
                         refine pure_ (i := 25) (N := some 78) (v := ?_) (a' := ?_) #[true, true, true, true, true, true, true, true, true, true, true, true, true, true, true, true, true, true, true, true, true, true, true, true, true, true, false, false, false, false, false, false, false] rfl rfl (any_of HT_.1 (by kernel_rfl)) (fun _ _ _ h => h) (Or.inl ⟨by rfl, ?_⟩) ?_ ?_
                         rotate_left
                         ·intro w'
                          go_simp
                          with_reducible rfl
                         rotate_left
                         ·simp only [Act.put, sI, sZ, sS, i64_w, i32_w]
                          rfl
                         refine pure_ (i := 26) (N := some 79) (v := ?_) (a' := ?_) #[true, true, true, true, true, true, true, true, true, true, true, true, true, true, true, true, true, true, true, true, true, true, true, true, true, true, true, false, false, false, false, false, false] rfl rfl (any_of HT_.1 (by kernel_rfl)) (fun _ _ _ h => h) (Or.inl ⟨by rfl, ?_⟩) ?_ ?_
                         rotate_left
                         ·intro w'
                          go_simp
                          with_reducible rfl
                         rotate_left
                         ·simp only [Act.put, sI, sZ, sS, i64_w, i32_w]
                          rfl
                         refine pure_ (i := 27) (N := some 80) (v := ?_) (a' := ?_) #[true, true, true, true, true, true, true, true, true, true, true, true, true, true, true, true, true, true, true, true, true, true, true, true, true, true, true, true, false, false, false, false, false] rfl rfl (any_of HT_.1 (by kernel_rfl)) (fun _ _ _ h => h) (Or.inl ⟨by rfl, ?_⟩) ?_ ?_
                         rotate_left
                         ·intro w'
                          go_simp
                          with_reducible rfl
                         rotate_left
                         ·simp only [Act.put, sI, sZ, sS, i64_w, i32_w]
                          rfl
                         refine take_ (i := 28) (N := some 81) (v := ?_) (a' := ?_) #[true, true, true, true, true, true, true, true, true, true, true, true, true, true, true, true, true, true, true, true, true, true, true, true, true, true, true, true, true, false, false, false, false] rfl rfl (take_ofW HT_.1 HW_.1 (by kernel_rfl)) (fun _ _ _ h => h) (Or.inl ⟨by rfl, ?_⟩) hHeld ?_ ?_
                         rotate_left
                         ·rintro w' ⟨s0, s1⟩
                          go_simp
                          with_reducible rfl
                         rotate_left
                         ·simp only [Act.put, sI, sZ, sS, i64_w, i32_w]
                          rfl
                         refine pure_ (i := 29) (N := some 82) (v := ?_) (a' := ?_) #[true, true, true, true, true, true, true, true, true, true, true, true, true, true, true, true, true, true, true, true, true, true, true, true, true, true, true, true, true, true, false, false, false] rfl rfl (any_of HT_.1 (by kernel_rfl)) (fun _ _ _ h => h) (Or.inl ⟨by rfl, ?_⟩) ?_ ?_
                         rotate_left
                         ·intro w'
                          go_simp
                          with_reducible rfl
                         rotate_left
                         ·simp only [Act.put, sI, sZ, sS, i64_w, i32_w]
                          rfl
                         refine one_ (i := 30) (N := some 83) #[true, true, true, true, true, true, true, true, true, true, true, true, true, true, true, true, true, true, true, true, true, true, true, true, true, true, true, true, true, true, true, false, false] rfl rfl (one_of HT_.1 (by kernel_rfl)) (by decide) (fun K hK => ?_)
                         refine goes_ Try.func16 (by kernel_rfl) rfl #[.slice A69 y165.length c69, .slice A70 (l1.drop (((rd_T33 l2 x9_2).f1) : Int).toNat).length (c1 - ((rd_T33 l2 x9_2).f1).toNat)] (by rfl) rfl rfl (by (try simp only [List.map_toArray, List.map_cons, List.map_nil]); first | done | (rw [show (l1.drop (((rd_T33 l2 x9_2).f1) : Int).toNat).length = (l1.length - ((rd_T33 l2 x9_2).f1).toNat) from List.length_drop] <;> rfl) | rfl | (simp only [List.length_drop, List.length_take]; rfl)) ?_
                         with_reducible refine (r01_Equal.calls k2 _ _ y165 _ _ (l1.drop (((rd_T33 l2 x9_2).f1) : Int).toNat) true _ ?z1 ?z2 ?z3 ?z4 A47.1).mono ?_
                         (case z1 => repeat (first | exact (by repeat (first | (with_reducible exact HR168.1) | (with_reducible refine Kd.C_alloc ?_ _) | (with_reducible refine Kd.C_drewN ?_ _) | (with_reducible refine Kd.C_drew ?_) | exact HR168.1)) | (with_reducible refine Kd.C_alloc ?_ _) | (with_reducible refine Kd.C_drewN ?_ _) | (with_reducible refine Kd.C_drew ?_)))
                         (case z2 => exact HC168.1)
                         (case z3 => repeat (first | exact (Kd.C_below HR169.1 (by repeat (first | (with_reducible first | exact HB.1 | apply bAl | apply pbN | apply bD1 | refine bSt ?_ GE137.1 | refine bSt ?_ GE151.1) | exact HB.1))) | (with_reducible refine Kd.C_alloc ?_ _) | (with_reducible refine Kd.C_drewN ?_ _) | (with_reducible refine Kd.C_drew ?_)))
                         (case z4 => exact HC169.1)
                         rintro e w' ⟨rfl, ⟨nd, rfl⟩⟩
                         refine ⟨_, rfl, ?_⟩
                         refine hK.out _ _ ⟨(bkC BK151.1 0).trans rfl, (bkC BK151.1 1).trans rfl⟩ (fun hHeld => ?_)
                         clear hK K
                         refine norm_ (a' := ?_) ?_ ?_
                         rotate_left
                         ·show Act.put _ (some 83) _ = _
                          simp only [Act.put, sI, sZ, sS, i64_w, i32_w]
                          rfl
                         refine pure_ (i := 31) (N := some 84) (v := ?_) (a' := ?_) #[true, true, true, true, true, true, true, true, true, true, true, true, true, true, true, true, true, true, true, true, true, true, true, true, true, true, true, true, true, true, true, true, false] rfl rfl (any_of HT_.1 (by kernel_rfl)) (fun _ _ _ h => h) (Or.inl ⟨by rfl, ?_⟩) ?_ ?_
                         rotate_left
                         ·intro w'
                          go_simp
                          with_reducible rfl
                         rotate_left
                         ·simp only [Act.put, sI, sZ, sS, i64_w, i32_w]
                          rfl
                         refine pure_ (i := 32) (N := some 85) (v := ?_) (a' := ?_) #[true, true, true, true, true, true, true, true, true, true, true, true, true, true, true, true, true, true, true, true, true, true, true, true, true, true, true, true, true, true, true, true, true] rfl rfl (any_of HT_.1 (by kernel_rfl)) (fun _ _ _ h => h) (Or.inl ⟨by rfl, ?_⟩) ?_ ?_
                         rotate_left
                         ·intro w'
                          go_simp
                          with_reducible rfl
                         rotate_left
                         ·simp only [Act.put, sI, sZ, sS, i64_w, i32_w]
                          rfl
                         refine done_ (done_of HT_.1 (by kernel_rfl)) ?_
                         have hcz71_0 : w65.cell? ⟨gb151, 0, none⟩ = some (.int .i64 ((rd_T33 l2 x9_2).f0)) := (bkC BK151.1 0).trans rfl
                         have hcz71_1 : w65.cell? ⟨gb151, 1, none⟩ = some (.int .i64 ((rd_T33 l2 x9_2).f1)) := (bkC BK151.1 1).trans rfl
                         have hfz71_0 := bkF BK151.1 0
                         have hfz71_1 := bkF BK151.1 1
                         obtain ⟨i072, hi072, _, hsz72, _⟩ := info_parts info3
                         obtain ⟨A72, hcut72, hA72, hC72⟩ := print_mid_of (P := Try.prog) (Value.int .i64) 0 28 3 .i64 .i64 Try.underlying28 hi072 hsz72 A1 c1 l1 x8_2 ((rd_T33 l2 x9_2).f0) (oD (by first | (with_reducible assumption) | assumption)) (by first | omega | exact oD (by first | (with_reducible assumption) | assumption)) (oD (by first | (with_reducible assumption) | assumption)) HC1.1
                         have HR171 := aM (Kd.C_of_reads (h1 := fun _ => rfl) (hA72 _ (Kd.reads_of_C HR1.1)))
                         have HC171 := aM hC72
                         clear hA72 hC72 hi072 hsz72
                         try go_wp2_with (first | ((with_reducible refine gate_builtin (b := .append) (xs := #[.tmp 86, .tmp 91]) rfl ?_); (try (refine gate_guard (by rfl) ?_; dsimp only)); at_builtin; refine Kd.R_append_rows (Kd.int .i64) (w0 := w) w.heap.size rfl (.tmp 86) (.tmp 91) 28 3 (.int .i64 0) 8 rfl Try.underlying28 info3 rfl (by decide) (by omega) u7 x7_2 ((l1.take (((rd_T33 l2 x9_2).f0) : Int).toNat).drop (x8_2 : Int).toNat) _ _ _ (fun k_ => some k_ ≠ (.slice Ao66 t156.length co66 : Value).ownBlock) (fun _ => False) rfl rfl ?aO ?aR (fun _ _ h => h) (fun _ h => h.elim) ?aF ?aB ?aS ?aL ?_; (case aR => first | (rw [← show ((l1.take (((rd_T33 l2 x9_2).f0) : Int).toNat).drop (x8_2 : Int).toNat).length = (((rd_T33 l2 x9_2).f0).toNat - x8_2.toNat) from (by rw [List.length_drop, List.length_take]; have h_ : (((rd_T33 l2 x9_2).f0) : Int) ≤ (l1.length : Int) := oD (by first | (with_reducible assumption) | assumption); omega)]; repeat (first | exact (Kd.C_below HR171.1 (by repeat (first | (with_reducible first | exact HB.1 | apply bAl | apply pbN | apply bD1 | refine bSt ?_ GE137.1 | refine bSt ?_ GE151.1) | exact HB.1))) | (with_reducible refine Kd.C_alloc ?_ _) | (with_reducible refine Kd.C_drewN ?_ _) | (with_reducible refine Kd.C_drew ?_))) | (repeat (first | exact (Kd.C_below HR171.1 (by repeat (first | (with_reducible first | exact HB.1 | apply bAl | apply pbN | apply bD1 | refine bSt ?_ GE137.1 | refine bSt ?_ GE151.1) | exact HB.1))) | (with_reducible refine Kd.C_alloc ?_ _) | (with_reducible refine Kd.C_drewN ?_ _) | (with_reducible refine Kd.C_drew ?_)))); (case aB => exact (by repeat (first | (with_reducible first | exact HB.1 | apply bAl | apply pbN | apply bD1 | refine bSt ?_ GE137.1 | refine bSt ?_ GE151.1) | exact HB.1))); (case aF => exact (fun k_ hk => Kd.fresh' (Kd.R_lt (by (with_reducible repeat first | apply rA2 | apply rN2 | apply rD2); exact HO158.1)) k_ hk)); (case aO => exact (by (with_reducible repeat first | apply rA2 | apply rN2 | apply rD2); exact Kd.R_mono HO_7.1 (fun _ hk => hk.2))); (case aS => exact (bSz (by repeat (first | (with_reducible first | exact HB.1 | apply bAl | apply pbN | apply bD1 | refine bSt ?_ GE137.1 | refine bSt ?_ GE151.1) | exact HB.1)))); (case aL => have := LMc52.1; have hlx_ := (show ((l1.take (((rd_T33 l2 x9_2).f0) : Int).toNat).drop (x8_2 : Int).toNat).length = (((rd_T33 l2 x9_2).f0).toNat - x8_2.toNat) from (by rw [List.length_drop, List.length_take]; have h_ : (((rd_T33 l2 x9_2).f0) : Int) ≤ (l1.length : Int) := oD (by first | (with_reducible assumption) | assumption); omega)); omega); intro v173 w73 ho hb hg hat; rw [← Ny172.1] at ho; have n0_ := aM (blk_grown (g := gb137) (o := .cells #[.slice P0 q0.length n0, .slice P1 q1.length n1, .slice P2 q2.length n2, .slice P3 q3.length n3, .slice P4 q4.length n4, .slice P5 q5.length n5] 27 (0, 0)) (by (with_reducible repeat (first | refine bkN ?_ _ | refine bkD ?_ | refine bkA ?_ _)); exact BK137.1) hg (Kd.R_ne HO_7.1 BK137.1 (by decide))); have n1_ := aM (blk_grown (g := gb151) (o := .cells #[.int .i64 ((rd_T33 l2 x9_2).f0), .int .i64 ((rd_T33 l2 x9_2).f1)] 33 (0, 0)) (by (with_reducible repeat (first | refine bkN ?_ _ | refine bkD ?_ | refine bkA ?_ _)); exact BK151.1) hg (Kd.R_ne HO_7.1 BK151.1 (by decide))); have n2_ := aM (Kd.R_after (ok := (fun _ => True)) (by (with_reducible repeat first | apply rA2 | apply rN2 | apply rD2); exact HO158.1) hg hat); have n3_ := aM (hb); have n4_ := aM ((show Kd.C (Kd.int .i64) w73 Ao66 y159.length y159 from by rw [Ny159.1]; exact Kd.C_take (m := (((rd_T33 l2 x9_2).f0) : Int).toNat) ((Kd.R_reads' (Kd.R_after (ok := (fun _ => True)) (by (with_reducible repeat first | apply rA2 | apply rN2 | apply rD2); exact HO158.1) hg hat)).2.2) KL67.1)); have n5_ := aM ((show Kd.C (Kd.int .i64) w73 A69 y165.length y165 from by rw [Ny165.1, KA69.1]; exact Kd.C_drop (m := ((ji42) : Int).toNat) (c := co66) ((Kd.R_reads' (Kd.R_after (ok := (fun _ => True)) (by (with_reducible repeat first | apply rA2 | apply rN2 | apply rD2); exact HO158.1) hg hat)).2.2) KL69.1 ((Kd.R_reads' (Kd.R_after (ok := (fun _ => True)) (by (with_reducible repeat first | apply rA2 | apply rN2 | apply rD2); exact HO158.1) hg hat)).2.1))); have n6_ := aM (ho); clear BK137; clear BK151; clear HO158; clear HB; clear HR162; clear HR168; clear HO_7; have BK137 := n0_; have BK151 := n1_; have HO158 := n2_; have HB := n3_; have HR162 := n4_; have HR168 := n5_; have HO174 := n6_; clear n0_ n1_ n2_ n3_ n4_ n5_ n6_; clear ho hb hg hat; have hcz74_0 : w73.cell? ⟨gb151, 0, none⟩ = some (.int .i64 ((rd_T33 l2 x9_2).f0)) := (bkC BK151.1 0).trans rfl; have hcz74_1 : w73.cell? ⟨gb151, 1, none⟩ = some (.int .i64 ((rd_T33 l2 x9_2).f1)) := (bkC BK151.1 1).trans rfl; have hfz74_0 := bkF BK151.1 0; have hfz74_1 := bkF BK151.1 1; have q75 : ((ji42) : Int) ≤ ((t156.length : Int) : Int) := oD (by first | (with_reducible assumption) | assumption); obtain ⟨i075, hi075, _, hsz75, _⟩ := info_parts info3; have hroom75 : t156.length ≤ co66 := (Kd.R_reads' HO158.1).2.1; have hC75 : Kd.C (Kd.int .i64) _ Ao66 t156.length t156 := (Kd.R_reads' HO158.1).2.2; have ql75 : (((rd_T33 l2 x9_2).f0) : Int) ≤ ((ji42) : Int) := oD (by first | (with_reducible assumption) | assumption); have q075 : (0 : Int) ≤ (((rd_T33 l2 x9_2).f0) : Int) := oD (by first | (with_reducible assumption) | assumption); have hcut75 := cut_mid (P := Try.prog) 28 3 .i64 .i64 Try.underlying28 hi075 1 hsz75 Ao66 t156.length co66 ((rd_T33 l2 x9_2).f0) (ji42) q075 ql75 q75 hroom75; have hr75 := Kd.C_mid (lo := (((rd_T33 l2 x9_2).f0) : Int).toNat) (hi := ((ji42) : Int).toNat) (c := co66) hC75 (by omega) (by omega) hroom75; obtain ⟨A75, hA75⟩ : ∃ A1, A1 = (if co66 = (((rd_T33 l2 x9_2).f0) : Int).toNat then Ao66 else (Ao66 : Option Addr).map (·.add ((((rd_T33 l2 x9_2).f0) : Int).toNat * 1))) := ⟨_, rfl⟩; obtain ⟨c75, hc75⟩ : ∃ c1, c1 = co66 - (((rd_T33 l2 x9_2).f0) : Int).toNat := ⟨_, rfl⟩; have hy75 : y175.length = ((ji42) : Int).toNat - (((rd_T33 l2 x9_2).f0) : Int).toNat := (by rw [Ny175.1, List.length_drop, List.length_take] <;> omega); rw [show ((t156).take ((ji42) : Int).toNat).drop (((rd_T33 l2 x9_2).f0) : Int).toNat = y175 from Ny175.1.symm] at hr75; replace hr75 : Kd.C (Kd.int .i64) _ A75 y175.length y175 := (by rw [hA75]; exact hr75); rw [← hy75, ← hA75, ← hc75] at hcut75; have HR178 := aM hr75; have HC178 := aM (show y175.length ≤ c75 from by rw [hy75, hc75]; exact Nat.sub_le_sub_right (Nat.le_trans (by omega) hroom75) _); clear hr75 hC75 hroom75 hi075 hsz75 hc75; have KY75 := aM hy75; have KA75 := aM hA75; clear hy75 hA75; have KL75 := aM (show ((ji42) : Int).toNat ≤ t156.length from by omega); have KM75 := aM (show (((rd_T33 l2 x9_2).f0) : Int).toNat ≤ ((ji42) : Int).toNat from by omega); replace q75 := eq_true q75) | ((with_reducible refine gate_builtin (b := .append) (xs := #[.tmp 93, .tmp 101]) rfl ?_); (try (refine gate_guard (by rfl) ?_; dsimp only)); at_builtin; refine Kd.R_append_rows (Kd.int .i64) (w0 := w) w.heap.size rfl (.tmp 93) (.tmp 101) 28 3 (.int .i64 0) 8 rfl Try.underlying28 info3 rfl (by decide) (by omega) v173 y172 y175 _ _ _ (fun k_ => some k_ ≠ (.slice Ao66 t156.length co66 : Value).ownBlock) (fun _ => False) rfl rfl ?aO ?aR (fun _ _ h => h) (fun _ h => h.elim) ?aF ?aB ?aS ?aL ?_; (case aR => repeat (first | exact (by repeat (first | (with_reducible exact HR178.1) | (with_reducible refine Kd.C_alloc ?_ _) | (with_reducible refine Kd.C_drewN ?_ _) | (with_reducible refine Kd.C_drew ?_) | exact HR178.1)) | (with_reducible refine Kd.C_alloc ?_ _) | (with_reducible refine Kd.C_drewN ?_ _) | (with_reducible refine Kd.C_drew ?_))); (case aB => exact (by repeat (first | (with_reducible first | exact HB.1 | apply bAl | apply pbN | apply bD1 | refine bSt ?_ GE137.1 | refine bSt ?_ GE151.1) | exact HB.1))); (case aF => exact (fun k_ hk => Kd.fresh' (Kd.R_lt (by (with_reducible repeat first | apply rA2 | apply rN2 | apply rD2); exact HO158.1)) k_ hk)); (case aO => exact (by (with_reducible repeat first | apply rA2 | apply rN2 | apply rD2); exact HO174.1)); (case aS => exact (bSz (by repeat (first | (with_reducible first | exact HB.1 | apply bAl | apply pbN | apply bD1 | refine bSt ?_ GE137.1 | refine bSt ?_ GE151.1) | exact HB.1)))); (case aL => have := LMc56.1; omega); intro v180 w76 ho hb hg hat; rw [← Ny179.1] at ho; have n0_ := aM (blk_grown (g := gb137) (o := .cells #[.slice P0 q0.length n0, .slice P1 q1.length n1, .slice P2 q2.length n2, .slice P3 q3.length n3, .slice P4 q4.length n4, .slice P5 q5.length n5] 27 (0, 0)) (by (with_reducible repeat (first | refine bkN ?_ _ | refine bkD ?_ | refine bkA ?_ _)); exact BK137.1) hg (Kd.R_ne HO174.1 BK137.1 (by decide))); have n1_ := aM (blk_grown (g := gb151) (o := .cells #[.int .i64 ((rd_T33 l2 x9_2).f0), .int .i64 ((rd_T33 l2 x9_2).f1)] 33 (0, 0)) (by (with_reducible repeat (first | refine bkN ?_ _ | refine bkD ?_ | refine bkA ?_ _)); exact BK151.1) hg (Kd.R_ne HO174.1 BK151.1 (by decide))); have n2_ := aM (Kd.R_after (ok := (fun _ => True)) (by (with_reducible repeat first | apply rA2 | apply rN2 | apply rD2); exact HO158.1) hg hat); have n3_ := aM (hb); have n4_ := aM ((show Kd.C (Kd.int .i64) w76 Ao66 y159.length y159 from by rw [Ny159.1]; exact Kd.C_take (m := (((rd_T33 l2 x9_2).f0) : Int).toNat) ((Kd.R_reads' (Kd.R_after (ok := (fun _ => True)) (by (with_reducible repeat first | apply rA2 | apply rN2 | apply rD2); exact HO158.1) hg hat)).2.2) KL67.1)); have n5_ := aM ((show Kd.C (Kd.int .i64) w76 A69 y165.length y165 from by rw [Ny165.1, KA69.1]; exact Kd.C_drop (m := ((ji42) : Int).toNat) (c := co66) ((Kd.R_reads' (Kd.R_after (ok := (fun _ => True)) (by (with_reducible repeat first | apply rA2 | apply rN2 | apply rD2); exact HO158.1) hg hat)).2.2) KL69.1 ((Kd.R_reads' (Kd.R_after (ok := (fun _ => True)) (by (with_reducible repeat first | apply rA2 | apply rN2 | apply rD2); exact HO158.1) hg hat)).2.1))); have n6_ := aM ((show Kd.C (Kd.int .i64) w76 A75 y175.length y175 from by rw [Ny175.1, KA75.1]; exact Kd.C_mid (lo := (((rd_T33 l2 x9_2).f0) : Int).toNat) (hi := ((ji42) : Int).toNat) (c := co66) ((Kd.R_reads' (Kd.R_after (ok := (fun _ => True)) (by (with_reducible repeat first | apply rA2 | apply rN2 | apply rD2); exact HO158.1) hg hat)).2.2) KM75.1 KL75.1 ((Kd.R_reads' (Kd.R_after (ok := (fun _ => True)) (by (with_reducible repeat first | apply rA2 | apply rN2 | apply rD2); exact HO158.1) hg hat)).2.1))); have n7_ := aM (ho); clear BK137; clear BK151; clear HO158; clear HB; clear HR162; clear HR168; clear HR178; clear HO174; have BK137 := n0_; have BK151 := n1_; have HO158 := n2_; have HB := n3_; have HR162 := n4_; have HR168 := n5_; have HR178 := n6_; have HO181 := n7_; clear n0_ n1_ n2_ n3_ n4_ n5_ n6_ n7_; clear ho hb hg hat; have hcz77_0 : w76.cell? ⟨gb151, 0, none⟩ = some (.int .i64 ((rd_T33 l2 x9_2).f0)) := (bkC BK151.1 0).trans rfl; have hcz77_1 : w76.cell? ⟨gb151, 1, none⟩ = some (.int .i64 ((rd_T33 l2 x9_2).f1)) := (bkC BK151.1 1).trans rfl; have hfz77_0 := bkF BK151.1 0; have hfz77_1 := bkF BK151.1 1))
                         go_roundg k2
                         case measure => have := HJ3.1; have := HK2.1; omega
                         case rel => exact ⟨(y179), ((rd_T33 l2 x9_2).f1), (wrap64 (x9_2 + 1)), (by first | rfl | (simp; done) | (simp [*]; done)), (by first | rfl | (simp; done) | (simp [*]; done)), H', ⟨by have := HJ3.1; have := HK2.1; omega⟩, ⟨by (with_reducible repeat first | apply rA2 | apply rN2 | apply rD2); exact Kd.R_mono HO181.1 (fun _ hk => trivial)⟩, ⟨by (with_reducible repeat (first | refine bkN ?_ _ | refine bkD ?_ | refine bkA ?_ _)); exact BK137.1⟩, ⟨by repeat (first | (with_reducible first | exact HB.1 | apply bAl | apply pbN | apply bD1 | refine bSt ?_ GE137.1 | refine bSt ?_ GE151.1) | exact HB.1)⟩⟩
                        ·rw [if_neg c56] at H
                         exact absurd H (by simp)
                       ·rw [if_neg c54] at H
                        exact absurd H (by simp)
                      ·rw [if_neg c52] at H
                       exact absurd H (by simp)
                     ·rw [if_neg c50] at H
                      exact absurd H (by simp)
                    ·rw [if_neg c49] at H
                     exact absurd H (by simp)
                   ·replace c48 := Bool.eq_false_iff.mpr c48
                    subst c48
                    have H1 : (some false) = some r := by rw [if_neg (show ¬ (false = true) by decide)] at H; exact H
                    clear H
                    have H := H1
                    clear H1
                    obtain rfl := Option.some.inj H
                    have p150 : 0 ≤ (x9_2 : Int) := oD (by first | (with_reducible assumption) | assumption)
                    have q150 : x9_2 < (l2.length : Int) := oD (by first | (with_reducible assumption) | assumption)
                    obtain ⟨ad150, e150, hx150_0, hx150_1⟩ := at_T33 HR2.1 x9_2 p150 q150
                    cases e150
                    replace hx150_0 := (HB.1.cell (World.block_lt_of_cell? w _ hx150_0)).trans hx150_0
                    replace hx150_1 := (HB.1.cell (World.block_lt_of_cell? w _ hx150_1)).trans hx150_1
                    replace p150 := eq_true p150
                    replace q150 := eq_true q150
                    try go_wp2_with (first | ((with_reducible refine gate_dst (N := 10) rfl ?_); (try (refine gate_guard (by rfl) ?_; dsimp only)); refine box_event ?hg (N := 10) ?hd (cs := #[.int .i64 0, .int .i64 0]) (t := 33) ?hr ?_; (case hd => rfl); (case hg => rfl); (case hr => first | (go_simp; done) | (go_simp; rfl)); intro gb151 hg w78 hbox hb; have n0_ := aM (Kd.R_below (by (with_reducible repeat first | apply rA2 | apply rN2 | apply rD2); exact HO_7.1) hb); have n1_ := aM (blk_below (g := gb137) (o := .cells #[.slice P0 q0.length n0, .slice P1 q1.length n1, .slice P2 q2.length n2, .slice P3 q3.length n3, .slice P4 q4.length n4, .slice P5 q5.length n5] 27 (0, 0)) (by (with_reducible repeat (first | refine bkN ?_ _ | refine bkD ?_ | refine bkA ?_ _)); exact BK137.1) hb); have n2_ := aM (bSp (by repeat (first | (with_reducible first | exact HB.1 | apply bAl | apply pbN | apply bD1 | refine bSt ?_ GE137.1) | exact HB.1)) hb); have n3_ := aM (hbox); have n4_ := aM ((by rw [hg]; exact (bSz (by repeat (first | (with_reducible first | exact HB.1 | apply bAl | apply pbN | apply bD1 | refine bSt ?_ GE137.1) | exact HB.1))) : w.heap.size ≤ gb151)); have n5_ := aM ((by rw [hg]; exact (bSz (by repeat (first | (with_reducible first | exact HB.1 | apply bAl | apply pbN | apply bD1 | refine bSt ?_ GE137.1) | exact HB.1))) : w.heap.size ≤ gb151)); have n6_ := aM ((by rw [hg]; exact Nat.ne_of_lt (blk_lt (g := gb137) (o := .cells #[.slice P0 q0.length n0, .slice P1 q1.length n1, .slice P2 q2.length n2, .slice P3 q3.length n3, .slice P4 q4.length n4, .slice P5 q5.length n5] 27 (0, 0)) (by (with_reducible repeat (first | refine bkN ?_ _ | refine bkD ?_ | refine bkA ?_ _)); exact BK137.1)) : gb137 ≠ gb151)); have n7_ := aM ((by rw [hg]; exact Nat.ne_of_gt (blk_lt (g := gb137) (o := .cells #[.slice P0 q0.length n0, .slice P1 q1.length n1, .slice P2 q2.length n2, .slice P3 q3.length n3, .slice P4 q4.length n4, .slice P5 q5.length n5] 27 (0, 0)) (by (with_reducible repeat (first | refine bkN ?_ _ | refine bkD ?_ | refine bkA ?_ _)); exact BK137.1)) : gb151 ≠ gb137)); clear HO_7; clear BK137; clear HB; have HO_7 := n0_; have BK137 := n1_; have HB := n2_; have BK151 := n3_; have GW151 := n4_; have GE151 := n5_; have NB137_151 := n6_; have NB151_137 := n7_; clear n0_ n1_ n2_ n3_ n4_ n5_ n6_ n7_; clear hb hbox hg; have hnb79 := NB151_137.1; have hnc79 := NB137_151.1; have hcz80_0 : w78.cell? ⟨gb151, 0, none⟩ = some (.int .i64 0) := (bkC BK151.1 0).trans rfl; have hcz80_1 : w78.cell? ⟨gb151, 1, none⟩ = some (.int .i64 0) := (bkC BK151.1 1).trans rfl; have hfz80_0 := bkF BK151.1 0; have hfz80_1 := bkF BK151.1 1))
                    have n0_ : Aside0 (Kd.R (Kd.int .i64) 3 ((w78.setCell ⟨gb151, 0, none⟩ (.int .i64 ((rd_T33 l2 x9_2).f0))).setCell ⟨gb151, 1, none⟩ (.int .i64 ((rd_T33 l2 x9_2).f1))) w.heap.size (fun _ => True) u7 x7_2) := ⟨by (with_reducible repeat first | apply rA2 | apply rN2 | apply rD2); exact Kd.R_mono (Kd.R_far (p := ⟨gb151, 1, none⟩) (Kd.R_far (p := ⟨gb151, 0, none⟩) (Kd.R_types HO_7.1 BK151.1 (by decide)) (fun _ hk => hk.2) (.int .i64 ((rd_T33 l2 x9_2).f0))) (fun _ hk => hk.2) (.int .i64 ((rd_T33 l2 x9_2).f1))) (fun _ hk => trivial)⟩
                    have n1_ : Aside0 (((w78.setCell ⟨gb151, 0, none⟩ (.int .i64 ((rd_T33 l2 x9_2).f0))).setCell ⟨gb151, 1, none⟩ (.int .i64 ((rd_T33 l2 x9_2).f1))).heap[gb137]? = some (.cells #[.slice P0 q0.length n0, .slice P1 q1.length n1, .slice P2 q2.length n2, .slice P3 q3.length n3, .slice P4 q4.length n4, .slice P5 q5.length n5] 27 (0, 0))) := ⟨by (with_reducible repeat (first | refine bkN ?_ _ | refine bkD ?_ | refine bkA ?_ _)); refine blk_far ?_ NB137_151.1 _; (with_reducible repeat (first | refine bkN ?_ _ | refine bkD ?_ | refine bkA ?_ _)); refine blk_far ?_ NB137_151.1 _; (with_reducible repeat (first | refine bkN ?_ _ | refine bkD ?_ | refine bkA ?_ _)); exact BK137.1⟩
                    have n2_ : Aside0 (((w78.setCell ⟨gb151, 0, none⟩ (.int .i64 ((rd_T33 l2 x9_2).f0))).setCell ⟨gb151, 1, none⟩ (.int .i64 ((rd_T33 l2 x9_2).f1))).heap[gb151]? = some (.cells #[.int .i64 ((rd_T33 l2 x9_2).f0), .int .i64 ((rd_T33 l2 x9_2).f1)] 33 (0, 0))) := ⟨by (with_reducible repeat (first | refine bkN ?_ _ | refine bkD ?_ | refine bkA ?_ _)); refine blk_put (cs := #[.int .i64 ((rd_T33 l2 x9_2).f0), .int .i64 0]) ?_ 1 _ rfl; (with_reducible repeat (first | refine bkN ?_ _ | refine bkD ?_ | refine bkA ?_ _)); refine blk_put (cs := #[.int .i64 0, .int .i64 0]) ?_ 0 _ rfl; (with_reducible repeat (first | refine bkN ?_ _ | refine bkD ?_ | refine bkA ?_ _)); exact BK151.1⟩
                    have n3_ : Aside0 (Below w.heap.size w ((w78.setCell ⟨gb151, 0, none⟩ (.int .i64 ((rd_T33 l2 x9_2).f0))).setCell ⟨gb151, 1, none⟩ (.int .i64 ((rd_T33 l2 x9_2).f1)))) := ⟨by repeat (first | (with_reducible first | exact HB.1 | apply bAl | apply pbN | apply bD1 | refine bSt ?_ GE137.1 | refine bSt ?_ GE151.1) | exact HB.1)⟩
                    (try clear HO_7)
                    (try clear BK137)
                    (try clear BK151)
                    (try clear HB)
                    generalize ((w78.setCell ⟨gb151, 0, none⟩ (.int .i64 ((rd_T33 l2 x9_2).f0))).setCell ⟨gb151, 1, none⟩ (.int .i64 ((rd_T33 l2 x9_2).f1))) = w81 at n0_ n1_ n2_ n3_ ⊢
                    have HO_7 := n0_
                    have BK137 := n1_
                    have BK151 := n2_
                    have HB := n3_
                    clear n0_ n1_ n2_ n3_
                    have n0_ := aM (Kd.R_drew HO_7.1)
                    have n1_ := aM (bkD BK137.1)
                    have n2_ := aM (bkD BK151.1)
                    have n3_ := aM (bD1 HB.1)
                    clear HO_7
                    clear BK137
                    clear BK151
                    clear HB
                    have HO_7 := n0_
                    have BK137 := n1_
                    have BK151 := n2_
                    have HB := n3_
                    clear n0_ n1_ n2_ n3_
                    have q83 : ((wrap64 (x9_2 + 1)) : Int) ≤ ((l2.length : Int) : Int) := oD (by first | (with_reducible assumption) | assumption)
                    obtain ⟨i083, hi083, _, hsz83, _⟩ := info_parts info33
                    have hroom83 : l2.length ≤ c2 := HC2.1
                    have hC83 : Kd.C k33 _ (some ad150) l2.length l2 := HR2.1
                    have ql83 : (x9_2 : Int) ≤ ((wrap64 (x9_2 + 1)) : Int) := oD (by first | (with_reducible assumption) | assumption)
                    have q083 : (0 : Int) ≤ (x9_2 : Int) := oD (by first | (with_reducible assumption) | assumption)
                    have hcut83 := cut_mid (P := Try.prog) 23 33 .i64 .i64 Try.underlying23 hi083 2 hsz83 (some ad150) l2.length c2 x9_2 (wrap64 (x9_2 + 1)) q083 ql83 q83 hroom83
                    have hr83 := Kd.C_mid (lo := (x9_2 : Int).toNat) (hi := ((wrap64 (x9_2 + 1)) : Int).toNat) (c := c2) hC83 (by omega) (by omega) hroom83
                    obtain ⟨A83, hA83⟩ : ∃ A1, A1 = (if c2 = (x9_2 : Int).toNat then (some ad150) else ((some ad150) : Option Addr).map (·.add ((x9_2 : Int).toNat * 2))) := ⟨_, rfl⟩
                    obtain ⟨c83, hc83⟩ : ∃ c1, c1 = c2 - (x9_2 : Int).toNat := ⟨_, rfl⟩
                    have hy83 : y152.length = ((wrap64 (x9_2 + 1)) : Int).toNat - (x9_2 : Int).toNat := (by rw [Ny152.1, List.length_drop, List.length_take] <;> omega)
                    rw [show ((l2).take ((wrap64 (x9_2 + 1)) : Int).toNat).drop (x9_2 : Int).toNat = y152 from Ny152.1.symm] at hr83
                    replace hr83 : Kd.C k33 _ A83 y152.length y152 := (by rw [hA83]; exact hr83)
                    rw [← hy83, ← hA83, ← hc83] at hcut83
                    have HR155 := aM hr83
                    have HC155 := aM (show y152.length ≤ c83 from by rw [hy83, hc83]; exact Nat.sub_le_sub_right (Nat.le_trans (by omega) hroom83) _)
                    clear hr83 hC83 hroom83 hi083 hsz83 hc83
                    have KY83 := aM hy83
                    have KA83 := aM hA83
                    clear hy83 hA83
                    replace q83 := eq_true q83
                    refine start_ (n := 9) (S := fun w' => w'.cell? ⟨gb137, 0, none⟩ = some (.slice P0 q0.length n0) ∧ w'.cell? ⟨gb137, 1, none⟩ = some (.slice P1 q1.length n1) ∧ w'.cell? ⟨gb137, 2, none⟩ = some (.slice P2 q2.length n2) ∧ w'.cell? ⟨gb137, 3, none⟩ = some (.slice P3 q3.length n3) ∧ w'.cell? ⟨gb137, 4, none⟩ = some (.slice P4 q4.length n4) ∧ w'.cell? ⟨gb137, 5, none⟩ = some (.slice P5 q5.length n5)) (ds := []) #[false, false, false, false, false, false, false, false, false] (by kernel_rfl) rfl rfl (bk62 BK137.1) (fun hHeld => ?_); refine with_tabW w37_CasemapParts.tab9 w37_CasemapParts.bits9 (fun HT_ HW_ => ?_)
                    generalize w81.drew = w82 at HO_7 BK137 BK151 HB HR155 hHeld ⊢
                    refine pure_ (i := 1) (N := some 41) (v := ?_) (a' := ?_) #[false, true, false, false, false, false, false, false, false] rfl rfl (any_of HT_.1 (by kernel_rfl)) (fun _ _ _ h => h) (Or.inl ⟨by rfl, ?_⟩) ?_ ?_
                    rotate_left
                    ·intro w'
                     go_simp
                     with_reducible rfl
                    rotate_left
                    ·simp only [Act.put, sI, sZ, sS, i64_w, i32_w]
                     rfl
                    refine pure_ (i := 2) (N := some 42) (v := ?_) (a' := ?_) #[false, true, true, false, false, false, false, false, false] rfl rfl (any_of HT_.1 (by kernel_rfl)) (fun _ _ _ h => h) (Or.inl ⟨by rfl, ?_⟩) ?_ ?_
                    rotate_left
                    ·intro w'
                     go_simp
                     with_reducible rfl
                    rotate_left
                    ·simp only [Act.put, sI, sZ, sS, i64_w, i32_w]
                     rfl
                    refine pure_ (i := 3) (N := some 43) (v := ?_) (a' := ?_) #[false, true, true, true, false, false, false, false, false] rfl rfl (any_of HT_.1 (by kernel_rfl)) (fun _ _ _ h => h) (Or.inl ⟨by rfl, ?_⟩) ?_ ?_
                    rotate_left
                    ·intro w'
                     go_simp
                     with_reducible rfl
                    rotate_left
                    ·simp only [Act.put, sI, sZ, sS, i64_w, i32_w]
                     rfl
                    refine pure_ (i := 4) (N := some 44) (v := ?_) (a' := ?_) #[false, true, true, true, true, false, false, false, false] rfl rfl (any_of HT_.1 (by kernel_rfl)) (fun _ _ _ h => h) (Or.inl ⟨by rfl, ?_⟩) ?_ ?_
                    rotate_left
                    ·intro w'
                     go_simp
                     with_reducible rfl
                    rotate_left
                    ·simp only [Act.put, sI, sZ, sS, i64_w, i32_w]
                     rfl
                    refine pure_ (i := 5) (N := some 45) (v := ?_) (a' := ?_) #[false, true, true, true, true, true, false, false, false] rfl rfl (any_of HT_.1 (by kernel_rfl)) (fun _ _ _ h => h) (Or.inl ⟨by rfl, ?_⟩) ?_ ?_
                    rotate_left
                    ·intro w'
                     go_simp
                     with_reducible rfl
                    rotate_left
                    ·simp only [Act.put, sI, sZ, sS, i64_w, i32_w]
                     rfl
                    refine pure_ (i := 6) (N := some 46) (v := ?_) (a' := ?_) #[false, true, true, true, true, true, true, false, false] rfl rfl (any_of HT_.1 (by kernel_rfl)) (fun _ _ _ h => h) (Or.inl ⟨by rfl, ?_⟩) ?_ ?_
                    rotate_left
                    ·intro w'
                     go_simp
                     with_reducible rfl
                    rotate_left
                    ·simp only [Act.put, sI, sZ, sS, i64_w, i32_w]
                     rfl
                    refine take_ (i := 0) (N := some 40) (v := ?_) (a' := ?_) #[true, true, true, true, true, true, true, false, false] rfl rfl (take_ofW HT_.1 HW_.1 (by kernel_rfl)) (fun _ _ _ h => h) (Or.inl ⟨by rfl, ?_⟩) hHeld ?_ ?_
                    rotate_left
                    ·rintro w' ⟨s0, s1, s2, s3, s4, s5⟩
                     go_simp
                     with_reducible rfl
                    rotate_left
                    ·simp only [Act.put, sI, sZ, sS, i64_w, i32_w]
                     rfl
                    refine one_ (i := 7) (N := some 47) #[true, true, true, true, true, true, true, true, false] rfl rfl (one_of HT_.1 (by kernel_rfl)) (by decide) (fun K hK => ?_)
                    refine goes_ Try.func15 (by kernel_rfl) rfl #[.agg #[.slice P0 q0.length n0, .slice P1 q1.length n1, .slice P2 q2.length n2, .slice P3 q3.length n3, .slice P4 q4.length n4, .slice P5 q5.length n5], .slice A1 l1.length c1, .slice A83 y152.length c83] (by rfl) rfl rfl (by (try simp only [List.map_toArray, List.map_cons, List.map_nil]); first | done | rfl | (simp only [List.length_drop, List.length_take]; rfl)) ?_
                    with_reducible refine (casemap_Title.calls _ _ q0 _ _ q1 _ _ q2 _ _ q3 _ _ q4 _ _ q5 _ _ l1 _ _ y152 t156 _ ?z1 ?z2 ?z3 ?z4 ?z5 ?z6 ?z7 ?z8 ?z9 ?z10 ?z11 ?z12 ?z13 ?z14 ?z15 ?z16 A24.1).mono ?_
                    (case z1 => repeat (first | exact cB2 R0.1 HB.1 | with_reducible first | refine cA2 ?_ _ | refine cN2 ?_ _ | refine cD2 ?_))
                    (case z2 => exact N0.1)
                    (case z3 => repeat (first | exact cB2 R1.1 HB.1 | with_reducible first | refine cA2 ?_ _ | refine cN2 ?_ _ | refine cD2 ?_))
                    (case z4 => exact N1.1)
                    (case z5 => repeat (first | exact cB2 R2.1 HB.1 | with_reducible first | refine cA2 ?_ _ | refine cN2 ?_ _ | refine cD2 ?_))
                    (case z6 => exact N2.1)
                    (case z7 => repeat (first | exact cB2 R3.1 HB.1 | with_reducible first | refine cA2 ?_ _ | refine cN2 ?_ _ | refine cD2 ?_))
                    (case z8 => exact N3.1)
                    (case z9 => repeat (first | exact cB2 R4.1 HB.1 | with_reducible first | refine cA2 ?_ _ | refine cN2 ?_ _ | refine cD2 ?_))
                    (case z10 => exact N4.1)
                    (case z11 => repeat (first | exact cB2 R5.1 HB.1 | with_reducible first | refine cA2 ?_ _ | refine cN2 ?_ _ | refine cD2 ?_))
                    (case z12 => exact N5.1)
                    (case z13 => repeat (first | exact cB2 HR1.1 HB.1 | with_reducible first | refine cA2 ?_ _ | refine cN2 ?_ _ | refine cD2 ?_))
                    (case z14 => exact HC1.1)
                    (case z15 => repeat (first | exact cB2 HR155.1 HB.1 | with_reducible first | refine cA2 ?_ _ | refine cN2 ?_ _ | refine cD2 ?_))
                    (case z16 => exact HC155.1)
                    rintro e w84 ⟨v157, rfl, ho0, hb⟩
                    refine ⟨_, rfl, ?_⟩
                    have n0_ := aM (Kd.R_elder' (by (with_reducible repeat first | apply rA2 | apply rN2 | apply rD2); exact HO_7.1) (Kd.R_base ho0) hb)
                    have n1_ := aM (Kd.R_lower (Kd.R_new' ho0 (Kd.R_lt (by (with_reducible repeat first | apply rA2 | apply rN2 | apply rD2); exact HO_7.1))) (bSz (by repeat (first | (with_reducible first | exact HB.1 | apply bAl | apply pbN | apply bD1 | refine bSt ?_ GE137.1 | refine bSt ?_ GE151.1) | exact HB.1))))
                    have n2_ := aM (blk_below (g := gb137) (o := .cells #[.slice P0 q0.length n0, .slice P1 q1.length n1, .slice P2 q2.length n2, .slice P3 q3.length n3, .slice P4 q4.length n4, .slice P5 q5.length n5] 27 (0, 0)) (by (with_reducible repeat (first | refine bkN ?_ _ | refine bkD ?_ | refine bkA ?_ _)); exact BK137.1) hb)
                    have n3_ := aM (blk_below (g := gb151) (o := .cells #[.int .i64 ((rd_T33 l2 x9_2).f0), .int .i64 ((rd_T33 l2 x9_2).f1)] 33 (0, 0)) (by (with_reducible repeat (first | refine bkN ?_ _ | refine bkD ?_ | refine bkA ?_ _)); exact BK151.1) hb)
                    have n4_ := aM (bSp (by repeat (first | (with_reducible first | exact HB.1 | apply bAl | apply pbN | apply bD1 | refine bSt ?_ GE137.1 | refine bSt ?_ GE151.1) | exact HB.1)) hb)
                    clear HO_7
                    clear BK137
                    clear BK151
                    clear HB
                    have HO_7 := n0_
                    have HO158 := n1_
                    have BK137 := n2_
                    have BK151 := n3_
                    have HB := n4_
                    clear n0_ n1_ n2_ n3_ n4_
                    (try clear hb)
                    (try clear hb2)
                    (try clear hk)
                    (try clear hi)
                    (try clear ho0)
                    refine hK.out _ _ (bk62 BK137.1) (fun hHeld => ?_)
                    clear hK K
                    refine norm_ (a' := ?_) ?_ ?_
                    rotate_left
                    ·show Act.put _ (some 47) _ = _
                     simp only [Act.put, sI, sZ, sS, i64_w, i32_w]
                     rfl
                    refine pure_ (i := 8) (N := some 11) (v := ?_) (a' := ?_) #[true, true, true, true, true, true, true, true, true] rfl rfl (any_of HT_.1 (by kernel_rfl)) (fun _ _ _ h => h) (Or.inl ⟨by rfl, ?_⟩) ?_ ?_
                    rotate_left
                    ·intro w'
                     go_simp
                     with_reducible rfl
                    rotate_left
                    ·simp only [Act.put, sI, sZ, sS, i64_w, i32_w]
                     rfl
                    refine done_ (done_of HT_.1 (by kernel_rfl)) ?_
                    have hcz85_0 : w84.cell? ⟨gb151, 0, none⟩ = some (.int .i64 ((rd_T33 l2 x9_2).f0)) := (bkC BK151.1 0).trans rfl
                    have hcz85_1 : w84.cell? ⟨gb151, 1, none⟩ = some (.int .i64 ((rd_T33 l2 x9_2).f1)) := (bkC BK151.1 1).trans rfl
                    have hfz85_0 := bkF BK151.1 0
                    have hfz85_1 := bkF BK151.1 1
                    try go_wp2
                    have n0_ := aM (Kd.R_drew HO_7.1)
                    have n1_ := aM (Kd.R_drew HO158.1)
                    have n2_ := aM (bkD BK137.1)
                    have n3_ := aM (bkD BK151.1)
                    have n4_ := aM (bD1 HB.1)
                    clear HO_7
                    clear HO158
                    clear BK137
                    clear BK151
                    clear HB
                    have HO_7 := n0_
                    have HO158 := n1_
                    have BK137 := n2_
                    have BK151 := n3_
                    have HB := n4_
                    clear n0_ n1_ n2_ n3_ n4_
                    obtain ⟨Ao87, co87, eo87⟩ := Kd.R_slice HO158.1
                    (first | subst eo87 | (injection eo87 with f1_ f2_ f3_; have f4_ := f1_.symm; have f5_ := f3_.symm; clear f1_ f2_ f3_; subst f4_; subst f5_))
                    have q88 : (((rd_T33 l2 x9_2).f0) : Int) ≤ ((t156.length : Int) : Int) := oD (by first | (with_reducible assumption) | assumption)
                    obtain ⟨i088, hi088, _, hsz88, _⟩ := info_parts info3
                    have hroom88 : t156.length ≤ co87 := (Kd.R_reads' HO158.1).2.1
                    have hC88 : Kd.C (Kd.int .i64) _ Ao87 t156.length t156 := (Kd.R_reads' HO158.1).2.2
                    have hcut88 := cut_to (P := Try.prog) 28 3 .i64 Try.underlying28 hi088 Ao87 t156.length co87 ((rd_T33 l2 x9_2).f0) (oD (by first | (with_reducible assumption) | assumption)) q88 hroom88
                    have hr88 := Kd.C_take (m := (((rd_T33 l2 x9_2).f0) : Int).toNat) hC88 (by omega)
                    have hy88 : y159.length = (((rd_T33 l2 x9_2).f0) : Int).toNat := (by rw [Ny159.1, List.length_take]; omega)
                    rw [← Ny159.1] at hr88
                    rw [← hy88] at hcut88
                    have HR162 := aM hr88
                    have HC162 := aM (show y159.length ≤ co87 from by omega)
                    clear hr88 hC88 hroom88 hi088 hsz88
                    have KY88 := aM hy88
                    clear hy88
                    have KL88 := aM (show (((rd_T33 l2 x9_2).f0) : Int).toNat ≤ t156.length from by omega)
                    replace q88 := eq_true q88
                    obtain ⟨i089, hi089, _, hsz89, _⟩ := info_parts info3
                    obtain ⟨hcut89, hA89, hC89⟩ := print_take_of (P := Try.prog) (Value.int .i64) 0 28 3 .i64 Try.underlying28 hi089 hsz89 A1 c1 l1 ((rd_T33 l2 x9_2).f0) (oD (by first | (with_reducible assumption) | assumption)) (oD (by first | (with_reducible assumption) | assumption)) HC1.1
                    have HR163 := aM (Kd.C_of_reads (h1 := fun _ => rfl) (hA89 _ (Kd.reads_of_C HR1.1)))
                    have HC163 := aM hC89
                    clear hA89 hC89 hi089 hsz89
                    refine start_ (n := 33) (S := fun w' => w'.cell? ⟨gb151, 0, none⟩ = some (.int .i64 ((rd_T33 l2 x9_2).f0)) ∧ w'.cell? ⟨gb151, 1, none⟩ = some (.int .i64 ((rd_T33 l2 x9_2).f1))) (ds := []) #[false, false, false, false, false, false, false, false, false, false, false, false, false, false, false, false, false, false, false, false, false, false, false, false, false, false, false, false, false, false, false, false, false] (by kernel_rfl) rfl rfl ⟨(bkC BK151.1 0).trans rfl, (bkC BK151.1 1).trans rfl⟩ (fun hHeld => ?_); refine with_tabW w37_CasemapParts.tab11 w37_CasemapParts.bits11 (fun HT_ HW_ => ?_)
                    generalize w84.drew = w86 at HO_7 HO158 BK137 BK151 HB HR162 HR163 hHeld ⊢
                    refine pure_ (i := 0) (N := some 53) (v := ?_) (a' := ?_) #[true, false, false, false, false, false, false, false, false, false, false, false, false, false, false, false, false, false, false, false, false, false, false, false, false, false, false, false, false, false, false, false, false] rfl rfl (any_of HT_.1 (by kernel_rfl)) (fun _ _ _ h => h) (Or.inl ⟨by rfl, ?_⟩) ?_ ?_
                    rotate_left
                    ·intro w'
                     go_simp
                     with_reducible rfl
                    rotate_left
                    ·simp only [Act.put, sI, sZ, sS, i64_w, i32_w]
                     rfl
                    refine pure_ (i := 1) (N := some 54) (v := ?_) (a' := ?_) #[true, true, false, false, false, false, false, false, false, false, false, false, false, false, false, false, false, false, false, false, false, false, false, false, false, false, false, false, false, false, false, false, false] rfl rfl (any_of HT_.1 (by kernel_rfl)) (fun _ _ _ h => h) (Or.inl ⟨by rfl, ?_⟩) ?_ ?_
                    rotate_left
                    ·intro w'
                     go_simp
                     with_reducible rfl
                    rotate_left
                    ·simp only [Act.put, sI, sZ, sS, i64_w, i32_w]
                     rfl
                    refine pure_ (i := 2) (N := some 55) (v := ?_) (a' := ?_) #[true, true, true, false, false, false, false, false, false, false, false, false, false, false, false, false, false, false, false, false, false, false, false, false, false, false, false, false, false, false, false, false, false] rfl rfl (any_of HT_.1 (by kernel_rfl)) (fun _ _ _ h => h) (Or.inl ⟨by rfl, ?_⟩) ?_ ?_
                    rotate_left
                    ·intro w'
                     go_simp
                     with_reducible rfl
                    rotate_left
                    ·simp only [Act.put, sI, sZ, sS, i64_w, i32_w]
                     rfl
                    refine pure_ (i := 4) (N := some 57) (v := ?_) (a' := ?_) #[true, true, true, false, true, false, false, false, false, false, false, false, false, false, false, false, false, false, false, false, false, false, false, false, false, false, false, false, false, false, false, false, false] rfl rfl (any_of HT_.1 (by kernel_rfl)) (fun _ _ _ h => h) (Or.inl ⟨by rfl, ?_⟩) ?_ ?_
                    rotate_left
                    ·intro w'
                     go_simp
                     with_reducible rfl
                    rotate_left
                    ·simp only [Act.put, sI, sZ, sS, i64_w, i32_w]
                     rfl
                    refine take_ (i := 3) (N := some 56) (v := ?_) (a' := ?_) #[true, true, true, true, true, false, false, false, false, false, false, false, false, false, false, false, false, false, false, false, false, false, false, false, false, false, false, false, false, false, false, false, false] rfl rfl (take_ofW HT_.1 HW_.1 (by kernel_rfl)) (fun _ _ _ h => h) (Or.inl ⟨by rfl, ?_⟩) hHeld ?_ ?_
                    rotate_left
                    ·rintro w' ⟨s0, s1⟩
                     go_simp
                     with_reducible rfl
                    rotate_left
                    ·simp only [Act.put, sI, sZ, sS, i64_w, i32_w]
                     rfl
                    refine pure_ (i := 5) (N := some 58) (v := ?_) (a' := ?_) #[true, true, true, true, true, true, false, false, false, false, false, false, false, false, false, false, false, false, false, false, false, false, false, false, false, false, false, false, false, false, false, false, false] rfl rfl (any_of HT_.1 (by kernel_rfl)) (fun _ _ _ h => h) (Or.inl ⟨by rfl, ?_⟩) ?_ ?_
                    rotate_left
                    ·intro w'
                     go_simp
                     with_reducible rfl
                    rotate_left
                    ·simp only [Act.put, sI, sZ, sS, i64_w, i32_w]
                     rfl
                    refine pure_ (i := 6) (N := some 59) (v := ?_) (a' := ?_) #[true, true, true, true, true, true, true, false, false, false, false, false, false, false, false, false, false, false, false, false, false, false, false, false, false, false, false, false, false, false, false, false, false] rfl rfl (any_of HT_.1 (by kernel_rfl)) (fun _ _ _ h => h) (Or.inl ⟨by rfl, ?_⟩) ?_ ?_
                    rotate_left
                    ·intro w'
                     go_simp
                     with_reducible rfl
                    rotate_left
                    ·simp only [Act.put, sI, sZ, sS, i64_w, i32_w]
                     rfl
                    refine pure_ (i := 7) (N := some 60) (v := ?_) (a' := ?_) #[true, true, true, true, true, true, true, true, false, false, false, false, false, false, false, false, false, false, false, false, false, false, false, false, false, false, false, false, false, false, false, false, false] rfl rfl (any_of HT_.1 (by kernel_rfl)) (fun _ _ _ h => h) (Or.inl ⟨by rfl, ?_⟩) ?_ ?_
                    rotate_left
                    ·intro w'
                     go_simp
                     with_reducible rfl
                    rotate_left
                    ·simp only [Act.put, sI, sZ, sS, i64_w, i32_w]
                     rfl
                    refine pure_ (i := 8) (N := some 61) (v := ?_) (a' := ?_) #[true, true, true, true, true, true, true, true, true, false, false, false, false, false, false, false, false, false, false, false, false, false, false, false, false, false, false, false, false, false, false, false, false] rfl rfl (any_of HT_.1 (by kernel_rfl)) (fun _ _ _ h => h) (Or.inl ⟨by rfl, ?_⟩) ?_ ?_
                    rotate_left
                    ·intro w'
                     go_simp
                     with_reducible rfl
                    rotate_left
                    ·simp only [Act.put, sI, sZ, sS, i64_w, i32_w]
                     rfl
                    refine pure_ (i := 9) (N := some 62) (v := ?_) (a' := ?_) #[true, true, true, true, true, true, true, true, true, true, false, false, false, false, false, false, false, false, false, false, false, false, false, false, false, false, false, false, false, false, false, false, false] rfl rfl (any_of HT_.1 (by kernel_rfl)) (fun _ _ _ h => h) (Or.inl ⟨by rfl, ?_⟩) ?_ ?_
                    rotate_left
                    ·intro w'
                     go_simp
                     with_reducible rfl
                    rotate_left
                    ·simp only [Act.put, sI, sZ, sS, i64_w, i32_w]
                     rfl
                    refine pure_ (i := 12) (N := some 65) (v := ?_) (a' := ?_) #[true, true, true, true, true, true, true, true, true, true, false, false, true, false, false, false, false, false, false, false, false, false, false, false, false, false, false, false, false, false, false, false, false] rfl rfl (any_of HT_.1 (by kernel_rfl)) (fun _ _ _ h => h) (Or.inl ⟨by rfl, ?_⟩) ?_ ?_
                    rotate_left
                    ·intro w'
                     go_simp
                     with_reducible rfl
                    rotate_left
                    ·simp only [Act.put, sI, sZ, sS, i64_w, i32_w]
                     rfl
                    refine pure_ (i := 13) (N := some 66) (v := ?_) (a' := ?_) #[true, true, true, true, true, true, true, true, true, true, false, false, true, true, false, false, false, false, false, false, false, false, false, false, false, false, false, false, false, false, false, false, false] rfl rfl (any_of HT_.1 (by kernel_rfl)) (fun _ _ _ h => h) (Or.inl ⟨by rfl, ?_⟩) ?_ ?_
                    rotate_left
                    ·intro w'
                     go_simp
                     with_reducible rfl
                    rotate_left
                    ·simp only [Act.put, sI, sZ, sS, i64_w, i32_w]
                     rfl
                    refine take_ (i := 10) (N := some 63) (v := ?_) (a' := ?_) #[true, true, true, true, true, true, true, true, true, true, true, false, true, true, false, false, false, false, false, false, false, false, false, false, false, false, false, false, false, false, false, false, false] rfl rfl (take_ofW HT_.1 HW_.1 (by kernel_rfl)) (fun _ _ _ h => h) (Or.inl ⟨by rfl, ?_⟩) hHeld ?_ ?_
                    rotate_left
                    ·rintro w' ⟨s0, s1⟩
                     go_simp
                     with_reducible rfl
                    rotate_left
                    ·simp only [Act.put, sI, sZ, sS, i64_w, i32_w]
                     rfl
                    refine pure_ (i := 11) (N := some 64) (v := ?_) (a' := ?_) #[true, true, true, true, true, true, true, true, true, true, true, true, true, true, false, false, false, false, false, false, false, false, false, false, false, false, false, false, false, false, false, false, false] rfl rfl (any_of HT_.1 (by kernel_rfl)) (fun _ _ _ h => h) (Or.inl ⟨by rfl, ?_⟩) ?_ ?_
                    rotate_left
                    ·intro w'
                     go_simp
                     with_reducible rfl
                    rotate_left
                    ·simp only [Act.put, sI, sZ, sS, i64_w, i32_w]
                     rfl
                    refine take_ (i := 14) (N := some 67) (v := ?_) (a' := ?_) #[true, true, true, true, true, true, true, true, true, true, true, true, true, true, true, false, false, false, false, false, false, false, false, false, false, false, false, false, false, false, false, false, false] rfl rfl (take_ofW HT_.1 HW_.1 (by kernel_rfl)) (fun _ _ _ h => h) (Or.inl ⟨by rfl, ?_⟩) hHeld ?_ ?_
                    rotate_left
                    ·rintro w' ⟨s0, s1⟩
                     go_simp
                     with_reducible rfl
                    rotate_left
                    ·simp only [Act.put, sI, sZ, sS, i64_w, i32_w]
                     rfl
                    refine pure_ (i := 15) (N := some 68) (v := ?_) (a' := ?_) #[true, true, true, true, true, true, true, true, true, true, true, true, true, true, true, true, false, false, false, false, false, false, false, false, false, false, false, false, false, false, false, false, false] rfl rfl (any_of HT_.1 (by kernel_rfl)) (fun _ _ _ h => h) (Or.inl ⟨by rfl, ?_⟩) ?_ ?_
                    rotate_left
                    ·intro w'
                     go_simp
                     with_reducible rfl
                    rotate_left
                    ·simp only [Act.put, sI, sZ, sS, i64_w, i32_w]
                     rfl
                    refine one_ (i := 16) (N := some 69) #[true, true, true, true, true, true, true, true, true, true, true, true, true, true, true, true, true, false, false, false, false, false, false, false, false, false, false, false, false, false, false, false, false] rfl rfl (one_of HT_.1 (by kernel_rfl)) (by decide) (fun K hK => ?_)
                    refine goes_ Try.func16 (by kernel_rfl) rfl #[.slice Ao87 y159.length co87, .slice A1 (l1.take (((rd_T33 l2 x9_2).f0) : Int).toNat).length c1] (by rfl) rfl rfl (by (try simp only [List.map_toArray, List.map_cons, List.map_nil]); first | done | (rw [show (l1.take (((rd_T33 l2 x9_2).f0) : Int).toNat).length = ((rd_T33 l2 x9_2).f0).toNat from (by rw [List.length_take]; have h_ : (((rd_T33 l2 x9_2).f0) : Int) ≤ (l1.length : Int) := oD (by first | (with_reducible assumption) | assumption); omega)] <;> rfl) | rfl | (simp only [List.length_drop, List.length_take]; rfl)) ?_
                    with_reducible refine (r01_Equal.calls k2 _ _ y159 _ _ (l1.take (((rd_T33 l2 x9_2).f0) : Int).toNat) true _ ?z1 ?z2 ?z3 ?z4 A40.1).mono ?_
                    (case z1 => repeat (first | exact (by repeat (first | (with_reducible exact HR162.1) | (with_reducible refine Kd.C_alloc ?_ _) | (with_reducible refine Kd.C_drewN ?_ _) | (with_reducible refine Kd.C_drew ?_) | exact HR162.1)) | (with_reducible refine Kd.C_alloc ?_ _) | (with_reducible refine Kd.C_drewN ?_ _) | (with_reducible refine Kd.C_drew ?_)))
                    (case z2 => exact HC162.1)
                    (case z3 => repeat (first | exact cB2 HR163.1 HB.1 | with_reducible first | refine cA2 ?_ _ | refine cN2 ?_ _ | refine cD2 ?_))
                    (case z4 => exact HC163.1)
                    rintro e w' ⟨rfl, ⟨nd, rfl⟩⟩
                    refine ⟨_, rfl, ?_⟩
                    have q90 : ((ji42) : Int) ≤ ((t156.length : Int) : Int) := oD (by first | (with_reducible assumption) | assumption)
                    obtain ⟨i090, hi090, _, hsz90, _⟩ := info_parts info3
                    have hroom90 : t156.length ≤ co87 := (Kd.R_reads' HO158.1).2.1
                    have hC90 : Kd.C (Kd.int .i64) _ Ao87 t156.length t156 := (Kd.R_reads' HO158.1).2.2
                    have q090 : (0 : Int) ≤ ((ji42) : Int) := oD (by first | (with_reducible assumption) | assumption)
                    have hcut90 := cut_from (P := Try.prog) 28 3 .i64 Try.underlying28 hi090 1 hsz90 Ao87 t156.length co87 (ji42) q090 q90
                    have hr90 := Kd.C_drop (m := ((ji42) : Int).toNat) (c := co87) hC90 (by omega) hroom90
                    obtain ⟨A90, hA90⟩ : ∃ A1, A1 = (if co87 = ((ji42) : Int).toNat then Ao87 else (Ao87 : Option Addr).map (·.add (((ji42) : Int).toNat * 1))) := ⟨_, rfl⟩
                    obtain ⟨c90, hc90⟩ : ∃ c1, c1 = co87 - ((ji42) : Int).toNat := ⟨_, rfl⟩
                    have hy90 : y165.length = t156.length - ((ji42) : Int).toNat := (by rw [Ny165.1, List.length_drop] <;> omega)
                    rw [show (t156).drop ((ji42) : Int).toNat = y165 from Ny165.1.symm] at hr90
                    replace hr90 : Kd.C (Kd.int .i64) _ A90 y165.length y165 := (by rw [hA90]; exact hr90)
                    rw [← hy90, ← hA90, ← hc90] at hcut90
                    have HR168 := aM hr90
                    have HC168 := aM (show y165.length ≤ c90 from by rw [hy90, hc90]; exact Nat.sub_le_sub_right hroom90 _)
                    clear hr90 hC90 hroom90 hi090 hsz90 hc90
                    have KY90 := aM hy90
                    have KA90 := aM hA90
                    clear hy90 hA90
                    have KL90 := aM (show ((ji42) : Int).toNat ≤ t156.length from by omega)
                    replace q90 := eq_true q90
                    obtain ⟨i091, hi091, _, hsz91, _⟩ := info_parts info3
                    obtain ⟨A91, hcut91, hA91, hC91⟩ := print_drop_of (P := Try.prog) (Value.int .i64) 0 28 3 .i64 Try.underlying28 hi091 hsz91 A1 c1 l1 ((rd_T33 l2 x9_2).f1) (oD (by first | (with_reducible assumption) | assumption)) (oD (by first | (with_reducible assumption) | assumption)) HC1.1
                    have HR169 := aM (Kd.C_of_reads (h1 := fun _ => rfl) (hA91 _ (Kd.reads_of_C HR1.1)))
                    have HC169 := aM hC91
                    clear hA91 hC91 hi091 hsz91
                    refine hK.out _ _ ⟨(bkC BK151.1 0).trans rfl, (bkC BK151.1 1).trans rfl⟩ (fun hHeld => ?_)
                    clear hK K
                    refine norm_ (a' := ?_) ?_ ?_
                    rotate_left
                    ·show Act.put _ (some 69) _ = _
                     simp only [Act.put, sI, sZ, sS, i64_w, i32_w]
                     rfl
                    refine pure_ (i := 17) (N := some 70) (v := ?_) (a' := ?_) #[true, true, true, true, true, true, true, true, true, true, true, true, true, true, true, true, true, true, false, false, false, false, false, false, false, false, false, false, false, false, false, false, false] rfl rfl (any_of HT_.1 (by kernel_rfl)) (fun _ _ _ h => h) (Or.inl ⟨by rfl, ?_⟩) ?_ ?_
                    rotate_left
                    ·intro w'
                     go_simp
                     with_reducible rfl
                    rotate_left
                    ·simp only [Act.put, sI, sZ, sS, i64_w, i32_w]
                     rfl
                    refine pure_ (i := 18) (N := some 71) (v := ?_) (a' := ?_) #[true, true, true, true, true, true, true, true, true, true, true, true, true, true, true, true, true, true, true, false, false, false, false, false, false, false, false, false, false, false, false, false, false] rfl rfl (any_of HT_.1 (by kernel_rfl)) (fun _ _ _ h => h) (Or.inl ⟨by rfl, ?_⟩) ?_ ?_
                    rotate_left
                    ·intro w'
                     go_simp
                     with_reducible rfl
                    rotate_left
                    ·simp only [Act.put, sI, sZ, sS, i64_w, i32_w]
                     rfl
                    refine pure_ (i := 19) (N := some 72) (v := ?_) (a' := ?_) #[true, true, true, true, true, true, true, true, true, true, true, true, true, true, true, true, true, true, true, true, false, false, false, false, false, false, false, false, false, false, false, false, false] rfl rfl (any_of HT_.1 (by kernel_rfl)) (fun _ _ _ h => h) (Or.inl ⟨by rfl, ?_⟩) ?_ ?_
                    rotate_left
                    ·intro w'
                     go_simp
                     with_reducible rfl
                    rotate_left
                    ·simp only [Act.put, sI, sZ, sS, i64_w, i32_w]
                     rfl
                    refine pure_ (i := 20) (N := some 73) (v := ?_) (a' := ?_) #[true, true, true, true, true, true, true, true, true, true, true, true, true, true, true, true, true, true, true, true, true, false, false, false, false, false, false, false, false, false, false, false, false] rfl rfl (any_of HT_.1 (by kernel_rfl)) (fun _ _ _ h => h) (Or.inl ⟨by rfl, ?_⟩) ?_ ?_
                    rotate_left
                    ·intro w'
                     go_simp
                     with_reducible rfl
                    rotate_left
                    ·simp only [Act.put, sI, sZ, sS, i64_w, i32_w]
                     rfl
                    refine pure_ (i := 21) (N := some 74) (v := ?_) (a' := ?_) #[true, true, true, true, true, true, true, true, true, true, true, true, true, true, true, true, true, true, true, true, true, true, false, false, false, false, false, false, false, false, false, false, false] rfl rfl (any_of HT_.1 (by kernel_rfl)) (fun _ _ _ h => h) (Or.inl ⟨by rfl, ?_⟩) ?_ ?_
                    rotate_left
                    ·intro w'
                     go_simp
                     with_reducible rfl
                    rotate_left
                    ·simp only [Act.put, sI, sZ, sS, i64_w, i32_w]
                     rfl
                    refine pure_ (i := 22) (N := some 75) (v := ?_) (a' := ?_) #[true, true, true, true, true, true, true, true, true, true, true, true, true, true, true, true, true, true, true, true, true, true, true, false, false, false, false, false, false, false, false, false, false] rfl rfl (any_of HT_.1 (by kernel_rfl)) (fun _ _ _ h => h) (Or.inl ⟨by rfl, ?_⟩) ?_ ?_
                    rotate_left
                    ·intro w'
                     go_simp
                     with_reducible rfl
                    rotate_left
                    ·simp only [Act.put, sI, sZ, sS, i64_w, i32_w]
                     rfl
                    refine pure_ (i := 23) (N := some 76) (v := ?_) (a' := ?_) #[true, true, true, true, true, true, true, true, true, true, true, true, true, true, true, true, true, true, true, true, true, true, true, true, false, false, false, false, false, false, false, false, false] rfl rfl (any_of HT_.1 (by kernel_rfl)) (fun _ _ _ h => h) (Or.inl ⟨by rfl, ?_⟩) ?_ ?_
                    rotate_left
                    ·intro w'
                     go_simp
                     with_reducible rfl
                    rotate_left
                    ·simp only [Act.put, sI, sZ, sS, i64_w, i32_w]
                     rfl
                    refine pure_ (i := 24) (N := some 77) (v := ?_) (a' := ?_) #[true, true, true, true, true, true, true, true, true, true, true, true, true, true, true, true, true, true, true, true, true, true, true, true, true, false, false, false, false, false, false, false, false] rfl rfl (any_of HT_.1 (by kernel_rfl)) (fun _ _ _ h => h) (Or.inl ⟨by rfl, ?_⟩) ?_ ?_
                    rotate_left
                    ·intro w'
                     go_simp
                     with_reducible rfl
                    rotate_left
                    ·simp only [Act.put, sI, sZ, sS, i64_w, i32_w]
                     rfl
                    refine pure_ (i := 25) (N := some 78) (v := ?_) (a' := ?_) #[true, true, true, true, true, true, true, true, true, true, true, true, true, true, true, true, true, true, true, true, true, true, true, true, true, true, false, false, false, false, false, false, false] rfl rfl (any_of HT_.1 (by kernel_rfl)) (fun _ _ _ h => h) (Or.inl ⟨by rfl, ?_⟩) ?_ ?_
                    rotate_left
                    ·intro w'
                     go_simp
                     with_reducible rfl
                    rotate_left
                    ·simp only [Act.put, sI, sZ, sS, i64_w, i32_w]
                     rfl
                    refine pure_ (i := 26) (N := some 79) (v := ?_) (a' := ?_) #[true, true, true, true, true, true, true, true, true, true, true, true, true, true, true, true, true, true, true, true, true, true, true, true, true, true, true, false, false, false, false, false, false] rfl rfl (any_of HT_.1 (by kernel_rfl)) (fun _ _ _ h => h) (Or.inl ⟨by rfl, ?_⟩) ?_ ?_
                    rotate_left
                    ·intro w'
                     go_simp
                     with_reducible rfl
                    rotate_left
                    ·simp only [Act.put, sI, sZ, sS, i64_w, i32_w]
                     rfl
                    refine pure_ (i := 27) (N := some 80) (v := ?_) (a' := ?_) #[true, true, true, true, true, true, true, true, true, true, true, true, true, true, true, true, true, true, true, true, true, true, true, true, true, true, true, true, false, false, false, false, false] rfl rfl (any_of HT_.1 (by kernel_rfl)) (fun _ _ _ h => h) (Or.inl ⟨by rfl, ?_⟩) ?_ ?_
                    rotate_left
                    ·intro w'
                     go_simp
                     with_reducible rfl
                    rotate_left
                    ·simp only [Act.put, sI, sZ, sS, i64_w, i32_w]
                     rfl
                    refine take_ (i := 28) (N := some 81) (v := ?_) (a' := ?_) #[true, true, true, true, true, true, true, true, true, true, true, true, true, true, true, true, true, true, true, true, true, true, true, true, true, true, true, true, true, false, false, false, false] rfl rfl (take_ofW HT_.1 HW_.1 (by kernel_rfl)) (fun _ _ _ h => h) (Or.inl ⟨by rfl, ?_⟩) hHeld ?_ ?_
                    rotate_left
                    ·rintro w' ⟨s0, s1⟩
                     go_simp
                     with_reducible rfl
                    rotate_left
                    ·simp only [Act.put, sI, sZ, sS, i64_w, i32_w]
                     rfl
                    refine pure_ (i := 29) (N := some 82) (v := ?_) (a' := ?_) #[true, true, true, true, true, true, true, true, true, true, true, true, true, true, true, true, true, true, true, true, true, true, true, true, true, true, true, true, true, true, false, false, false] rfl rfl (any_of HT_.1 (by kernel_rfl)) (fun _ _ _ h => h) (Or.inl ⟨by rfl, ?_⟩) ?_ ?_
                    rotate_left
                    ·intro w'
                     go_simp
                     with_reducible rfl
                    rotate_left
                    ·simp only [Act.put, sI, sZ, sS, i64_w, i32_w]
                     rfl
                    refine one_ (i := 30) (N := some 83) #[true, true, true, true, true, true, true, true, true, true, true, true, true, true, true, true, true, true, true, true, true, true, true, true, true, true, true, true, true, true, true, false, false] rfl rfl (one_of HT_.1 (by kernel_rfl)) (by decide) (fun K hK => ?_)
                    refine goes_ Try.func16 (by kernel_rfl) rfl #[.slice A90 y165.length c90, .slice A91 (l1.drop (((rd_T33 l2 x9_2).f1) : Int).toNat).length (c1 - ((rd_T33 l2 x9_2).f1).toNat)] (by rfl) rfl rfl (by (try simp only [List.map_toArray, List.map_cons, List.map_nil]); first | done | (rw [show (l1.drop (((rd_T33 l2 x9_2).f1) : Int).toNat).length = (l1.length - ((rd_T33 l2 x9_2).f1).toNat) from List.length_drop] <;> rfl) | rfl | (simp only [List.length_drop, List.length_take]; rfl)) ?_
                    with_reducible refine (r01_Equal.calls k2 _ _ y165 _ _ (l1.drop (((rd_T33 l2 x9_2).f1) : Int).toNat) false _ ?z1 ?z2 ?z3 ?z4 A47.1).mono ?_
                    (case z1 => repeat (first | exact (by repeat (first | (with_reducible exact HR168.1) | (with_reducible refine Kd.C_alloc ?_ _) | (with_reducible refine Kd.C_drewN ?_ _) | (with_reducible refine Kd.C_drew ?_) | exact HR168.1)) | (with_reducible refine Kd.C_alloc ?_ _) | (with_reducible refine Kd.C_drewN ?_ _) | (with_reducible refine Kd.C_drew ?_)))
                    (case z2 => exact HC168.1)
                    (case z3 => repeat (first | exact (Kd.C_below HR169.1 (by repeat (first | (with_reducible first | exact HB.1 | apply bAl | apply pbN | apply bD1 | refine bSt ?_ GE137.1 | refine bSt ?_ GE151.1) | exact HB.1))) | (with_reducible refine Kd.C_alloc ?_ _) | (with_reducible refine Kd.C_drewN ?_ _) | (with_reducible refine Kd.C_drew ?_)))
                    (case z4 => exact HC169.1)
                    rintro e w' ⟨rfl, ⟨nd, rfl⟩⟩
                    refine ⟨_, rfl, ?_⟩
                    refine hK.out _ _ ⟨(bkC BK151.1 0).trans rfl, (bkC BK151.1 1).trans rfl⟩ (fun hHeld => ?_)
                    clear hK K
                    refine norm_ (a' := ?_) ?_ ?_
                    rotate_left
                    ·show Act.put _ (some 83) _ = _
                     simp only [Act.put, sI, sZ, sS, i64_w, i32_w]
                     rfl
                    refine pure_ (i := 31) (N := some 84) (v := ?_) (a' := ?_) #[true, true, true, true, true, true, true, true, true, true, true, true, true, true, true, true, true, true, true, true, true, true, true, true, true, true, true, true, true, true, true, true, false] rfl rfl (any_of HT_.1 (by kernel_rfl)) (fun _ _ _ h => h) (Or.inl ⟨by rfl, ?_⟩) ?_ ?_
                    rotate_left
                    ·intro w'
                     go_simp
                     with_reducible rfl
                    rotate_left
                    ·simp only [Act.put, sI, sZ, sS, i64_w, i32_w]
                     rfl
                    refine pure_ (i := 32) (N := some 85) (v := ?_) (a' := ?_) #[true, true, true, true, true, true, true, true, true, true, true, true, true, true, true, true, true, true, true, true, true, true, true, true, true, true, true, true, true, true, true, true, true] rfl rfl (any_of HT_.1 (by kernel_rfl)) (fun _ _ _ h => h) (Or.inl ⟨by rfl, ?_⟩) ?_ ?_
                    rotate_left
                    ·intro w'
                     go_simp
                     with_reducible rfl
                    rotate_left
                    ·simp only [Act.put, sI, sZ, sS, i64_w, i32_w]
                     rfl
                    refine done_ (done_of HT_.1 (by kernel_rfl)) ?_
                    try go_wp2
                    go_ret
                    exact ⟨by first | rfl | (simp [eN, eS] <;> rfl) | (simp only [← hji42]; first | rfl | (simp [eN, eS] <;> rfl)) | (simp [*, eN, eS] <;> rfl), by repeat (first | (with_reducible first | exact HB.1 | apply bAl | apply pbN | apply bD1 | refine bSt ?_ GE137.1 | refine bSt ?_ GE151.1) | exact HB.1)⟩
                  ·rw [if_neg c46] at H
                   exact absurd H (by simp)
                 ·rw [if_neg c45] at H
                  exact absurd H (by simp)
                ·rw [if_neg c44] at H
                 exact absurd H (by simp)
               ·rw [if_neg c43] at H
                exact absurd H (by simp)
              ·replace c41 := Bool.eq_false_iff.mpr c41
               subst c41
               have H1 : (some false) = some r := by rw [if_neg (show ¬ (false = true) by decide)] at H; exact H
               clear H
               have H := H1
               clear H1
               obtain rfl := Option.some.inj H
               have p150 : 0 ≤ (x9_2 : Int) := oD (by first | (with_reducible assumption) | assumption)
               have q150 : x9_2 < (l2.length : Int) := oD (by first | (with_reducible assumption) | assumption)
               obtain ⟨ad150, e150, hx150_0, hx150_1⟩ := at_T33 HR2.1 x9_2 p150 q150
               cases e150
               replace hx150_0 := (HB.1.cell (World.block_lt_of_cell? w _ hx150_0)).trans hx150_0
               replace hx150_1 := (HB.1.cell (World.block_lt_of_cell? w _ hx150_1)).trans hx150_1
               replace p150 := eq_true p150
               replace q150 := eq_true q150
               try go_wp2_with (first | ((with_reducible refine gate_dst (N := 10) rfl ?_); (try (refine gate_guard (by rfl) ?_; dsimp only)); refine box_event ?hg (N := 10) ?hd (cs := #[.int .i64 0, .int .i64 0]) (t := 33) ?hr ?_; (case hd => rfl); (case hg => rfl); (case hr => first | (go_simp; done) | (go_simp; rfl)); intro gb151 hg w92 hbox hb; have n0_ := aM (Kd.R_below (by (with_reducible repeat first | apply rA2 | apply rN2 | apply rD2); exact HO_7.1) hb); have n1_ := aM (blk_below (g := gb137) (o := .cells #[.slice P0 q0.length n0, .slice P1 q1.length n1, .slice P2 q2.length n2, .slice P3 q3.length n3, .slice P4 q4.length n4, .slice P5 q5.length n5] 27 (0, 0)) (by (with_reducible repeat (first | refine bkN ?_ _ | refine bkD ?_ | refine bkA ?_ _)); exact BK137.1) hb); have n2_ := aM (bSp (by repeat (first | (with_reducible first | exact HB.1 | apply bAl | apply pbN | apply bD1 | refine bSt ?_ GE137.1) | exact HB.1)) hb); have n3_ := aM (hbox); have n4_ := aM ((by rw [hg]; exact (bSz (by repeat (first | (with_reducible first | exact HB.1 | apply bAl | apply pbN | apply bD1 | refine bSt ?_ GE137.1) | exact HB.1))) : w.heap.size ≤ gb151)); have n5_ := aM ((by rw [hg]; exact (bSz (by repeat (first | (with_reducible first | exact HB.1 | apply bAl | apply pbN | apply bD1 | refine bSt ?_ GE137.1) | exact HB.1))) : w.heap.size ≤ gb151)); have n6_ := aM ((by rw [hg]; exact Nat.ne_of_lt (blk_lt (g := gb137) (o := .cells #[.slice P0 q0.length n0, .slice P1 q1.length n1, .slice P2 q2.length n2, .slice P3 q3.length n3, .slice P4 q4.length n4, .slice P5 q5.length n5] 27 (0, 0)) (by (with_reducible repeat (first | refine bkN ?_ _ | refine bkD ?_ | refine bkA ?_ _)); exact BK137.1)) : gb137 ≠ gb151)); have n7_ := aM ((by rw [hg]; exact Nat.ne_of_gt (blk_lt (g := gb137) (o := .cells #[.slice P0 q0.length n0, .slice P1 q1.length n1, .slice P2 q2.length n2, .slice P3 q3.length n3, .slice P4 q4.length n4, .slice P5 q5.length n5] 27 (0, 0)) (by (with_reducible repeat (first | refine bkN ?_ _ | refine bkD ?_ | refine bkA ?_ _)); exact BK137.1)) : gb151 ≠ gb137)); clear HO_7; clear BK137; clear HB; have HO_7 := n0_; have BK137 := n1_; have HB := n2_; have BK151 := n3_; have GW151 := n4_; have GE151 := n5_; have NB137_151 := n6_; have NB151_137 := n7_; clear n0_ n1_ n2_ n3_ n4_ n5_ n6_ n7_; clear hb hbox hg; have hnb93 := NB151_137.1; have hnc93 := NB137_151.1; have hcz94_0 : w92.cell? ⟨gb151, 0, none⟩ = some (.int .i64 0) := (bkC BK151.1 0).trans rfl; have hcz94_1 : w92.cell? ⟨gb151, 1, none⟩ = some (.int .i64 0) := (bkC BK151.1 1).trans rfl; have hfz94_0 := bkF BK151.1 0; have hfz94_1 := bkF BK151.1 1))
               have n0_ : Aside0 (Kd.R (Kd.int .i64) 3 ((w92.setCell ⟨gb151, 0, none⟩ (.int .i64 ((rd_T33 l2 x9_2).f0))).setCell ⟨gb151, 1, none⟩ (.int .i64 ((rd_T33 l2 x9_2).f1))) w.heap.size (fun _ => True) u7 x7_2) := ⟨by (with_reducible repeat first | apply rA2 | apply rN2 | apply rD2); exact Kd.R_mono (Kd.R_far (p := ⟨gb151, 1, none⟩) (Kd.R_far (p := ⟨gb151, 0, none⟩) (Kd.R_types HO_7.1 BK151.1 (by decide)) (fun _ hk => hk.2) (.int .i64 ((rd_T33 l2 x9_2).f0))) (fun _ hk => hk.2) (.int .i64 ((rd_T33 l2 x9_2).f1))) (fun _ hk => trivial)⟩
               have n1_ : Aside0 (((w92.setCell ⟨gb151, 0, none⟩ (.int .i64 ((rd_T33 l2 x9_2).f0))).setCell ⟨gb151, 1, none⟩ (.int .i64 ((rd_T33 l2 x9_2).f1))).heap[gb137]? = some (.cells #[.slice P0 q0.length n0, .slice P1 q1.length n1, .slice P2 q2.length n2, .slice P3 q3.length n3, .slice P4 q4.length n4, .slice P5 q5.length n5] 27 (0, 0))) := ⟨by (with_reducible repeat (first | refine bkN ?_ _ | refine bkD ?_ | refine bkA ?_ _)); refine blk_far ?_ NB137_151.1 _; (with_reducible repeat (first | refine bkN ?_ _ | refine bkD ?_ | refine bkA ?_ _)); refine blk_far ?_ NB137_151.1 _; (with_reducible repeat (first | refine bkN ?_ _ | refine bkD ?_ | refine bkA ?_ _)); exact BK137.1⟩
               have n2_ : Aside0 (((w92.setCell ⟨gb151, 0, none⟩ (.int .i64 ((rd_T33 l2 x9_2).f0))).setCell ⟨gb151, 1, none⟩ (.int .i64 ((rd_T33 l2 x9_2).f1))).heap[gb151]? = some (.cells #[.int .i64 ((rd_T33 l2 x9_2).f0), .int .i64 ((rd_T33 l2 x9_2).f1)] 33 (0, 0))) := ⟨by (with_reducible repeat (first | refine bkN ?_ _ | refine bkD ?_ | refine bkA ?_ _)); refine blk_put (cs := #[.int .i64 ((rd_T33 l2 x9_2).f0), .int .i64 0]) ?_ 1 _ rfl; (with_reducible repeat (first | refine bkN ?_ _ | refine bkD ?_ | refine bkA ?_ _)); refine blk_put (cs := #[.int .i64 0, .int .i64 0]) ?_ 0 _ rfl; (with_reducible repeat (first | refine bkN ?_ _ | refine bkD ?_ | refine bkA ?_ _)); exact BK151.1⟩
               have n3_ : Aside0 (Below w.heap.size w ((w92.setCell ⟨gb151, 0, none⟩ (.int .i64 ((rd_T33 l2 x9_2).f0))).setCell ⟨gb151, 1, none⟩ (.int .i64 ((rd_T33 l2 x9_2).f1)))) := ⟨by repeat (first | (with_reducible first | exact HB.1 | apply bAl | apply pbN | apply bD1 | refine bSt ?_ GE137.1 | refine bSt ?_ GE151.1) | exact HB.1)⟩
               (try clear HO_7)
               (try clear BK137)
               (try clear BK151)
               (try clear HB)
               generalize ((w92.setCell ⟨gb151, 0, none⟩ (.int .i64 ((rd_T33 l2 x9_2).f0))).setCell ⟨gb151, 1, none⟩ (.int .i64 ((rd_T33 l2 x9_2).f1))) = w95 at n0_ n1_ n2_ n3_ ⊢
               have HO_7 := n0_
               have BK137 := n1_
               have BK151 := n2_
               have HB := n3_
               clear n0_ n1_ n2_ n3_
               have n0_ := aM (Kd.R_drew HO_7.1)
               have n1_ := aM (bkD BK137.1)
               have n2_ := aM (bkD BK151.1)
               have n3_ := aM (bD1 HB.1)
               clear HO_7
               clear BK137
               clear BK151
               clear HB
               have HO_7 := n0_
               have BK137 := n1_
               have BK151 := n2_
               have HB := n3_
               clear n0_ n1_ n2_ n3_
               have q97 : ((wrap64 (x9_2 + 1)) : Int) ≤ ((l2.length : Int) : Int) := oD (by first | (with_reducible assumption) | assumption)
               obtain ⟨i097, hi097, _, hsz97, _⟩ := info_parts info33
               have hroom97 : l2.length ≤ c2 := HC2.1
               have hC97 : Kd.C k33 _ (some ad150) l2.length l2 := HR2.1
               have ql97 : (x9_2 : Int) ≤ ((wrap64 (x9_2 + 1)) : Int) := oD (by first | (with_reducible assumption) | assumption)
               have q097 : (0 : Int) ≤ (x9_2 : Int) := oD (by first | (with_reducible assumption) | assumption)
               have hcut97 := cut_mid (P := Try.prog) 23 33 .i64 .i64 Try.underlying23 hi097 2 hsz97 (some ad150) l2.length c2 x9_2 (wrap64 (x9_2 + 1)) q097 ql97 q97 hroom97
               have hr97 := Kd.C_mid (lo := (x9_2 : Int).toNat) (hi := ((wrap64 (x9_2 + 1)) : Int).toNat) (c := c2) hC97 (by omega) (by omega) hroom97
               obtain ⟨A97, hA97⟩ : ∃ A1, A1 = (if c2 = (x9_2 : Int).toNat then (some ad150) else ((some ad150) : Option Addr).map (·.add ((x9_2 : Int).toNat * 2))) := ⟨_, rfl⟩
               obtain ⟨c97, hc97⟩ : ∃ c1, c1 = c2 - (x9_2 : Int).toNat := ⟨_, rfl⟩
               have hy97 : y152.length = ((wrap64 (x9_2 + 1)) : Int).toNat - (x9_2 : Int).toNat := (by rw [Ny152.1, List.length_drop, List.length_take] <;> omega)
               rw [show ((l2).take ((wrap64 (x9_2 + 1)) : Int).toNat).drop (x9_2 : Int).toNat = y152 from Ny152.1.symm] at hr97
               replace hr97 : Kd.C k33 _ A97 y152.length y152 := (by rw [hA97]; exact hr97)
               rw [← hy97, ← hA97, ← hc97] at hcut97
               have HR155 := aM hr97
               have HC155 := aM (show y152.length ≤ c97 from by rw [hy97, hc97]; exact Nat.sub_le_sub_right (Nat.le_trans (by omega) hroom97) _)
               clear hr97 hC97 hroom97 hi097 hsz97 hc97
               have KY97 := aM hy97
               have KA97 := aM hA97
               clear hy97 hA97
               replace q97 := eq_true q97
               refine start_ (n := 9) (S := fun w' => w'.cell? ⟨gb137, 0, none⟩ = some (.slice P0 q0.length n0) ∧ w'.cell? ⟨gb137, 1, none⟩ = some (.slice P1 q1.length n1) ∧ w'.cell? ⟨gb137, 2, none⟩ = some (.slice P2 q2.length n2) ∧ w'.cell? ⟨gb137, 3, none⟩ = some (.slice P3 q3.length n3) ∧ w'.cell? ⟨gb137, 4, none⟩ = some (.slice P4 q4.length n4) ∧ w'.cell? ⟨gb137, 5, none⟩ = some (.slice P5 q5.length n5)) (ds := []) #[false, false, false, false, false, false, false, false, false] (by kernel_rfl) rfl rfl (bk62 BK137.1) (fun hHeld => ?_); refine with_tabW w37_CasemapParts.tab9 w37_CasemapParts.bits9 (fun HT_ HW_ => ?_)
               generalize w95.drew = w96 at HO_7 BK137 BK151 HB HR155 hHeld ⊢
               refine pure_ (i := 1) (N := some 41) (v := ?_) (a' := ?_) #[false, true, false, false, false, false, false, false, false] rfl rfl (any_of HT_.1 (by kernel_rfl)) (fun _ _ _ h => h) (Or.inl ⟨by rfl, ?_⟩) ?_ ?_
               rotate_left
               ·intro w'
                go_simp
                with_reducible rfl
               rotate_left
               ·simp only [Act.put, sI, sZ, sS, i64_w, i32_w]
                rfl
               refine pure_ (i := 2) (N := some 42) (v := ?_) (a' := ?_) #[false, true, true, false, false, false, false, false, false] rfl rfl (any_of HT_.1 (by kernel_rfl)) (fun _ _ _ h => h) (Or.inl ⟨by rfl, ?_⟩) ?_ ?_
               rotate_left
               ·intro w'
                go_simp
                with_reducible rfl
               rotate_left
               ·simp only [Act.put, sI, sZ, sS, i64_w, i32_w]
                rfl
               refine pure_ (i := 3) (N := some 43) (v := ?_) (a' := ?_) #[false, true, true, true, false, false, false, false, false] rfl rfl (any_of HT_.1 (by kernel_rfl)) (fun _ _ _ h => h) (Or.inl ⟨by rfl, ?_⟩) ?_ ?_
               rotate_left
               ·intro w'
                go_simp
                with_reducible rfl
               rotate_left
               ·simp only [Act.put, sI, sZ, sS, i64_w, i32_w]
                rfl
               refine pure_ (i := 4) (N := some 44) (v := ?_) (a' := ?_) #[false, true, true, true, true, false, false, false, false] rfl rfl (any_of HT_.1 (by kernel_rfl)) (fun _ _ _ h => h) (Or.inl ⟨by rfl, ?_⟩) ?_ ?_
               rotate_left
               ·intro w'
                go_simp
                with_reducible rfl
               rotate_left
               ·simp only [Act.put, sI, sZ, sS, i64_w, i32_w]
                rfl
               refine pure_ (i := 5) (N := some 45) (v := ?_) (a' := ?_) #[false, true, true, true, true, true, false, false, false] rfl rfl (any_of HT_.1 (by kernel_rfl)) (fun _ _ _ h => h) (Or.inl ⟨by rfl, ?_⟩) ?_ ?_
               rotate_left
               ·intro w'
                go_simp
                with_reducible rfl
               rotate_left
               ·simp only [Act.put, sI, sZ, sS, i64_w, i32_w]
                rfl
               refine pure_ (i := 6) (N := some 46) (v := ?_) (a' := ?_) #[false, true, true, true, true, true, true, false, false] rfl rfl (any_of HT_.1 (by kernel_rfl)) (fun _ _ _ h => h) (Or.inl ⟨by rfl, ?_⟩) ?_ ?_
               rotate_left
               ·intro w'
                go_simp
                with_reducible rfl
               rotate_left
               ·simp only [Act.put, sI, sZ, sS, i64_w, i32_w]
                rfl
               refine take_ (i := 0) (N := some 40) (v := ?_) (a' := ?_) #[true, true, true, true, true, true, true, false, false] rfl rfl (take_ofW HT_.1 HW_.1 (by kernel_rfl)) (fun _ _ _ h => h) (Or.inl ⟨by rfl, ?_⟩) hHeld ?_ ?_
               rotate_left
               ·rintro w' ⟨s0, s1, s2, s3, s4, s5⟩
                go_simp
                with_reducible rfl
               rotate_left
               ·simp only [Act.put, sI, sZ, sS, i64_w, i32_w]
                rfl
               refine one_ (i := 7) (N := some 47) #[true, true, true, true, true, true, true, true, false] rfl rfl (one_of HT_.1 (by kernel_rfl)) (by decide) (fun K hK => ?_)
               refine goes_ Try.func15 (by kernel_rfl) rfl #[.agg #[.slice P0 q0.length n0, .slice P1 q1.length n1, .slice P2 q2.length n2, .slice P3 q3.length n3, .slice P4 q4.length n4, .slice P5 q5.length n5], .slice A1 l1.length c1, .slice A97 y152.length c97] (by rfl) rfl rfl (by (try simp only [List.map_toArray, List.map_cons, List.map_nil]); first | done | rfl | (simp only [List.length_drop, List.length_take]; rfl)) ?_
               with_reducible refine (casemap_Title.calls _ _ q0 _ _ q1 _ _ q2 _ _ q3 _ _ q4 _ _ q5 _ _ l1 _ _ y152 t156 _ ?z1 ?z2 ?z3 ?z4 ?z5 ?z6 ?z7 ?z8 ?z9 ?z10 ?z11 ?z12 ?z13 ?z14 ?z15 ?z16 A24.1).mono ?_
               (case z1 => repeat (first | exact cB2 R0.1 HB.1 | with_reducible first | refine cA2 ?_ _ | refine cN2 ?_ _ | refine cD2 ?_))
               (case z2 => exact N0.1)
               (case z3 => repeat (first | exact cB2 R1.1 HB.1 | with_reducible first | refine cA2 ?_ _ | refine cN2 ?_ _ | refine cD2 ?_))
               (case z4 => exact N1.1)
               (case z5 => repeat (first | exact cB2 R2.1 HB.1 | with_reducible first | refine cA2 ?_ _ | refine cN2 ?_ _ | refine cD2 ?_))
               (case z6 => exact N2.1)
               (case z7 => repeat (first | exact cB2 R3.1 HB.1 | with_reducible first | refine cA2 ?_ _ | refine cN2 ?_ _ | refine cD2 ?_))
               (case z8 => exact N3.1)
               (case z9 => repeat (first | exact cB2 R4.1 HB.1 | with_reducible first | refine cA2 ?_ _ | refine cN2 ?_ _ | refine cD2 ?_))
               (case z10 => exact N4.1)
               (case z11 => repeat (first | exact cB2 R5.1 HB.1 | with_reducible first | refine cA2 ?_ _ | refine cN2 ?_ _ | refine cD2 ?_))
               (case z12 => exact N5.1)
               (case z13 => repeat (first | exact cB2 HR1.1 HB.1 | with_reducible first | refine cA2 ?_ _ | refine cN2 ?_ _ | refine cD2 ?_))
               (case z14 => exact HC1.1)
               (case z15 => repeat (first | exact cB2 HR155.1 HB.1 | with_reducible first | refine cA2 ?_ _ | refine cN2 ?_ _ | refine cD2 ?_))
               (case z16 => exact HC155.1)
               rintro e w98 ⟨v157, rfl, ho0, hb⟩
               refine ⟨_, rfl, ?_⟩
               have n0_ := aM (Kd.R_elder' (by (with_reducible repeat first | apply rA2 | apply rN2 | apply rD2); exact HO_7.1) (Kd.R_base ho0) hb)
               have n1_ := aM (Kd.R_lower (Kd.R_new' ho0 (Kd.R_lt (by (with_reducible repeat first | apply rA2 | apply rN2 | apply rD2); exact HO_7.1))) (bSz (by repeat (first | (with_reducible first | exact HB.1 | apply bAl | apply pbN | apply bD1 | refine bSt ?_ GE137.1 | refine bSt ?_ GE151.1) | exact HB.1))))
               have n2_ := aM (blk_below (g := gb137) (o := .cells #[.slice P0 q0.length n0, .slice P1 q1.length n1, .slice P2 q2.length n2, .slice P3 q3.length n3, .slice P4 q4.length n4, .slice P5 q5.length n5] 27 (0, 0)) (by (with_reducible repeat (first | refine bkN ?_ _ | refine bkD ?_ | refine bkA ?_ _)); exact BK137.1) hb)
               have n3_ := aM (blk_below (g := gb151) (o := .cells #[.int .i64 ((rd_T33 l2 x9_2).f0), .int .i64 ((rd_T33 l2 x9_2).f1)] 33 (0, 0)) (by (with_reducible repeat (first | refine bkN ?_ _ | refine bkD ?_ | refine bkA ?_ _)); exact BK151.1) hb)
               have n4_ := aM (bSp (by repeat (first | (with_reducible first | exact HB.1 | apply bAl | apply pbN | apply bD1 | refine bSt ?_ GE137.1 | refine bSt ?_ GE151.1) | exact HB.1)) hb)
               clear HO_7
               clear BK137
               clear BK151
               clear HB
               have HO_7 := n0_
               have HO158 := n1_
               have BK137 := n2_
               have BK151 := n3_
               have HB := n4_
               clear n0_ n1_ n2_ n3_ n4_
               (try clear hb)
               (try clear hb2)
               (try clear hk)
               (try clear hi)
               (try clear ho0)
               refine hK.out _ _ (bk62 BK137.1) (fun hHeld => ?_)
               clear hK K
               refine norm_ (a' := ?_) ?_ ?_
               rotate_left
               ·show Act.put _ (some 47) _ = _
                simp only [Act.put, sI, sZ, sS, i64_w, i32_w]
                rfl
               refine pure_ (i := 8) (N := some 11) (v := ?_) (a' := ?_) #[true, true, true, true, true, true, true, true, true] rfl rfl (any_of HT_.1 (by kernel_rfl)) (fun _ _ _ h => h) (Or.inl ⟨by rfl, ?_⟩) ?_ ?_
               rotate_left
               ·intro w'
                go_simp
                with_reducible rfl
               rotate_left
               ·simp only [Act.put, sI, sZ, sS, i64_w, i32_w]
                rfl
               refine done_ (done_of HT_.1 (by kernel_rfl)) ?_
               have hcz99_0 : w98.cell? ⟨gb151, 0, none⟩ = some (.int .i64 ((rd_T33 l2 x9_2).f0)) := (bkC BK151.1 0).trans rfl
               have hcz99_1 : w98.cell? ⟨gb151, 1, none⟩ = some (.int .i64 ((rd_T33 l2 x9_2).f1)) := (bkC BK151.1 1).trans rfl
               have hfz99_0 := bkF BK151.1 0
               have hfz99_1 := bkF BK151.1 1
               try go_wp2
               have n0_ := aM (Kd.R_drew HO_7.1)
               have n1_ := aM (Kd.R_drew HO158.1)
               have n2_ := aM (bkD BK137.1)
               have n3_ := aM (bkD BK151.1)
               have n4_ := aM (bD1 HB.1)
               clear HO_7
               clear HO158
               clear BK137
               clear BK151
               clear HB
               have HO_7 := n0_
               have HO158 := n1_
               have BK137 := n2_
               have BK151 := n3_
               have HB := n4_
               clear n0_ n1_ n2_ n3_ n4_
               obtain ⟨Ao101, co101, eo101⟩ := Kd.R_slice HO158.1
               (first | subst eo101 | (injection eo101 with f1_ f2_ f3_; have f4_ := f1_.symm; have f5_ := f3_.symm; clear f1_ f2_ f3_; subst f4_; subst f5_))
               have q102 : (((rd_T33 l2 x9_2).f0) : Int) ≤ ((t156.length : Int) : Int) := oD (by first | (with_reducible assumption) | assumption)
               obtain ⟨i0102, hi0102, _, hsz102, _⟩ := info_parts info3
               have hroom102 : t156.length ≤ co101 := (Kd.R_reads' HO158.1).2.1
               have hC102 : Kd.C (Kd.int .i64) _ Ao101 t156.length t156 := (Kd.R_reads' HO158.1).2.2
               have hcut102 := cut_to (P := Try.prog) 28 3 .i64 Try.underlying28 hi0102 Ao101 t156.length co101 ((rd_T33 l2 x9_2).f0) (oD (by first | (with_reducible assumption) | assumption)) q102 hroom102
               have hr102 := Kd.C_take (m := (((rd_T33 l2 x9_2).f0) : Int).toNat) hC102 (by omega)
               have hy102 : y159.length = (((rd_T33 l2 x9_2).f0) : Int).toNat := (by rw [Ny159.1, List.length_take]; omega)
               rw [← Ny159.1] at hr102
               rw [← hy102] at hcut102
               have HR162 := aM hr102
               have HC162 := aM (show y159.length ≤ co101 from by omega)
               clear hr102 hC102 hroom102 hi0102 hsz102
               have KY102 := aM hy102
               clear hy102
               have KL102 := aM (show (((rd_T33 l2 x9_2).f0) : Int).toNat ≤ t156.length from by omega)
               replace q102 := eq_true q102
               obtain ⟨i0103, hi0103, _, hsz103, _⟩ := info_parts info3
               obtain ⟨hcut103, hA103, hC103⟩ := print_take_of (P := Try.prog) (Value.int .i64) 0 28 3 .i64 Try.underlying28 hi0103 hsz103 A1 c1 l1 ((rd_T33 l2 x9_2).f0) (oD (by first | (with_reducible assumption) | assumption)) (oD (by first | (with_reducible assumption) | assumption)) HC1.1
               have HR163 := aM (Kd.C_of_reads (h1 := fun _ => rfl) (hA103 _ (Kd.reads_of_C HR1.1)))
               have HC163 := aM hC103
               clear hA103 hC103 hi0103 hsz103
               refine start_ (n := 33) (S := fun w' => w'.cell? ⟨gb151, 0, none⟩ = some (.int .i64 ((rd_T33 l2 x9_2).f0)) ∧ w'.cell? ⟨gb151, 1, none⟩ = some (.int .i64 ((rd_T33 l2 x9_2).f1))) (ds := []) #[false, false, false, false, false, false, false, false, false, false, false, false, false, false, false, false, false, false, false, false, false, false, false, false, false, false, false, false, false, false, false, false, false] (by kernel_rfl) rfl rfl ⟨(bkC BK151.1 0).trans rfl, (bkC BK151.1 1).trans rfl⟩ (fun hHeld => ?_); refine with_tabW w37_CasemapParts.tab11 w37_CasemapParts.bits11 (fun HT_ HW_ => ?_)
               generalize w98.drew = w100 at HO_7 HO158 BK137 BK151 HB HR162 HR163 hHeld ⊢
               refine pure_ (i := 0) (N := some 53) (v := ?_) (a' := ?_) #[true, false, false, false, false, false, false, false, false, false, false, false, false, false, false, false, false, false, false, false, false, false, false, false, false, false, false, false, false, false, false, false, false] rfl rfl (any_of HT_.1 (by kernel_rfl)) (fun _ _ _ h => h) (Or.inl ⟨by rfl, ?_⟩) ?_ ?_
               rotate_left
               ·intro w'
                go_simp
                with_reducible rfl
               rotate_left
               ·simp only [Act.put, sI, sZ, sS, i64_w, i32_w]
                rfl
               refine pure_ (i := 1) (N := some 54) (v := ?_) (a' := ?_) #[true, true, false, false, false, false, false, false, false, false, false, false, false, false, false, false, false, false, false, false, false, false, false, false, false, false, false, false, false, false, false, false, false] rfl rfl (any_of HT_.1 (by kernel_rfl)) (fun _ _ _ h => h) (Or.inl ⟨by rfl, ?_⟩) ?_ ?_
               rotate_left
               ·intro w'
                go_simp
                with_reducible rfl
               rotate_left
               ·simp only [Act.put, sI, sZ, sS, i64_w, i32_w]
                rfl
               refine pure_ (i := 2) (N := some 55) (v := ?_) (a' := ?_) #[true, true, true, false, false, false, false, false, false, false, false, false, false, false, false, false, false, false, false, false, false, false, false, false, false, false, false, false, false, false, false, false, false] rfl rfl (any_of HT_.1 (by kernel_rfl)) (fun _ _ _ h => h) (Or.inl ⟨by rfl, ?_⟩) ?_ ?_
               rotate_left
               ·intro w'
                go_simp
                with_reducible rfl
               rotate_left
               ·simp only [Act.put, sI, sZ, sS, i64_w, i32_w]
                rfl
               refine pure_ (i := 4) (N := some 57) (v := ?_) (a' := ?_) #[true, true, true, false, true, false, false, false, false, false, false, false, false, false, false, false, false, false, false, false, false, false, false, false, false, false, false, false, false, false, false, false, false] rfl rfl (any_of HT_.1 (by kernel_rfl)) (fun _ _ _ h => h) (Or.inl ⟨by rfl, ?_⟩) ?_ ?_
               rotate_left
               ·intro w'
                go_simp
                with_reducible rfl
               rotate_left
               ·simp only [Act.put, sI, sZ, sS, i64_w, i32_w]
                rfl
               refine take_ (i := 3) (N := some 56) (v := ?_) (a' := ?_) #[true, true, true, true, true, false, false, false, false, false, false, false, false, false, false, false, false, false, false, false, false, false, false, false, false, false, false, false, false, false, false, false, false] rfl rfl (take_ofW HT_.1 HW_.1 (by kernel_rfl)) (fun _ _ _ h => h) (Or.inl ⟨by rfl, ?_⟩) hHeld ?_ ?_
               rotate_left
               ·rintro w' ⟨s0, s1⟩
                go_simp
                with_reducible rfl
               rotate_left
               ·simp only [Act.put, sI, sZ, sS, i64_w, i32_w]
                rfl
               refine pure_ (i := 5) (N := some 58) (v := ?_) (a' := ?_) #[true, true, true, true, true, true, false, false, false, false, false, false, false, false, false, false, false, false, false, false, false, false, false, false, false, false, false, false, false, false, false, false, false] rfl rfl (any_of HT_.1 (by kernel_rfl)) (fun _ _ _ h => h) (Or.inl ⟨by rfl, ?_⟩) ?_ ?_
               rotate_left
               ·intro w'
                go_simp
                with_reducible rfl
               rotate_left
               ·simp only [Act.put, sI, sZ, sS, i64_w, i32_w]
                rfl
               refine pure_ (i := 6) (N := some 59) (v := ?_) (a' := ?_) #[true, true, true, true, true, true, true, false, false, false, false, false, false, false, false, false, false, false, false, false, false, false, false, false, false, false, false, false, false, false, false, false, false] rfl rfl (any_of HT_.1 (by kernel_rfl)) (fun _ _ _ h => h) (Or.inl ⟨by rfl, ?_⟩) ?_ ?_
               rotate_left
               ·intro w'
                go_simp
                with_reducible rfl
               rotate_left
               ·simp only [Act.put, sI, sZ, sS, i64_w, i32_w]
                rfl
               refine pure_ (i := 7) (N := some 60) (v := ?_) (a' := ?_) #[true, true, true, true, true, true, true, true, false, false, false, false, false, false, false, false, false, false, false, false, false, false, false, false, false, false, false, false, false, false, false, false, false] rfl rfl (any_of HT_.1 (by kernel_rfl)) (fun _ _ _ h => h) (Or.inl ⟨by rfl, ?_⟩) ?_ ?_
               rotate_left
               ·intro w'
                go_simp
                with_reducible rfl
               rotate_left
               ·simp only [Act.put, sI, sZ, sS, i64_w, i32_w]
                rfl
               refine pure_ (i := 8) (N := some 61) (v := ?_) (a' := ?_) #[true, true, true, true, true, true, true, true, true, false, false, false, false, false, false, false, false, false, false, false, false, false, false, false, false, false, false, false, false, false, false, false, false] rfl rfl (any_of HT_.1 (by kernel_rfl)) (fun _ _ _ h => h) (Or.inl ⟨by rfl, ?_⟩) ?_ ?_
               rotate_left
               ·intro w'
                go_simp
                with_reducible rfl
               rotate_left
               ·simp only [Act.put, sI, sZ, sS, i64_w, i32_w]
                rfl
               refine pure_ (i := 9) (N := some 62) (v := ?_) (a' := ?_) #[true, true, true, true, true, true, true, true, true, true, false, false, false, false, false, false, false, false, false, false, false, false, false, false, false, false, false, false, false, false, false, false, false] rfl rfl (any_of HT_.1 (by kernel_rfl)) (fun _ _ _ h => h) (Or.inl ⟨by rfl, ?_⟩) ?_ ?_
               rotate_left
               ·intro w'
                go_simp
                with_reducible rfl
               rotate_left
               ·simp only [Act.put, sI, sZ, sS, i64_w, i32_w]
                rfl
               refine pure_ (i := 12) (N := some 65) (v := ?_) (a' := ?_) #[true, true, true, true, true, true, true, true, true, true, false, false, true, false, false, false, false, false, false, false, false, false, false, false, false, false, false, false, false, false, false, false, false] rfl rfl (any_of HT_.1 (by kernel_rfl)) (fun _ _ _ h => h) (Or.inl ⟨by rfl, ?_⟩) ?_ ?_
               rotate_left
               ·intro w'
                go_simp
                with_reducible rfl
               rotate_left
               ·simp only [Act.put, sI, sZ, sS, i64_w, i32_w]
                rfl
               refine pure_ (i := 13) (N := some 66) (v := ?_) (a' := ?_) #[true, true, true, true, true, true, true, true, true, true, false, false, true, true, false, false, false, false, false, false, false, false, false, false, false, false, false, false, false, false, false, false, false] rfl rfl (any_of HT_.1 (by kernel_rfl)) (fun _ _ _ h => h) (Or.inl ⟨by rfl, ?_⟩) ?_ ?_
               rotate_left
               ·intro w'
                go_simp
                with_reducible rfl
               rotate_left
               ·simp only [Act.put, sI, sZ, sS, i64_w, i32_w]
                rfl
               refine take_ (i := 10) (N := some 63) (v := ?_) (a' := ?_) #[true, true, true, true, true, true, true, true, true, true, true, false, true, true, false, false, false, false, false, false, false, false, false, false, false, false, false, false, false, false, false, false, false] rfl rfl (take_ofW HT_.1 HW_.1 (by kernel_rfl)) (fun _ _ _ h => h) (Or.inl ⟨by rfl, ?_⟩) hHeld ?_ ?_
               rotate_left
               ·rintro w' ⟨s0, s1⟩
                go_simp
                with_reducible rfl
               rotate_left
               ·simp only [Act.put, sI, sZ, sS, i64_w, i32_w]
                rfl
               refine pure_ (i := 11) (N := some 64) (v := ?_) (a' := ?_) #[true, true, true, true, true, true, true, true, true, true, true, true, true, true, false, false, false, false, false, false, false, false, false, false, false, false, false, false, false, false, false, false, false] rfl rfl (any_of HT_.1 (by kernel_rfl)) (fun _ _ _ h => h) (Or.inl ⟨by rfl, ?_⟩) ?_ ?_
               rotate_left
               ·intro w'
                go_simp
                with_reducible rfl
               rotate_left
               ·simp only [Act.put, sI, sZ, sS, i64_w, i32_w]
                rfl
               refine take_ (i := 14) (N := some 67) (v := ?_) (a' := ?_) #[true, true, true, true, true, true, true, true, true, true, true, true, true, true, true, false, false, false, false, false, false, false, false, false, false, false, false, false, false, false, false, false, false] rfl rfl (take_ofW HT_.1 HW_.1 (by kernel_rfl)) (fun _ _ _ h => h) (Or.inl ⟨by rfl, ?_⟩) hHeld ?_ ?_
               rotate_left
               ·rintro w' ⟨s0, s1⟩
                go_simp
                with_reducible rfl
               rotate_left
               ·simp only [Act.put, sI, sZ, sS, i64_w, i32_w]
                rfl
               refine pure_ (i := 15) (N := some 68) (v := ?_) (a' := ?_) #[true, true, true, true, true, true, true, true, true, true, true, true, true, true, true, true, false, false, false, false, false, false, false, false, false, false, false, false, false, false, false, false, false] rfl rfl (any_of HT_.1 (by kernel_rfl)) (fun _ _ _ h => h) (Or.inl ⟨by rfl, ?_⟩) ?_ ?_
               rotate_left
               ·intro w'
                go_simp
                with_reducible rfl
               rotate_left
               ·simp only [Act.put, sI, sZ, sS, i64_w, i32_w]
                rfl
               refine one_ (i := 16) (N := some 69) #[true, true, true, true, true, true, true, true, true, true, true, true, true, true, true, true, true, false, false, false, false, false, false, false, false, false, false, false, false, false, false, false, false] rfl rfl (one_of HT_.1 (by kernel_rfl)) (by decide) (fun K hK => ?_)
               refine goes_ Try.func16 (by kernel_rfl) rfl #[.slice Ao101 y159.length co101, .slice A1 (l1.take (((rd_T33 l2 x9_2).f0) : Int).toNat).length c1] (by rfl) rfl rfl (by (try simp only [List.map_toArray, List.map_cons, List.map_nil]); first | done | (rw [show (l1.take (((rd_T33 l2 x9_2).f0) : Int).toNat).length = ((rd_T33 l2 x9_2).f0).toNat from (by rw [List.length_take]; have h_ : (((rd_T33 l2 x9_2).f0) : Int) ≤ (l1.length : Int) := oD (by first | (with_reducible assumption) | assumption); omega)] <;> rfl) | rfl | (simp only [List.length_drop, List.length_take]; rfl)) ?_
               with_reducible refine (r01_Equal.calls k2 _ _ y159 _ _ (l1.take (((rd_T33 l2 x9_2).f0) : Int).toNat) false _ ?z1 ?z2 ?z3 ?z4 A40.1).mono ?_
               (case z1 => repeat (first | exact (by repeat (first | (with_reducible exact HR162.1) | (with_reducible refine Kd.C_alloc ?_ _) | (with_reducible refine Kd.C_drewN ?_ _) | (with_reducible refine Kd.C_drew ?_) | exact HR162.1)) | (with_reducible refine Kd.C_alloc ?_ _) | (with_reducible refine Kd.C_drewN ?_ _) | (with_reducible refine Kd.C_drew ?_)))
               (case z2 => exact HC162.1)
               (case z3 => repeat (first | exact cB2 HR163.1 HB.1 | with_reducible first | refine cA2 ?_ _ | refine cN2 ?_ _ | refine cD2 ?_))
               (case z4 => exact HC163.1)
               rintro e w' ⟨rfl, ⟨nd, rfl⟩⟩
               refine ⟨_, rfl, ?_⟩
               refine hK.out _ _ ⟨(bkC BK151.1 0).trans rfl, (bkC BK151.1 1).trans rfl⟩ (fun hHeld => ?_)
               clear hK K
               refine norm_ (a' := ?_) ?_ ?_
               rotate_left
               ·show Act.put _ (some 69) _ = _
                simp only [Act.put, sI, sZ, sS, i64_w, i32_w]
                rfl
               refine pure_ (i := 17) (N := some 70) (v := ?_) (a' := ?_) #[true, true, true, true, true, true, true, true, true, true, true, true, true, true, true, true, true, true, false, false, false, false, false, false, false, false, false, false, false, false, false, false, false] rfl rfl (any_of HT_.1 (by kernel_rfl)) (fun _ _ _ h => h) (Or.inl ⟨by rfl, ?_⟩) ?_ ?_
               rotate_left
               ·intro w'
                go_simp
                with_reducible rfl
               rotate_left
               ·simp only [Act.put, sI, sZ, sS, i64_w, i32_w]
                rfl
               refine pure_ (i := 18) (N := some 71) (v := ?_) (a' := ?_) #[true, true, true, true, true, true, true, true, true, true, true, true, true, true, true, true, true, true, true, false, false, false, false, false, false, false, false, false, false, false, false, false, false] rfl rfl (any_of HT_.1 (by kernel_rfl)) (fun _ _ _ h => h) (Or.inl ⟨by rfl, ?_⟩) ?_ ?_
               rotate_left
               ·intro w'
                go_simp
                with_reducible rfl
               rotate_left
               ·simp only [Act.put, sI, sZ, sS, i64_w, i32_w]
                rfl
               refine pure_ (i := 19) (N := some 72) (v := ?_) (a' := ?_) #[true, true, true, true, true, true, true, true, true, true, true, true, true, true, true, true, true, true, true, true, false, false, false, false, false, false, false, false, false, false, false, false, false] rfl rfl (any_of HT_.1 (by kernel_rfl)) (fun _ _ _ h => h) (Or.inl ⟨by rfl, ?_⟩) ?_ ?_
               rotate_left
               ·intro w'
                go_simp
                with_reducible rfl
               rotate_left
               ·simp only [Act.put, sI, sZ, sS, i64_w, i32_w]
                rfl
               refine pure_ (i := 20) (N := some 73) (v := undef) (a' := ?_) #[true, true, true, true, true, true, true, true, true, true, true, true, true, true, true, true, true, true, true, true, true, false, false, false, false, false, false, false, false, false, false, false, false] rfl rfl (any_of HT_.1 (by kernel_rfl)) (fun _ _ _ h => h) (Or.inr ⟨by rfl, rfl⟩) ?_ ?_
               rotate_left
               ·simp only [Act.put, sI, sZ, sS, i64_w, i32_w]
                rfl
               refine pure_ (i := 21) (N := some 74) (v := undef) (a' := ?_) #[true, true, true, true, true, true, true, true, true, true, true, true, true, true, true, true, true, true, true, true, true, true, false, false, false, false, false, false, false, false, false, false, false] rfl rfl (any_of HT_.1 (by kernel_rfl)) (fun _ _ _ h => h) (Or.inr ⟨by rfl, rfl⟩) ?_ ?_
               rotate_left
               ·simp only [Act.put, sI, sZ, sS, i64_w, i32_w]
                rfl
               refine pure_ (i := 22) (N := some 75) (v := undef) (a' := ?_) #[true, true, true, true, true, true, true, true, true, true, true, true, true, true, true, true, true, true, true, true, true, true, true, false, false, false, false, false, false, false, false, false, false] rfl rfl (any_of HT_.1 (by kernel_rfl)) (fun _ _ _ h => h) (Or.inr ⟨by rfl, rfl⟩) ?_ ?_
               rotate_left
               ·simp only [Act.put, sI, sZ, sS, i64_w, i32_w]
                rfl
               refine pure_ (i := 23) (N := some 76) (v := undef) (a' := ?_) #[true, true, true, true, true, true, true, true, true, true, true, true, true, true, true, true, true, true, true, true, true, true, true, true, false, false, false, false, false, false, false, false, false] rfl rfl (any_of HT_.1 (by kernel_rfl)) (fun _ _ _ h => h) (Or.inr ⟨by rfl, rfl⟩) ?_ ?_
               rotate_left
               ·simp only [Act.put, sI, sZ, sS, i64_w, i32_w]
                rfl
               refine pure_ (i := 24) (N := some 77) (v := undef) (a' := ?_) #[true, true, true, true, true, true, true, true, true, true, true, true, true, true, true, true, true, true, true, true, true, true, true, true, true, false, false, false, false, false, false, false, false] rfl rfl (any_of HT_.1 (by kernel_rfl)) (fun _ _ _ h => h) (Or.inr ⟨by rfl, rfl⟩) ?_ ?_
               rotate_left
               ·simp only [Act.put, sI, sZ, sS, i64_w, i32_w]
                rfl
               refine pure_ (i := 25) (N := some 78) (v := undef) (a' := ?_) #[true, true, true, true, true, true, true, true, true, true, true, true, true, true, true, true, true, true, true, true, true, true, true, true, true, true, false, false, false, false, false, false, false] rfl rfl (any_of HT_.1 (by kernel_rfl)) (fun _ _ _ h => h) (Or.inr ⟨by rfl, rfl⟩) ?_ ?_
               rotate_left
               ·simp only [Act.put, sI, sZ, sS, i64_w, i32_w]
                rfl
               refine pure_ (i := 26) (N := some 79) (v := undef) (a' := ?_) #[true, true, true, true, true, true, true, true, true, true, true, true, true, true, true, true, true, true, true, true, true, true, true, true, true, true, true, false, false, false, false, false, false] rfl rfl (any_of HT_.1 (by kernel_rfl)) (fun _ _ _ h => h) (Or.inr ⟨by rfl, rfl⟩) ?_ ?_
               rotate_left
               ·simp only [Act.put, sI, sZ, sS, i64_w, i32_w]
                rfl
               refine pure_ (i := 27) (N := some 80) (v := undef) (a' := ?_) #[true, true, true, true, true, true, true, true, true, true, true, true, true, true, true, true, true, true, true, true, true, true, true, true, true, true, true, true, false, false, false, false, false] rfl rfl (any_of HT_.1 (by kernel_rfl)) (fun _ _ _ h => h) (Or.inr ⟨by rfl, rfl⟩) ?_ ?_
               rotate_left
               ·simp only [Act.put, sI, sZ, sS, i64_w, i32_w]
                rfl
               refine pure_ (i := 28) (N := some 81) (v := undef) (a' := ?_) #[true, true, true, true, true, true, true, true, true, true, true, true, true, true, true, true, true, true, true, true, true, true, true, true, true, true, true, true, true, false, false, false, false] rfl rfl (any_of HT_.1 (by kernel_rfl)) (fun _ _ _ h => h) (Or.inr ⟨by rfl, rfl⟩) ?_ ?_
               rotate_left
               ·simp only [Act.put, sI, sZ, sS, i64_w, i32_w]
                rfl
               refine pure_ (i := 29) (N := some 82) (v := undef) (a' := ?_) #[true, true, true, true, true, true, true, true, true, true, true, true, true, true, true, true, true, true, true, true, true, true, true, true, true, true, true, true, true, true, false, false, false] rfl rfl (any_of HT_.1 (by kernel_rfl)) (fun _ _ _ h => h) (Or.inr ⟨by rfl, rfl⟩) ?_ ?_
               rotate_left
               ·simp only [Act.put, sI, sZ, sS, i64_w, i32_w]
                rfl
               refine pure_ (i := 30) (N := some 83) (v := undef) (a' := ?_) #[true, true, true, true, true, true, true, true, true, true, true, true, true, true, true, true, true, true, true, true, true, true, true, true, true, true, true, true, true, true, true, false, false] rfl rfl (any_of HT_.1 (by kernel_rfl)) (fun _ _ _ h => h) (Or.inr ⟨by rfl, rfl⟩) ?_ ?_
               rotate_left
               ·simp only [Act.put, sI, sZ, sS, i64_w, i32_w]
                rfl
               refine pure_ (i := 31) (N := some 84) (v := undef) (a' := ?_) #[true, true, true, true, true, true, true, true, true, true, true, true, true, true, true, true, true, true, true, true, true, true, true, true, true, true, true, true, true, true, true, true, false] rfl rfl (any_of HT_.1 (by kernel_rfl)) (fun _ _ _ h => h) (Or.inr ⟨by rfl, rfl⟩) ?_ ?_
               rotate_left
               ·simp only [Act.put, sI, sZ, sS, i64_w, i32_w]
                rfl
               refine pure_ (i := 32) (N := some 85) (v := ?_) (a' := ?_) #[true, true, true, true, true, true, true, true, true, true, true, true, true, true, true, true, true, true, true, true, true, true, true, true, true, true, true, true, true, true, true, true, true] rfl rfl (any_of HT_.1 (by kernel_rfl)) (fun _ _ _ h => h) (Or.inl ⟨by rfl, ?_⟩) ?_ ?_
               rotate_left
               ·intro w'
                go_simp
                with_reducible rfl
               rotate_left
               ·simp only [Act.put, sI, sZ, sS, i64_w, i32_w]
                rfl
               refine done_ (done_of HT_.1 (by kernel_rfl)) ?_
               try go_wp2
               go_ret
               exact ⟨by first | rfl | (simp [eN, eS] <;> rfl) | (simp [*, eN, eS] <;> rfl), by repeat (first | (with_reducible first | exact HB.1 | apply bAl | apply pbN | apply bD1 | refine bSt ?_ GE137.1 | refine bSt ?_ GE151.1) | exact HB.1)⟩
             ·rw [if_neg c39] at H
              exact absurd H (by simp)
            ·rw [if_neg c37] at H
             exact absurd H (by simp)
           ·rw [if_neg c36] at H
            exact absurd H (by simp)
         ·rw [if_neg c23] at H
          exact absurd H (by simp)
        ·rw [if_neg c22] at H
         exact absurd H (by simp)
       ·rw [if_neg c20] at H
        exact absurd H (by simp)
      ·rw [if_neg c19] at H
       have c19b0 : decide (x9_2 < (l2.length : Int)) = false := decide_eq_false c19
       clear c19
       by_cases c104 : 0 ≤ x8_2
       ·rw [if_pos c104] at H
        have c104b0 := eq_true c104
        have c104b1 : decide (0 ≤ x8_2) = true := dT c104
        clear c104
        by_cases c105 : x8_2 ≤ (l1.length : Int)
        ·rw [if_pos c105] at H
         have c105b0 := eq_true c105
         have c105b1 : decide (x8_2 ≤ (l1.length : Int)) = true := dT c105
         clear c105
         by_cases c106 : x7_2.length + (l1.drop (x8_2 : Int).toNat).length < 17592186044416
         ·rw [if_pos c106] at H
          have LMc106 := aM c106
          clear c106
          obtain ⟨y142, hy142⟩ : ∃ y_ : List Int, y_ = (x7_2 ++ (l1.drop (x8_2 : Int).toNat)) := ⟨_, rfl⟩
          replace H : ((casemap_Title.f q0 q1 q2 q3 q4 q5 l1 l2).bind fun t145 => ((r01_Equal.f k2 t145 y142).bind fun t148 => (if t148 = true then ((w37_alive.f).bind fun t149 => (some t149)) else (some false)))) = some r := by first | (rw [hy142]; with_reducible exact H) | (have H2_ := (Option.bind_some _ _).symm.trans H; rw [hy142]; with_reducible exact H2_) | (have H2_ := (Option.bind_some _ _).symm.trans H; with_reducible exact H2_) | with_reducible exact H | (rw [hy142]; exact H) | exact H
          have Ny142 := aM hy142
          clear hy142
          replace H := Option.bind_eq_some_iff.mp H
          obtain ⟨t145, A1070, H⟩ := H
          replace H : ((r01_Equal.f k2 t145 y142).bind fun t148 => (if t148 = true then ((w37_alive.f).bind fun t149 => (some t149)) else (some false))) = some r := H
          have A107 := aM A1070
          clear A1070
          replace H := Option.bind_eq_some_iff.mp H
          obtain ⟨t148, A1080, H⟩ := H
          replace H : (if t148 = true then ((w37_alive.f).bind fun t149 => (some t149)) else (some false)) = some r := H
          have A108 := aM A1080
          clear A1080
          by_cases c109 : t148 = true
          ·subst c109
           have H1 : ((w37_alive.f).bind fun t149 => (some t149)) = some r := by rw [if_pos rfl] at H; exact H
           clear H
           have H := H1
           clear H1
           replace H := Option.bind_eq_some_iff.mp H
           obtain ⟨t149, A1100, H⟩ := H
           replace H : (some t149) = some r := H
           have A110 := aM A1100
           clear A1100
           obtain rfl := Option.some.inj H
           obtain ⟨i0111, hi0111, _, hsz111, _⟩ := info_parts info3
           obtain ⟨A111, hcut111, hA111, hC111⟩ := print_drop_of (P := Try.prog) (Value.int .i64) 0 28 3 .i64 Try.underlying28 hi0111 hsz111 A1 c1 l1 x8_2 (oD (by first | (with_reducible assumption) | assumption)) (oD (by first | (with_reducible assumption) | assumption)) HC1.1
           have HR141 := aM (Kd.C_of_reads (h1 := fun _ => rfl) (hA111 _ (Kd.reads_of_C HR1.1)))
           have HC141 := aM hC111
           clear hA111 hC111 hi0111 hsz111
           go_wp2_with (first | ((with_reducible refine gate_builtin (b := .append) (xs := #[.tmp 105, .tmp 108]) rfl ?_); (try (refine gate_guard (by rfl) ?_; dsimp only)); at_builtin; refine Kd.R_append_rows (Kd.int .i64) (w0 := w) w.heap.size rfl (.tmp 105) (.tmp 108) 28 3 (.int .i64 0) 8 rfl Try.underlying28 info3 rfl (by decide) (by omega) u7 x7_2 (l1.drop (x8_2 : Int).toNat) _ _ _ (fun _ => True) (fun _ => False) rfl rfl ?aO ?aR (fun _ _ h => h) (fun _ h => h.elim) ?aF ?aB ?aS ?aL ?_; (case aR => first | (rw [← show (l1.drop (x8_2 : Int).toNat).length = (l1.length - x8_2.toNat) from List.length_drop]; repeat (first | exact cB2 HR141.1 HB.1 | with_reducible first | refine cA2 ?_ _ | refine cN2 ?_ _ | refine cD2 ?_)) | (repeat (first | exact cB2 HR141.1 HB.1 | with_reducible first | refine cA2 ?_ _ | refine cN2 ?_ _ | refine cD2 ?_))); (case aB => exact (by repeat (first | (with_reducible first | exact HB.1 | apply bAl | apply pbN | apply bD1 | refine bSt ?_ GE137.1) | exact HB.1))); (case aF => exact (fun _ _ => trivial)); (case aO => exact (by (with_reducible repeat first | apply rA2 | apply rN2 | apply rD2); exact HO_7.1)); (case aS => exact (bSz (by repeat (first | (with_reducible first | exact HB.1 | apply bAl | apply pbN | apply bD1 | refine bSt ?_ GE137.1) | exact HB.1)))); (case aL => have := LMc106.1; have hlx_ := (show (l1.drop (x8_2 : Int).toNat).length = (l1.length - x8_2.toNat) from List.length_drop); omega); intro v143 w112 ho hb hg hat; rw [← Ny142.1] at ho; have n0_ := aM (blk_grown (g := gb137) (o := .cells #[.slice P0 q0.length n0, .slice P1 q1.length n1, .slice P2 q2.length n2, .slice P3 q3.length n3, .slice P4 q4.length n4, .slice P5 q5.length n5] 27 (0, 0)) (by (with_reducible repeat (first | refine bkN ?_ _ | refine bkD ?_ | refine bkA ?_ _)); exact BK137.1) hg (Kd.R_ne HO_7.1 BK137.1 (by decide))); have n1_ := aM (hb); have n2_ := aM (ho); clear BK137; clear HB; clear HO_7; have BK137 := n0_; have HB := n1_; have HO144 := n2_; clear n0_ n1_ n2_; clear ho hb hg hat; have hcz113_0 : w112.cell? ⟨gb137, 0, none⟩ = some (.slice P0 q0.length n0) := (bkC BK137.1 0).trans rfl; have hcz113_1 : w112.cell? ⟨gb137, 1, none⟩ = some (.slice P1 q1.length n1) := (bkC BK137.1 1).trans rfl; have hcz113_2 : w112.cell? ⟨gb137, 2, none⟩ = some (.slice P2 q2.length n2) := (bkC BK137.1 2).trans rfl; have hcz113_3 : w112.cell? ⟨gb137, 3, none⟩ = some (.slice P3 q3.length n3) := (bkC BK137.1 3).trans rfl; have hcz113_4 : w112.cell? ⟨gb137, 4, none⟩ = some (.slice P4 q4.length n4) := (bkC BK137.1 4).trans rfl; have hcz113_5 : w112.cell? ⟨gb137, 5, none⟩ = some (.slice P5 q5.length n5) := (bkC BK137.1 5).trans rfl; have hfz113_0 := bkF BK137.1 0; have hfz113_1 := bkF BK137.1 1; have hfz113_2 := bkF BK137.1 2; have hfz113_3 := bkF BK137.1 3; have hfz113_4 := bkF BK137.1 4; have hfz113_5 := bkF BK137.1 5) | ((with_reducible refine gate_callee (f := 15) rfl ?_); refine goesL_ (some 113) rfl rfl Try.func15 (by kernel_rfl) rfl #[.agg #[.slice P0 q0.length n0, .slice P1 q1.length n1, .slice P2 q2.length n2, .slice P3 q3.length n3, .slice P4 q4.length n4, .slice P5 q5.length n5], .slice A1 l1.length c1, .slice A2 l2.length c2] rfl (by (try simp only [List.map_toArray, List.map_cons, List.map_nil]); first | done | rfl | (simp only [List.length_drop, List.length_take]; rfl)) ?_; (with_reducible refine (casemap_Title.calls _ _ q0 _ _ q1 _ _ q2 _ _ q3 _ _ q4 _ _ q5 _ _ l1 _ _ l2 t145 _ ?z1 ?z2 ?z3 ?z4 ?z5 ?z6 ?z7 ?z8 ?z9 ?z10 ?z11 ?z12 ?z13 ?z14 ?z15 ?z16 A107.1).mono ?_); (case z1 => repeat (first | exact cB2 R0.1 HB.1 | with_reducible first | refine cA2 ?_ _ | refine cN2 ?_ _ | refine cD2 ?_)); (case z2 => exact N0.1); (case z3 => repeat (first | exact cB2 R1.1 HB.1 | with_reducible first | refine cA2 ?_ _ | refine cN2 ?_ _ | refine cD2 ?_)); (case z4 => exact N1.1); (case z5 => repeat (first | exact cB2 R2.1 HB.1 | with_reducible first | refine cA2 ?_ _ | refine cN2 ?_ _ | refine cD2 ?_)); (case z6 => exact N2.1); (case z7 => repeat (first | exact cB2 R3.1 HB.1 | with_reducible first | refine cA2 ?_ _ | refine cN2 ?_ _ | refine cD2 ?_)); (case z8 => exact N3.1); (case z9 => repeat (first | exact cB2 R4.1 HB.1 | with_reducible first | refine cA2 ?_ _ | refine cN2 ?_ _ | refine cD2 ?_)); (case z10 => exact N4.1); (case z11 => repeat (first | exact cB2 R5.1 HB.1 | with_reducible first | refine cA2 ?_ _ | refine cN2 ?_ _ | refine cD2 ?_)); (case z12 => exact N5.1); (case z13 => repeat (first | exact cB2 HR1.1 HB.1 | with_reducible first | refine cA2 ?_ _ | refine cN2 ?_ _ | refine cD2 ?_)); (case z14 => exact HC1.1); (case z15 => repeat (first | exact cB2 HR2.1 HB.1 | with_reducible first | refine cA2 ?_ _ | refine cN2 ?_ _ | refine cD2 ?_)); (case z16 => exact HC2.1); rintro e w114 ⟨v146, rfl, ho0, hb⟩; refine ⟨_, rfl, ?_⟩; have n0_ := aM (Kd.R_elder' (by (with_reducible repeat first | apply rA2 | apply rN2 | apply rD2); exact HO144.1) (Kd.R_base ho0) hb); have n1_ := aM (Kd.R_lower (Kd.R_new' ho0 (Kd.R_lt (by (with_reducible repeat first | apply rA2 | apply rN2 | apply rD2); exact HO144.1))) (bSz (by repeat (first | (with_reducible first | exact HB.1 | apply bAl | apply pbN | apply bD1 | refine bSt ?_ GE137.1) | exact HB.1)))); have n2_ := aM (blk_below (g := gb137) (o := .cells #[.slice P0 q0.length n0, .slice P1 q1.length n1, .slice P2 q2.length n2, .slice P3 q3.length n3, .slice P4 q4.length n4, .slice P5 q5.length n5] 27 (0, 0)) (by (with_reducible repeat (first | refine bkN ?_ _ | refine bkD ?_ | refine bkA ?_ _)); exact BK137.1) hb); have n3_ := aM (bSp (by repeat (first | (with_reducible first | exact HB.1 | apply bAl | apply pbN | apply bD1 | refine bSt ?_ GE137.1) | exact HB.1)) hb); clear HO144; clear BK137; clear HB; have HO144 := n0_; have HO147 := n1_; have BK137 := n2_; have HB := n3_; clear n0_ n1_ n2_ n3_; (try clear hb); (try clear hb2); (try clear hk); (try clear hi); (try clear ho0); obtain ⟨Ao115, co115, eo115⟩ := Kd.R_slice HO147.1; subst eo115; obtain ⟨Ao116, co116, eo116⟩ := Kd.R_slice HO144.1; subst eo116) | ((with_reducible refine gate_callee (f := 16) rfl ?_); refine goesL_ (some 115) rfl rfl Try.func16 (by kernel_rfl) rfl #[.slice Ao115 t145.length co115, .slice Ao116 y142.length co116] rfl (by (try simp only [List.map_toArray, List.map_cons, List.map_nil]); first | done | rfl | (simp only [List.length_drop, List.length_take]; rfl)) ?_; (with_reducible refine (r01_Equal.calls k2 _ _ t145 _ _ y142 true _ ?z1 ?z2 ?z3 ?z4 A108.1).mono ?_); (case z1 => repeat (first | exact (Kd.R_reads' HO147.1).2.2 | (with_reducible refine Kd.C_alloc ?_ _) | (with_reducible refine Kd.C_drewN ?_ _) | (with_reducible refine Kd.C_drew ?_))); (case z2 => exact (Kd.R_reads' HO147.1).2.1); (case z3 => repeat (first | exact (Kd.R_reads' HO144.1).2.2 | (with_reducible refine Kd.C_alloc ?_ _) | (with_reducible refine Kd.C_drewN ?_ _) | (with_reducible refine Kd.C_drew ?_))); (case z4 => exact (Kd.R_reads' HO144.1).2.1); rintro e w' ⟨rfl, ⟨nd, rfl⟩⟩; refine ⟨_, rfl, ?_⟩) | (go_at_call 14; (with_reducible refine (w37_alive.calls  t149 _ A110.1).mono ?_); rintro e w117 ⟨rfl, hb⟩; have n0_ := aM (Kd.R_below (by (with_reducible repeat first | apply rA2 | apply rN2 | apply rD2); exact HO144.1) hb); have n1_ := aM (Kd.R_below (by (with_reducible repeat first | apply rA2 | apply rN2 | apply rD2); exact HO147.1) hb); have n2_ := aM (blk_below (g := gb137) (o := .cells #[.slice P0 q0.length n0, .slice P1 q1.length n1, .slice P2 q2.length n2, .slice P3 q3.length n3, .slice P4 q4.length n4, .slice P5 q5.length n5] 27 (0, 0)) (by (with_reducible repeat (first | refine bkN ?_ _ | refine bkD ?_ | refine bkA ?_ _)); exact BK137.1) hb); have n3_ := aM (bSp (by repeat (first | (with_reducible first | exact HB.1 | apply bAl | apply pbN | apply bD1 | refine bSt ?_ GE137.1) | exact HB.1)) hb); clear HO144; clear HO147; clear BK137; clear HB; have HO144 := n0_; have HO147 := n1_; have BK137 := n2_; have HB := n3_; clear n0_ n1_ n2_ n3_; (try clear hb); (try clear hb2); (try clear hk); (try clear hi)))
           go_ret
           exact ⟨by first | rfl | (simp [eN, eS] <;> rfl) | (simp [*, eN, eS] <;> rfl), by repeat (first | (with_reducible first | exact HB.1 | apply bAl | apply pbN | apply bD1 | refine bSt ?_ GE137.1) | exact HB.1)⟩
          ·replace c109 := Bool.eq_false_iff.mpr c109
           subst c109
           have H1 : (some false) = some r := by rw [if_neg (show ¬ (false = true) by decide)] at H; exact H
           clear H
           have H := H1
           clear H1
           obtain rfl := Option.some.inj H
           obtain ⟨i0118, hi0118, _, hsz118, _⟩ := info_parts info3
           obtain ⟨A118, hcut118, hA118, hC118⟩ := print_drop_of (P := Try.prog) (Value.int .i64) 0 28 3 .i64 Try.underlying28 hi0118 hsz118 A1 c1 l1 x8_2 (oD (by first | (with_reducible assumption) | assumption)) (oD (by first | (with_reducible assumption) | assumption)) HC1.1
           have HR141 := aM (Kd.C_of_reads (h1 := fun _ => rfl) (hA118 _ (Kd.reads_of_C HR1.1)))
           have HC141 := aM hC118
           clear hA118 hC118 hi0118 hsz118
           go_wp2_with (first | ((with_reducible refine gate_builtin (b := .append) (xs := #[.tmp 105, .tmp 108]) rfl ?_); (try (refine gate_guard (by rfl) ?_; dsimp only)); at_builtin; refine Kd.R_append_rows (Kd.int .i64) (w0 := w) w.heap.size rfl (.tmp 105) (.tmp 108) 28 3 (.int .i64 0) 8 rfl Try.underlying28 info3 rfl (by decide) (by omega) u7 x7_2 (l1.drop (x8_2 : Int).toNat) _ _ _ (fun _ => True) (fun _ => False) rfl rfl ?aO ?aR (fun _ _ h => h) (fun _ h => h.elim) ?aF ?aB ?aS ?aL ?_; (case aR => first | (rw [← show (l1.drop (x8_2 : Int).toNat).length = (l1.length - x8_2.toNat) from List.length_drop]; repeat (first | exact cB2 HR141.1 HB.1 | with_reducible first | refine cA2 ?_ _ | refine cN2 ?_ _ | refine cD2 ?_)) | (repeat (first | exact cB2 HR141.1 HB.1 | with_reducible first | refine cA2 ?_ _ | refine cN2 ?_ _ | refine cD2 ?_))); (case aB => exact (by repeat (first | (with_reducible first | exact HB.1 | apply bAl | apply pbN | apply bD1 | refine bSt ?_ GE137.1) | exact HB.1))); (case aF => exact (fun _ _ => trivial)); (case aO => exact (by (with_reducible repeat first | apply rA2 | apply rN2 | apply rD2); exact HO_7.1)); (case aS => exact (bSz (by repeat (first | (with_reducible first | exact HB.1 | apply bAl | apply pbN | apply bD1 | refine bSt ?_ GE137.1) | exact HB.1)))); (case aL => have := LMc106.1; have hlx_ := (show (l1.drop (x8_2 : Int).toNat).length = (l1.length - x8_2.toNat) from List.length_drop); omega); intro v143 w119 ho hb hg hat; rw [← Ny142.1] at ho; have n0_ := aM (blk_grown (g := gb137) (o := .cells #[.slice P0 q0.length n0, .slice P1 q1.length n1, .slice P2 q2.length n2, .slice P3 q3.length n3, .slice P4 q4.length n4, .slice P5 q5.length n5] 27 (0, 0)) (by (with_reducible repeat (first | refine bkN ?_ _ | refine bkD ?_ | refine bkA ?_ _)); exact BK137.1) hg (Kd.R_ne HO_7.1 BK137.1 (by decide))); have n1_ := aM (hb); have n2_ := aM (ho); clear BK137; clear HB; clear HO_7; have BK137 := n0_; have HB := n1_; have HO144 := n2_; clear n0_ n1_ n2_; clear ho hb hg hat; have hcz120_0 : w119.cell? ⟨gb137, 0, none⟩ = some (.slice P0 q0.length n0) := (bkC BK137.1 0).trans rfl; have hcz120_1 : w119.cell? ⟨gb137, 1, none⟩ = some (.slice P1 q1.length n1) := (bkC BK137.1 1).trans rfl; have hcz120_2 : w119.cell? ⟨gb137, 2, none⟩ = some (.slice P2 q2.length n2) := (bkC BK137.1 2).trans rfl; have hcz120_3 : w119.cell? ⟨gb137, 3, none⟩ = some (.slice P3 q3.length n3) := (bkC BK137.1 3).trans rfl; have hcz120_4 : w119.cell? ⟨gb137, 4, none⟩ = some (.slice P4 q4.length n4) := (bkC BK137.1 4).trans rfl; have hcz120_5 : w119.cell? ⟨gb137, 5, none⟩ = some (.slice P5 q5.length n5) := (bkC BK137.1 5).trans rfl; have hfz120_0 := bkF BK137.1 0; have hfz120_1 := bkF BK137.1 1; have hfz120_2 := bkF BK137.1 2; have hfz120_3 := bkF BK137.1 3; have hfz120_4 := bkF BK137.1 4; have hfz120_5 := bkF BK137.1 5) | ((with_reducible refine gate_callee (f := 15) rfl ?_); refine goesL_ (some 113) rfl rfl Try.func15 (by kernel_rfl) rfl #[.agg #[.slice P0 q0.length n0, .slice P1 q1.length n1, .slice P2 q2.length n2, .slice P3 q3.length n3, .slice P4 q4.length n4, .slice P5 q5.length n5], .slice A1 l1.length c1, .slice A2 l2.length c2] rfl (by (try simp only [List.map_toArray, List.map_cons, List.map_nil]); first | done | rfl | (simp only [List.length_drop, List.length_take]; rfl)) ?_; (with_reducible refine (casemap_Title.calls _ _ q0 _ _ q1 _ _ q2 _ _ q3 _ _ q4 _ _ q5 _ _ l1 _ _ l2 t145 _ ?z1 ?z2 ?z3 ?z4 ?z5 ?z6 ?z7 ?z8 ?z9 ?z10 ?z11 ?z12 ?z13 ?z14 ?z15 ?z16 A107.1).mono ?_); (case z1 => repeat (first | exact cB2 R0.1 HB.1 | with_reducible first | refine cA2 ?_ _ | refine cN2 ?_ _ | refine cD2 ?_)); (case z2 => exact N0.1); (case z3 => repeat (first | exact cB2 R1.1 HB.1 | with_reducible first | refine cA2 ?_ _ | refine cN2 ?_ _ | refine cD2 ?_)); (case z4 => exact N1.1); (case z5 => repeat (first | exact cB2 R2.1 HB.1 | with_reducible first | refine cA2 ?_ _ | refine cN2 ?_ _ | refine cD2 ?_)); (case z6 => exact N2.1); (case z7 => repeat (first | exact cB2 R3.1 HB.1 | with_reducible first | refine cA2 ?_ _ | refine cN2 ?_ _ | refine cD2 ?_)); (case z8 => exact N3.1); (case z9 => repeat (first | exact cB2 R4.1 HB.1 | with_reducible first | refine cA2 ?_ _ | refine cN2 ?_ _ | refine cD2 ?_)); (case z10 => exact N4.1); (case z11 => repeat (first | exact cB2 R5.1 HB.1 | with_reducible first | refine cA2 ?_ _ | refine cN2 ?_ _ | refine cD2 ?_)); (case z12 => exact N5.1); (case z13 => repeat (first | exact cB2 HR1.1 HB.1 | with_reducible first | refine cA2 ?_ _ | refine cN2 ?_ _ | refine cD2 ?_)); (case z14 => exact HC1.1); (case z15 => repeat (first | exact cB2 HR2.1 HB.1 | with_reducible first | refine cA2 ?_ _ | refine cN2 ?_ _ | refine cD2 ?_)); (case z16 => exact HC2.1); rintro e w121 ⟨v146, rfl, ho0, hb⟩; refine ⟨_, rfl, ?_⟩; have n0_ := aM (Kd.R_elder' (by (with_reducible repeat first | apply rA2 | apply rN2 | apply rD2); exact HO144.1) (Kd.R_base ho0) hb); have n1_ := aM (Kd.R_lower (Kd.R_new' ho0 (Kd.R_lt (by (with_reducible repeat first | apply rA2 | apply rN2 | apply rD2); exact HO144.1))) (bSz (by repeat (first | (with_reducible first | exact HB.1 | apply bAl | apply pbN | apply bD1 | refine bSt ?_ GE137.1) | exact HB.1)))); have n2_ := aM (blk_below (g := gb137) (o := .cells #[.slice P0 q0.length n0, .slice P1 q1.length n1, .slice P2 q2.length n2, .slice P3 q3.length n3, .slice P4 q4.length n4, .slice P5 q5.length n5] 27 (0, 0)) (by (with_reducible repeat (first | refine bkN ?_ _ | refine bkD ?_ | refine bkA ?_ _)); exact BK137.1) hb); have n3_ := aM (bSp (by repeat (first | (with_reducible first | exact HB.1 | apply bAl | apply pbN | apply bD1 | refine bSt ?_ GE137.1) | exact HB.1)) hb); clear HO144; clear BK137; clear HB; have HO144 := n0_; have HO147 := n1_; have BK137 := n2_; have HB := n3_; clear n0_ n1_ n2_ n3_; (try clear hb); (try clear hb2); (try clear hk); (try clear hi); (try clear ho0); obtain ⟨Ao122, co122, eo122⟩ := Kd.R_slice HO147.1; subst eo122; obtain ⟨Ao123, co123, eo123⟩ := Kd.R_slice HO144.1; subst eo123) | ((with_reducible refine gate_callee (f := 16) rfl ?_); refine goesL_ (some 115) rfl rfl Try.func16 (by kernel_rfl) rfl #[.slice Ao122 t145.length co122, .slice Ao123 y142.length co123] rfl (by (try simp only [List.map_toArray, List.map_cons, List.map_nil]); first | done | rfl | (simp only [List.length_drop, List.length_take]; rfl)) ?_; (with_reducible refine (r01_Equal.calls k2 _ _ t145 _ _ y142 false _ ?z1 ?z2 ?z3 ?z4 A108.1).mono ?_); (case z1 => repeat (first | exact (Kd.R_reads' HO147.1).2.2 | (with_reducible refine Kd.C_alloc ?_ _) | (with_reducible refine Kd.C_drewN ?_ _) | (with_reducible refine Kd.C_drew ?_))); (case z2 => exact (Kd.R_reads' HO147.1).2.1); (case z3 => repeat (first | exact (Kd.R_reads' HO144.1).2.2 | (with_reducible refine Kd.C_alloc ?_ _) | (with_reducible refine Kd.C_drewN ?_ _) | (with_reducible refine Kd.C_drew ?_))); (case z4 => exact (Kd.R_reads' HO144.1).2.1); rintro e w' ⟨rfl, ⟨nd, rfl⟩⟩; refine ⟨_, rfl, ?_⟩))
           go_ret
           exact ⟨by first | rfl | (simp [eN, eS] <;> rfl) | (simp [*, eN, eS] <;> rfl), by repeat (first | (with_reducible first | exact HB.1 | apply bAl | apply pbN | apply bD1 | refine bSt ?_ GE137.1) | exact HB.1)⟩
         ·rw [if_neg c106] at H
          exact absurd H (by simp)
        ·rw [if_neg c105] at H
         exact absurd H (by simp)
       ·rw [if_neg c104] at H
        exact absurd H (by simp)
end Go.Proofs.Ythnkmcfhpjmihaa.Q
end
