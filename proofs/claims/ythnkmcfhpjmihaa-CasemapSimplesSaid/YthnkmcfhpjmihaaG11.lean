/- Lemmas, printed and written for this claim: part 11. -/
import Derived.Test.YthnkmcfhpjmihaaG2
import Derived.Test.YthnkmcfhpjmihaaG8
import Derived.Test.YthnkmcfhpjmihaaG9
import Derived.Test.YthnkmcfhpjmihaaG10
section
namespace Go.Proofs.Ythnkmcfhpjmihaa.Q
open Go.RowKit Go.Proofs.YthnkmcfhpjmihaaW.PrintWords Go.Proofs.YthnkmcfhpjmihaaW.PrintLast Go.Proofs.YthnkmcfhpjmihaaW.PrintMore
attribute [local go_sem] max2_int min2_int max_two min_two max_three min_three max_four min_four
set_option linter.unusedVariables false
set_option linter.unusedSimpArgs false
abbrev cB1 := @Kd.C_below
abbrev cA1 := @Kd.C_alloc
abbrev cN1 := @Kd.C_drewN
abbrev cD1 := @Kd.C_drew
abbrev rA1 := @Kd.R_alloc
abbrev rN1 := @Kd.R_drewN
abbrev rD1 := @Kd.R_drew
def w37_CasemapSimples.j0 : Nat → Int → Int → Int → Bool → List (S43) → List (S43) → List (S43) → List (S43) → List (S33) → List (S33) → Option (Bool)
 | 0, _, _, _, _, _, _, _, _, _, _ => none
 | k + 1, x1, x5, x6, x43, x512000, x512001, x512002, x512003, x512004, x512005 => if x43 = true then (some false) else ((casemap_Lower.f x512000 x512001 x512002 x512003 x512004 x512005 (([x1] : List Int))).bind fun t523 => ((casemap_Upper.f x512000 x512001 x512002 x512003 x512004 x512005 (([x1] : List Int))).bind fun t529 => (if (t523.length : Int) = 1 then (if 0 < (t523.length : Int) then (if (rd t523 0) = x5 then (if (t529.length : Int) = 1 then (if 0 < (t529.length : Int) then (if (rd t529 0) = x6 then ((w37_alive.f).bind fun t534 => (some t534)) else (some false)) else (none)) else ((w37_alive.f).bind fun t535 => (some t535))) else (some false)) else (none)) else (if (t529.length : Int) = 1 then (if 0 < (t529.length : Int) then (if (rd t529 0) = x6 then ((w37_alive.f).bind fun t537 => (some t537)) else (some false)) else (none)) else ((w37_alive.f).bind fun t538 => (some t538))))))
def w37_CasemapSimples.f (k : Nat) (q0 : List (S43)) (q1 : List (S43)) (q2 : List (S43)) (q3 : List (S43)) (q4 : List (S33)) (q5 : List (S33)) (a1 : Int) : Option (Bool) := (r37_Small.f k q0 q1 q2 q3 q4 q5).bind fun t512 => (if t512 = true then ((casemap_Simple.f q0 q1 q2 q3 q4 q5 a1).bind fun bt514 => ((r37_Simple.f k q0 q1 q2 q3 q4 q5 a1).bind fun bt517 => (if bt514.1 = bt517.1 then (if bt514.2.1 = bt517.2.1 then (w37_CasemapSimples.j0 k a1 bt514.1 bt514.2.1 (bt514.2.2 != bt517.2.2) q0 q1 q2 q3 q4 q5) else (w37_CasemapSimples.j0 k a1 bt514.1 bt514.2.1 true q0 q1 q2 q3 q4 q5)) else (w37_CasemapSimples.j0 k a1 bt514.1 bt514.2.1 true q0 q1 q2 q3 q4 q5)))) else ((w37_alive.f).bind fun t513 => (some t513)))
def w37_CasemapSimples.T7 : Bool × List (List Nat × List Nat) := (true, [([], []), ([], []), ([1], [1]), ([0, 2], [0, 2]), ([], []), ([], []), ([5], [5]), ([4, 6, 3], [4, 6]), ([3, 7, 0, 1, 2, 3], [3]), ([7, 8, 0, 1, 2, 3, 4, 5, 6, 7, 8], [7])])
def w37_CasemapSimples.B7 : List Nat := [0, 0, 2, 7, 0, 0, 32, 127, 255, 511]
theorem w37_CasemapSimples.tab7 : rtab .any (opsOf Try.f9 7) = w37_CasemapSimples.T7 := by kernel_rfl
theorem w37_CasemapSimples.bits7 : waitsOk w37_CasemapSimples.T7.2 w37_CasemapSimples.B7 = true := by kernel_rfl
set_option maxHeartbeats 8000000 in
set_option maxRecDepth 100000 in
theorem w37_CasemapSimples.calls (k : Nat) (P0 : Option Addr) (n0 : Nat) (q0 : List (S43)) (P1 : Option Addr) (n1 : Nat) (q1 : List (S43)) (P2 : Option Addr) (n2 : Nat) (q2 : List (S43)) (P3 : Option Addr) (n3 : Nat) (q3 : List (S43)) (P4 : Option Addr) (n4 : Nat) (q4 : List (S33)) (P5 : Option Addr) (n5 : Nat) (q5 : List (S33)) (a1 : Int) (r : Bool) (w : World) (hr0_0 : Kd.C k43 w P0 q0.length q0) (hc0_0 : q0.length ≤ n0) (hr0_1 : Kd.C k43 w P1 q1.length q1) (hc0_1 : q1.length ≤ n1) (hr0_2 : Kd.C k43 w P2 q2.length q2) (hc0_2 : q2.length ≤ n2) (hr0_3 : Kd.C k43 w P3 q3.length q3) (hc0_3 : q3.length ≤ n3) (hr0_4 : Kd.C k33 w P4 q4.length q4) (hc0_4 : q4.length ≤ n4) (hr0_5 : Kd.C k33 w P5 q5.length q5) (hc0_5 : q5.length ≤ n5) (h : w37_CasemapSimples.f k q0 q1 q2 q3 q4 q5 a1 = some r) :
  Calls Try.prog 9 #[.agg #[.slice P0 q0.length n0, .slice P1 q1.length n1, .slice P2 q2.length n2, .slice P3 q3.length n3, .slice P4 q4.length n4, .slice P5 q5.length n5], .int .i64 a1] w fun e w' => e = .returned (.bool r) ∧ Below w.heap.size w w' := by
 have hu27 := Try.underlying27
 have R0 := aM hr0_0
 have N0 := aM hc0_0
 clear hr0_0 hc0_0
 have R1 := aM hr0_1
 have N1 := aM hc0_1
 clear hr0_1 hc0_1
 have R2 := aM hr0_2
 have N2 := aM hc0_2
 clear hr0_2 hc0_2
 have R3 := aM hr0_3
 have N3 := aM hc0_3
 clear hr0_3 hc0_3
 have R4 := aM hr0_4
 have N4 := aM hc0_4
 clear hr0_4 hc0_4
 have R5 := aM hr0_5
 have N5 := aM hc0_5
 clear hr0_5 hc0_5
 have HB := aM (Below.refl w.heap.size w)
 have H : ((r37_Small.f k q0 q1 q2 q3 q4 q5).bind fun t512 => (if t512 = true then ((casemap_Simple.f q0 q1 q2 q3 q4 q5 a1).bind fun bt514 => ((r37_Simple.f k q0 q1 q2 q3 q4 q5 a1).bind fun bt517 => (if bt514.1 = bt517.1 then (if bt514.2.1 = bt517.2.1 then (w37_CasemapSimples.j0 k a1 bt514.1 bt514.2.1 (bt514.2.2 != bt517.2.2) q0 q1 q2 q3 q4 q5) else (w37_CasemapSimples.j0 k a1 bt514.1 bt514.2.1 true q0 q1 q2 q3 q4 q5)) else (w37_CasemapSimples.j0 k a1 bt514.1 bt514.2.1 true q0 q1 q2 q3 q4 q5)))) else ((w37_alive.f).bind fun t513 => (some t513)))) = some r := h
 clear h
 replace H := Option.bind_eq_some_iff.mp H
 obtain ⟨t512, A30, H⟩ := H
 replace H : (if t512 = true then ((casemap_Simple.f q0 q1 q2 q3 q4 q5 a1).bind fun bt514 => ((r37_Simple.f k q0 q1 q2 q3 q4 q5 a1).bind fun bt517 => (if bt514.1 = bt517.1 then (if bt514.2.1 = bt517.2.1 then (w37_CasemapSimples.j0 k a1 bt514.1 bt514.2.1 (bt514.2.2 != bt517.2.2) q0 q1 q2 q3 q4 q5) else (w37_CasemapSimples.j0 k a1 bt514.1 bt514.2.1 true q0 q1 q2 q3 q4 q5)) else (w37_CasemapSimples.j0 k a1 bt514.1 bt514.2.1 true q0 q1 q2 q3 q4 q5)))) else ((w37_alive.f).bind fun t513 => (some t513))) = some r := H
 have A3 := aM A30
 clear A30
 by_cases c4 : t512 = true
 ·subst c4
  have H1 : ((casemap_Simple.f q0 q1 q2 q3 q4 q5 a1).bind fun bt514 => ((r37_Simple.f k q0 q1 q2 q3 q4 q5 a1).bind fun bt517 => (if bt514.1 = bt517.1 then (if bt514.2.1 = bt517.2.1 then (w37_CasemapSimples.j0 k a1 bt514.1 bt514.2.1 (bt514.2.2 != bt517.2.2) q0 q1 q2 q3 q4 q5) else (w37_CasemapSimples.j0 k a1 bt514.1 bt514.2.1 true q0 q1 q2 q3 q4 q5)) else (w37_CasemapSimples.j0 k a1 bt514.1 bt514.2.1 true q0 q1 q2 q3 q4 q5)))) = some r := by rw [if_pos rfl] at H; exact H
  clear H
  have H := H1
  clear H1
  replace H := Option.bind_eq_some_iff.mp H
  obtain ⟨⟨t514, t515, t516⟩, A50, H⟩ := H
  replace H : ((r37_Simple.f k q0 q1 q2 q3 q4 q5 a1).bind fun bt517 => (if t514 = bt517.1 then (if t515 = bt517.2.1 then (w37_CasemapSimples.j0 k a1 t514 t515 (t516 != bt517.2.2) q0 q1 q2 q3 q4 q5) else (w37_CasemapSimples.j0 k a1 t514 t515 true q0 q1 q2 q3 q4 q5)) else (w37_CasemapSimples.j0 k a1 t514 t515 true q0 q1 q2 q3 q4 q5))) = some r := H
  have A5 := aM A50
  clear A50
  replace H := Option.bind_eq_some_iff.mp H
  obtain ⟨⟨t517, t518, t519⟩, A60, H⟩ := H
  replace H : (if t514 = t517 then (if t515 = t518 then (w37_CasemapSimples.j0 k a1 t514 t515 (t516 != t519) q0 q1 q2 q3 q4 q5) else (w37_CasemapSimples.j0 k a1 t514 t515 true q0 q1 q2 q3 q4 q5)) else (w37_CasemapSimples.j0 k a1 t514 t515 true q0 q1 q2 q3 q4 q5)) = some r := H
  have A6 := aM A60
  clear A60
  have HC7 := aM H
  clear H
  go_enter Try.func9, Try.ntmps9
  go_upto_region 5 with (first | ((with_reducible refine gate_dst (N := 2) rfl ?_); (try (refine gate_guard (by rfl) ?_; dsimp only)); refine box_event ?hg (N := 2) ?hd (cs := #[.slice P0 q0.length n0, .slice P1 q1.length n1, .slice P2 q2.length n2, .slice P3 q3.length n3, .slice P4 q4.length n4, .slice P5 q5.length n5]) (t := 27) ?hr ?_; (case hd => rfl); (case hg => rfl); (case hr => first | (go_simp; done) | (go_simp; rfl)); intro gb511 hg w8 hbox hb; have n0_ := aM (bSp (by repeat (first | (with_reducible first | exact HB.1 | apply bAl | apply pbN | apply bD1) | exact HB.1)) hb); have n1_ := aM (hbox); have n2_ := aM ((by rw [hg]; exact (bSz (by repeat (first | (with_reducible first | exact HB.1 | apply bAl | apply pbN | apply bD1) | exact HB.1))) : w.heap.size ≤ gb511)); have n3_ := aM ((by rw [hg]; exact (bSz (by repeat (first | (with_reducible first | exact HB.1 | apply bAl | apply pbN | apply bD1) | exact HB.1))) : w.heap.size ≤ gb511)); clear HB; have HB := n0_; have BK511 := n1_; have GW511 := n2_; have GE511 := n3_; clear n0_ n1_ n2_ n3_; clear hb hbox hg; have hcz9_0 : w8.cell? ⟨gb511, 0, none⟩ = some (.slice P0 q0.length n0) := (bkC BK511.1 0).trans rfl; have hcz9_1 : w8.cell? ⟨gb511, 1, none⟩ = some (.slice P1 q1.length n1) := (bkC BK511.1 1).trans rfl; have hcz9_2 : w8.cell? ⟨gb511, 2, none⟩ = some (.slice P2 q2.length n2) := (bkC BK511.1 2).trans rfl; have hcz9_3 : w8.cell? ⟨gb511, 3, none⟩ = some (.slice P3 q3.length n3) := (bkC BK511.1 3).trans rfl; have hcz9_4 : w8.cell? ⟨gb511, 4, none⟩ = some (.slice P4 q4.length n4) := (bkC BK511.1 4).trans rfl; have hcz9_5 : w8.cell? ⟨gb511, 5, none⟩ = some (.slice P5 q5.length n5) := (bkC BK511.1 5).trans rfl; have hfz9_0 := bkF BK511.1 0; have hfz9_1 := bkF BK511.1 1; have hfz9_2 := bkF BK511.1 2; have hfz9_3 := bkF BK511.1 3; have hfz9_4 := bkF BK511.1 4; have hfz9_5 := bkF BK511.1 5) | ((with_reducible refine gate_callee (f := 20) rfl ?_); refine goesL_ (some 14) rfl rfl Try.func20 (by kernel_rfl) rfl #[.agg #[.slice P0 q0.length n0, .slice P1 q1.length n1, .slice P2 q2.length n2, .slice P3 q3.length n3, .slice P4 q4.length n4, .slice P5 q5.length n5]] rfl (by (try simp only [List.map_toArray, List.map_cons, List.map_nil]); first | done | rfl | (simp only [List.length_drop, List.length_take]; rfl)) ?_; (with_reducible refine (r37_Small.calls k _ _ q0 _ _ q1 _ _ q2 _ _ q3 _ _ q4 _ _ q5 true _ ?z1 ?z2 ?z3 ?z4 ?z5 ?z6 ?z7 ?z8 ?z9 ?z10 ?z11 ?z12 A3.1).mono ?_); (case z1 => repeat (first | exact cB1 R0.1 HB.1 | with_reducible first | refine cA1 ?_ _ | refine cN1 ?_ _ | refine cD1 ?_)); (case z2 => exact N0.1); (case z3 => repeat (first | exact cB1 R1.1 HB.1 | with_reducible first | refine cA1 ?_ _ | refine cN1 ?_ _ | refine cD1 ?_)); (case z4 => exact N1.1); (case z5 => repeat (first | exact cB1 R2.1 HB.1 | with_reducible first | refine cA1 ?_ _ | refine cN1 ?_ _ | refine cD1 ?_)); (case z6 => exact N2.1); (case z7 => repeat (first | exact cB1 R3.1 HB.1 | with_reducible first | refine cA1 ?_ _ | refine cN1 ?_ _ | refine cD1 ?_)); (case z8 => exact N3.1); (case z9 => repeat (first | exact cB1 R4.1 HB.1 | with_reducible first | refine cA1 ?_ _ | refine cN1 ?_ _ | refine cD1 ?_)); (case z10 => exact N4.1); (case z11 => repeat (first | exact cB1 R5.1 HB.1 | with_reducible first | refine cA1 ?_ _ | refine cN1 ?_ _ | refine cD1 ?_)); (case z12 => exact N5.1); rintro e w10 ⟨rfl, hb⟩; refine ⟨_, rfl, ?_⟩; have n0_ := aM (blk_below (g := gb511) (o := .cells #[.slice P0 q0.length n0, .slice P1 q1.length n1, .slice P2 q2.length n2, .slice P3 q3.length n3, .slice P4 q4.length n4, .slice P5 q5.length n5] 27 (0, 0)) (by (with_reducible repeat (first | refine bkN ?_ _ | refine bkD ?_ | refine bkA ?_ _)); exact BK511.1) hb); have n1_ := aM (bSp (by repeat (first | (with_reducible first | exact HB.1 | apply bAl | apply pbN | apply bD1 | refine bSt ?_ GE511.1) | exact HB.1)) hb); clear BK511; clear HB; have BK511 := n0_; have HB := n1_; clear n0_ n1_; (try clear hb); (try clear hb2); (try clear hk); (try clear hi); have hcz11_0 : w10.cell? ⟨gb511, 0, none⟩ = some (.slice P0 q0.length n0) := (bkC BK511.1 0).trans rfl; have hcz11_1 : w10.cell? ⟨gb511, 1, none⟩ = some (.slice P1 q1.length n1) := (bkC BK511.1 1).trans rfl; have hcz11_2 : w10.cell? ⟨gb511, 2, none⟩ = some (.slice P2 q2.length n2) := (bkC BK511.1 2).trans rfl; have hcz11_3 : w10.cell? ⟨gb511, 3, none⟩ = some (.slice P3 q3.length n3) := (bkC BK511.1 3).trans rfl; have hcz11_4 : w10.cell? ⟨gb511, 4, none⟩ = some (.slice P4 q4.length n4) := (bkC BK511.1 4).trans rfl; have hcz11_5 : w10.cell? ⟨gb511, 5, none⟩ = some (.slice P5 q5.length n5) := (bkC BK511.1 5).trans rfl; have hfz11_0 := bkF BK511.1 0; have hfz11_1 := bkF BK511.1 1; have hfz11_2 := bkF BK511.1 2; have hfz11_3 := bkF BK511.1 3; have hfz11_4 := bkF BK511.1 4; have hfz11_5 := bkF BK511.1 5) | ((with_reducible refine gate_callee (f := 26) rfl ?_); refine goesL_ (some 20) rfl rfl Try.func26 (by kernel_rfl) rfl #[.agg #[.slice P0 q0.length n0, .slice P1 q1.length n1, .slice P2 q2.length n2, .slice P3 q3.length n3, .slice P4 q4.length n4, .slice P5 q5.length n5], .int .i64 a1] rfl (by (try simp only [List.map_toArray, List.map_cons, List.map_nil]); first | done | rfl | (simp only [List.length_drop, List.length_take]; rfl)) ?_; (with_reducible refine (casemap_Simple.calls _ _ q0 _ _ q1 _ _ q2 _ _ q3 _ _ q4 _ _ q5 a1 t514 t515 t516 _ ?z1 ?z2 ?z3 ?z4 ?z5 ?z6 ?z7 ?z8 ?z9 ?z10 ?z11 ?z12 A5.1).mono ?_); (case z1 => repeat (first | exact cB1 R0.1 HB.1 | with_reducible first | refine cA1 ?_ _ | refine cN1 ?_ _ | refine cD1 ?_)); (case z2 => exact N0.1); (case z3 => repeat (first | exact cB1 R1.1 HB.1 | with_reducible first | refine cA1 ?_ _ | refine cN1 ?_ _ | refine cD1 ?_)); (case z4 => exact N1.1); (case z5 => repeat (first | exact cB1 R2.1 HB.1 | with_reducible first | refine cA1 ?_ _ | refine cN1 ?_ _ | refine cD1 ?_)); (case z6 => exact N2.1); (case z7 => repeat (first | exact cB1 R3.1 HB.1 | with_reducible first | refine cA1 ?_ _ | refine cN1 ?_ _ | refine cD1 ?_)); (case z8 => exact N3.1); (case z9 => repeat (first | exact cB1 R4.1 HB.1 | with_reducible first | refine cA1 ?_ _ | refine cN1 ?_ _ | refine cD1 ?_)); (case z10 => exact N4.1); (case z11 => repeat (first | exact cB1 R5.1 HB.1 | with_reducible first | refine cA1 ?_ _ | refine cN1 ?_ _ | refine cD1 ?_)); (case z12 => exact N5.1); rintro e w12 ⟨rfl, hb⟩; refine ⟨_, rfl, ?_⟩; have n0_ := aM (blk_below (g := gb511) (o := .cells #[.slice P0 q0.length n0, .slice P1 q1.length n1, .slice P2 q2.length n2, .slice P3 q3.length n3, .slice P4 q4.length n4, .slice P5 q5.length n5] 27 (0, 0)) (by (with_reducible repeat (first | refine bkN ?_ _ | refine bkD ?_ | refine bkA ?_ _)); exact BK511.1) hb); have n1_ := aM (bSp (by repeat (first | (with_reducible first | exact HB.1 | apply bAl | apply pbN | apply bD1 | refine bSt ?_ GE511.1) | exact HB.1)) hb); clear BK511; clear HB; have BK511 := n0_; have HB := n1_; clear n0_ n1_; (try clear hb); (try clear hb2); (try clear hk); (try clear hi); have hcz13_0 : w12.cell? ⟨gb511, 0, none⟩ = some (.slice P0 q0.length n0) := (bkC BK511.1 0).trans rfl; have hcz13_1 : w12.cell? ⟨gb511, 1, none⟩ = some (.slice P1 q1.length n1) := (bkC BK511.1 1).trans rfl; have hcz13_2 : w12.cell? ⟨gb511, 2, none⟩ = some (.slice P2 q2.length n2) := (bkC BK511.1 2).trans rfl; have hcz13_3 : w12.cell? ⟨gb511, 3, none⟩ = some (.slice P3 q3.length n3) := (bkC BK511.1 3).trans rfl; have hcz13_4 : w12.cell? ⟨gb511, 4, none⟩ = some (.slice P4 q4.length n4) := (bkC BK511.1 4).trans rfl; have hcz13_5 : w12.cell? ⟨gb511, 5, none⟩ = some (.slice P5 q5.length n5) := (bkC BK511.1 5).trans rfl; have hfz13_0 := bkF BK511.1 0; have hfz13_1 := bkF BK511.1 1; have hfz13_2 := bkF BK511.1 2; have hfz13_3 := bkF BK511.1 3; have hfz13_4 := bkF BK511.1 4; have hfz13_5 := bkF BK511.1 5) | ((with_reducible refine gate_callee (f := 27) rfl ?_); refine goesL_ (some 27) rfl rfl Try.func27 (by kernel_rfl) rfl #[.agg #[.slice P0 q0.length n0, .slice P1 q1.length n1, .slice P2 q2.length n2, .slice P3 q3.length n3, .slice P4 q4.length n4, .slice P5 q5.length n5], .int .i64 a1] rfl (by (try simp only [List.map_toArray, List.map_cons, List.map_nil]); first | done | rfl | (simp only [List.length_drop, List.length_take]; rfl)) ?_; (with_reducible refine (r37_Simple.calls k _ _ q0 _ _ q1 _ _ q2 _ _ q3 _ _ q4 _ _ q5 a1 t517 t518 t519 _ ?z1 ?z2 ?z3 ?z4 ?z5 ?z6 ?z7 ?z8 ?z9 ?z10 ?z11 ?z12 A6.1).mono ?_); (case z1 => repeat (first | exact cB1 R0.1 HB.1 | with_reducible first | refine cA1 ?_ _ | refine cN1 ?_ _ | refine cD1 ?_)); (case z2 => exact N0.1); (case z3 => repeat (first | exact cB1 R1.1 HB.1 | with_reducible first | refine cA1 ?_ _ | refine cN1 ?_ _ | refine cD1 ?_)); (case z4 => exact N1.1); (case z5 => repeat (first | exact cB1 R2.1 HB.1 | with_reducible first | refine cA1 ?_ _ | refine cN1 ?_ _ | refine cD1 ?_)); (case z6 => exact N2.1); (case z7 => repeat (first | exact cB1 R3.1 HB.1 | with_reducible first | refine cA1 ?_ _ | refine cN1 ?_ _ | refine cD1 ?_)); (case z8 => exact N3.1); (case z9 => repeat (first | exact cB1 R4.1 HB.1 | with_reducible first | refine cA1 ?_ _ | refine cN1 ?_ _ | refine cD1 ?_)); (case z10 => exact N4.1); (case z11 => repeat (first | exact cB1 R5.1 HB.1 | with_reducible first | refine cA1 ?_ _ | refine cN1 ?_ _ | refine cD1 ?_)); (case z12 => exact N5.1); rintro e w14 ⟨rfl, hb⟩; refine ⟨_, rfl, ?_⟩; have n0_ := aM (blk_below (g := gb511) (o := .cells #[.slice P0 q0.length n0, .slice P1 q1.length n1, .slice P2 q2.length n2, .slice P3 q3.length n3, .slice P4 q4.length n4, .slice P5 q5.length n5] 27 (0, 0)) (by (with_reducible repeat (first | refine bkN ?_ _ | refine bkD ?_ | refine bkA ?_ _)); exact BK511.1) hb); have n1_ := aM (bSp (by repeat (first | (with_reducible first | exact HB.1 | apply bAl | apply pbN | apply bD1 | refine bSt ?_ GE511.1) | exact HB.1)) hb); clear BK511; clear HB; have BK511 := n0_; have HB := n1_; clear n0_ n1_; (try clear hb); (try clear hb2); (try clear hk); (try clear hi)))
  (try simp only [Act.put, sI, sZ, sS])
  go_cut [43] (fun v43 wc => ∃ (kq : Nat) (x43_6 : Bool), v43 = .bool x43_6 ∧ Aside0 (w37_CasemapSimples.j0 kq a1 t514 t515 x43_6 q0 q1 q2 q3 q4 q5 = some r) ∧ Aside0 (kq ≤ k) ∧ Aside0 (wc.heap[gb511]? = some (.cells #[(.slice P0 q0.length n0), (.slice P1 q1.length n1), (.slice P2 q2.length n2), (.slice P3 q3.length n3), (.slice P4 q4.length n4), (.slice P5 q5.length n5)] 27 (0, 0))) ∧ Aside0 (Below w.heap.size w wc))
  case first =>
   have H := HC7.1
   clear HC7
   by_cases c15 : t514 = t517
   ·rw [if_pos c15] at H
    have c15b0 : (t514 == t517) = true := beq_iff_eq.mpr c15
    have c15b1 : (t514 != t517) = false := bne_eq_false_iff_eq.mpr c15
    clear c15
    (first | rw [c15b0] | (simp only [i64_w, i32_w]; rw [c15b0]) | skip)
    by_cases c16 : t515 = t518
    ·rw [if_pos c16] at H
     have c16b0 : (t515 == t518) = true := beq_iff_eq.mpr c16
     have c16b1 : (t515 != t518) = false := bne_eq_false_iff_eq.mpr c16
     clear c16
     have H' := aM H
     clear H
     go_wp2
     go_meet
     case rel => exact ⟨_, ((t516 != t519)), (by first | rfl | (simp; done) | (simp [*]; done)), H', ⟨by first | omega | exact Nat.le_refl _⟩, ⟨by (with_reducible repeat (first | refine bkN ?_ _ | refine bkD ?_ | refine bkA ?_ _)); exact BK511.1⟩, ⟨by repeat (first | (with_reducible first | exact HB.1 | apply bAl | apply pbN | apply bD1 | refine bSt ?_ GE511.1) | exact HB.1)⟩⟩
    ·rw [if_neg c16] at H
     have c16b0 : (t515 == t518) = false := beq_eq_false_iff_ne.mpr c16
     have c16b1 : (t515 != t518) = true := bne_iff_ne.mpr c16
     have H' := aM H
     clear H
     go_wp2
     go_meet
     case rel => exact ⟨_, (true), (by first | rfl | (simp; done) | (simp [*]; done)), H', ⟨by first | omega | exact Nat.le_refl _⟩, ⟨by (with_reducible repeat (first | refine bkN ?_ _ | refine bkD ?_ | refine bkA ?_ _)); exact BK511.1⟩, ⟨by repeat (first | (with_reducible first | exact HB.1 | apply bAl | apply pbN | apply bD1 | refine bSt ?_ GE511.1) | exact HB.1)⟩⟩
   ·rw [if_neg c15] at H
    have c15b0 : (t514 == t517) = false := beq_eq_false_iff_ne.mpr c15
    have c15b1 : (t514 != t517) = true := bne_iff_ne.mpr c15
    (first | rw [c15b0] | (simp only [i64_w, i32_w]; rw [c15b0]) | skip)
    have H' := aM H
    clear H
    go_wp2
    go_meet
    case rel => exact ⟨_, (true), (by first | rfl | (simp; done) | (simp [*]; done)), H', ⟨by first | omega | exact Nat.le_refl _⟩, ⟨by (with_reducible repeat (first | refine bkN ?_ _ | refine bkD ?_ | refine bkA ?_ _)); exact BK511.1⟩, ⟨by repeat (first | (with_reducible first | exact HB.1 | apply bAl | apply pbN | apply bD1 | refine bSt ?_ GE511.1) | exact HB.1)⟩⟩
  case rest =>
   clear HC7
   (try clear c1); (try clear c2); (try clear p2); (try clear c4); (try clear c9); (try clear c15); (try clear c15b0); (try clear c15b1); (try clear c16); (try clear c16b0); (try clear c16b1); (try clear hcz11_0); (try clear hcz11_1); (try clear hcz11_2); (try clear hcz11_3); (try clear hcz11_4); (try clear hcz11_5); (try clear hcz13_0); (try clear hcz13_1); (try clear hcz13_2); (try clear hcz13_3); (try clear hcz13_4); (try clear hcz13_5); (try clear hcz9_0); (try clear hcz9_1); (try clear hcz9_2); (try clear hcz9_3); (try clear hcz9_4); (try clear hcz9_5); (try clear hfz11_0); (try clear hfz11_1); (try clear hfz11_2); (try clear hfz11_3); (try clear hfz11_4); (try clear hfz11_5); (try clear hfz13_0); (try clear hfz13_1); (try clear hfz13_2); (try clear hfz13_3); (try clear hfz13_4); (try clear hfz13_5); (try clear hfz9_0); (try clear hfz9_1); (try clear hfz9_2); (try clear hfz9_3); (try clear hfz9_4); (try clear hfz9_5)
   obtain ⟨kq, x43_6, rfl, HA, HJ6, BK511, HB⟩ := hcut
   cases kq with
   | zero => exact absurd HA.1 (by simp [w37_CasemapSimples.j0])
   | succ kj6 =>
    have H := HA.1
    clear HA
    simp only [w37_CasemapSimples.j0] at H
    by_cases c17 : x43_6 = true
    ·subst c17
     have H1 : (some false) = some r := by rw [if_pos rfl] at H; exact H
     clear H
     have H := H1
     clear H1
     obtain rfl := Option.some.inj H
     go_wp2
     go_ret
     exact ⟨by first | rfl | (simp [eN, eS] <;> rfl) | (simp [*, eN, eS] <;> rfl), by repeat (first | (with_reducible first | exact HB.1 | apply bAl | apply pbN | apply bD1 | refine bSt ?_ GE511.1) | exact HB.1)⟩
    ·replace c17 := Bool.eq_false_iff.mpr c17
     subst c17
     have H1 : ((casemap_Lower.f q0 q1 q2 q3 q4 q5 (([a1] : List Int))).bind fun t523 => ((casemap_Upper.f q0 q1 q2 q3 q4 q5 (([a1] : List Int))).bind fun t529 => (if (t523.length : Int) = 1 then (if 0 < (t523.length : Int) then (if (rd t523 0) = t514 then (if (t529.length : Int) = 1 then (if 0 < (t529.length : Int) then (if (rd t529 0) = t515 then ((w37_alive.f).bind fun t534 => (some t534)) else (some false)) else (none)) else ((w37_alive.f).bind fun t535 => (some t535))) else (some false)) else (none)) else (if (t529.length : Int) = 1 then (if 0 < (t529.length : Int) then (if (rd t529 0) = t515 then ((w37_alive.f).bind fun t537 => (some t537)) else (some false)) else (none)) else ((w37_alive.f).bind fun t538 => (some t538)))))) = some r := by rw [if_neg (show ¬ (false = true) by decide)] at H; exact H
     clear H
     have H := H1
     clear H1
     obtain ⟨y520, hy520⟩ : ∃ y_ : List Int, y_ = (([a1] : List Int)) := ⟨_, rfl⟩
     replace H : ((casemap_Lower.f q0 q1 q2 q3 q4 q5 y520).bind fun t523 => ((casemap_Upper.f q0 q1 q2 q3 q4 q5 (([a1] : List Int))).bind fun t529 => (if (t523.length : Int) = 1 then (if 0 < (t523.length : Int) then (if (rd t523 0) = t514 then (if (t529.length : Int) = 1 then (if 0 < (t529.length : Int) then (if (rd t529 0) = t515 then ((w37_alive.f).bind fun t534 => (some t534)) else (some false)) else (none)) else ((w37_alive.f).bind fun t535 => (some t535))) else (some false)) else (none)) else (if (t529.length : Int) = 1 then (if 0 < (t529.length : Int) then (if (rd t529 0) = t515 then ((w37_alive.f).bind fun t537 => (some t537)) else (some false)) else (none)) else ((w37_alive.f).bind fun t538 => (some t538)))))) = some r := by first | (rw [hy520]; with_reducible exact H) | (have H2_ := (Option.bind_some _ _).symm.trans H; rw [hy520]; with_reducible exact H2_) | (have H2_ := (Option.bind_some _ _).symm.trans H; with_reducible exact H2_) | with_reducible exact H | (rw [hy520]; exact H) | exact H
     have Ny520 := aM hy520
     clear hy520
     replace H := Option.bind_eq_some_iff.mp H
     obtain ⟨t523, A180, H⟩ := H
     replace H : ((casemap_Upper.f q0 q1 q2 q3 q4 q5 (([a1] : List Int))).bind fun t529 => (if (t523.length : Int) = 1 then (if 0 < (t523.length : Int) then (if (rd t523 0) = t514 then (if (t529.length : Int) = 1 then (if 0 < (t529.length : Int) then (if (rd t529 0) = t515 then ((w37_alive.f).bind fun t534 => (some t534)) else (some false)) else (none)) else ((w37_alive.f).bind fun t535 => (some t535))) else (some false)) else (none)) else (if (t529.length : Int) = 1 then (if 0 < (t529.length : Int) then (if (rd t529 0) = t515 then ((w37_alive.f).bind fun t537 => (some t537)) else (some false)) else (none)) else ((w37_alive.f).bind fun t538 => (some t538))))) = some r := H
     have A18 := aM A180
     clear A180
     obtain ⟨y526, hy526⟩ : ∃ y_ : List Int, y_ = (([a1] : List Int)) := ⟨_, rfl⟩
     replace H : ((casemap_Upper.f q0 q1 q2 q3 q4 q5 y526).bind fun t529 => (if (t523.length : Int) = 1 then (if 0 < (t523.length : Int) then (if (rd t523 0) = t514 then (if (t529.length : Int) = 1 then (if 0 < (t529.length : Int) then (if (rd t529 0) = t515 then ((w37_alive.f).bind fun t534 => (some t534)) else (some false)) else (none)) else ((w37_alive.f).bind fun t535 => (some t535))) else (some false)) else (none)) else (if (t529.length : Int) = 1 then (if 0 < (t529.length : Int) then (if (rd t529 0) = t515 then ((w37_alive.f).bind fun t537 => (some t537)) else (some false)) else (none)) else ((w37_alive.f).bind fun t538 => (some t538))))) = some r := by first | (rw [hy526]; with_reducible exact H) | (have H2_ := (Option.bind_some _ _).symm.trans H; rw [hy526]; with_reducible exact H2_) | (have H2_ := (Option.bind_some _ _).symm.trans H; with_reducible exact H2_) | with_reducible exact H | (rw [hy526]; exact H) | exact H
     have Ny526 := aM hy526
     clear hy526
     replace H := Option.bind_eq_some_iff.mp H
     obtain ⟨t529, A190, H⟩ := H
     replace H : (if (t523.length : Int) = 1 then (if 0 < (t523.length : Int) then (if (rd t523 0) = t514 then (if (t529.length : Int) = 1 then (if 0 < (t529.length : Int) then (if (rd t529 0) = t515 then ((w37_alive.f).bind fun t534 => (some t534)) else (some false)) else (none)) else ((w37_alive.f).bind fun t535 => (some t535))) else (some false)) else (none)) else (if (t529.length : Int) = 1 then (if 0 < (t529.length : Int) then (if (rd t529 0) = t515 then ((w37_alive.f).bind fun t537 => (some t537)) else (some false)) else (none)) else ((w37_alive.f).bind fun t538 => (some t538)))) = some r := H
     have A19 := aM A190
     clear A190
     by_cases c20 : (t523.length : Int) = 1
     ·rw [if_pos c20] at H
      have c20b0 : ((t523.length : Int) == 1) = true := beq_iff_eq.mpr c20
      have c20b1 : ((t523.length : Int) != 1) = false := bne_eq_false_iff_eq.mpr c20
      clear c20
      by_cases c21 : 0 < (t523.length : Int)
      ·rw [if_pos c21] at H
       have c21b0 : decide (0 < (t523.length : Int)) = true := dT c21
       have c21b1 : decide (0 < t523.length) = true := dT (by omega)
       clear c21
       by_cases c22 : (rd t523 0) = t514
       ·rw [if_pos c22] at H
        have c22b0 : ((rd t523 0) == t514) = true := beq_iff_eq.mpr c22
        have c22b1 : ((rd t523 0) != t514) = false := bne_eq_false_iff_eq.mpr c22
        clear c22
        by_cases c23 : (t529.length : Int) = 1
        ·rw [if_pos c23] at H
         have c23b0 : ((t529.length : Int) == 1) = true := beq_iff_eq.mpr c23
         have c23b1 : ((t529.length : Int) != 1) = false := bne_eq_false_iff_eq.mpr c23
         clear c23
         by_cases c24 : 0 < (t529.length : Int)
         ·rw [if_pos c24] at H
          have c24b0 : decide (0 < (t529.length : Int)) = true := dT c24
          have c24b1 : decide (0 < t529.length) = true := dT (by omega)
          clear c24
          by_cases c25 : (rd t529 0) = t515
          ·rw [if_pos c25] at H
           have c25b0 : ((rd t529 0) == t515) = true := beq_iff_eq.mpr c25
           have c25b1 : ((rd t529 0) != t515) = false := bne_eq_false_iff_eq.mpr c25
           clear c25
           replace H := Option.bind_eq_some_iff.mp H
           obtain ⟨t534, A260, H⟩ := H
           replace H : (some t534) = some r := H
           have A26 := aM A260
           clear A260
           obtain rfl := Option.some.inj H
           try go_wp2
           have n0_ := aM (bkD BK511.1)
           have n1_ := aM (bD1 HB.1)
           clear BK511
           clear HB
           have BK511 := n0_
           have HB := n1_
           clear n0_ n1_
           refine start_ (n := 10) (S := fun w' => True) (ds := []) #[false, false, false, false, false, false, false, false, false, false] (by kernel_rfl) rfl rfl trivial (fun hHeld => ?_); refine with_tabW w37_CasemapSimples.tab7 w37_CasemapSimples.bits7 (fun HT_ HW_ => ?_)
           generalize wc.drew = w27 at BK511 HB hHeld ⊢
           refine pure_ (i := 1) (N := some 45) (v := ?_) (a' := ?_) #[false, true, false, false, false, false, false, false, false, false] rfl rfl (any_of HT_.1 (by kernel_rfl)) (fun _ _ _ h => h) (Or.inl ⟨by rfl, ?_⟩) ?_ ?_
           rotate_left
           ·intro w'
            go_simp
            with_reducible rfl
           rotate_left
           ·simp only [Act.put, sI, sZ, sS, i64_w, i32_w]
            rfl
           refine pure_ (i := 5) (N := some 49) (v := ?_) (a' := ?_) #[false, true, false, false, false, true, false, false, false, false] rfl rfl (any_of HT_.1 (by kernel_rfl)) (fun _ _ _ h => h) (Or.inl ⟨by rfl, ?_⟩) ?_ ?_
           rotate_left
           ·intro w'
            go_simp
            with_reducible rfl
           rotate_left
           ·simp only [Act.put, sI, sZ, sS, i64_w, i32_w]
            rfl
           refine inv_at [0, 2, 3, 4, 6, 7, 8, 9] (fun a0_ b a w' => ∃ (v521 : Value) (v524 : Value) (v527 : Value) (v530 : Value) (m8_ : Value) (m9_ : Value), a = putSel a0_ b [(0, 44, .agg #[.slice P0 q0.length n0, .slice P1 q1.length n1, .slice P2 q2.length n2, .slice P3 q3.length n3, .slice P4 q4.length n4, .slice P5 q5.length n5]), (2, 46, v521), (3, 47, v524), (4, 48, .agg #[.slice P0 q0.length n0, .slice P1 q1.length n1, .slice P2 q2.length n2, .slice P3 q3.length n3, .slice P4 q4.length n4, .slice P5 q5.length n5]), (6, 50, v527), (7, 51, v530), (8, 11, m8_), (9, 12, m9_)] ∧ (w'.heap[gb511]? = some (.cells #[.slice P0 q0.length n0, .slice P1 q1.length n1, .slice P2 q2.length n2, .slice P3 q3.length n3, .slice P4 q4.length n4, .slice P5 q5.length n5] 27 (0, 0))) ∧ (Below w.heap.size w w') ∧ (b 2 = true → Kd.R (Kd.int .i64) 3 w' w.heap.size (fun _ => True) v521 y520) ∧ (b 3 = true → Kd.R (Kd.int .i64) 3 w' w.heap.size (fun _ => True) v524 t523) ∧ (b 6 = true → Kd.R (Kd.int .i64) 3 w' w.heap.size (fun _ => True) v527 y526) ∧ (b 7 = true → Kd.R (Kd.int .i64) 3 w' w.heap.size (fun _ => True) v530 t529) ∧ (b 8 = true → (m8_ : Value) = v524) ∧ (b 9 = true → (m9_ : Value) = v530)) HT_.1 HW_.1 (by kernel_rfl) (by kernel_rfl) ?_ ?_ ?_
           ·exact ⟨.bool false, .bool false, .bool false, .bool false, .bool false, .bool false, by simp only [putSel, Bool.false_eq_true, if_false], BK511.1, HB.1, fun h_ => absurd h_ (by decide), fun h_ => absurd h_ (by decide), fun h_ => absurd h_ (by decide), fun h_ => absurd h_ (by decide), fun h_ => absurd h_ (by decide), fun h_ => absurd h_ (by decide)⟩
           ·skip
            clear BK511 HB
            refine steps_cons ?_ ?_
            ·rintro b a w' ⟨v521, v524, v527, v530, m8_, m9_, ha, Q_BK511, Q_HB, Q_HO522, Q_HO525, Q_HO528, Q_HO531, Q_X8_, Q_X9_⟩ hb_ hon hoff
             refine ⟨_, rfl, fun K hK => ?_⟩
             have e2 : a.tmps[2]? = some (.pointer (some ⟨gb511, 0, none⟩)) := by rw [ha]; exact (putSel_off rfl).trans rfl
             replace ha := aM ha
             have BK511 := aM Q_BK511
             have HB := aM Q_HB
             have hc0_ : w'.cell? ⟨gb511, 0, none⟩ = some (.slice P0 q0.length n0) := (bkC BK511.1 0).trans rfl
             have hc1_ : w'.cell? ⟨gb511, 1, none⟩ = some (.slice P1 q1.length n1) := (bkC BK511.1 1).trans rfl
             have hc2_ : w'.cell? ⟨gb511, 2, none⟩ = some (.slice P2 q2.length n2) := (bkC BK511.1 2).trans rfl
             have hc3_ : w'.cell? ⟨gb511, 3, none⟩ = some (.slice P3 q3.length n3) := (bkC BK511.1 3).trans rfl
             have hc4_ : w'.cell? ⟨gb511, 4, none⟩ = some (.slice P4 q4.length n4) := (bkC BK511.1 4).trans rfl
             have hc5_ : w'.cell? ⟨gb511, 5, none⟩ = some (.slice P5 q5.length n5) := (bkC BK511.1 5).trans rfl
             refine value_ (w1 := w') (v := .agg #[.slice P0 q0.length n0, .slice P1 q1.length n1, .slice P2 q2.length n2, .slice P3 q3.length n3, .slice P4 q4.length n4, .slice P5 q5.length n5]) (by rfl) rfl ?_ ?_
             ·go_simp
              (try simp only [i64_w])
              try rfl
             refine hK.out _ _ ⟨v521, v524, v527, v530, m8_, m9_, (by rw [ha.out]; exact putSel_upk 0 hb_ rfl rfl rfl), Q_BK511, Q_HB, Q_HO522, fun h0_ => absurd ((hoff 3 (by kernel_rfl)).symm.trans h0_) (by decide), Q_HO528, fun h0_ => absurd ((hoff 7 (by kernel_rfl)).symm.trans h0_) (by decide), fun h0_ => absurd ((hoff 8 (by kernel_rfl)).symm.trans h0_) (by decide), fun h0_ => absurd ((hoff 9 (by kernel_rfl)).symm.trans h0_) (by decide)⟩
            refine steps_cons ?_ ?_
            ·rintro b a w' ⟨v521, v524, v527, v530, m8_, m9_, ha, Q_BK511, Q_HB, Q_HO522, Q_HO525, Q_HO528, Q_HO531, Q_X8_, Q_X9_⟩ hb_ hon hoff
             refine ⟨_, rfl, fun K hK => ?_⟩
             have e45 : a.tmps[45]? = some (.int .i64 a1) := by rw [ha]; exact (putSel_off rfl).trans rfl
             replace ha := aM ha
             have BK511 := aM Q_BK511
             have HB := aM Q_HB
             refine Kd.R_lit_step (Kd.int .i64) _ 3 ?hg (N := 46) ?hd (xs := ([a1] : List Int)) (inner := [.int .i64 a1]) (ok := fun _ => True) (okp := fun _ => True) ?hr ?hp (fun _ hk => hk) trivial (Below.refl _ _) (Nat.le_refl _) (by simp) ?_; (case hd => rfl); (case hg => rfl); (case hr => first | (go_simp; done) | (go_simp; rfl)); (case hp => exact (Reps.one (show Kd.M (Kd.int .i64) _ _ _ a1 [.int .i64 a1] from rfl) (Reps.none _ _)))
             intro v521 w28 ho29 hb hg_ hnew_
             clear hg_ hnew_
             (first | rw [← Ny520.1] at ho29 | (simp only [Int.reduceToNat] at ho29; rw [← Ny520.1] at ho29))
             have n0_ := aM (Kd.R_lower ho29 (bSz (by repeat (first | (with_reducible first | exact HB.1 | apply bAl | apply pbN | apply bD1 | refine bSt ?_ GE511.1) | exact HB.1))))
             have n1_ := aM (blk_below (g := gb511) (o := .cells #[.slice P0 q0.length n0, .slice P1 q1.length n1, .slice P2 q2.length n2, .slice P3 q3.length n3, .slice P4 q4.length n4, .slice P5 q5.length n5] 27 (0, 0)) (by (with_reducible repeat (first | refine bkN ?_ _ | refine bkD ?_ | refine bkA ?_ _)); exact BK511.1) hb)
             have n2_ := aM (bSp (by repeat (first | (with_reducible first | exact HB.1 | apply bAl | apply pbN | apply bD1 | refine bSt ?_ GE511.1) | exact HB.1)) hb)
             have z_HO528 := fun (h0_ : b 6 = true) => (show Kd.R (Kd.int .i64) 3 w28 w.heap.size (fun _ => True) v527 y526 from by first | exact (Kd.R_elder' (by (with_reducible repeat first | apply rA1 | apply rN1 | apply rD1); exact (Q_HO528 h0_)) (Kd.R_base ho29) hb) | exact Kd.R_mono (Kd.R_elder' (by (with_reducible repeat first | apply rA1 | apply rN1 | apply rD1); exact (Q_HO528 h0_)) (Kd.R_base ho29) hb) (fun _ h_ => by first | trivial | exact h_ | exact h_.1))
             clear BK511
             clear HB
             have HO522 := n0_
             have BK511 := n1_
             have HB := n2_
             clear n0_ n1_ n2_
             clear hb ho29
             refine hK.out _ _ ⟨v521, v524, v527, v530, m8_, m9_, (by rw [ha.out]; exact putSel_upk 1 hb_ rfl rfl rfl), (by (with_reducible repeat (first | refine bkN ?_ _ | refine bkD ?_ | refine bkA ?_ _)); exact BK511.1), (by repeat (first | (with_reducible first | exact HB.1 | apply bAl | apply pbN | apply bD1 | refine bSt ?_ GE511.1) | exact HB.1)), fun _ => (by (with_reducible repeat first | apply rA1 | apply rN1 | apply rD1); exact HO522.1), fun h0_ => absurd ((hoff 3 (by kernel_rfl)).symm.trans h0_) (by decide), z_HO528, fun h0_ => absurd ((hoff 7 (by kernel_rfl)).symm.trans h0_) (by decide), fun h0_ => absurd ((hoff 8 (by kernel_rfl)).symm.trans h0_) (by decide), fun h0_ => absurd ((hoff 9 (by kernel_rfl)).symm.trans h0_) (by decide)⟩
            refine steps_cons ?_ ?_
            ·rintro b a w' ⟨v521, v524, v527, v530, m8_, m9_, ha, Q_BK511, Q_HB, Q_HO522, Q_HO525, Q_HO528, Q_HO531, Q_X8_, Q_X9_⟩ hb_ hon hoff
             refine ⟨_, rfl, fun K hK => ?_⟩
             have e44 : a.tmps[44]? = some (.agg #[.slice P0 q0.length n0, .slice P1 q1.length n1, .slice P2 q2.length n2, .slice P3 q3.length n3, .slice P4 q4.length n4, .slice P5 q5.length n5]) := by rw [ha]; exact putSel_on (e := (0, 44, .agg #[.slice P0 q0.length n0, .slice P1 q1.length n1, .slice P2 q2.length n2, .slice P3 q3.length n3, .slice P4 q4.length n4, .slice P5 q5.length n5])) 0 rfl rfl (hon 0 (by kernel_rfl)) rfl
             have e46 : a.tmps[46]? = some (v521) := by rw [ha]; exact putSel_on (e := (2, 46, v521)) 1 rfl rfl (hon 2 (by kernel_rfl)) rfl
             replace ha := aM ha
             have BK511 := aM Q_BK511
             have HB := aM Q_HB
             have HO522 := aM (Q_HO522 (hon 2 (by kernel_rfl)))
             obtain ⟨Ao31, co31, eo31⟩ := Kd.R_slice HO522.1
             (first | subst eo31 | (injection eo31 with f1_ f2_ f3_; have f4_ := f1_.symm; have f5_ := f3_.symm; clear f1_ f2_ f3_; subst f4_; subst f5_))
             refine goes_ Try.func18 (by kernel_rfl) rfl #[.agg #[.slice P0 q0.length n0, .slice P1 q1.length n1, .slice P2 q2.length n2, .slice P3 q3.length n3, .slice P4 q4.length n4, .slice P5 q5.length n5], .slice Ao31 y520.length co31] (by rfl) rfl rfl (by first | (simp only [List.map_toArray, List.map_cons, List.map_nil, Act.eval, Array.getD_eq_getD_getElem?, Option.getD_some, e44, e46]; done) | (simp only [List.map_toArray, List.map_cons, List.map_nil, Act.eval, Array.getD_eq_getD_getElem?, Option.getD_some, e44, e46]; rfl)) ?_
             with_reducible refine (casemap_Lower.calls _ _ q0 _ _ q1 _ _ q2 _ _ q3 _ _ q4 _ _ q5 _ _ y520 t523 _ ?z1 ?z2 ?z3 ?z4 ?z5 ?z6 ?z7 ?z8 ?z9 ?z10 ?z11 ?z12 ?z13 ?z14 A18.1).mono ?_
             (case z1 => repeat (first | exact cB1 R0.1 HB.1 | with_reducible first | refine cA1 ?_ _ | refine cN1 ?_ _ | refine cD1 ?_))
             (case z2 => exact N0.1)
             (case z3 => repeat (first | exact cB1 R1.1 HB.1 | with_reducible first | refine cA1 ?_ _ | refine cN1 ?_ _ | refine cD1 ?_))
             (case z4 => exact N1.1)
             (case z5 => repeat (first | exact cB1 R2.1 HB.1 | with_reducible first | refine cA1 ?_ _ | refine cN1 ?_ _ | refine cD1 ?_))
             (case z6 => exact N2.1)
             (case z7 => repeat (first | exact cB1 R3.1 HB.1 | with_reducible first | refine cA1 ?_ _ | refine cN1 ?_ _ | refine cD1 ?_))
             (case z8 => exact N3.1)
             (case z9 => repeat (first | exact cB1 R4.1 HB.1 | with_reducible first | refine cA1 ?_ _ | refine cN1 ?_ _ | refine cD1 ?_))
             (case z10 => exact N4.1)
             (case z11 => repeat (first | exact cB1 R5.1 HB.1 | with_reducible first | refine cA1 ?_ _ | refine cN1 ?_ _ | refine cD1 ?_))
             (case z12 => exact N5.1)
             (case z13 => repeat (first | exact (Kd.R_reads' HO522.1).2.2 | (with_reducible refine Kd.C_alloc ?_ _) | (with_reducible refine Kd.C_drewN ?_ _) | (with_reducible refine Kd.C_drew ?_)))
             (case z14 => exact (Kd.R_reads' HO522.1).2.1)
             rintro e w32 ⟨v524, rfl, ho0, hb⟩
             refine ⟨_, rfl, ?_⟩
             have n0_ := aM (Kd.R_elder' (by (with_reducible repeat first | apply rA1 | apply rN1 | apply rD1); exact HO522.1) (Kd.R_base ho0) hb)
             have n1_ := aM (Kd.R_lower (Kd.R_new' ho0 (Kd.R_lt (by (with_reducible repeat first | apply rA1 | apply rN1 | apply rD1); exact HO522.1))) (bSz (by repeat (first | (with_reducible first | exact HB.1 | apply bAl | apply pbN | apply bD1 | refine bSt ?_ GE511.1) | exact HB.1))))
             have n2_ := aM (blk_below (g := gb511) (o := .cells #[.slice P0 q0.length n0, .slice P1 q1.length n1, .slice P2 q2.length n2, .slice P3 q3.length n3, .slice P4 q4.length n4, .slice P5 q5.length n5] 27 (0, 0)) (by (with_reducible repeat (first | refine bkN ?_ _ | refine bkD ?_ | refine bkA ?_ _)); exact BK511.1) hb)
             have n3_ := aM (bSp (by repeat (first | (with_reducible first | exact HB.1 | apply bAl | apply pbN | apply bD1 | refine bSt ?_ GE511.1) | exact HB.1)) hb)
             have z_HO528 := fun (h0_ : b 6 = true) => (show Kd.R (Kd.int .i64) 3 w32 w.heap.size (fun _ => True) v527 y526 from by first | exact (Kd.R_elder' (by (with_reducible repeat first | apply rA1 | apply rN1 | apply rD1); exact (Q_HO528 h0_)) (Kd.R_base ho0) hb) | exact Kd.R_mono (Kd.R_elder' (by (with_reducible repeat first | apply rA1 | apply rN1 | apply rD1); exact (Q_HO528 h0_)) (Kd.R_base ho0) hb) (fun _ h_ => by first | trivial | exact h_ | exact h_.1))
             clear HO522
             clear BK511
             clear HB
             have HO522 := n0_
             have HO525 := n1_
             have BK511 := n2_
             have HB := n3_
             clear n0_ n1_ n2_ n3_
             (try clear hb)
             (try clear hb2)
             (try clear hk)
             (try clear hi)
             (try clear ho0)
             refine hK.out _ _ ⟨.slice Ao31 y520.length co31, v524, v527, v530, m8_, m9_, (by rw [ha.out]; exact putSel_upk 2 hb_ rfl rfl rfl), (by (with_reducible repeat (first | refine bkN ?_ _ | refine bkD ?_ | refine bkA ?_ _)); exact BK511.1), (by repeat (first | (with_reducible first | exact HB.1 | apply bAl | apply pbN | apply bD1 | refine bSt ?_ GE511.1) | exact HB.1)), fun _ => (by (with_reducible repeat first | apply rA1 | apply rN1 | apply rD1); exact Kd.R_mono HO522.1 (fun _ hk => by first | trivial | exact hk.2)), fun _ => (by (with_reducible repeat first | apply rA1 | apply rN1 | apply rD1); exact Kd.R_mono HO525.1 (fun _ hk => by first | trivial | exact hk.2)), z_HO528, fun h0_ => absurd ((hoff 7 (by kernel_rfl)).symm.trans h0_) (by decide), fun h0_ => absurd ((hoff 8 (by kernel_rfl)).symm.trans h0_) (by decide), fun h0_ => absurd ((hoff 9 (by kernel_rfl)).symm.trans h0_) (by decide)⟩
            refine steps_cons ?_ ?_
            ·rintro b a w' ⟨v521, v524, v527, v530, m8_, m9_, ha, Q_BK511, Q_HB, Q_HO522, Q_HO525, Q_HO528, Q_HO531, Q_X8_, Q_X9_⟩ hb_ hon hoff
             refine ⟨_, rfl, fun K hK => ?_⟩
             have e2 : a.tmps[2]? = some (.pointer (some ⟨gb511, 0, none⟩)) := by rw [ha]; exact (putSel_off rfl).trans rfl
             replace ha := aM ha
             have BK511 := aM Q_BK511
             have HB := aM Q_HB
             have hc0_ : w'.cell? ⟨gb511, 0, none⟩ = some (.slice P0 q0.length n0) := (bkC BK511.1 0).trans rfl
             have hc1_ : w'.cell? ⟨gb511, 1, none⟩ = some (.slice P1 q1.length n1) := (bkC BK511.1 1).trans rfl
             have hc2_ : w'.cell? ⟨gb511, 2, none⟩ = some (.slice P2 q2.length n2) := (bkC BK511.1 2).trans rfl
             have hc3_ : w'.cell? ⟨gb511, 3, none⟩ = some (.slice P3 q3.length n3) := (bkC BK511.1 3).trans rfl
             have hc4_ : w'.cell? ⟨gb511, 4, none⟩ = some (.slice P4 q4.length n4) := (bkC BK511.1 4).trans rfl
             have hc5_ : w'.cell? ⟨gb511, 5, none⟩ = some (.slice P5 q5.length n5) := (bkC BK511.1 5).trans rfl
             refine value_ (w1 := w') (v := .agg #[.slice P0 q0.length n0, .slice P1 q1.length n1, .slice P2 q2.length n2, .slice P3 q3.length n3, .slice P4 q4.length n4, .slice P5 q5.length n5]) (by rfl) rfl ?_ ?_
             ·go_simp
              (try simp only [i64_w])
              try rfl
             refine hK.out _ _ ⟨v521, v524, v527, v530, m8_, m9_, (by rw [ha.out]; exact putSel_upk 3 hb_ rfl rfl rfl), Q_BK511, Q_HB, Q_HO522, Q_HO525, Q_HO528, fun h0_ => absurd ((hoff 7 (by kernel_rfl)).symm.trans h0_) (by decide), fun h0_ => absurd ((hoff 8 (by kernel_rfl)).symm.trans h0_) (by decide), fun h0_ => absurd ((hoff 9 (by kernel_rfl)).symm.trans h0_) (by decide)⟩
            refine steps_cons ?_ ?_
            ·rintro b a w' ⟨v521, v524, v527, v530, m8_, m9_, ha, Q_BK511, Q_HB, Q_HO522, Q_HO525, Q_HO528, Q_HO531, Q_X8_, Q_X9_⟩ hb_ hon hoff
             refine ⟨_, rfl, fun K hK => ?_⟩
             have e49 : a.tmps[49]? = some (.int .i64 a1) := by rw [ha]; exact (putSel_off rfl).trans rfl
             replace ha := aM ha
             have BK511 := aM Q_BK511
             have HB := aM Q_HB
             refine Kd.R_lit_step (Kd.int .i64) _ 3 ?hg (N := 50) ?hd (xs := ([a1] : List Int)) (inner := [.int .i64 a1]) (ok := fun _ => True) (okp := fun _ => True) ?hr ?hp (fun _ hk => hk) trivial (Below.refl _ _) (Nat.le_refl _) (by simp) ?_; (case hd => rfl); (case hg => rfl); (case hr => first | (go_simp; done) | (go_simp; rfl)); (case hp => exact (Reps.one (show Kd.M (Kd.int .i64) _ _ _ a1 [.int .i64 a1] from rfl) (Reps.none _ _)))
             intro v527 w28 ho29 hb hg_ hnew_
             clear hg_ hnew_
             (first | rw [← Ny526.1] at ho29 | (simp only [Int.reduceToNat] at ho29; rw [← Ny526.1] at ho29))
             have n0_ := aM (Kd.R_lower ho29 (bSz (by repeat (first | (with_reducible first | exact HB.1 | apply bAl | apply pbN | apply bD1 | refine bSt ?_ GE511.1) | exact HB.1))))
             have n1_ := aM (blk_below (g := gb511) (o := .cells #[.slice P0 q0.length n0, .slice P1 q1.length n1, .slice P2 q2.length n2, .slice P3 q3.length n3, .slice P4 q4.length n4, .slice P5 q5.length n5] 27 (0, 0)) (by (with_reducible repeat (first | refine bkN ?_ _ | refine bkD ?_ | refine bkA ?_ _)); exact BK511.1) hb)
             have n2_ := aM (bSp (by repeat (first | (with_reducible first | exact HB.1 | apply bAl | apply pbN | apply bD1 | refine bSt ?_ GE511.1) | exact HB.1)) hb)
             have z_HO522 := fun (h0_ : b 2 = true) => (show Kd.R (Kd.int .i64) 3 w28 w.heap.size (fun _ => True) v521 y520 from by first | exact (Kd.R_elder' (by (with_reducible repeat first | apply rA1 | apply rN1 | apply rD1); exact (Q_HO522 h0_)) (Kd.R_base ho29) hb) | exact Kd.R_mono (Kd.R_elder' (by (with_reducible repeat first | apply rA1 | apply rN1 | apply rD1); exact (Q_HO522 h0_)) (Kd.R_base ho29) hb) (fun _ h_ => by first | trivial | exact h_ | exact h_.1))
             have z_HO525 := fun (h0_ : b 3 = true) => (show Kd.R (Kd.int .i64) 3 w28 w.heap.size (fun _ => True) v524 t523 from by first | exact (Kd.R_elder' (by (with_reducible repeat first | apply rA1 | apply rN1 | apply rD1); exact (Q_HO525 h0_)) (Kd.R_base ho29) hb) | exact Kd.R_mono (Kd.R_elder' (by (with_reducible repeat first | apply rA1 | apply rN1 | apply rD1); exact (Q_HO525 h0_)) (Kd.R_base ho29) hb) (fun _ h_ => by first | trivial | exact h_ | exact h_.1))
             clear BK511
             clear HB
             have HO528 := n0_
             have BK511 := n1_
             have HB := n2_
             clear n0_ n1_ n2_
             clear hb ho29
             refine hK.out _ _ ⟨v521, v524, v527, v530, m8_, m9_, (by rw [ha.out]; exact putSel_upk 4 hb_ rfl rfl rfl), (by (with_reducible repeat (first | refine bkN ?_ _ | refine bkD ?_ | refine bkA ?_ _)); exact BK511.1), (by repeat (first | (with_reducible first | exact HB.1 | apply bAl | apply pbN | apply bD1 | refine bSt ?_ GE511.1) | exact HB.1)), z_HO522, z_HO525, fun _ => (by (with_reducible repeat first | apply rA1 | apply rN1 | apply rD1); exact HO528.1), fun h0_ => absurd ((hoff 7 (by kernel_rfl)).symm.trans h0_) (by decide), fun h0_ => absurd ((hoff 8 (by kernel_rfl)).symm.trans h0_) (by decide), fun h0_ => absurd ((hoff 9 (by kernel_rfl)).symm.trans h0_) (by decide)⟩
            refine steps_cons ?_ ?_
            ·rintro b a w' ⟨v521, v524, v527, v530, m8_, m9_, ha, Q_BK511, Q_HB, Q_HO522, Q_HO525, Q_HO528, Q_HO531, Q_X8_, Q_X9_⟩ hb_ hon hoff
             refine ⟨_, rfl, fun K hK => ?_⟩
             have e48 : a.tmps[48]? = some (.agg #[.slice P0 q0.length n0, .slice P1 q1.length n1, .slice P2 q2.length n2, .slice P3 q3.length n3, .slice P4 q4.length n4, .slice P5 q5.length n5]) := by rw [ha]; exact putSel_on (e := (4, 48, .agg #[.slice P0 q0.length n0, .slice P1 q1.length n1, .slice P2 q2.length n2, .slice P3 q3.length n3, .slice P4 q4.length n4, .slice P5 q5.length n5])) 3 rfl rfl (hon 4 (by kernel_rfl)) rfl
             have e50 : a.tmps[50]? = some (v527) := by rw [ha]; exact putSel_on (e := (6, 50, v527)) 4 rfl rfl (hon 6 (by kernel_rfl)) rfl
             replace ha := aM ha
             have BK511 := aM Q_BK511
             have HB := aM Q_HB
             have HO522 := aM (Q_HO522 (hon 2 (by kernel_rfl)))
             have HO525 := aM (Q_HO525 (hon 3 (by kernel_rfl)))
             have HO528 := aM (Q_HO528 (hon 6 (by kernel_rfl)))
             obtain ⟨Ao35, co35, eo35⟩ := Kd.R_slice HO528.1
             (first | subst eo35 | (injection eo35 with f1_ f2_ f3_; have f4_ := f1_.symm; have f5_ := f3_.symm; clear f1_ f2_ f3_; subst f4_; subst f5_))
             refine goes_ Try.func19 (by kernel_rfl) rfl #[.agg #[.slice P0 q0.length n0, .slice P1 q1.length n1, .slice P2 q2.length n2, .slice P3 q3.length n3, .slice P4 q4.length n4, .slice P5 q5.length n5], .slice Ao35 y526.length co35] (by rfl) rfl rfl (by first | (simp only [List.map_toArray, List.map_cons, List.map_nil, Act.eval, Array.getD_eq_getD_getElem?, Option.getD_some, e48, e50]; done) | (simp only [List.map_toArray, List.map_cons, List.map_nil, Act.eval, Array.getD_eq_getD_getElem?, Option.getD_some, e48, e50]; rfl)) ?_
             with_reducible refine (casemap_Upper.calls _ _ q0 _ _ q1 _ _ q2 _ _ q3 _ _ q4 _ _ q5 _ _ y526 t529 _ ?z1 ?z2 ?z3 ?z4 ?z5 ?z6 ?z7 ?z8 ?z9 ?z10 ?z11 ?z12 ?z13 ?z14 A19.1).mono ?_
             (case z1 => repeat (first | exact cB1 R0.1 HB.1 | with_reducible first | refine cA1 ?_ _ | refine cN1 ?_ _ | refine cD1 ?_))
             (case z2 => exact N0.1)
             (case z3 => repeat (first | exact cB1 R1.1 HB.1 | with_reducible first | refine cA1 ?_ _ | refine cN1 ?_ _ | refine cD1 ?_))
             (case z4 => exact N1.1)
             (case z5 => repeat (first | exact cB1 R2.1 HB.1 | with_reducible first | refine cA1 ?_ _ | refine cN1 ?_ _ | refine cD1 ?_))
             (case z6 => exact N2.1)
             (case z7 => repeat (first | exact cB1 R3.1 HB.1 | with_reducible first | refine cA1 ?_ _ | refine cN1 ?_ _ | refine cD1 ?_))
             (case z8 => exact N3.1)
             (case z9 => repeat (first | exact cB1 R4.1 HB.1 | with_reducible first | refine cA1 ?_ _ | refine cN1 ?_ _ | refine cD1 ?_))
             (case z10 => exact N4.1)
             (case z11 => repeat (first | exact cB1 R5.1 HB.1 | with_reducible first | refine cA1 ?_ _ | refine cN1 ?_ _ | refine cD1 ?_))
             (case z12 => exact N5.1)
             (case z13 => repeat (first | exact (Kd.R_reads' HO528.1).2.2 | (with_reducible refine Kd.C_alloc ?_ _) | (with_reducible refine Kd.C_drewN ?_ _) | (with_reducible refine Kd.C_drew ?_)))
             (case z14 => exact (Kd.R_reads' HO528.1).2.1)
             rintro e w36 ⟨v530, rfl, ho0, hb⟩
             refine ⟨_, rfl, ?_⟩
             have n0_ := aM (Kd.R_elder' (by (with_reducible repeat first | apply rA1 | apply rN1 | apply rD1); exact HO522.1) (Kd.R_base ho0) hb)
             have n1_ := aM (Kd.R_elder' (by (with_reducible repeat first | apply rA1 | apply rN1 | apply rD1); exact HO525.1) (Kd.R_base ho0) hb)
             have n2_ := aM (Kd.R_elder' (by (with_reducible repeat first | apply rA1 | apply rN1 | apply rD1); exact HO528.1) (Kd.R_base ho0) hb)
             have n3_ := aM (Kd.R_lower (Kd.R_new' (Kd.R_new' (Kd.R_new' ho0 (Kd.R_lt (by (with_reducible repeat first | apply rA1 | apply rN1 | apply rD1); exact HO522.1))) (Kd.R_lt (by (with_reducible repeat first | apply rA1 | apply rN1 | apply rD1); exact HO525.1))) (Kd.R_lt (by (with_reducible repeat first | apply rA1 | apply rN1 | apply rD1); exact HO528.1))) (bSz (by repeat (first | (with_reducible first | exact HB.1 | apply bAl | apply pbN | apply bD1 | refine bSt ?_ GE511.1) | exact HB.1))))
             have n4_ := aM (blk_below (g := gb511) (o := .cells #[.slice P0 q0.length n0, .slice P1 q1.length n1, .slice P2 q2.length n2, .slice P3 q3.length n3, .slice P4 q4.length n4, .slice P5 q5.length n5] 27 (0, 0)) (by (with_reducible repeat (first | refine bkN ?_ _ | refine bkD ?_ | refine bkA ?_ _)); exact BK511.1) hb)
             have n5_ := aM (bSp (by repeat (first | (with_reducible first | exact HB.1 | apply bAl | apply pbN | apply bD1 | refine bSt ?_ GE511.1) | exact HB.1)) hb)
             clear HO522
             clear HO525
             clear HO528
             clear BK511
             clear HB
             have HO522 := n0_
             have HO525 := n1_
             have HO528 := n2_
             have HO531 := n3_
             have BK511 := n4_
             have HB := n5_
             clear n0_ n1_ n2_ n3_ n4_ n5_
             (try clear hb)
             (try clear hb2)
             (try clear hk)
             (try clear hi)
             (try clear ho0)
             refine hK.out _ _ ⟨v521, v524, .slice Ao35 y526.length co35, v530, m8_, m9_, (by rw [ha.out]; exact putSel_upk 5 hb_ rfl rfl rfl), (by (with_reducible repeat (first | refine bkN ?_ _ | refine bkD ?_ | refine bkA ?_ _)); exact BK511.1), (by repeat (first | (with_reducible first | exact HB.1 | apply bAl | apply pbN | apply bD1 | refine bSt ?_ GE511.1) | exact HB.1)), fun _ => (by (with_reducible repeat first | apply rA1 | apply rN1 | apply rD1); exact Kd.R_mono HO522.1 (fun _ hk => by first | trivial | exact ⟨hk.1.1, ⟨hk.1.2, hk.2⟩⟩)), fun _ => (by (with_reducible repeat first | apply rA1 | apply rN1 | apply rD1); exact Kd.R_mono HO525.1 (fun _ hk => by first | trivial | exact ⟨hk.1.1, ⟨hk.1.2, hk.2⟩⟩)), fun _ => (by (with_reducible repeat first | apply rA1 | apply rN1 | apply rD1); exact Kd.R_mono HO528.1 (fun _ hk => by first | trivial | exact ⟨hk.1.1, ⟨hk.1.2, hk.2⟩⟩)), fun _ => (by (with_reducible repeat first | apply rA1 | apply rN1 | apply rD1); exact Kd.R_mono HO531.1 (fun _ hk => by first | trivial | exact ⟨hk.1.1.2, ⟨hk.1.2, hk.2⟩⟩)), fun h0_ => absurd ((hoff 8 (by kernel_rfl)).symm.trans h0_) (by decide), fun h0_ => absurd ((hoff 9 (by kernel_rfl)).symm.trans h0_) (by decide)⟩
            refine steps_cons ?_ ?_
            ·rintro b a w' ⟨v521, v524, v527, v530, m8_, m9_, ha, Q_BK511, Q_HB, Q_HO522, Q_HO525, Q_HO528, Q_HO531, Q_X8_, Q_X9_⟩ hb_ hon hoff
             refine ⟨_, rfl, fun K hK => ?_⟩
             have e47 : a.tmps[47]? = some (v524) := by rw [ha]; exact putSel_on (e := (3, 47, v524)) 2 rfl rfl (hon 3 (by kernel_rfl)) rfl
             replace ha := aM ha
             have BK511 := aM Q_BK511
             have HB := aM Q_HB
             have HO522 := aM (Q_HO522 (hon 2 (by kernel_rfl)))
             have HO525 := aM (Q_HO525 (hon 3 (by kernel_rfl)))
             have HO528 := aM (Q_HO528 (hon 6 (by kernel_rfl)))
             have HO531 := aM (Q_HO531 (hon 7 (by kernel_rfl)))
             refine value_ (w1 := w') (v := v524) (by rfl) rfl ?_ ?_
             ·go_simp
              (try simp only [i64_w])
              try rfl
             refine hK.out _ _ ⟨v521, v524, v527, v530, (v524), m9_, (by rw [ha.out]; exact putSel_upk 6 hb_ rfl rfl rfl), Q_BK511, Q_HB, Q_HO522, Q_HO525, Q_HO528, Q_HO531, fun _ => rfl, fun h0_ => absurd ((hoff 9 (by kernel_rfl)).symm.trans h0_) (by decide)⟩
            refine steps_cons ?_ ?_
            ·rintro b a w' ⟨v521, v524, v527, v530, m8_, m9_, ha, Q_BK511, Q_HB, Q_HO522, Q_HO525, Q_HO528, Q_HO531, Q_X8_, Q_X9_⟩ hb_ hon hoff
             refine ⟨_, rfl, fun K hK => ?_⟩
             have e51 : a.tmps[51]? = some (v530) := by rw [ha]; exact putSel_on (e := (7, 51, v530)) 5 rfl rfl (hon 7 (by kernel_rfl)) rfl
             replace ha := aM ha
             have BK511 := aM Q_BK511
             have HB := aM Q_HB
             have HO522 := aM (Q_HO522 (hon 2 (by kernel_rfl)))
             have HO525 := aM (Q_HO525 (hon 3 (by kernel_rfl)))
             have HO528 := aM (Q_HO528 (hon 6 (by kernel_rfl)))
             have HO531 := aM (Q_HO531 (hon 7 (by kernel_rfl)))
             refine value_ (w1 := w') (v := v530) (by rfl) rfl ?_ ?_
             ·go_simp
              (try simp only [i64_w])
              try rfl
             refine hK.out _ _ ⟨v521, v524, v527, v530, m8_, (v530), (by rw [ha.out]; exact putSel_upk 7 hb_ rfl rfl rfl), Q_BK511, Q_HB, Q_HO522, Q_HO525, Q_HO528, Q_HO531, Q_X8_, fun _ => rfl⟩
            exact steps_nil
           rintro b a w36 hall ⟨v521, v524, v527, v530, m8_, m9_, ha, Q_BK511, Q_HB, Q_HO522, Q_HO525, Q_HO528, Q_HO531, Q_X8_, Q_X9_⟩
           clear BK511 HB
           have hb0_ := hall 0 (by kernel_rfl)
           have hb2_ := hall 2 (by kernel_rfl)
           have hb3_ := hall 3 (by kernel_rfl)
           have hb4_ := hall 4 (by kernel_rfl)
           have hb6_ := hall 6 (by kernel_rfl)
           have hb7_ := hall 7 (by kernel_rfl)
           have hb8_ := hall 8 (by kernel_rfl)
           have hb9_ := hall 9 (by kernel_rfl)
           subst ha
           obtain rfl := Q_X8_ hb8_
           obtain rfl := Q_X9_ hb9_
           simp only [putSel, hb0_, hb2_, hb3_, hb4_, hb6_, hb7_, hb8_, hb9_, if_true, Act.put, sI, sZ, sS]
           have BK511 := aM Q_BK511
           clear Q_BK511
           have HB := aM Q_HB
           clear Q_HB
           have HO522 := aM (Q_HO522 hb2_)
           clear Q_HO522
           have HO525 := aM (Q_HO525 hb3_)
           clear Q_HO525
           have HO528 := aM (Q_HO528 hb6_)
           clear Q_HO528
           have HO531 := aM (Q_HO531 hb7_)
           clear Q_HO531
           clear hall hb0_ hb2_ hb3_ hb4_ hb6_ hb7_ hb8_ hb9_
           obtain ⟨Ao37, co37, eo37⟩ := Kd.R_slice HO525.1
           subst eo37
           have p532 : 0 ≤ (0 : Int) := (by omega)
           have q532 : 0 < (t523.length : Int) := oD (by first | (with_reducible assumption) | assumption)
           obtain ⟨ad532, e532, hx532_0⟩ := Kd.at_int (Kd.R_reads' HO525.1).2.2 0 p532 q532
           cases e532
           have qi532 : (0 < t523.length) = True := eq_true (by omega)
           (try rw [show ((0 : Int)).toNat = 0 from rfl] at hx532_0)
           (try rw [Addr.add_zero'] at hx532_0)
           replace p532 := eq_true p532
           replace q532 := eq_true q532
           obtain ⟨Ao38, co38, eo38⟩ := Kd.R_slice HO531.1
           subst eo38
           have p533 : 0 ≤ (0 : Int) := (by omega)
           have q533 : 0 < (t529.length : Int) := oD (by first | (with_reducible assumption) | assumption)
           obtain ⟨ad533, e533, hx533_0⟩ := Kd.at_int (Kd.R_reads' HO531.1).2.2 0 p533 q533
           cases e533
           have qi533 : (0 < t529.length) = True := eq_true (by omega)
           (try rw [show ((0 : Int)).toNat = 0 from rfl] at hx533_0)
           (try rw [Addr.add_zero'] at hx533_0)
           replace p533 := eq_true p533
           replace q533 := eq_true q533
           try go_wp2_with (first | (go_at_call 14; (with_reducible refine (w37_alive.calls  t534 _ A26.1).mono ?_); rintro e w39 ⟨rfl, hb⟩; have n0_ := aM (Kd.R_below (by (with_reducible repeat first | apply rA1 | apply rN1 | apply rD1); exact HO522.1) hb); have n1_ := aM (Kd.R_below (by (with_reducible repeat first | apply rA1 | apply rN1 | apply rD1); exact HO525.1) hb); have n2_ := aM (Kd.R_below (by (with_reducible repeat first | apply rA1 | apply rN1 | apply rD1); exact HO528.1) hb); have n3_ := aM (Kd.R_below (by (with_reducible repeat first | apply rA1 | apply rN1 | apply rD1); exact HO531.1) hb); have n4_ := aM (blk_below (g := gb511) (o := .cells #[.slice P0 q0.length n0, .slice P1 q1.length n1, .slice P2 q2.length n2, .slice P3 q3.length n3, .slice P4 q4.length n4, .slice P5 q5.length n5] 27 (0, 0)) (by (with_reducible repeat (first | refine bkN ?_ _ | refine bkD ?_ | refine bkA ?_ _)); exact BK511.1) hb); have n5_ := aM (bSp (by repeat (first | (with_reducible first | exact HB.1 | apply bAl | apply pbN | apply bD1 | refine bSt ?_ GE511.1) | exact HB.1)) hb); clear HO522; clear HO525; clear HO528; clear HO531; clear BK511; clear HB; have HO522 := n0_; have HO525 := n1_; have HO528 := n2_; have HO531 := n3_; have BK511 := n4_; have HB := n5_; clear n0_ n1_ n2_ n3_ n4_ n5_; (try clear hb); (try clear hb2); (try clear hk); (try clear hi)))
           go_ret
           exact ⟨by first | rfl | (simp [eN, eS] <;> rfl) | (simp [*, eN, eS] <;> rfl), by repeat (first | (with_reducible first | exact HB.1 | apply bAl | apply pbN | apply bD1 | refine bSt ?_ GE511.1) | exact HB.1)⟩
          ·rw [if_neg c25] at H
           have c25b0 : ((rd t529 0) == t515) = false := beq_eq_false_iff_ne.mpr c25
           have c25b1 : ((rd t529 0) != t515) = true := bne_iff_ne.mpr c25
           obtain rfl := Option.some.inj H
           try go_wp2
           have n0_ := aM (bkD BK511.1)
           have n1_ := aM (bD1 HB.1)
           clear BK511
           clear HB
           have BK511 := n0_
           have HB := n1_
           clear n0_ n1_
           refine start_ (n := 10) (S := fun w' => True) (ds := []) #[false, false, false, false, false, false, false, false, false, false] (by kernel_rfl) rfl rfl trivial (fun hHeld => ?_); refine with_tabW w37_CasemapSimples.tab7 w37_CasemapSimples.bits7 (fun HT_ HW_ => ?_)
           generalize wc.drew = w40 at BK511 HB hHeld ⊢
           refine pure_ (i := 1) (N := some 45) (v := ?_) (a' := ?_) #[false, true, false, false, false, false, false, false, false, false] rfl rfl (any_of HT_.1 (by kernel_rfl)) (fun _ _ _ h => h) (Or.inl ⟨by rfl, ?_⟩) ?_ ?_
           rotate_left
           ·intro w'
            go_simp
            with_reducible rfl
           rotate_left
           ·simp only [Act.put, sI, sZ, sS, i64_w, i32_w]
            rfl
           refine pure_ (i := 5) (N := some 49) (v := ?_) (a' := ?_) #[false, true, false, false, false, true, false, false, false, false] rfl rfl (any_of HT_.1 (by kernel_rfl)) (fun _ _ _ h => h) (Or.inl ⟨by rfl, ?_⟩) ?_ ?_
           rotate_left
           ·intro w'
            go_simp
            with_reducible rfl
           rotate_left
           ·simp only [Act.put, sI, sZ, sS, i64_w, i32_w]
            rfl
           refine inv_at [0, 2, 3, 4, 6, 7, 8, 9] (fun a0_ b a w' => ∃ (v521 : Value) (v524 : Value) (v527 : Value) (v530 : Value) (m8_ : Value) (m9_ : Value), a = putSel a0_ b [(0, 44, .agg #[.slice P0 q0.length n0, .slice P1 q1.length n1, .slice P2 q2.length n2, .slice P3 q3.length n3, .slice P4 q4.length n4, .slice P5 q5.length n5]), (2, 46, v521), (3, 47, v524), (4, 48, .agg #[.slice P0 q0.length n0, .slice P1 q1.length n1, .slice P2 q2.length n2, .slice P3 q3.length n3, .slice P4 q4.length n4, .slice P5 q5.length n5]), (6, 50, v527), (7, 51, v530), (8, 11, m8_), (9, 12, m9_)] ∧ (w'.heap[gb511]? = some (.cells #[.slice P0 q0.length n0, .slice P1 q1.length n1, .slice P2 q2.length n2, .slice P3 q3.length n3, .slice P4 q4.length n4, .slice P5 q5.length n5] 27 (0, 0))) ∧ (Below w.heap.size w w') ∧ (b 2 = true → Kd.R (Kd.int .i64) 3 w' w.heap.size (fun _ => True) v521 y520) ∧ (b 3 = true → Kd.R (Kd.int .i64) 3 w' w.heap.size (fun _ => True) v524 t523) ∧ (b 6 = true → Kd.R (Kd.int .i64) 3 w' w.heap.size (fun _ => True) v527 y526) ∧ (b 7 = true → Kd.R (Kd.int .i64) 3 w' w.heap.size (fun _ => True) v530 t529) ∧ (b 8 = true → (m8_ : Value) = v524) ∧ (b 9 = true → (m9_ : Value) = v530)) HT_.1 HW_.1 (by kernel_rfl) (by kernel_rfl) ?_ ?_ ?_
           ·exact ⟨.bool false, .bool false, .bool false, .bool false, .bool false, .bool false, by simp only [putSel, Bool.false_eq_true, if_false], BK511.1, HB.1, fun h_ => absurd h_ (by decide), fun h_ => absurd h_ (by decide), fun h_ => absurd h_ (by decide), fun h_ => absurd h_ (by decide), fun h_ => absurd h_ (by decide), fun h_ => absurd h_ (by decide)⟩
           ·skip
            clear BK511 HB
            refine steps_cons ?_ ?_
            ·rintro b a w' ⟨v521, v524, v527, v530, m8_, m9_, ha, Q_BK511, Q_HB, Q_HO522, Q_HO525, Q_HO528, Q_HO531, Q_X8_, Q_X9_⟩ hb_ hon hoff
             refine ⟨_, rfl, fun K hK => ?_⟩
             have e2 : a.tmps[2]? = some (.pointer (some ⟨gb511, 0, none⟩)) := by rw [ha]; exact (putSel_off rfl).trans rfl
             replace ha := aM ha
             have BK511 := aM Q_BK511
             have HB := aM Q_HB
             have hc0_ : w'.cell? ⟨gb511, 0, none⟩ = some (.slice P0 q0.length n0) := (bkC BK511.1 0).trans rfl
             have hc1_ : w'.cell? ⟨gb511, 1, none⟩ = some (.slice P1 q1.length n1) := (bkC BK511.1 1).trans rfl
             have hc2_ : w'.cell? ⟨gb511, 2, none⟩ = some (.slice P2 q2.length n2) := (bkC BK511.1 2).trans rfl
             have hc3_ : w'.cell? ⟨gb511, 3, none⟩ = some (.slice P3 q3.length n3) := (bkC BK511.1 3).trans rfl
             have hc4_ : w'.cell? ⟨gb511, 4, none⟩ = some (.slice P4 q4.length n4) := (bkC BK511.1 4).trans rfl
             have hc5_ : w'.cell? ⟨gb511, 5, none⟩ = some (.slice P5 q5.length n5) := (bkC BK511.1 5).trans rfl
             refine value_ (w1 := w') (v := .agg #[.slice P0 q0.length n0, .slice P1 q1.length n1, .slice P2 q2.length n2, .slice P3 q3.length n3, .slice P4 q4.length n4, .slice P5 q5.length n5]) (by rfl) rfl ?_ ?_
             ·go_simp
              (try simp only [i64_w])
              try rfl
             refine hK.out _ _ ⟨v521, v524, v527, v530, m8_, m9_, (by rw [ha.out]; exact putSel_upk 0 hb_ rfl rfl rfl), Q_BK511, Q_HB, Q_HO522, fun h0_ => absurd ((hoff 3 (by kernel_rfl)).symm.trans h0_) (by decide), Q_HO528, fun h0_ => absurd ((hoff 7 (by kernel_rfl)).symm.trans h0_) (by decide), fun h0_ => absurd ((hoff 8 (by kernel_rfl)).symm.trans h0_) (by decide), fun h0_ => absurd ((hoff 9 (by kernel_rfl)).symm.trans h0_) (by decide)⟩
            refine steps_cons ?_ ?_
            ·rintro b a w' ⟨v521, v524, v527, v530, m8_, m9_, ha, Q_BK511, Q_HB, Q_HO522, Q_HO525, Q_HO528, Q_HO531, Q_X8_, Q_X9_⟩ hb_ hon hoff
             refine ⟨_, rfl, fun K hK => ?_⟩
             have e45 : a.tmps[45]? = some (.int .i64 a1) := by rw [ha]; exact (putSel_off rfl).trans rfl
             replace ha := aM ha
             have BK511 := aM Q_BK511
             have HB := aM Q_HB
             refine Kd.R_lit_step (Kd.int .i64) _ 3 ?hg (N := 46) ?hd (xs := ([a1] : List Int)) (inner := [.int .i64 a1]) (ok := fun _ => True) (okp := fun _ => True) ?hr ?hp (fun _ hk => hk) trivial (Below.refl _ _) (Nat.le_refl _) (by simp) ?_; (case hd => rfl); (case hg => rfl); (case hr => first | (go_simp; done) | (go_simp; rfl)); (case hp => exact (Reps.one (show Kd.M (Kd.int .i64) _ _ _ a1 [.int .i64 a1] from rfl) (Reps.none _ _)))
             intro v521 w41 ho42 hb hg_ hnew_
             clear hg_ hnew_
             (first | rw [← Ny520.1] at ho42 | (simp only [Int.reduceToNat] at ho42; rw [← Ny520.1] at ho42))
             have n0_ := aM (Kd.R_lower ho42 (bSz (by repeat (first | (with_reducible first | exact HB.1 | apply bAl | apply pbN | apply bD1 | refine bSt ?_ GE511.1) | exact HB.1))))
             have n1_ := aM (blk_below (g := gb511) (o := .cells #[.slice P0 q0.length n0, .slice P1 q1.length n1, .slice P2 q2.length n2, .slice P3 q3.length n3, .slice P4 q4.length n4, .slice P5 q5.length n5] 27 (0, 0)) (by (with_reducible repeat (first | refine bkN ?_ _ | refine bkD ?_ | refine bkA ?_ _)); exact BK511.1) hb)
             have n2_ := aM (bSp (by repeat (first | (with_reducible first | exact HB.1 | apply bAl | apply pbN | apply bD1 | refine bSt ?_ GE511.1) | exact HB.1)) hb)
             have z_HO528 := fun (h0_ : b 6 = true) => (show Kd.R (Kd.int .i64) 3 w41 w.heap.size (fun _ => True) v527 y526 from by first | exact (Kd.R_elder' (by (with_reducible repeat first | apply rA1 | apply rN1 | apply rD1); exact (Q_HO528 h0_)) (Kd.R_base ho42) hb) | exact Kd.R_mono (Kd.R_elder' (by (with_reducible repeat first | apply rA1 | apply rN1 | apply rD1); exact (Q_HO528 h0_)) (Kd.R_base ho42) hb) (fun _ h_ => by first | trivial | exact h_ | exact h_.1))
             clear BK511
             clear HB
             have HO522 := n0_
             have BK511 := n1_
             have HB := n2_
             clear n0_ n1_ n2_
             clear hb ho42
             refine hK.out _ _ ⟨v521, v524, v527, v530, m8_, m9_, (by rw [ha.out]; exact putSel_upk 1 hb_ rfl rfl rfl), (by (with_reducible repeat (first | refine bkN ?_ _ | refine bkD ?_ | refine bkA ?_ _)); exact BK511.1), (by repeat (first | (with_reducible first | exact HB.1 | apply bAl | apply pbN | apply bD1 | refine bSt ?_ GE511.1) | exact HB.1)), fun _ => (by (with_reducible repeat first | apply rA1 | apply rN1 | apply rD1); exact HO522.1), fun h0_ => absurd ((hoff 3 (by kernel_rfl)).symm.trans h0_) (by decide), z_HO528, fun h0_ => absurd ((hoff 7 (by kernel_rfl)).symm.trans h0_) (by decide), fun h0_ => absurd ((hoff 8 (by kernel_rfl)).symm.trans h0_) (by decide), fun h0_ => absurd ((hoff 9 (by kernel_rfl)).symm.trans h0_) (by decide)⟩
            refine steps_cons ?_ ?_
            ·rintro b a w' ⟨v521, v524, v527, v530, m8_, m9_, ha, Q_BK511, Q_HB, Q_HO522, Q_HO525, Q_HO528, Q_HO531, Q_X8_, Q_X9_⟩ hb_ hon hoff
             refine ⟨_, rfl, fun K hK => ?_⟩
             have e44 : a.tmps[44]? = some (.agg #[.slice P0 q0.length n0, .slice P1 q1.length n1, .slice P2 q2.length n2, .slice P3 q3.length n3, .slice P4 q4.length n4, .slice P5 q5.length n5]) := by rw [ha]; exact putSel_on (e := (0, 44, .agg #[.slice P0 q0.length n0, .slice P1 q1.length n1, .slice P2 q2.length n2, .slice P3 q3.length n3, .slice P4 q4.length n4, .slice P5 q5.length n5])) 0 rfl rfl (hon 0 (by kernel_rfl)) rfl
             have e46 : a.tmps[46]? = some (v521) := by rw [ha]; exact putSel_on (e := (2, 46, v521)) 1 rfl rfl (hon 2 (by kernel_rfl)) rfl
             replace ha := aM ha
             have BK511 := aM Q_BK511
             have HB := aM Q_HB
             have HO522 := aM (Q_HO522 (hon 2 (by kernel_rfl)))
             obtain ⟨Ao44, co44, eo44⟩ := Kd.R_slice HO522.1
             (first | subst eo44 | (injection eo44 with f1_ f2_ f3_; have f4_ := f1_.symm; have f5_ := f3_.symm; clear f1_ f2_ f3_; subst f4_; subst f5_))
             refine goes_ Try.func18 (by kernel_rfl) rfl #[.agg #[.slice P0 q0.length n0, .slice P1 q1.length n1, .slice P2 q2.length n2, .slice P3 q3.length n3, .slice P4 q4.length n4, .slice P5 q5.length n5], .slice Ao44 y520.length co44] (by rfl) rfl rfl (by first | (simp only [List.map_toArray, List.map_cons, List.map_nil, Act.eval, Array.getD_eq_getD_getElem?, Option.getD_some, e44, e46]; done) | (simp only [List.map_toArray, List.map_cons, List.map_nil, Act.eval, Array.getD_eq_getD_getElem?, Option.getD_some, e44, e46]; rfl)) ?_
             with_reducible refine (casemap_Lower.calls _ _ q0 _ _ q1 _ _ q2 _ _ q3 _ _ q4 _ _ q5 _ _ y520 t523 _ ?z1 ?z2 ?z3 ?z4 ?z5 ?z6 ?z7 ?z8 ?z9 ?z10 ?z11 ?z12 ?z13 ?z14 A18.1).mono ?_
             (case z1 => repeat (first | exact cB1 R0.1 HB.1 | with_reducible first | refine cA1 ?_ _ | refine cN1 ?_ _ | refine cD1 ?_))
             (case z2 => exact N0.1)
             (case z3 => repeat (first | exact cB1 R1.1 HB.1 | with_reducible first | refine cA1 ?_ _ | refine cN1 ?_ _ | refine cD1 ?_))
             (case z4 => exact N1.1)
             (case z5 => repeat (first | exact cB1 R2.1 HB.1 | with_reducible first | refine cA1 ?_ _ | refine cN1 ?_ _ | refine cD1 ?_))
             (case z6 => exact N2.1)
             (case z7 => repeat (first | exact cB1 R3.1 HB.1 | with_reducible first | refine cA1 ?_ _ | refine cN1 ?_ _ | refine cD1 ?_))
             (case z8 => exact N3.1)
             (case z9 => repeat (first | exact cB1 R4.1 HB.1 | with_reducible first | refine cA1 ?_ _ | refine cN1 ?_ _ | refine cD1 ?_))
             (case z10 => exact N4.1)
             (case z11 => repeat (first | exact cB1 R5.1 HB.1 | with_reducible first | refine cA1 ?_ _ | refine cN1 ?_ _ | refine cD1 ?_))
             (case z12 => exact N5.1)
             (case z13 => repeat (first | exact (Kd.R_reads' HO522.1).2.2 | (with_reducible refine Kd.C_alloc ?_ _) | (with_reducible refine Kd.C_drewN ?_ _) | (with_reducible refine Kd.C_drew ?_)))
             (case z14 => exact (Kd.R_reads' HO522.1).2.1)
             rintro e w45 ⟨v524, rfl, ho0, hb⟩
             refine ⟨_, rfl, ?_⟩
             have n0_ := aM (Kd.R_elder' (by (with_reducible repeat first | apply rA1 | apply rN1 | apply rD1); exact HO522.1) (Kd.R_base ho0) hb)
             have n1_ := aM (Kd.R_lower (Kd.R_new' ho0 (Kd.R_lt (by (with_reducible repeat first | apply rA1 | apply rN1 | apply rD1); exact HO522.1))) (bSz (by repeat (first | (with_reducible first | exact HB.1 | apply bAl | apply pbN | apply bD1 | refine bSt ?_ GE511.1) | exact HB.1))))
             have n2_ := aM (blk_below (g := gb511) (o := .cells #[.slice P0 q0.length n0, .slice P1 q1.length n1, .slice P2 q2.length n2, .slice P3 q3.length n3, .slice P4 q4.length n4, .slice P5 q5.length n5] 27 (0, 0)) (by (with_reducible repeat (first | refine bkN ?_ _ | refine bkD ?_ | refine bkA ?_ _)); exact BK511.1) hb)
             have n3_ := aM (bSp (by repeat (first | (with_reducible first | exact HB.1 | apply bAl | apply pbN | apply bD1 | refine bSt ?_ GE511.1) | exact HB.1)) hb)
             have z_HO528 := fun (h0_ : b 6 = true) => (show Kd.R (Kd.int .i64) 3 w45 w.heap.size (fun _ => True) v527 y526 from by first | exact (Kd.R_elder' (by (with_reducible repeat first | apply rA1 | apply rN1 | apply rD1); exact (Q_HO528 h0_)) (Kd.R_base ho0) hb) | exact Kd.R_mono (Kd.R_elder' (by (with_reducible repeat first | apply rA1 | apply rN1 | apply rD1); exact (Q_HO528 h0_)) (Kd.R_base ho0) hb) (fun _ h_ => by first | trivial | exact h_ | exact h_.1))
             clear HO522
             clear BK511
             clear HB
             have HO522 := n0_
             have HO525 := n1_
             have BK511 := n2_
             have HB := n3_
             clear n0_ n1_ n2_ n3_
             (try clear hb)
             (try clear hb2)
             (try clear hk)
             (try clear hi)
             (try clear ho0)
             refine hK.out _ _ ⟨.slice Ao44 y520.length co44, v524, v527, v530, m8_, m9_, (by rw [ha.out]; exact putSel_upk 2 hb_ rfl rfl rfl), (by (with_reducible repeat (first | refine bkN ?_ _ | refine bkD ?_ | refine bkA ?_ _)); exact BK511.1), (by repeat (first | (with_reducible first | exact HB.1 | apply bAl | apply pbN | apply bD1 | refine bSt ?_ GE511.1) | exact HB.1)), fun _ => (by (with_reducible repeat first | apply rA1 | apply rN1 | apply rD1); exact Kd.R_mono HO522.1 (fun _ hk => by first | trivial | exact hk.2)), fun _ => (by (with_reducible repeat first | apply rA1 | apply rN1 | apply rD1); exact Kd.R_mono HO525.1 (fun _ hk => by first | trivial | exact hk.2)), z_HO528, fun h0_ => absurd ((hoff 7 (by kernel_rfl)).symm.trans h0_) (by decide), fun h0_ => absurd ((hoff 8 (by kernel_rfl)).symm.trans h0_) (by decide), fun h0_ => absurd ((hoff 9 (by kernel_rfl)).symm.trans h0_) (by decide)⟩
            refine steps_cons ?_ ?_
            ·rintro b a w' ⟨v521, v524, v527, v530, m8_, m9_, ha, Q_BK511, Q_HB, Q_HO522, Q_HO525, Q_HO528, Q_HO531, Q_X8_, Q_X9_⟩ hb_ hon hoff
             refine ⟨_, rfl, fun K hK => ?_⟩
             have e2 : a.tmps[2]? = some (.pointer (some ⟨gb511, 0, none⟩)) := by rw [ha]; exact (putSel_off rfl).trans rfl
             replace ha := aM ha
             have BK511 := aM Q_BK511
             have HB := aM Q_HB
             have hc0_ : w'.cell? ⟨gb511, 0, none⟩ = some (.slice P0 q0.length n0) := (bkC BK511.1 0).trans rfl
             have hc1_ : w'.cell? ⟨gb511, 1, none⟩ = some (.slice P1 q1.length n1) := (bkC BK511.1 1).trans rfl
             have hc2_ : w'.cell? ⟨gb511, 2, none⟩ = some (.slice P2 q2.length n2) := (bkC BK511.1 2).trans rfl
             have hc3_ : w'.cell? ⟨gb511, 3, none⟩ = some (.slice P3 q3.length n3) := (bkC BK511.1 3).trans rfl
             have hc4_ : w'.cell? ⟨gb511, 4, none⟩ = some (.slice P4 q4.length n4) := (bkC BK511.1 4).trans rfl
             have hc5_ : w'.cell? ⟨gb511, 5, none⟩ = some (.slice P5 q5.length n5) := (bkC BK511.1 5).trans rfl
             refine value_ (w1 := w') (v := .agg #[.slice P0 q0.length n0, .slice P1 q1.length n1, .slice P2 q2.length n2, .slice P3 q3.length n3, .slice P4 q4.length n4, .slice P5 q5.length n5]) (by rfl) rfl ?_ ?_
             ·go_simp
              (try simp only [i64_w])
              try rfl
             refine hK.out _ _ ⟨v521, v524, v527, v530, m8_, m9_, (by rw [ha.out]; exact putSel_upk 3 hb_ rfl rfl rfl), Q_BK511, Q_HB, Q_HO522, Q_HO525, Q_HO528, fun h0_ => absurd ((hoff 7 (by kernel_rfl)).symm.trans h0_) (by decide), fun h0_ => absurd ((hoff 8 (by kernel_rfl)).symm.trans h0_) (by decide), fun h0_ => absurd ((hoff 9 (by kernel_rfl)).symm.trans h0_) (by decide)⟩
            refine steps_cons ?_ ?_
            ·rintro b a w' ⟨v521, v524, v527, v530, m8_, m9_, ha, Q_BK511, Q_HB, Q_HO522, Q_HO525, Q_HO528, Q_HO531, Q_X8_, Q_X9_⟩ hb_ hon hoff
             refine ⟨_, rfl, fun K hK => ?_⟩
             have e49 : a.tmps[49]? = some (.int .i64 a1) := by rw [ha]; exact (putSel_off rfl).trans rfl
             replace ha := aM ha
             have BK511 := aM Q_BK511
             have HB := aM Q_HB
             refine Kd.R_lit_step (Kd.int .i64) _ 3 ?hg (N := 50) ?hd (xs := ([a1] : List Int)) (inner := [.int .i64 a1]) (ok := fun _ => True) (okp := fun _ => True) ?hr ?hp (fun _ hk => hk) trivial (Below.refl _ _) (Nat.le_refl _) (by simp) ?_; (case hd => rfl); (case hg => rfl); (case hr => first | (go_simp; done) | (go_simp; rfl)); (case hp => exact (Reps.one (show Kd.M (Kd.int .i64) _ _ _ a1 [.int .i64 a1] from rfl) (Reps.none _ _)))
             intro v527 w41 ho42 hb hg_ hnew_
             clear hg_ hnew_
             (first | rw [← Ny526.1] at ho42 | (simp only [Int.reduceToNat] at ho42; rw [← Ny526.1] at ho42))
             have n0_ := aM (Kd.R_lower ho42 (bSz (by repeat (first | (with_reducible first | exact HB.1 | apply bAl | apply pbN | apply bD1 | refine bSt ?_ GE511.1) | exact HB.1))))
             have n1_ := aM (blk_below (g := gb511) (o := .cells #[.slice P0 q0.length n0, .slice P1 q1.length n1, .slice P2 q2.length n2, .slice P3 q3.length n3, .slice P4 q4.length n4, .slice P5 q5.length n5] 27 (0, 0)) (by (with_reducible repeat (first | refine bkN ?_ _ | refine bkD ?_ | refine bkA ?_ _)); exact BK511.1) hb)
             have n2_ := aM (bSp (by repeat (first | (with_reducible first | exact HB.1 | apply bAl | apply pbN | apply bD1 | refine bSt ?_ GE511.1) | exact HB.1)) hb)
             have z_HO522 := fun (h0_ : b 2 = true) => (show Kd.R (Kd.int .i64) 3 w41 w.heap.size (fun _ => True) v521 y520 from by first | exact (Kd.R_elder' (by (with_reducible repeat first | apply rA1 | apply rN1 | apply rD1); exact (Q_HO522 h0_)) (Kd.R_base ho42) hb) | exact Kd.R_mono (Kd.R_elder' (by (with_reducible repeat first | apply rA1 | apply rN1 | apply rD1); exact (Q_HO522 h0_)) (Kd.R_base ho42) hb) (fun _ h_ => by first | trivial | exact h_ | exact h_.1))
             have z_HO525 := fun (h0_ : b 3 = true) => (show Kd.R (Kd.int .i64) 3 w41 w.heap.size (fun _ => True) v524 t523 from by first | exact (Kd.R_elder' (by (with_reducible repeat first | apply rA1 | apply rN1 | apply rD1); exact (Q_HO525 h0_)) (Kd.R_base ho42) hb) | exact Kd.R_mono (Kd.R_elder' (by (with_reducible repeat first | apply rA1 | apply rN1 | apply rD1); exact (Q_HO525 h0_)) (Kd.R_base ho42) hb) (fun _ h_ => by first | trivial | exact h_ | exact h_.1))
             clear BK511
             clear HB
             have HO528 := n0_
             have BK511 := n1_
             have HB := n2_
             clear n0_ n1_ n2_
             clear hb ho42
             refine hK.out _ _ ⟨v521, v524, v527, v530, m8_, m9_, (by rw [ha.out]; exact putSel_upk 4 hb_ rfl rfl rfl), (by (with_reducible repeat (first | refine bkN ?_ _ | refine bkD ?_ | refine bkA ?_ _)); exact BK511.1), (by repeat (first | (with_reducible first | exact HB.1 | apply bAl | apply pbN | apply bD1 | refine bSt ?_ GE511.1) | exact HB.1)), z_HO522, z_HO525, fun _ => (by (with_reducible repeat first | apply rA1 | apply rN1 | apply rD1); exact HO528.1), fun h0_ => absurd ((hoff 7 (by kernel_rfl)).symm.trans h0_) (by decide), fun h0_ => absurd ((hoff 8 (by kernel_rfl)).symm.trans h0_) (by decide), fun h0_ => absurd ((hoff 9 (by kernel_rfl)).symm.trans h0_) (by decide)⟩
            refine steps_cons ?_ ?_
            ·rintro b a w' ⟨v521, v524, v527, v530, m8_, m9_, ha, Q_BK511, Q_HB, Q_HO522, Q_HO525, Q_HO528, Q_HO531, Q_X8_, Q_X9_⟩ hb_ hon hoff
             refine ⟨_, rfl, fun K hK => ?_⟩
             have e48 : a.tmps[48]? = some (.agg #[.slice P0 q0.length n0, .slice P1 q1.length n1, .slice P2 q2.length n2, .slice P3 q3.length n3, .slice P4 q4.length n4, .slice P5 q5.length n5]) := by rw [ha]; exact putSel_on (e := (4, 48, .agg #[.slice P0 q0.length n0, .slice P1 q1.length n1, .slice P2 q2.length n2, .slice P3 q3.length n3, .slice P4 q4.length n4, .slice P5 q5.length n5])) 3 rfl rfl (hon 4 (by kernel_rfl)) rfl
             have e50 : a.tmps[50]? = some (v527) := by rw [ha]; exact putSel_on (e := (6, 50, v527)) 4 rfl rfl (hon 6 (by kernel_rfl)) rfl
             replace ha := aM ha
             have BK511 := aM Q_BK511
             have HB := aM Q_HB
             have HO522 := aM (Q_HO522 (hon 2 (by kernel_rfl)))
             have HO525 := aM (Q_HO525 (hon 3 (by kernel_rfl)))
             have HO528 := aM (Q_HO528 (hon 6 (by kernel_rfl)))
             obtain ⟨Ao48, co48, eo48⟩ := Kd.R_slice HO528.1
             (first | subst eo48 | (injection eo48 with f1_ f2_ f3_; have f4_ := f1_.symm; have f5_ := f3_.symm; clear f1_ f2_ f3_; subst f4_; subst f5_))
             refine goes_ Try.func19 (by kernel_rfl) rfl #[.agg #[.slice P0 q0.length n0, .slice P1 q1.length n1, .slice P2 q2.length n2, .slice P3 q3.length n3, .slice P4 q4.length n4, .slice P5 q5.length n5], .slice Ao48 y526.length co48] (by rfl) rfl rfl (by first | (simp only [List.map_toArray, List.map_cons, List.map_nil, Act.eval, Array.getD_eq_getD_getElem?, Option.getD_some, e48, e50]; done) | (simp only [List.map_toArray, List.map_cons, List.map_nil, Act.eval, Array.getD_eq_getD_getElem?, Option.getD_some, e48, e50]; rfl)) ?_
             with_reducible refine (casemap_Upper.calls _ _ q0 _ _ q1 _ _ q2 _ _ q3 _ _ q4 _ _ q5 _ _ y526 t529 _ ?z1 ?z2 ?z3 ?z4 ?z5 ?z6 ?z7 ?z8 ?z9 ?z10 ?z11 ?z12 ?z13 ?z14 A19.1).mono ?_
             (case z1 => repeat (first | exact cB1 R0.1 HB.1 | with_reducible first | refine cA1 ?_ _ | refine cN1 ?_ _ | refine cD1 ?_))
             (case z2 => exact N0.1)
             (case z3 => repeat (first | exact cB1 R1.1 HB.1 | with_reducible first | refine cA1 ?_ _ | refine cN1 ?_ _ | refine cD1 ?_))
             (case z4 => exact N1.1)
             (case z5 => repeat (first | exact cB1 R2.1 HB.1 | with_reducible first | refine cA1 ?_ _ | refine cN1 ?_ _ | refine cD1 ?_))
             (case z6 => exact N2.1)
             (case z7 => repeat (first | exact cB1 R3.1 HB.1 | with_reducible first | refine cA1 ?_ _ | refine cN1 ?_ _ | refine cD1 ?_))
             (case z8 => exact N3.1)
             (case z9 => repeat (first | exact cB1 R4.1 HB.1 | with_reducible first | refine cA1 ?_ _ | refine cN1 ?_ _ | refine cD1 ?_))
             (case z10 => exact N4.1)
             (case z11 => repeat (first | exact cB1 R5.1 HB.1 | with_reducible first | refine cA1 ?_ _ | refine cN1 ?_ _ | refine cD1 ?_))
             (case z12 => exact N5.1)
             (case z13 => repeat (first | exact (Kd.R_reads' HO528.1).2.2 | (with_reducible refine Kd.C_alloc ?_ _) | (with_reducible refine Kd.C_drewN ?_ _) | (with_reducible refine Kd.C_drew ?_)))
             (case z14 => exact (Kd.R_reads' HO528.1).2.1)
             rintro e w49 ⟨v530, rfl, ho0, hb⟩
             refine ⟨_, rfl, ?_⟩
             have n0_ := aM (Kd.R_elder' (by (with_reducible repeat first | apply rA1 | apply rN1 | apply rD1); exact HO522.1) (Kd.R_base ho0) hb)
             have n1_ := aM (Kd.R_elder' (by (with_reducible repeat first | apply rA1 | apply rN1 | apply rD1); exact HO525.1) (Kd.R_base ho0) hb)
             have n2_ := aM (Kd.R_elder' (by (with_reducible repeat first | apply rA1 | apply rN1 | apply rD1); exact HO528.1) (Kd.R_base ho0) hb)
             have n3_ := aM (Kd.R_lower (Kd.R_new' (Kd.R_new' (Kd.R_new' ho0 (Kd.R_lt (by (with_reducible repeat first | apply rA1 | apply rN1 | apply rD1); exact HO522.1))) (Kd.R_lt (by (with_reducible repeat first | apply rA1 | apply rN1 | apply rD1); exact HO525.1))) (Kd.R_lt (by (with_reducible repeat first | apply rA1 | apply rN1 | apply rD1); exact HO528.1))) (bSz (by repeat (first | (with_reducible first | exact HB.1 | apply bAl | apply pbN | apply bD1 | refine bSt ?_ GE511.1) | exact HB.1))))
             have n4_ := aM (blk_below (g := gb511) (o := .cells #[.slice P0 q0.length n0, .slice P1 q1.length n1, .slice P2 q2.length n2, .slice P3 q3.length n3, .slice P4 q4.length n4, .slice P5 q5.length n5] 27 (0, 0)) (by (with_reducible repeat (first | refine bkN ?_ _ | refine bkD ?_ | refine bkA ?_ _)); exact BK511.1) hb)
             have n5_ := aM (bSp (by repeat (first | (with_reducible first | exact HB.1 | apply bAl | apply pbN | apply bD1 | refine bSt ?_ GE511.1) | exact HB.1)) hb)
             clear HO522
             clear HO525
             clear HO528
             clear BK511
             clear HB
             have HO522 := n0_
             have HO525 := n1_
             have HO528 := n2_
             have HO531 := n3_
             have BK511 := n4_
             have HB := n5_
             clear n0_ n1_ n2_ n3_ n4_ n5_
             (try clear hb)
             (try clear hb2)
             (try clear hk)
             (try clear hi)
             (try clear ho0)
             refine hK.out _ _ ⟨v521, v524, .slice Ao48 y526.length co48, v530, m8_, m9_, (by rw [ha.out]; exact putSel_upk 5 hb_ rfl rfl rfl), (by (with_reducible repeat (first | refine bkN ?_ _ | refine bkD ?_ | refine bkA ?_ _)); exact BK511.1), (by repeat (first | (with_reducible first | exact HB.1 | apply bAl | apply pbN | apply bD1 | refine bSt ?_ GE511.1) | exact HB.1)), fun _ => (by (with_reducible repeat first | apply rA1 | apply rN1 | apply rD1); exact Kd.R_mono HO522.1 (fun _ hk => by first | trivial | exact ⟨hk.1.1, ⟨hk.1.2, hk.2⟩⟩)), fun _ => (by (with_reducible repeat first | apply rA1 | apply rN1 | apply rD1); exact Kd.R_mono HO525.1 (fun _ hk => by first | trivial | exact ⟨hk.1.1, ⟨hk.1.2, hk.2⟩⟩)), fun _ => (by (with_reducible repeat first | apply rA1 | apply rN1 | apply rD1); exact Kd.R_mono HO528.1 (fun _ hk => by first | trivial | exact ⟨hk.1.1, ⟨hk.1.2, hk.2⟩⟩)), fun _ => (by (with_reducible repeat first | apply rA1 | apply rN1 | apply rD1); exact Kd.R_mono HO531.1 (fun _ hk => by first | trivial | exact ⟨hk.1.1.2, ⟨hk.1.2, hk.2⟩⟩)), fun h0_ => absurd ((hoff 8 (by kernel_rfl)).symm.trans h0_) (by decide), fun h0_ => absurd ((hoff 9 (by kernel_rfl)).symm.trans h0_) (by decide)⟩
            refine steps_cons ?_ ?_
            ·rintro b a w' ⟨v521, v524, v527, v530, m8_, m9_, ha, Q_BK511, Q_HB, Q_HO522, Q_HO525, Q_HO528, Q_HO531, Q_X8_, Q_X9_⟩ hb_ hon hoff
             refine ⟨_, rfl, fun K hK => ?_⟩
             have e47 : a.tmps[47]? = some (v524) := by rw [ha]; exact putSel_on (e := (3, 47, v524)) 2 rfl rfl (hon 3 (by kernel_rfl)) rfl
             replace ha := aM ha
             have BK511 := aM Q_BK511
             have HB := aM Q_HB
             have HO522 := aM (Q_HO522 (hon 2 (by kernel_rfl)))
             have HO525 := aM (Q_HO525 (hon 3 (by kernel_rfl)))
             have HO528 := aM (Q_HO528 (hon 6 (by kernel_rfl)))
             have HO531 := aM (Q_HO531 (hon 7 (by kernel_rfl)))
             refine value_ (w1 := w') (v := v524) (by rfl) rfl ?_ ?_
             ·go_simp
              (try simp only [i64_w])
              try rfl
             refine hK.out _ _ ⟨v521, v524, v527, v530, (v524), m9_, (by rw [ha.out]; exact putSel_upk 6 hb_ rfl rfl rfl), Q_BK511, Q_HB, Q_HO522, Q_HO525, Q_HO528, Q_HO531, fun _ => rfl, fun h0_ => absurd ((hoff 9 (by kernel_rfl)).symm.trans h0_) (by decide)⟩
            refine steps_cons ?_ ?_
            ·rintro b a w' ⟨v521, v524, v527, v530, m8_, m9_, ha, Q_BK511, Q_HB, Q_HO522, Q_HO525, Q_HO528, Q_HO531, Q_X8_, Q_X9_⟩ hb_ hon hoff
             refine ⟨_, rfl, fun K hK => ?_⟩
             have e51 : a.tmps[51]? = some (v530) := by rw [ha]; exact putSel_on (e := (7, 51, v530)) 5 rfl rfl (hon 7 (by kernel_rfl)) rfl
             replace ha := aM ha
             have BK511 := aM Q_BK511
             have HB := aM Q_HB
             have HO522 := aM (Q_HO522 (hon 2 (by kernel_rfl)))
             have HO525 := aM (Q_HO525 (hon 3 (by kernel_rfl)))
             have HO528 := aM (Q_HO528 (hon 6 (by kernel_rfl)))
             have HO531 := aM (Q_HO531 (hon 7 (by kernel_rfl)))
             refine value_ (w1 := w') (v := v530) (by rfl) rfl ?_ ?_
             ·go_simp
              (try simp only [i64_w])
              try rfl
             refine hK.out _ _ ⟨v521, v524, v527, v530, m8_, (v530), (by rw [ha.out]; exact putSel_upk 7 hb_ rfl rfl rfl), Q_BK511, Q_HB, Q_HO522, Q_HO525, Q_HO528, Q_HO531, Q_X8_, fun _ => rfl⟩
            exact steps_nil
           rintro b a w49 hall ⟨v521, v524, v527, v530, m8_, m9_, ha, Q_BK511, Q_HB, Q_HO522, Q_HO525, Q_HO528, Q_HO531, Q_X8_, Q_X9_⟩
           clear BK511 HB
           have hb0_ := hall 0 (by kernel_rfl)
           have hb2_ := hall 2 (by kernel_rfl)
           have hb3_ := hall 3 (by kernel_rfl)
           have hb4_ := hall 4 (by kernel_rfl)
           have hb6_ := hall 6 (by kernel_rfl)
           have hb7_ := hall 7 (by kernel_rfl)
           have hb8_ := hall 8 (by kernel_rfl)
           have hb9_ := hall 9 (by kernel_rfl)
           subst ha
           obtain rfl := Q_X8_ hb8_
           obtain rfl := Q_X9_ hb9_
           simp only [putSel, hb0_, hb2_, hb3_, hb4_, hb6_, hb7_, hb8_, hb9_, if_true, Act.put, sI, sZ, sS]
           have BK511 := aM Q_BK511
           clear Q_BK511
           have HB := aM Q_HB
           clear Q_HB
           have HO522 := aM (Q_HO522 hb2_)
           clear Q_HO522
           have HO525 := aM (Q_HO525 hb3_)
           clear Q_HO525
           have HO528 := aM (Q_HO528 hb6_)
           clear Q_HO528
           have HO531 := aM (Q_HO531 hb7_)
           clear Q_HO531
           clear hall hb0_ hb2_ hb3_ hb4_ hb6_ hb7_ hb8_ hb9_
           obtain ⟨Ao50, co50, eo50⟩ := Kd.R_slice HO525.1
           subst eo50
           have p532 : 0 ≤ (0 : Int) := (by omega)
           have q532 : 0 < (t523.length : Int) := oD (by first | (with_reducible assumption) | assumption)
           obtain ⟨ad532, e532, hx532_0⟩ := Kd.at_int (Kd.R_reads' HO525.1).2.2 0 p532 q532
           cases e532
           have qi532 : (0 < t523.length) = True := eq_true (by omega)
           (try rw [show ((0 : Int)).toNat = 0 from rfl] at hx532_0)
           (try rw [Addr.add_zero'] at hx532_0)
           replace p532 := eq_true p532
           replace q532 := eq_true q532
           obtain ⟨Ao51, co51, eo51⟩ := Kd.R_slice HO531.1
           subst eo51
           have p533 : 0 ≤ (0 : Int) := (by omega)
           have q533 : 0 < (t529.length : Int) := oD (by first | (with_reducible assumption) | assumption)
           obtain ⟨ad533, e533, hx533_0⟩ := Kd.at_int (Kd.R_reads' HO531.1).2.2 0 p533 q533
           cases e533
           have qi533 : (0 < t529.length) = True := eq_true (by omega)
           (try rw [show ((0 : Int)).toNat = 0 from rfl] at hx533_0)
           (try rw [Addr.add_zero'] at hx533_0)
           replace p533 := eq_true p533
           replace q533 := eq_true q533
           try go_wp2
           go_ret
           exact ⟨by first | rfl | (simp [eN, eS] <;> rfl) | (simp [*, eN, eS] <;> rfl), by repeat (first | (with_reducible first | exact HB.1 | apply bAl | apply pbN | apply bD1 | refine bSt ?_ GE511.1) | exact HB.1)⟩
         ·rw [if_neg c24] at H
          exact absurd H (by simp)
        ·rw [if_neg c23] at H
         have c23b0 : ((t529.length : Int) == 1) = false := beq_eq_false_iff_ne.mpr c23
         have c23b1 : ((t529.length : Int) != 1) = true := bne_iff_ne.mpr c23
         replace H := Option.bind_eq_some_iff.mp H
         obtain ⟨t535, A520, H⟩ := H
         replace H : (some t535) = some r := H
         have A52 := aM A520
         clear A520
         obtain rfl := Option.some.inj H
         try go_wp2
         have n0_ := aM (bkD BK511.1)
         have n1_ := aM (bD1 HB.1)
         clear BK511
         clear HB
         have BK511 := n0_
         have HB := n1_
         clear n0_ n1_
         refine start_ (n := 10) (S := fun w' => True) (ds := []) #[false, false, false, false, false, false, false, false, false, false] (by kernel_rfl) rfl rfl trivial (fun hHeld => ?_); refine with_tabW w37_CasemapSimples.tab7 w37_CasemapSimples.bits7 (fun HT_ HW_ => ?_)
         generalize wc.drew = w53 at BK511 HB hHeld ⊢
         refine pure_ (i := 1) (N := some 45) (v := ?_) (a' := ?_) #[false, true, false, false, false, false, false, false, false, false] rfl rfl (any_of HT_.1 (by kernel_rfl)) (fun _ _ _ h => h) (Or.inl ⟨by rfl, ?_⟩) ?_ ?_
         rotate_left
         ·intro w'
          go_simp
          with_reducible rfl
         rotate_left
         ·simp only [Act.put, sI, sZ, sS, i64_w, i32_w]
          rfl
         refine pure_ (i := 5) (N := some 49) (v := ?_) (a' := ?_) #[false, true, false, false, false, true, false, false, false, false] rfl rfl (any_of HT_.1 (by kernel_rfl)) (fun _ _ _ h => h) (Or.inl ⟨by rfl, ?_⟩) ?_ ?_
         rotate_left
         ·intro w'
          go_simp
          with_reducible rfl
         rotate_left
         ·simp only [Act.put, sI, sZ, sS, i64_w, i32_w]
          rfl
         refine inv_at [0, 2, 3, 4, 6, 7, 8, 9] (fun a0_ b a w' => ∃ (v521 : Value) (v524 : Value) (v527 : Value) (v530 : Value) (m8_ : Value) (m9_ : Value), a = putSel a0_ b [(0, 44, .agg #[.slice P0 q0.length n0, .slice P1 q1.length n1, .slice P2 q2.length n2, .slice P3 q3.length n3, .slice P4 q4.length n4, .slice P5 q5.length n5]), (2, 46, v521), (3, 47, v524), (4, 48, .agg #[.slice P0 q0.length n0, .slice P1 q1.length n1, .slice P2 q2.length n2, .slice P3 q3.length n3, .slice P4 q4.length n4, .slice P5 q5.length n5]), (6, 50, v527), (7, 51, v530), (8, 11, m8_), (9, 12, m9_)] ∧ (w'.heap[gb511]? = some (.cells #[.slice P0 q0.length n0, .slice P1 q1.length n1, .slice P2 q2.length n2, .slice P3 q3.length n3, .slice P4 q4.length n4, .slice P5 q5.length n5] 27 (0, 0))) ∧ (Below w.heap.size w w') ∧ (b 2 = true → Kd.R (Kd.int .i64) 3 w' w.heap.size (fun _ => True) v521 y520) ∧ (b 3 = true → Kd.R (Kd.int .i64) 3 w' w.heap.size (fun _ => True) v524 t523) ∧ (b 6 = true → Kd.R (Kd.int .i64) 3 w' w.heap.size (fun _ => True) v527 y526) ∧ (b 7 = true → Kd.R (Kd.int .i64) 3 w' w.heap.size (fun _ => True) v530 t529) ∧ (b 8 = true → (m8_ : Value) = v524) ∧ (b 9 = true → (m9_ : Value) = v530)) HT_.1 HW_.1 (by kernel_rfl) (by kernel_rfl) ?_ ?_ ?_
         ·exact ⟨.bool false, .bool false, .bool false, .bool false, .bool false, .bool false, by simp only [putSel, Bool.false_eq_true, if_false], BK511.1, HB.1, fun h_ => absurd h_ (by decide), fun h_ => absurd h_ (by decide), fun h_ => absurd h_ (by decide), fun h_ => absurd h_ (by decide), fun h_ => absurd h_ (by decide), fun h_ => absurd h_ (by decide)⟩
         ·skip
          clear BK511 HB
          refine steps_cons ?_ ?_
          ·rintro b a w' ⟨v521, v524, v527, v530, m8_, m9_, ha, Q_BK511, Q_HB, Q_HO522, Q_HO525, Q_HO528, Q_HO531, Q_X8_, Q_X9_⟩ hb_ hon hoff
           refine ⟨_, rfl, fun K hK => ?_⟩
           have e2 : a.tmps[2]? = some (.pointer (some ⟨gb511, 0, none⟩)) := by rw [ha]; exact (putSel_off rfl).trans rfl
           replace ha := aM ha
           have BK511 := aM Q_BK511
           have HB := aM Q_HB
           have hc0_ : w'.cell? ⟨gb511, 0, none⟩ = some (.slice P0 q0.length n0) := (bkC BK511.1 0).trans rfl
           have hc1_ : w'.cell? ⟨gb511, 1, none⟩ = some (.slice P1 q1.length n1) := (bkC BK511.1 1).trans rfl
           have hc2_ : w'.cell? ⟨gb511, 2, none⟩ = some (.slice P2 q2.length n2) := (bkC BK511.1 2).trans rfl
           have hc3_ : w'.cell? ⟨gb511, 3, none⟩ = some (.slice P3 q3.length n3) := (bkC BK511.1 3).trans rfl
           have hc4_ : w'.cell? ⟨gb511, 4, none⟩ = some (.slice P4 q4.length n4) := (bkC BK511.1 4).trans rfl
           have hc5_ : w'.cell? ⟨gb511, 5, none⟩ = some (.slice P5 q5.length n5) := (bkC BK511.1 5).trans rfl
           refine value_ (w1 := w') (v := .agg #[.slice P0 q0.length n0, .slice P1 q1.length n1, .slice P2 q2.length n2, .slice P3 q3.length n3, .slice P4 q4.length n4, .slice P5 q5.length n5]) (by rfl) rfl ?_ ?_
           ·go_simp
            (try simp only [i64_w])
            try rfl
           refine hK.out _ _ ⟨v521, v524, v527, v530, m8_, m9_, (by rw [ha.out]; exact putSel_upk 0 hb_ rfl rfl rfl), Q_BK511, Q_HB, Q_HO522, fun h0_ => absurd ((hoff 3 (by kernel_rfl)).symm.trans h0_) (by decide), Q_HO528, fun h0_ => absurd ((hoff 7 (by kernel_rfl)).symm.trans h0_) (by decide), fun h0_ => absurd ((hoff 8 (by kernel_rfl)).symm.trans h0_) (by decide), fun h0_ => absurd ((hoff 9 (by kernel_rfl)).symm.trans h0_) (by decide)⟩
          refine steps_cons ?_ ?_
          ·rintro b a w' ⟨v521, v524, v527, v530, m8_, m9_, ha, Q_BK511, Q_HB, Q_HO522, Q_HO525, Q_HO528, Q_HO531, Q_X8_, Q_X9_⟩ hb_ hon hoff
           refine ⟨_, rfl, fun K hK => ?_⟩
           have e45 : a.tmps[45]? = some (.int .i64 a1) := by rw [ha]; exact (putSel_off rfl).trans rfl
           replace ha := aM ha
           have BK511 := aM Q_BK511
           have HB := aM Q_HB
           refine Kd.R_lit_step (Kd.int .i64) _ 3 ?hg (N := 46) ?hd (xs := ([a1] : List Int)) (inner := [.int .i64 a1]) (ok := fun _ => True) (okp := fun _ => True) ?hr ?hp (fun _ hk => hk) trivial (Below.refl _ _) (Nat.le_refl _) (by simp) ?_; (case hd => rfl); (case hg => rfl); (case hr => first | (go_simp; done) | (go_simp; rfl)); (case hp => exact (Reps.one (show Kd.M (Kd.int .i64) _ _ _ a1 [.int .i64 a1] from rfl) (Reps.none _ _)))
           intro v521 w54 ho55 hb hg_ hnew_
           clear hg_ hnew_
           (first | rw [← Ny520.1] at ho55 | (simp only [Int.reduceToNat] at ho55; rw [← Ny520.1] at ho55))
           have n0_ := aM (Kd.R_lower ho55 (bSz (by repeat (first | (with_reducible first | exact HB.1 | apply bAl | apply pbN | apply bD1 | refine bSt ?_ GE511.1) | exact HB.1))))
           have n1_ := aM (blk_below (g := gb511) (o := .cells #[.slice P0 q0.length n0, .slice P1 q1.length n1, .slice P2 q2.length n2, .slice P3 q3.length n3, .slice P4 q4.length n4, .slice P5 q5.length n5] 27 (0, 0)) (by (with_reducible repeat (first | refine bkN ?_ _ | refine bkD ?_ | refine bkA ?_ _)); exact BK511.1) hb)
           have n2_ := aM (bSp (by repeat (first | (with_reducible first | exact HB.1 | apply bAl | apply pbN | apply bD1 | refine bSt ?_ GE511.1) | exact HB.1)) hb)
           have z_HO528 := fun (h0_ : b 6 = true) => (show Kd.R (Kd.int .i64) 3 w54 w.heap.size (fun _ => True) v527 y526 from by first | exact (Kd.R_elder' (by (with_reducible repeat first | apply rA1 | apply rN1 | apply rD1); exact (Q_HO528 h0_)) (Kd.R_base ho55) hb) | exact Kd.R_mono (Kd.R_elder' (by (with_reducible repeat first | apply rA1 | apply rN1 | apply rD1); exact (Q_HO528 h0_)) (Kd.R_base ho55) hb) (fun _ h_ => by first | trivial | exact h_ | exact h_.1))
           clear BK511
           clear HB
           have HO522 := n0_
           have BK511 := n1_
           have HB := n2_
           clear n0_ n1_ n2_
           clear hb ho55
           refine hK.out _ _ ⟨v521, v524, v527, v530, m8_, m9_, (by rw [ha.out]; exact putSel_upk 1 hb_ rfl rfl rfl), (by (with_reducible repeat (first | refine bkN ?_ _ | refine bkD ?_ | refine bkA ?_ _)); exact BK511.1), (by repeat (first | (with_reducible first | exact HB.1 | apply bAl | apply pbN | apply bD1 | refine bSt ?_ GE511.1) | exact HB.1)), fun _ => (by (with_reducible repeat first | apply rA1 | apply rN1 | apply rD1); exact HO522.1), fun h0_ => absurd ((hoff 3 (by kernel_rfl)).symm.trans h0_) (by decide), z_HO528, fun h0_ => absurd ((hoff 7 (by kernel_rfl)).symm.trans h0_) (by decide), fun h0_ => absurd ((hoff 8 (by kernel_rfl)).symm.trans h0_) (by decide), fun h0_ => absurd ((hoff 9 (by kernel_rfl)).symm.trans h0_) (by decide)⟩
          refine steps_cons ?_ ?_
          ·rintro b a w' ⟨v521, v524, v527, v530, m8_, m9_, ha, Q_BK511, Q_HB, Q_HO522, Q_HO525, Q_HO528, Q_HO531, Q_X8_, Q_X9_⟩ hb_ hon hoff
           refine ⟨_, rfl, fun K hK => ?_⟩
           have e44 : a.tmps[44]? = some (.agg #[.slice P0 q0.length n0, .slice P1 q1.length n1, .slice P2 q2.length n2, .slice P3 q3.length n3, .slice P4 q4.length n4, .slice P5 q5.length n5]) := by rw [ha]; exact putSel_on (e := (0, 44, .agg #[.slice P0 q0.length n0, .slice P1 q1.length n1, .slice P2 q2.length n2, .slice P3 q3.length n3, .slice P4 q4.length n4, .slice P5 q5.length n5])) 0 rfl rfl (hon 0 (by kernel_rfl)) rfl
           have e46 : a.tmps[46]? = some (v521) := by rw [ha]; exact putSel_on (e := (2, 46, v521)) 1 rfl rfl (hon 2 (by kernel_rfl)) rfl
           replace ha := aM ha
           have BK511 := aM Q_BK511
           have HB := aM Q_HB
           have HO522 := aM (Q_HO522 (hon 2 (by kernel_rfl)))
           obtain ⟨Ao57, co57, eo57⟩ := Kd.R_slice HO522.1
           (first | subst eo57 | (injection eo57 with f1_ f2_ f3_; have f4_ := f1_.symm; have f5_ := f3_.symm; clear f1_ f2_ f3_; subst f4_; subst f5_))
           refine goes_ Try.func18 (by kernel_rfl) rfl #[.agg #[.slice P0 q0.length n0, .slice P1 q1.length n1, .slice P2 q2.length n2, .slice P3 q3.length n3, .slice P4 q4.length n4, .slice P5 q5.length n5], .slice Ao57 y520.length co57] (by rfl) rfl rfl (by first | (simp only [List.map_toArray, List.map_cons, List.map_nil, Act.eval, Array.getD_eq_getD_getElem?, Option.getD_some, e44, e46]; done) | (simp only [List.map_toArray, List.map_cons, List.map_nil, Act.eval, Array.getD_eq_getD_getElem?, Option.getD_some, e44, e46]; rfl)) ?_
           with_reducible refine (casemap_Lower.calls _ _ q0 _ _ q1 _ _ q2 _ _ q3 _ _ q4 _ _ q5 _ _ y520 t523 _ ?z1 ?z2 ?z3 ?z4 ?z5 ?z6 ?z7 ?z8 ?z9 ?z10 ?z11 ?z12 ?z13 ?z14 A18.1).mono ?_
           (case z1 => repeat (first | exact cB1 R0.1 HB.1 | with_reducible first | refine cA1 ?_ _ | refine cN1 ?_ _ | refine cD1 ?_))
           (case z2 => exact N0.1)
           (case z3 => repeat (first | exact cB1 R1.1 HB.1 | with_reducible first | refine cA1 ?_ _ | refine cN1 ?_ _ | refine cD1 ?_))
           (case z4 => exact N1.1)
           (case z5 => repeat (first | exact cB1 R2.1 HB.1 | with_reducible first | refine cA1 ?_ _ | refine cN1 ?_ _ | refine cD1 ?_))
           (case z6 => exact N2.1)
           (case z7 => repeat (first | exact cB1 R3.1 HB.1 | with_reducible first | refine cA1 ?_ _ | refine cN1 ?_ _ | refine cD1 ?_))
           (case z8 => exact N3.1)
           (case z9 => repeat (first | exact cB1 R4.1 HB.1 | with_reducible first | refine cA1 ?_ _ | refine cN1 ?_ _ | refine cD1 ?_))
           (case z10 => exact N4.1)
           (case z11 => repeat (first | exact cB1 R5.1 HB.1 | with_reducible first | refine cA1 ?_ _ | refine cN1 ?_ _ | refine cD1 ?_))
           (case z12 => exact N5.1)
           (case z13 => repeat (first | exact (Kd.R_reads' HO522.1).2.2 | (with_reducible refine Kd.C_alloc ?_ _) | (with_reducible refine Kd.C_drewN ?_ _) | (with_reducible refine Kd.C_drew ?_)))
           (case z14 => exact (Kd.R_reads' HO522.1).2.1)
           rintro e w58 ⟨v524, rfl, ho0, hb⟩
           refine ⟨_, rfl, ?_⟩
           have n0_ := aM (Kd.R_elder' (by (with_reducible repeat first | apply rA1 | apply rN1 | apply rD1); exact HO522.1) (Kd.R_base ho0) hb)
           have n1_ := aM (Kd.R_lower (Kd.R_new' ho0 (Kd.R_lt (by (with_reducible repeat first | apply rA1 | apply rN1 | apply rD1); exact HO522.1))) (bSz (by repeat (first | (with_reducible first | exact HB.1 | apply bAl | apply pbN | apply bD1 | refine bSt ?_ GE511.1) | exact HB.1))))
           have n2_ := aM (blk_below (g := gb511) (o := .cells #[.slice P0 q0.length n0, .slice P1 q1.length n1, .slice P2 q2.length n2, .slice P3 q3.length n3, .slice P4 q4.length n4, .slice P5 q5.length n5] 27 (0, 0)) (by (with_reducible repeat (first | refine bkN ?_ _ | refine bkD ?_ | refine bkA ?_ _)); exact BK511.1) hb)
           have n3_ := aM (bSp (by repeat (first | (with_reducible first | exact HB.1 | apply bAl | apply pbN | apply bD1 | refine bSt ?_ GE511.1) | exact HB.1)) hb)
           have z_HO528 := fun (h0_ : b 6 = true) => (show Kd.R (Kd.int .i64) 3 w58 w.heap.size (fun _ => True) v527 y526 from by first | exact (Kd.R_elder' (by (with_reducible repeat first | apply rA1 | apply rN1 | apply rD1); exact (Q_HO528 h0_)) (Kd.R_base ho0) hb) | exact Kd.R_mono (Kd.R_elder' (by (with_reducible repeat first | apply rA1 | apply rN1 | apply rD1); exact (Q_HO528 h0_)) (Kd.R_base ho0) hb) (fun _ h_ => by first | trivial | exact h_ | exact h_.1))
           clear HO522
           clear BK511
           clear HB
           have HO522 := n0_
           have HO525 := n1_
           have BK511 := n2_
           have HB := n3_
           clear n0_ n1_ n2_ n3_
           (try clear hb)
           (try clear hb2)
           (try clear hk)
           (try clear hi)
           (try clear ho0)
           refine hK.out _ _ ⟨.slice Ao57 y520.length co57, v524, v527, v530, m8_, m9_, (by rw [ha.out]; exact putSel_upk 2 hb_ rfl rfl rfl), (by (with_reducible repeat (first | refine bkN ?_ _ | refine bkD ?_ | refine bkA ?_ _)); exact BK511.1), (by repeat (first | (with_reducible first | exact HB.1 | apply bAl | apply pbN | apply bD1 | refine bSt ?_ GE511.1) | exact HB.1)), fun _ => (by (with_reducible repeat first | apply rA1 | apply rN1 | apply rD1); exact Kd.R_mono HO522.1 (fun _ hk => by first | trivial | exact hk.2)), fun _ => (by (with_reducible repeat first | apply rA1 | apply rN1 | apply rD1); exact Kd.R_mono HO525.1 (fun _ hk => by first | trivial | exact hk.2)), z_HO528, fun h0_ => absurd ((hoff 7 (by kernel_rfl)).symm.trans h0_) (by decide), fun h0_ => absurd ((hoff 8 (by kernel_rfl)).symm.trans h0_) (by decide), fun h0_ => absurd ((hoff 9 (by kernel_rfl)).symm.trans h0_) (by decide)⟩
          refine steps_cons ?_ ?_
          ·rintro b a w' ⟨v521, v524, v527, v530, m8_, m9_, ha, Q_BK511, Q_HB, Q_HO522, Q_HO525, Q_HO528, Q_HO531, Q_X8_, Q_X9_⟩ hb_ hon hoff
           refine ⟨_, rfl, fun K hK => ?_⟩
           have e2 : a.tmps[2]? = some (.pointer (some ⟨gb511, 0, none⟩)) := by rw [ha]; exact (putSel_off rfl).trans rfl
           replace ha := aM ha
           have BK511 := aM Q_BK511
           have HB := aM Q_HB
           have hc0_ : w'.cell? ⟨gb511, 0, none⟩ = some (.slice P0 q0.length n0) := (bkC BK511.1 0).trans rfl
           have hc1_ : w'.cell? ⟨gb511, 1, none⟩ = some (.slice P1 q1.length n1) := (bkC BK511.1 1).trans rfl
           have hc2_ : w'.cell? ⟨gb511, 2, none⟩ = some (.slice P2 q2.length n2) := (bkC BK511.1 2).trans rfl
           have hc3_ : w'.cell? ⟨gb511, 3, none⟩ = some (.slice P3 q3.length n3) := (bkC BK511.1 3).trans rfl
           have hc4_ : w'.cell? ⟨gb511, 4, none⟩ = some (.slice P4 q4.length n4) := (bkC BK511.1 4).trans rfl
           have hc5_ : w'.cell? ⟨gb511, 5, none⟩ = some (.slice P5 q5.length n5) := (bkC BK511.1 5).trans rfl
           refine value_ (w1 := w') (v := .agg #[.slice P0 q0.length n0, .slice P1 q1.length n1, .slice P2 q2.length n2, .slice P3 q3.length n3, .slice P4 q4.length n4, .slice P5 q5.length n5]) (by rfl) rfl ?_ ?_
           ·go_simp
            (try simp only [i64_w])
            try rfl
           refine hK.out _ _ ⟨v521, v524, v527, v530, m8_, m9_, (by rw [ha.out]; exact putSel_upk 3 hb_ rfl rfl rfl), Q_BK511, Q_HB, Q_HO522, Q_HO525, Q_HO528, fun h0_ => absurd ((hoff 7 (by kernel_rfl)).symm.trans h0_) (by decide), fun h0_ => absurd ((hoff 8 (by kernel_rfl)).symm.trans h0_) (by decide), fun h0_ => absurd ((hoff 9 (by kernel_rfl)).symm.trans h0_) (by decide)⟩
          refine steps_cons ?_ ?_
          ·rintro b a w' ⟨v521, v524, v527, v530, m8_, m9_, ha, Q_BK511, Q_HB, Q_HO522, Q_HO525, Q_HO528, Q_HO531, Q_X8_, Q_X9_⟩ hb_ hon hoff
           refine ⟨_, rfl, fun K hK => ?_⟩
           have e49 : a.tmps[49]? = some (.int .i64 a1) := by rw [ha]; exact (putSel_off rfl).trans rfl
           replace ha := aM ha
           have BK511 := aM Q_BK511
           have HB := aM Q_HB
           refine Kd.R_lit_step (Kd.int .i64) _ 3 ?hg (N := 50) ?hd (xs := ([a1] : List Int)) (inner := [.int .i64 a1]) (ok := fun _ => True) (okp := fun _ => True) ?hr ?hp (fun _ hk => hk) trivial (Below.refl _ _) (Nat.le_refl _) (by simp) ?_; (case hd => rfl); (case hg => rfl); (case hr => first | (go_simp; done) | (go_simp; rfl)); (case hp => exact (Reps.one (show Kd.M (Kd.int .i64) _ _ _ a1 [.int .i64 a1] from rfl) (Reps.none _ _)))
           intro v527 w54 ho55 hb hg_ hnew_
           clear hg_ hnew_
           (first | rw [← Ny526.1] at ho55 | (simp only [Int.reduceToNat] at ho55; rw [← Ny526.1] at ho55))
           have n0_ := aM (Kd.R_lower ho55 (bSz (by repeat (first | (with_reducible first | exact HB.1 | apply bAl | apply pbN | apply bD1 | refine bSt ?_ GE511.1) | exact HB.1))))
           have n1_ := aM (blk_below (g := gb511) (o := .cells #[.slice P0 q0.length n0, .slice P1 q1.length n1, .slice P2 q2.length n2, .slice P3 q3.length n3, .slice P4 q4.length n4, .slice P5 q5.length n5] 27 (0, 0)) (by (with_reducible repeat (first | refine bkN ?_ _ | refine bkD ?_ | refine bkA ?_ _)); exact BK511.1) hb)
           have n2_ := aM (bSp (by repeat (first | (with_reducible first | exact HB.1 | apply bAl | apply pbN | apply bD1 | refine bSt ?_ GE511.1) | exact HB.1)) hb)
           have z_HO522 := fun (h0_ : b 2 = true) => (show Kd.R (Kd.int .i64) 3 w54 w.heap.size (fun _ => True) v521 y520 from by first | exact (Kd.R_elder' (by (with_reducible repeat first | apply rA1 | apply rN1 | apply rD1); exact (Q_HO522 h0_)) (Kd.R_base ho55) hb) | exact Kd.R_mono (Kd.R_elder' (by (with_reducible repeat first | apply rA1 | apply rN1 | apply rD1); exact (Q_HO522 h0_)) (Kd.R_base ho55) hb) (fun _ h_ => by first | trivial | exact h_ | exact h_.1))
           have z_HO525 := fun (h0_ : b 3 = true) => (show Kd.R (Kd.int .i64) 3 w54 w.heap.size (fun _ => True) v524 t523 from by first | exact (Kd.R_elder' (by (with_reducible repeat first | apply rA1 | apply rN1 | apply rD1); exact (Q_HO525 h0_)) (Kd.R_base ho55) hb) | exact Kd.R_mono (Kd.R_elder' (by (with_reducible repeat first | apply rA1 | apply rN1 | apply rD1); exact (Q_HO525 h0_)) (Kd.R_base ho55) hb) (fun _ h_ => by first | trivial | exact h_ | exact h_.1))
           clear BK511
           clear HB
           have HO528 := n0_
           have BK511 := n1_
           have HB := n2_
           clear n0_ n1_ n2_
           clear hb ho55
           refine hK.out _ _ ⟨v521, v524, v527, v530, m8_, m9_, (by rw [ha.out]; exact putSel_upk 4 hb_ rfl rfl rfl), (by (with_reducible repeat (first | refine bkN ?_ _ | refine bkD ?_ | refine bkA ?_ _)); exact BK511.1), (by repeat (first | (with_reducible first | exact HB.1 | apply bAl | apply pbN | apply bD1 | refine bSt ?_ GE511.1) | exact HB.1)), z_HO522, z_HO525, fun _ => (by (with_reducible repeat first | apply rA1 | apply rN1 | apply rD1); exact HO528.1), fun h0_ => absurd ((hoff 7 (by kernel_rfl)).symm.trans h0_) (by decide), fun h0_ => absurd ((hoff 8 (by kernel_rfl)).symm.trans h0_) (by decide), fun h0_ => absurd ((hoff 9 (by kernel_rfl)).symm.trans h0_) (by decide)⟩
          refine steps_cons ?_ ?_
          ·rintro b a w' ⟨v521, v524, v527, v530, m8_, m9_, ha, Q_BK511, Q_HB, Q_HO522, Q_HO525, Q_HO528, Q_HO531, Q_X8_, Q_X9_⟩ hb_ hon hoff
           refine ⟨_, rfl, fun K hK => ?_⟩
           have e48 : a.tmps[48]? = some (.agg #[.slice P0 q0.length n0, .slice P1 q1.length n1, .slice P2 q2.length n2, .slice P3 q3.length n3, .slice P4 q4.length n4, .slice P5 q5.length n5]) := by rw [ha]; exact putSel_on (e := (4, 48, .agg #[.slice P0 q0.length n0, .slice P1 q1.length n1, .slice P2 q2.length n2, .slice P3 q3.length n3, .slice P4 q4.length n4, .slice P5 q5.length n5])) 3 rfl rfl (hon 4 (by kernel_rfl)) rfl
           have e50 : a.tmps[50]? = some (v527) := by rw [ha]; exact putSel_on (e := (6, 50, v527)) 4 rfl rfl (hon 6 (by kernel_rfl)) rfl
           replace ha := aM ha
           have BK511 := aM Q_BK511
           have HB := aM Q_HB
           have HO522 := aM (Q_HO522 (hon 2 (by kernel_rfl)))
           have HO525 := aM (Q_HO525 (hon 3 (by kernel_rfl)))
           have HO528 := aM (Q_HO528 (hon 6 (by kernel_rfl)))
           obtain ⟨Ao61, co61, eo61⟩ := Kd.R_slice HO528.1
           (first | subst eo61 | (injection eo61 with f1_ f2_ f3_; have f4_ := f1_.symm; have f5_ := f3_.symm; clear f1_ f2_ f3_; subst f4_; subst f5_))
           refine goes_ Try.func19 (by kernel_rfl) rfl #[.agg #[.slice P0 q0.length n0, .slice P1 q1.length n1, .slice P2 q2.length n2, .slice P3 q3.length n3, .slice P4 q4.length n4, .slice P5 q5.length n5], .slice Ao61 y526.length co61] (by rfl) rfl rfl (by first | (simp only [List.map_toArray, List.map_cons, List.map_nil, Act.eval, Array.getD_eq_getD_getElem?, Option.getD_some, e48, e50]; done) | (simp only [List.map_toArray, List.map_cons, List.map_nil, Act.eval, Array.getD_eq_getD_getElem?, Option.getD_some, e48, e50]; rfl)) ?_
           with_reducible refine (casemap_Upper.calls _ _ q0 _ _ q1 _ _ q2 _ _ q3 _ _ q4 _ _ q5 _ _ y526 t529 _ ?z1 ?z2 ?z3 ?z4 ?z5 ?z6 ?z7 ?z8 ?z9 ?z10 ?z11 ?z12 ?z13 ?z14 A19.1).mono ?_
           (case z1 => repeat (first | exact cB1 R0.1 HB.1 | with_reducible first | refine cA1 ?_ _ | refine cN1 ?_ _ | refine cD1 ?_))
           (case z2 => exact N0.1)
           (case z3 => repeat (first | exact cB1 R1.1 HB.1 | with_reducible first | refine cA1 ?_ _ | refine cN1 ?_ _ | refine cD1 ?_))
           (case z4 => exact N1.1)
           (case z5 => repeat (first | exact cB1 R2.1 HB.1 | with_reducible first | refine cA1 ?_ _ | refine cN1 ?_ _ | refine cD1 ?_))
           (case z6 => exact N2.1)
           (case z7 => repeat (first | exact cB1 R3.1 HB.1 | with_reducible first | refine cA1 ?_ _ | refine cN1 ?_ _ | refine cD1 ?_))
           (case z8 => exact N3.1)
           (case z9 => repeat (first | exact cB1 R4.1 HB.1 | with_reducible first | refine cA1 ?_ _ | refine cN1 ?_ _ | refine cD1 ?_))
           (case z10 => exact N4.1)
           (case z11 => repeat (first | exact cB1 R5.1 HB.1 | with_reducible first | refine cA1 ?_ _ | refine cN1 ?_ _ | refine cD1 ?_))
           (case z12 => exact N5.1)
           (case z13 => repeat (first | exact (Kd.R_reads' HO528.1).2.2 | (with_reducible refine Kd.C_alloc ?_ _) | (with_reducible refine Kd.C_drewN ?_ _) | (with_reducible refine Kd.C_drew ?_)))
           (case z14 => exact (Kd.R_reads' HO528.1).2.1)
           rintro e w62 ⟨v530, rfl, ho0, hb⟩
           refine ⟨_, rfl, ?_⟩
           have n0_ := aM (Kd.R_elder' (by (with_reducible repeat first | apply rA1 | apply rN1 | apply rD1); exact HO522.1) (Kd.R_base ho0) hb)
           have n1_ := aM (Kd.R_elder' (by (with_reducible repeat first | apply rA1 | apply rN1 | apply rD1); exact HO525.1) (Kd.R_base ho0) hb)
           have n2_ := aM (Kd.R_elder' (by (with_reducible repeat first | apply rA1 | apply rN1 | apply rD1); exact HO528.1) (Kd.R_base ho0) hb)
           have n3_ := aM (Kd.R_lower (Kd.R_new' (Kd.R_new' (Kd.R_new' ho0 (Kd.R_lt (by (with_reducible repeat first | apply rA1 | apply rN1 | apply rD1); exact HO522.1))) (Kd.R_lt (by (with_reducible repeat first | apply rA1 | apply rN1 | apply rD1); exact HO525.1))) (Kd.R_lt (by (with_reducible repeat first | apply rA1 | apply rN1 | apply rD1); exact HO528.1))) (bSz (by repeat (first | (with_reducible first | exact HB.1 | apply bAl | apply pbN | apply bD1 | refine bSt ?_ GE511.1) | exact HB.1))))
           have n4_ := aM (blk_below (g := gb511) (o := .cells #[.slice P0 q0.length n0, .slice P1 q1.length n1, .slice P2 q2.length n2, .slice P3 q3.length n3, .slice P4 q4.length n4, .slice P5 q5.length n5] 27 (0, 0)) (by (with_reducible repeat (first | refine bkN ?_ _ | refine bkD ?_ | refine bkA ?_ _)); exact BK511.1) hb)
           have n5_ := aM (bSp (by repeat (first | (with_reducible first | exact HB.1 | apply bAl | apply pbN | apply bD1 | refine bSt ?_ GE511.1) | exact HB.1)) hb)
           clear HO522
           clear HO525
           clear HO528
           clear BK511
           clear HB
           have HO522 := n0_
           have HO525 := n1_
           have HO528 := n2_
           have HO531 := n3_
           have BK511 := n4_
           have HB := n5_
           clear n0_ n1_ n2_ n3_ n4_ n5_
           (try clear hb)
           (try clear hb2)
           (try clear hk)
           (try clear hi)
           (try clear ho0)
           refine hK.out _ _ ⟨v521, v524, .slice Ao61 y526.length co61, v530, m8_, m9_, (by rw [ha.out]; exact putSel_upk 5 hb_ rfl rfl rfl), (by (with_reducible repeat (first | refine bkN ?_ _ | refine bkD ?_ | refine bkA ?_ _)); exact BK511.1), (by repeat (first | (with_reducible first | exact HB.1 | apply bAl | apply pbN | apply bD1 | refine bSt ?_ GE511.1) | exact HB.1)), fun _ => (by (with_reducible repeat first | apply rA1 | apply rN1 | apply rD1); exact Kd.R_mono HO522.1 (fun _ hk => by first | trivial | exact ⟨hk.1.1, ⟨hk.1.2, hk.2⟩⟩)), fun _ => (by (with_reducible repeat first | apply rA1 | apply rN1 | apply rD1); exact Kd.R_mono HO525.1 (fun _ hk => by first | trivial | exact ⟨hk.1.1, ⟨hk.1.2, hk.2⟩⟩)), fun _ => (by (with_reducible repeat first | apply rA1 | apply rN1 | apply rD1); exact Kd.R_mono HO528.1 (fun _ hk => by first | trivial | exact ⟨hk.1.1, ⟨hk.1.2, hk.2⟩⟩)), fun _ => (by (with_reducible repeat first | apply rA1 | apply rN1 | apply rD1); exact Kd.R_mono HO531.1 (fun _ hk => by first | trivial | exact ⟨hk.1.1.2, ⟨hk.1.2, hk.2⟩⟩)), fun h0_ => absurd ((hoff 8 (by kernel_rfl)).symm.trans h0_) (by decide), fun h0_ => absurd ((hoff 9 (by kernel_rfl)).symm.trans h0_) (by decide)⟩
          refine steps_cons ?_ ?_
          ·rintro b a w' ⟨v521, v524, v527, v530, m8_, m9_, ha, Q_BK511, Q_HB, Q_HO522, Q_HO525, Q_HO528, Q_HO531, Q_X8_, Q_X9_⟩ hb_ hon hoff
           refine ⟨_, rfl, fun K hK => ?_⟩
           have e47 : a.tmps[47]? = some (v524) := by rw [ha]; exact putSel_on (e := (3, 47, v524)) 2 rfl rfl (hon 3 (by kernel_rfl)) rfl
           replace ha := aM ha
           have BK511 := aM Q_BK511
           have HB := aM Q_HB
           have HO522 := aM (Q_HO522 (hon 2 (by kernel_rfl)))
           have HO525 := aM (Q_HO525 (hon 3 (by kernel_rfl)))
           have HO528 := aM (Q_HO528 (hon 6 (by kernel_rfl)))
           have HO531 := aM (Q_HO531 (hon 7 (by kernel_rfl)))
           refine value_ (w1 := w') (v := v524) (by rfl) rfl ?_ ?_
           ·go_simp
            (try simp only [i64_w])
            try rfl
           refine hK.out _ _ ⟨v521, v524, v527, v530, (v524), m9_, (by rw [ha.out]; exact putSel_upk 6 hb_ rfl rfl rfl), Q_BK511, Q_HB, Q_HO522, Q_HO525, Q_HO528, Q_HO531, fun _ => rfl, fun h0_ => absurd ((hoff 9 (by kernel_rfl)).symm.trans h0_) (by decide)⟩
          refine steps_cons ?_ ?_
          ·rintro b a w' ⟨v521, v524, v527, v530, m8_, m9_, ha, Q_BK511, Q_HB, Q_HO522, Q_HO525, Q_HO528, Q_HO531, Q_X8_, Q_X9_⟩ hb_ hon hoff
           refine ⟨_, rfl, fun K hK => ?_⟩
           have e51 : a.tmps[51]? = some (v530) := by rw [ha]; exact putSel_on (e := (7, 51, v530)) 5 rfl rfl (hon 7 (by kernel_rfl)) rfl
           replace ha := aM ha
           have BK511 := aM Q_BK511
           have HB := aM Q_HB
           have HO522 := aM (Q_HO522 (hon 2 (by kernel_rfl)))
           have HO525 := aM (Q_HO525 (hon 3 (by kernel_rfl)))
           have HO528 := aM (Q_HO528 (hon 6 (by kernel_rfl)))
           have HO531 := aM (Q_HO531 (hon 7 (by kernel_rfl)))
           refine value_ (w1 := w') (v := v530) (by rfl) rfl ?_ ?_
           ·go_simp
            (try simp only [i64_w])
            try rfl
           refine hK.out _ _ ⟨v521, v524, v527, v530, m8_, (v530), (by rw [ha.out]; exact putSel_upk 7 hb_ rfl rfl rfl), Q_BK511, Q_HB, Q_HO522, Q_HO525, Q_HO528, Q_HO531, Q_X8_, fun _ => rfl⟩
          exact steps_nil
         rintro b a w62 hall ⟨v521, v524, v527, v530, m8_, m9_, ha, Q_BK511, Q_HB, Q_HO522, Q_HO525, Q_HO528, Q_HO531, Q_X8_, Q_X9_⟩
         clear BK511 HB
         have hb0_ := hall 0 (by kernel_rfl)
         have hb2_ := hall 2 (by kernel_rfl)
         have hb3_ := hall 3 (by kernel_rfl)
         have hb4_ := hall 4 (by kernel_rfl)
         have hb6_ := hall 6 (by kernel_rfl)
         have hb7_ := hall 7 (by kernel_rfl)
         have hb8_ := hall 8 (by kernel_rfl)
         have hb9_ := hall 9 (by kernel_rfl)
         subst ha
         obtain rfl := Q_X8_ hb8_
         obtain rfl := Q_X9_ hb9_
         simp only [putSel, hb0_, hb2_, hb3_, hb4_, hb6_, hb7_, hb8_, hb9_, if_true, Act.put, sI, sZ, sS]
         have BK511 := aM Q_BK511
         clear Q_BK511
         have HB := aM Q_HB
         clear Q_HB
         have HO522 := aM (Q_HO522 hb2_)
         clear Q_HO522
         have HO525 := aM (Q_HO525 hb3_)
         clear Q_HO525
         have HO528 := aM (Q_HO528 hb6_)
         clear Q_HO528
         have HO531 := aM (Q_HO531 hb7_)
         clear Q_HO531
         clear hall hb0_ hb2_ hb3_ hb4_ hb6_ hb7_ hb8_ hb9_
         obtain ⟨Ao63, co63, eo63⟩ := Kd.R_slice HO525.1
         subst eo63
         have p532 : 0 ≤ (0 : Int) := (by omega)
         have q532 : 0 < (t523.length : Int) := oD (by first | (with_reducible assumption) | assumption)
         obtain ⟨ad532, e532, hx532_0⟩ := Kd.at_int (Kd.R_reads' HO525.1).2.2 0 p532 q532
         cases e532
         have qi532 : (0 < t523.length) = True := eq_true (by omega)
         (try rw [show ((0 : Int)).toNat = 0 from rfl] at hx532_0)
         (try rw [Addr.add_zero'] at hx532_0)
         replace p532 := eq_true p532
         replace q532 := eq_true q532
         obtain ⟨Ao64, co64, eo64⟩ := Kd.R_slice HO531.1
         subst eo64
         try go_wp2_with (first | (go_at_call 14; (with_reducible refine (w37_alive.calls  t535 _ A52.1).mono ?_); rintro e w65 ⟨rfl, hb⟩; have n0_ := aM (Kd.R_below (by (with_reducible repeat first | apply rA1 | apply rN1 | apply rD1); exact HO522.1) hb); have n1_ := aM (Kd.R_below (by (with_reducible repeat first | apply rA1 | apply rN1 | apply rD1); exact HO525.1) hb); have n2_ := aM (Kd.R_below (by (with_reducible repeat first | apply rA1 | apply rN1 | apply rD1); exact HO528.1) hb); have n3_ := aM (Kd.R_below (by (with_reducible repeat first | apply rA1 | apply rN1 | apply rD1); exact HO531.1) hb); have n4_ := aM (blk_below (g := gb511) (o := .cells #[.slice P0 q0.length n0, .slice P1 q1.length n1, .slice P2 q2.length n2, .slice P3 q3.length n3, .slice P4 q4.length n4, .slice P5 q5.length n5] 27 (0, 0)) (by (with_reducible repeat (first | refine bkN ?_ _ | refine bkD ?_ | refine bkA ?_ _)); exact BK511.1) hb); have n5_ := aM (bSp (by repeat (first | (with_reducible first | exact HB.1 | apply bAl | apply pbN | apply bD1 | refine bSt ?_ GE511.1) | exact HB.1)) hb); clear HO522; clear HO525; clear HO528; clear HO531; clear BK511; clear HB; have HO522 := n0_; have HO525 := n1_; have HO528 := n2_; have HO531 := n3_; have BK511 := n4_; have HB := n5_; clear n0_ n1_ n2_ n3_ n4_ n5_; (try clear hb); (try clear hb2); (try clear hk); (try clear hi)))
         go_ret
         exact ⟨by first | rfl | (simp [eN, eS] <;> rfl) | (simp [*, eN, eS] <;> rfl), by repeat (first | (with_reducible first | exact HB.1 | apply bAl | apply pbN | apply bD1 | refine bSt ?_ GE511.1) | exact HB.1)⟩
       ·rw [if_neg c22] at H
        have c22b0 : ((rd t523 0) == t514) = false := beq_eq_false_iff_ne.mpr c22
        have c22b1 : ((rd t523 0) != t514) = true := bne_iff_ne.mpr c22
        obtain rfl := Option.some.inj H
        try go_wp2
        have n0_ := aM (bkD BK511.1)
        have n1_ := aM (bD1 HB.1)
        clear BK511
        clear HB
        have BK511 := n0_
        have HB := n1_
        clear n0_ n1_
        refine start_ (n := 10) (S := fun w' => True) (ds := []) #[false, false, false, false, false, false, false, false, false, false] (by kernel_rfl) rfl rfl trivial (fun hHeld => ?_); refine with_tabW w37_CasemapSimples.tab7 w37_CasemapSimples.bits7 (fun HT_ HW_ => ?_)
        generalize wc.drew = w66 at BK511 HB hHeld ⊢
        refine pure_ (i := 1) (N := some 45) (v := ?_) (a' := ?_) #[false, true, false, false, false, false, false, false, false, false] rfl rfl (any_of HT_.1 (by kernel_rfl)) (fun _ _ _ h => h) (Or.inl ⟨by rfl, ?_⟩) ?_ ?_
        rotate_left
        ·intro w'
         go_simp
         with_reducible rfl
        rotate_left
        ·simp only [Act.put, sI, sZ, sS, i64_w, i32_w]
         rfl
        refine pure_ (i := 5) (N := some 49) (v := ?_) (a' := ?_) #[false, true, false, false, false, true, false, false, false, false] rfl rfl (any_of HT_.1 (by kernel_rfl)) (fun _ _ _ h => h) (Or.inl ⟨by rfl, ?_⟩) ?_ ?_
        rotate_left
        ·intro w'
         go_simp
         with_reducible rfl
        rotate_left
        ·simp only [Act.put, sI, sZ, sS, i64_w, i32_w]
         rfl
        refine inv_at [0, 2, 3, 4, 6, 7, 8, 9] (fun a0_ b a w' => ∃ (v521 : Value) (v524 : Value) (v527 : Value) (v530 : Value) (m8_ : Value) (m9_ : Value), a = putSel a0_ b [(0, 44, .agg #[.slice P0 q0.length n0, .slice P1 q1.length n1, .slice P2 q2.length n2, .slice P3 q3.length n3, .slice P4 q4.length n4, .slice P5 q5.length n5]), (2, 46, v521), (3, 47, v524), (4, 48, .agg #[.slice P0 q0.length n0, .slice P1 q1.length n1, .slice P2 q2.length n2, .slice P3 q3.length n3, .slice P4 q4.length n4, .slice P5 q5.length n5]), (6, 50, v527), (7, 51, v530), (8, 11, m8_), (9, 12, m9_)] ∧ (w'.heap[gb511]? = some (.cells #[.slice P0 q0.length n0, .slice P1 q1.length n1, .slice P2 q2.length n2, .slice P3 q3.length n3, .slice P4 q4.length n4, .slice P5 q5.length n5] 27 (0, 0))) ∧ (Below w.heap.size w w') ∧ (b 2 = true → Kd.R (Kd.int .i64) 3 w' w.heap.size (fun _ => True) v521 y520) ∧ (b 3 = true → Kd.R (Kd.int .i64) 3 w' w.heap.size (fun _ => True) v524 t523) ∧ (b 6 = true → Kd.R (Kd.int .i64) 3 w' w.heap.size (fun _ => True) v527 y526) ∧ (b 7 = true → Kd.R (Kd.int .i64) 3 w' w.heap.size (fun _ => True) v530 t529) ∧ (b 8 = true → (m8_ : Value) = v524) ∧ (b 9 = true → (m9_ : Value) = v530)) HT_.1 HW_.1 (by kernel_rfl) (by kernel_rfl) ?_ ?_ ?_
        ·exact ⟨.bool false, .bool false, .bool false, .bool false, .bool false, .bool false, by simp only [putSel, Bool.false_eq_true, if_false], BK511.1, HB.1, fun h_ => absurd h_ (by decide), fun h_ => absurd h_ (by decide), fun h_ => absurd h_ (by decide), fun h_ => absurd h_ (by decide), fun h_ => absurd h_ (by decide), fun h_ => absurd h_ (by decide)⟩
        ·skip
         clear BK511 HB
         refine steps_cons ?_ ?_
         ·rintro b a w' ⟨v521, v524, v527, v530, m8_, m9_, ha, Q_BK511, Q_HB, Q_HO522, Q_HO525, Q_HO528, Q_HO531, Q_X8_, Q_X9_⟩ hb_ hon hoff
          refine ⟨_, rfl, fun K hK => ?_⟩
          have e2 : a.tmps[2]? = some (.pointer (some ⟨gb511, 0, none⟩)) := by rw [ha]; exact (putSel_off rfl).trans rfl
          replace ha := aM ha
          have BK511 := aM Q_BK511
          have HB := aM Q_HB
          have hc0_ : w'.cell? ⟨gb511, 0, none⟩ = some (.slice P0 q0.length n0) := (bkC BK511.1 0).trans rfl
          have hc1_ : w'.cell? ⟨gb511, 1, none⟩ = some (.slice P1 q1.length n1) := (bkC BK511.1 1).trans rfl
          have hc2_ : w'.cell? ⟨gb511, 2, none⟩ = some (.slice P2 q2.length n2) := (bkC BK511.1 2).trans rfl
          have hc3_ : w'.cell? ⟨gb511, 3, none⟩ = some (.slice P3 q3.length n3) := (bkC BK511.1 3).trans rfl
          have hc4_ : w'.cell? ⟨gb511, 4, none⟩ = some (.slice P4 q4.length n4) := (bkC BK511.1 4).trans rfl
          have hc5_ : w'.cell? ⟨gb511, 5, none⟩ = some (.slice P5 q5.length n5) := (bkC BK511.1 5).trans rfl
          refine value_ (w1 := w') (v := .agg #[.slice P0 q0.length n0, .slice P1 q1.length n1, .slice P2 q2.length n2, .slice P3 q3.length n3, .slice P4 q4.length n4, .slice P5 q5.length n5]) (by rfl) rfl ?_ ?_
          ·go_simp
           (try simp only [i64_w])
           try rfl
          refine hK.out _ _ ⟨v521, v524, v527, v530, m8_, m9_, (by rw [ha.out]; exact putSel_upk 0 hb_ rfl rfl rfl), Q_BK511, Q_HB, Q_HO522, fun h0_ => absurd ((hoff 3 (by kernel_rfl)).symm.trans h0_) (by decide), Q_HO528, fun h0_ => absurd ((hoff 7 (by kernel_rfl)).symm.trans h0_) (by decide), fun h0_ => absurd ((hoff 8 (by kernel_rfl)).symm.trans h0_) (by decide), fun h0_ => absurd ((hoff 9 (by kernel_rfl)).symm.trans h0_) (by decide)⟩
         refine steps_cons ?_ ?_
         ·rintro b a w' ⟨v521, v524, v527, v530, m8_, m9_, ha, Q_BK511, Q_HB, Q_HO522, Q_HO525, Q_HO528, Q_HO531, Q_X8_, Q_X9_⟩ hb_ hon hoff
          refine ⟨_, rfl, fun K hK => ?_⟩
          have e45 : a.tmps[45]? = some (.int .i64 a1) := by rw [ha]; exact (putSel_off rfl).trans rfl
          replace ha := aM ha
          have BK511 := aM Q_BK511
          have HB := aM Q_HB
          refine Kd.R_lit_step (Kd.int .i64) _ 3 ?hg (N := 46) ?hd (xs := ([a1] : List Int)) (inner := [.int .i64 a1]) (ok := fun _ => True) (okp := fun _ => True) ?hr ?hp (fun _ hk => hk) trivial (Below.refl _ _) (Nat.le_refl _) (by simp) ?_; (case hd => rfl); (case hg => rfl); (case hr => first | (go_simp; done) | (go_simp; rfl)); (case hp => exact (Reps.one (show Kd.M (Kd.int .i64) _ _ _ a1 [.int .i64 a1] from rfl) (Reps.none _ _)))
          intro v521 w67 ho68 hb hg_ hnew_
          clear hg_ hnew_
          (first | rw [← Ny520.1] at ho68 | (simp only [Int.reduceToNat] at ho68; rw [← Ny520.1] at ho68))
          have n0_ := aM (Kd.R_lower ho68 (bSz (by repeat (first | (with_reducible first | exact HB.1 | apply bAl | apply pbN | apply bD1 | refine bSt ?_ GE511.1) | exact HB.1))))
          have n1_ := aM (blk_below (g := gb511) (o := .cells #[.slice P0 q0.length n0, .slice P1 q1.length n1, .slice P2 q2.length n2, .slice P3 q3.length n3, .slice P4 q4.length n4, .slice P5 q5.length n5] 27 (0, 0)) (by (with_reducible repeat (first | refine bkN ?_ _ | refine bkD ?_ | refine bkA ?_ _)); exact BK511.1) hb)
          have n2_ := aM (bSp (by repeat (first | (with_reducible first | exact HB.1 | apply bAl | apply pbN | apply bD1 | refine bSt ?_ GE511.1) | exact HB.1)) hb)
          have z_HO528 := fun (h0_ : b 6 = true) => (show Kd.R (Kd.int .i64) 3 w67 w.heap.size (fun _ => True) v527 y526 from by first | exact (Kd.R_elder' (by (with_reducible repeat first | apply rA1 | apply rN1 | apply rD1); exact (Q_HO528 h0_)) (Kd.R_base ho68) hb) | exact Kd.R_mono (Kd.R_elder' (by (with_reducible repeat first | apply rA1 | apply rN1 | apply rD1); exact (Q_HO528 h0_)) (Kd.R_base ho68) hb) (fun _ h_ => by first | trivial | exact h_ | exact h_.1))
          clear BK511
          clear HB
          have HO522 := n0_
          have BK511 := n1_
          have HB := n2_
          clear n0_ n1_ n2_
          clear hb ho68
          refine hK.out _ _ ⟨v521, v524, v527, v530, m8_, m9_, (by rw [ha.out]; exact putSel_upk 1 hb_ rfl rfl rfl), (by (with_reducible repeat (first | refine bkN ?_ _ | refine bkD ?_ | refine bkA ?_ _)); exact BK511.1), (by repeat (first | (with_reducible first | exact HB.1 | apply bAl | apply pbN | apply bD1 | refine bSt ?_ GE511.1) | exact HB.1)), fun _ => (by (with_reducible repeat first | apply rA1 | apply rN1 | apply rD1); exact HO522.1), fun h0_ => absurd ((hoff 3 (by kernel_rfl)).symm.trans h0_) (by decide), z_HO528, fun h0_ => absurd ((hoff 7 (by kernel_rfl)).symm.trans h0_) (by decide), fun h0_ => absurd ((hoff 8 (by kernel_rfl)).symm.trans h0_) (by decide), fun h0_ => absurd ((hoff 9 (by kernel_rfl)).symm.trans h0_) (by decide)⟩
         refine steps_cons ?_ ?_
         ·rintro b a w' ⟨v521, v524, v527, v530, m8_, m9_, ha, Q_BK511, Q_HB, Q_HO522, Q_HO525, Q_HO528, Q_HO531, Q_X8_, Q_X9_⟩ hb_ hon hoff
          refine ⟨_, rfl, fun K hK => ?_⟩
          have e44 : a.tmps[44]? = some (.agg #[.slice P0 q0.length n0, .slice P1 q1.length n1, .slice P2 q2.length n2, .slice P3 q3.length n3, .slice P4 q4.length n4, .slice P5 q5.length n5]) := by rw [ha]; exact putSel_on (e := (0, 44, .agg #[.slice P0 q0.length n0, .slice P1 q1.length n1, .slice P2 q2.length n2, .slice P3 q3.length n3, .slice P4 q4.length n4, .slice P5 q5.length n5])) 0 rfl rfl (hon 0 (by kernel_rfl)) rfl
          have e46 : a.tmps[46]? = some (v521) := by rw [ha]; exact putSel_on (e := (2, 46, v521)) 1 rfl rfl (hon 2 (by kernel_rfl)) rfl
          replace ha := aM ha
          have BK511 := aM Q_BK511
          have HB := aM Q_HB
          have HO522 := aM (Q_HO522 (hon 2 (by kernel_rfl)))
          obtain ⟨Ao70, co70, eo70⟩ := Kd.R_slice HO522.1
          (first | subst eo70 | (injection eo70 with f1_ f2_ f3_; have f4_ := f1_.symm; have f5_ := f3_.symm; clear f1_ f2_ f3_; subst f4_; subst f5_))
          refine goes_ Try.func18 (by kernel_rfl) rfl #[.agg #[.slice P0 q0.length n0, .slice P1 q1.length n1, .slice P2 q2.length n2, .slice P3 q3.length n3, .slice P4 q4.length n4, .slice P5 q5.length n5], .slice Ao70 y520.length co70] (by rfl) rfl rfl (by first | (simp only [List.map_toArray, List.map_cons, List.map_nil, Act.eval, Array.getD_eq_getD_getElem?, Option.getD_some, e44, e46]; done) | (simp only [List.map_toArray, List.map_cons, List.map_nil, Act.eval, Array.getD_eq_getD_getElem?, Option.getD_some, e44, e46]; rfl)) ?_
          with_reducible refine (casemap_Lower.calls _ _ q0 _ _ q1 _ _ q2 _ _ q3 _ _ q4 _ _ q5 _ _ y520 t523 _ ?z1 ?z2 ?z3 ?z4 ?z5 ?z6 ?z7 ?z8 ?z9 ?z10 ?z11 ?z12 ?z13 ?z14 A18.1).mono ?_
          (case z1 => repeat (first | exact cB1 R0.1 HB.1 | with_reducible first | refine cA1 ?_ _ | refine cN1 ?_ _ | refine cD1 ?_))
          (case z2 => exact N0.1)
          (case z3 => repeat (first | exact cB1 R1.1 HB.1 | with_reducible first | refine cA1 ?_ _ | refine cN1 ?_ _ | refine cD1 ?_))
          (case z4 => exact N1.1)
          (case z5 => repeat (first | exact cB1 R2.1 HB.1 | with_reducible first | refine cA1 ?_ _ | refine cN1 ?_ _ | refine cD1 ?_))
          (case z6 => exact N2.1)
          (case z7 => repeat (first | exact cB1 R3.1 HB.1 | with_reducible first | refine cA1 ?_ _ | refine cN1 ?_ _ | refine cD1 ?_))
          (case z8 => exact N3.1)
          (case z9 => repeat (first | exact cB1 R4.1 HB.1 | with_reducible first | refine cA1 ?_ _ | refine cN1 ?_ _ | refine cD1 ?_))
          (case z10 => exact N4.1)
          (case z11 => repeat (first | exact cB1 R5.1 HB.1 | with_reducible first | refine cA1 ?_ _ | refine cN1 ?_ _ | refine cD1 ?_))
          (case z12 => exact N5.1)
          (case z13 => repeat (first | exact (Kd.R_reads' HO522.1).2.2 | (with_reducible refine Kd.C_alloc ?_ _) | (with_reducible refine Kd.C_drewN ?_ _) | (with_reducible refine Kd.C_drew ?_)))
          (case z14 => exact (Kd.R_reads' HO522.1).2.1)
          rintro e w71 ⟨v524, rfl, ho0, hb⟩
          refine ⟨_, rfl, ?_⟩
          have n0_ := aM (Kd.R_elder' (by (with_reducible repeat first | apply rA1 | apply rN1 | apply rD1); exact HO522.1) (Kd.R_base ho0) hb)
          have n1_ := aM (Kd.R_lower (Kd.R_new' ho0 (Kd.R_lt (by (with_reducible repeat first | apply rA1 | apply rN1 | apply rD1); exact HO522.1))) (bSz (by repeat (first | (with_reducible first | exact HB.1 | apply bAl | apply pbN | apply bD1 | refine bSt ?_ GE511.1) | exact HB.1))))
          have n2_ := aM (blk_below (g := gb511) (o := .cells #[.slice P0 q0.length n0, .slice P1 q1.length n1, .slice P2 q2.length n2, .slice P3 q3.length n3, .slice P4 q4.length n4, .slice P5 q5.length n5] 27 (0, 0)) (by (with_reducible repeat (first | refine bkN ?_ _ | refine bkD ?_ | refine bkA ?_ _)); exact BK511.1) hb)
          have n3_ := aM (bSp (by repeat (first | (with_reducible first | exact HB.1 | apply bAl | apply pbN | apply bD1 | refine bSt ?_ GE511.1) | exact HB.1)) hb)
          have z_HO528 := fun (h0_ : b 6 = true) => (show Kd.R (Kd.int .i64) 3 w71 w.heap.size (fun _ => True) v527 y526 from by first | exact (Kd.R_elder' (by (with_reducible repeat first | apply rA1 | apply rN1 | apply rD1); exact (Q_HO528 h0_)) (Kd.R_base ho0) hb) | exact Kd.R_mono (Kd.R_elder' (by (with_reducible repeat first | apply rA1 | apply rN1 | apply rD1); exact (Q_HO528 h0_)) (Kd.R_base ho0) hb) (fun _ h_ => by first | trivial | exact h_ | exact h_.1))
          clear HO522
          clear BK511
          clear HB
          have HO522 := n0_
          have HO525 := n1_
          have BK511 := n2_
          have HB := n3_
          clear n0_ n1_ n2_ n3_
          (try clear hb)
          (try clear hb2)
          (try clear hk)
          (try clear hi)
          (try clear ho0)
          refine hK.out _ _ ⟨.slice Ao70 y520.length co70, v524, v527, v530, m8_, m9_, (by rw [ha.out]; exact putSel_upk 2 hb_ rfl rfl rfl), (by (with_reducible repeat (first | refine bkN ?_ _ | refine bkD ?_ | refine bkA ?_ _)); exact BK511.1), (by repeat (first | (with_reducible first | exact HB.1 | apply bAl | apply pbN | apply bD1 | refine bSt ?_ GE511.1) | exact HB.1)), fun _ => (by (with_reducible repeat first | apply rA1 | apply rN1 | apply rD1); exact Kd.R_mono HO522.1 (fun _ hk => by first | trivial | exact hk.2)), fun _ => (by (with_reducible repeat first | apply rA1 | apply rN1 | apply rD1); exact Kd.R_mono HO525.1 (fun _ hk => by first | trivial | exact hk.2)), z_HO528, fun h0_ => absurd ((hoff 7 (by kernel_rfl)).symm.trans h0_) (by decide), fun h0_ => absurd ((hoff 8 (by kernel_rfl)).symm.trans h0_) (by decide), fun h0_ => absurd ((hoff 9 (by kernel_rfl)).symm.trans h0_) (by decide)⟩
         refine steps_cons ?_ ?_
         ·rintro b a w' ⟨v521, v524, v527, v530, m8_, m9_, ha, Q_BK511, Q_HB, Q_HO522, Q_HO525, Q_HO528, Q_HO531, Q_X8_, Q_X9_⟩ hb_ hon hoff
          refine ⟨_, rfl, fun K hK => ?_⟩
          have e2 : a.tmps[2]? = some (.pointer (some ⟨gb511, 0, none⟩)) := by rw [ha]; exact (putSel_off rfl).trans rfl
          replace ha := aM ha
          have BK511 := aM Q_BK511
          have HB := aM Q_HB
          have hc0_ : w'.cell? ⟨gb511, 0, none⟩ = some (.slice P0 q0.length n0) := (bkC BK511.1 0).trans rfl
          have hc1_ : w'.cell? ⟨gb511, 1, none⟩ = some (.slice P1 q1.length n1) := (bkC BK511.1 1).trans rfl
          have hc2_ : w'.cell? ⟨gb511, 2, none⟩ = some (.slice P2 q2.length n2) := (bkC BK511.1 2).trans rfl
          have hc3_ : w'.cell? ⟨gb511, 3, none⟩ = some (.slice P3 q3.length n3) := (bkC BK511.1 3).trans rfl
          have hc4_ : w'.cell? ⟨gb511, 4, none⟩ = some (.slice P4 q4.length n4) := (bkC BK511.1 4).trans rfl
          have hc5_ : w'.cell? ⟨gb511, 5, none⟩ = some (.slice P5 q5.length n5) := (bkC BK511.1 5).trans rfl
          refine value_ (w1 := w') (v := .agg #[.slice P0 q0.length n0, .slice P1 q1.length n1, .slice P2 q2.length n2, .slice P3 q3.length n3, .slice P4 q4.length n4, .slice P5 q5.length n5]) (by rfl) rfl ?_ ?_
          ·go_simp
           (try simp only [i64_w])
           try rfl
          refine hK.out _ _ ⟨v521, v524, v527, v530, m8_, m9_, (by rw [ha.out]; exact putSel_upk 3 hb_ rfl rfl rfl), Q_BK511, Q_HB, Q_HO522, Q_HO525, Q_HO528, fun h0_ => absurd ((hoff 7 (by kernel_rfl)).symm.trans h0_) (by decide), fun h0_ => absurd ((hoff 8 (by kernel_rfl)).symm.trans h0_) (by decide), fun h0_ => absurd ((hoff 9 (by kernel_rfl)).symm.trans h0_) (by decide)⟩
         refine steps_cons ?_ ?_
         ·rintro b a w' ⟨v521, v524, v527, v530, m8_, m9_, ha, Q_BK511, Q_HB, Q_HO522, Q_HO525, Q_HO528, Q_HO531, Q_X8_, Q_X9_⟩ hb_ hon hoff
          refine ⟨_, rfl, fun K hK => ?_⟩
          have e49 : a.tmps[49]? = some (.int .i64 a1) := by rw [ha]; exact (putSel_off rfl).trans rfl
          replace ha := aM ha
          have BK511 := aM Q_BK511
          have HB := aM Q_HB
          refine Kd.R_lit_step (Kd.int .i64) _ 3 ?hg (N := 50) ?hd (xs := ([a1] : List Int)) (inner := [.int .i64 a1]) (ok := fun _ => True) (okp := fun _ => True) ?hr ?hp (fun _ hk => hk) trivial (Below.refl _ _) (Nat.le_refl _) (by simp) ?_; (case hd => rfl); (case hg => rfl); (case hr => first | (go_simp; done) | (go_simp; rfl)); (case hp => exact (Reps.one (show Kd.M (Kd.int .i64) _ _ _ a1 [.int .i64 a1] from rfl) (Reps.none _ _)))
          intro v527 w67 ho68 hb hg_ hnew_
          clear hg_ hnew_
          (first | rw [← Ny526.1] at ho68 | (simp only [Int.reduceToNat] at ho68; rw [← Ny526.1] at ho68))
          have n0_ := aM (Kd.R_lower ho68 (bSz (by repeat (first | (with_reducible first | exact HB.1 | apply bAl | apply pbN | apply bD1 | refine bSt ?_ GE511.1) | exact HB.1))))
          have n1_ := aM (blk_below (g := gb511) (o := .cells #[.slice P0 q0.length n0, .slice P1 q1.length n1, .slice P2 q2.length n2, .slice P3 q3.length n3, .slice P4 q4.length n4, .slice P5 q5.length n5] 27 (0, 0)) (by (with_reducible repeat (first | refine bkN ?_ _ | refine bkD ?_ | refine bkA ?_ _)); exact BK511.1) hb)
          have n2_ := aM (bSp (by repeat (first | (with_reducible first | exact HB.1 | apply bAl | apply pbN | apply bD1 | refine bSt ?_ GE511.1) | exact HB.1)) hb)
          have z_HO522 := fun (h0_ : b 2 = true) => (show Kd.R (Kd.int .i64) 3 w67 w.heap.size (fun _ => True) v521 y520 from by first | exact (Kd.R_elder' (by (with_reducible repeat first | apply rA1 | apply rN1 | apply rD1); exact (Q_HO522 h0_)) (Kd.R_base ho68) hb) | exact Kd.R_mono (Kd.R_elder' (by (with_reducible repeat first | apply rA1 | apply rN1 | apply rD1); exact (Q_HO522 h0_)) (Kd.R_base ho68) hb) (fun _ h_ => by first | trivial | exact h_ | exact h_.1))
          have z_HO525 := fun (h0_ : b 3 = true) => (show Kd.R (Kd.int .i64) 3 w67 w.heap.size (fun _ => True) v524 t523 from by first | exact (Kd.R_elder' (by (with_reducible repeat first | apply rA1 | apply rN1 | apply rD1); exact (Q_HO525 h0_)) (Kd.R_base ho68) hb) | exact Kd.R_mono (Kd.R_elder' (by (with_reducible repeat first | apply rA1 | apply rN1 | apply rD1); exact (Q_HO525 h0_)) (Kd.R_base ho68) hb) (fun _ h_ => by first | trivial | exact h_ | exact h_.1))
          clear BK511
          clear HB
          have HO528 := n0_
          have BK511 := n1_
          have HB := n2_
          clear n0_ n1_ n2_
          clear hb ho68
          refine hK.out _ _ ⟨v521, v524, v527, v530, m8_, m9_, (by rw [ha.out]; exact putSel_upk 4 hb_ rfl rfl rfl), (by (with_reducible repeat (first | refine bkN ?_ _ | refine bkD ?_ | refine bkA ?_ _)); exact BK511.1), (by repeat (first | (with_reducible first | exact HB.1 | apply bAl | apply pbN | apply bD1 | refine bSt ?_ GE511.1) | exact HB.1)), z_HO522, z_HO525, fun _ => (by (with_reducible repeat first | apply rA1 | apply rN1 | apply rD1); exact HO528.1), fun h0_ => absurd ((hoff 7 (by kernel_rfl)).symm.trans h0_) (by decide), fun h0_ => absurd ((hoff 8 (by kernel_rfl)).symm.trans h0_) (by decide), fun h0_ => absurd ((hoff 9 (by kernel_rfl)).symm.trans h0_) (by decide)⟩
         refine steps_cons ?_ ?_
         ·rintro b a w' ⟨v521, v524, v527, v530, m8_, m9_, ha, Q_BK511, Q_HB, Q_HO522, Q_HO525, Q_HO528, Q_HO531, Q_X8_, Q_X9_⟩ hb_ hon hoff
          refine ⟨_, rfl, fun K hK => ?_⟩
          have e48 : a.tmps[48]? = some (.agg #[.slice P0 q0.length n0, .slice P1 q1.length n1, .slice P2 q2.length n2, .slice P3 q3.length n3, .slice P4 q4.length n4, .slice P5 q5.length n5]) := by rw [ha]; exact putSel_on (e := (4, 48, .agg #[.slice P0 q0.length n0, .slice P1 q1.length n1, .slice P2 q2.length n2, .slice P3 q3.length n3, .slice P4 q4.length n4, .slice P5 q5.length n5])) 3 rfl rfl (hon 4 (by kernel_rfl)) rfl
          have e50 : a.tmps[50]? = some (v527) := by rw [ha]; exact putSel_on (e := (6, 50, v527)) 4 rfl rfl (hon 6 (by kernel_rfl)) rfl
          replace ha := aM ha
          have BK511 := aM Q_BK511
          have HB := aM Q_HB
          have HO522 := aM (Q_HO522 (hon 2 (by kernel_rfl)))
          have HO525 := aM (Q_HO525 (hon 3 (by kernel_rfl)))
          have HO528 := aM (Q_HO528 (hon 6 (by kernel_rfl)))
          obtain ⟨Ao74, co74, eo74⟩ := Kd.R_slice HO528.1
          (first | subst eo74 | (injection eo74 with f1_ f2_ f3_; have f4_ := f1_.symm; have f5_ := f3_.symm; clear f1_ f2_ f3_; subst f4_; subst f5_))
          refine goes_ Try.func19 (by kernel_rfl) rfl #[.agg #[.slice P0 q0.length n0, .slice P1 q1.length n1, .slice P2 q2.length n2, .slice P3 q3.length n3, .slice P4 q4.length n4, .slice P5 q5.length n5], .slice Ao74 y526.length co74] (by rfl) rfl rfl (by first | (simp only [List.map_toArray, List.map_cons, List.map_nil, Act.eval, Array.getD_eq_getD_getElem?, Option.getD_some, e48, e50]; done) | (simp only [List.map_toArray, List.map_cons, List.map_nil, Act.eval, Array.getD_eq_getD_getElem?, Option.getD_some, e48, e50]; rfl)) ?_
          with_reducible refine (casemap_Upper.calls _ _ q0 _ _ q1 _ _ q2 _ _ q3 _ _ q4 _ _ q5 _ _ y526 t529 _ ?z1 ?z2 ?z3 ?z4 ?z5 ?z6 ?z7 ?z8 ?z9 ?z10 ?z11 ?z12 ?z13 ?z14 A19.1).mono ?_
          (case z1 => repeat (first | exact cB1 R0.1 HB.1 | with_reducible first | refine cA1 ?_ _ | refine cN1 ?_ _ | refine cD1 ?_))
          (case z2 => exact N0.1)
          (case z3 => repeat (first | exact cB1 R1.1 HB.1 | with_reducible first | refine cA1 ?_ _ | refine cN1 ?_ _ | refine cD1 ?_))
          (case z4 => exact N1.1)
          (case z5 => repeat (first | exact cB1 R2.1 HB.1 | with_reducible first | refine cA1 ?_ _ | refine cN1 ?_ _ | refine cD1 ?_))
          (case z6 => exact N2.1)
          (case z7 => repeat (first | exact cB1 R3.1 HB.1 | with_reducible first | refine cA1 ?_ _ | refine cN1 ?_ _ | refine cD1 ?_))
          (case z8 => exact N3.1)
          (case z9 => repeat (first | exact cB1 R4.1 HB.1 | with_reducible first | refine cA1 ?_ _ | refine cN1 ?_ _ | refine cD1 ?_))
          (case z10 => exact N4.1)
          (case z11 => repeat (first | exact cB1 R5.1 HB.1 | with_reducible first | refine cA1 ?_ _ | refine cN1 ?_ _ | refine cD1 ?_))
          (case z12 => exact N5.1)
          (case z13 => repeat (first | exact (Kd.R_reads' HO528.1).2.2 | (with_reducible refine Kd.C_alloc ?_ _) | (with_reducible refine Kd.C_drewN ?_ _) | (with_reducible refine Kd.C_drew ?_)))
          (case z14 => exact (Kd.R_reads' HO528.1).2.1)
          rintro e w75 ⟨v530, rfl, ho0, hb⟩
          refine ⟨_, rfl, ?_⟩
          have n0_ := aM (Kd.R_elder' (by (with_reducible repeat first | apply rA1 | apply rN1 | apply rD1); exact HO522.1) (Kd.R_base ho0) hb)
          have n1_ := aM (Kd.R_elder' (by (with_reducible repeat first | apply rA1 | apply rN1 | apply rD1); exact HO525.1) (Kd.R_base ho0) hb)
          have n2_ := aM (Kd.R_elder' (by (with_reducible repeat first | apply rA1 | apply rN1 | apply rD1); exact HO528.1) (Kd.R_base ho0) hb)
          have n3_ := aM (Kd.R_lower (Kd.R_new' (Kd.R_new' (Kd.R_new' ho0 (Kd.R_lt (by (with_reducible repeat first | apply rA1 | apply rN1 | apply rD1); exact HO522.1))) (Kd.R_lt (by (with_reducible repeat first | apply rA1 | apply rN1 | apply rD1); exact HO525.1))) (Kd.R_lt (by (with_reducible repeat first | apply rA1 | apply rN1 | apply rD1); exact HO528.1))) (bSz (by repeat (first | (with_reducible first | exact HB.1 | apply bAl | apply pbN | apply bD1 | refine bSt ?_ GE511.1) | exact HB.1))))
          have n4_ := aM (blk_below (g := gb511) (o := .cells #[.slice P0 q0.length n0, .slice P1 q1.length n1, .slice P2 q2.length n2, .slice P3 q3.length n3, .slice P4 q4.length n4, .slice P5 q5.length n5] 27 (0, 0)) (by (with_reducible repeat (first | refine bkN ?_ _ | refine bkD ?_ | refine bkA ?_ _)); exact BK511.1) hb)
          have n5_ := aM (bSp (by repeat (first | (with_reducible first | exact HB.1 | apply bAl | apply pbN | apply bD1 | refine bSt ?_ GE511.1) | exact HB.1)) hb)
          clear HO522
          clear HO525
          clear HO528
          clear BK511
          clear HB
          have HO522 := n0_
          have HO525 := n1_
          have HO528 := n2_
          have HO531 := n3_
          have BK511 := n4_
          have HB := n5_
          clear n0_ n1_ n2_ n3_ n4_ n5_
          (try clear hb)
          (try clear hb2)
          (try clear hk)
          (try clear hi)
          (try clear ho0)
          refine hK.out _ _ ⟨v521, v524, .slice Ao74 y526.length co74, v530, m8_, m9_, (by rw [ha.out]; exact putSel_upk 5 hb_ rfl rfl rfl), (by (with_reducible repeat (first | refine bkN ?_ _ | refine bkD ?_ | refine bkA ?_ _)); exact BK511.1), (by repeat (first | (with_reducible first | exact HB.1 | apply bAl | apply pbN | apply bD1 | refine bSt ?_ GE511.1) | exact HB.1)), fun _ => (by (with_reducible repeat first | apply rA1 | apply rN1 | apply rD1); exact Kd.R_mono HO522.1 (fun _ hk => by first | trivial | exact ⟨hk.1.1, ⟨hk.1.2, hk.2⟩⟩)), fun _ => (by (with_reducible repeat first | apply rA1 | apply rN1 | apply rD1); exact Kd.R_mono HO525.1 (fun _ hk => by first | trivial | exact ⟨hk.1.1, ⟨hk.1.2, hk.2⟩⟩)), fun _ => (by (with_reducible repeat first | apply rA1 | apply rN1 | apply rD1); exact Kd.R_mono HO528.1 (fun _ hk => by first | trivial | exact ⟨hk.1.1, ⟨hk.1.2, hk.2⟩⟩)), fun _ => (by (with_reducible repeat first | apply rA1 | apply rN1 | apply rD1); exact Kd.R_mono HO531.1 (fun _ hk => by first | trivial | exact ⟨hk.1.1.2, ⟨hk.1.2, hk.2⟩⟩)), fun h0_ => absurd ((hoff 8 (by kernel_rfl)).symm.trans h0_) (by decide), fun h0_ => absurd ((hoff 9 (by kernel_rfl)).symm.trans h0_) (by decide)⟩
         refine steps_cons ?_ ?_
         ·rintro b a w' ⟨v521, v524, v527, v530, m8_, m9_, ha, Q_BK511, Q_HB, Q_HO522, Q_HO525, Q_HO528, Q_HO531, Q_X8_, Q_X9_⟩ hb_ hon hoff
          refine ⟨_, rfl, fun K hK => ?_⟩
          have e47 : a.tmps[47]? = some (v524) := by rw [ha]; exact putSel_on (e := (3, 47, v524)) 2 rfl rfl (hon 3 (by kernel_rfl)) rfl
          replace ha := aM ha
          have BK511 := aM Q_BK511
          have HB := aM Q_HB
          have HO522 := aM (Q_HO522 (hon 2 (by kernel_rfl)))
          have HO525 := aM (Q_HO525 (hon 3 (by kernel_rfl)))
          have HO528 := aM (Q_HO528 (hon 6 (by kernel_rfl)))
          have HO531 := aM (Q_HO531 (hon 7 (by kernel_rfl)))
          refine value_ (w1 := w') (v := v524) (by rfl) rfl ?_ ?_
          ·go_simp
           (try simp only [i64_w])
           try rfl
          refine hK.out _ _ ⟨v521, v524, v527, v530, (v524), m9_, (by rw [ha.out]; exact putSel_upk 6 hb_ rfl rfl rfl), Q_BK511, Q_HB, Q_HO522, Q_HO525, Q_HO528, Q_HO531, fun _ => rfl, fun h0_ => absurd ((hoff 9 (by kernel_rfl)).symm.trans h0_) (by decide)⟩
         refine steps_cons ?_ ?_
         ·rintro b a w' ⟨v521, v524, v527, v530, m8_, m9_, ha, Q_BK511, Q_HB, Q_HO522, Q_HO525, Q_HO528, Q_HO531, Q_X8_, Q_X9_⟩ hb_ hon hoff
          refine ⟨_, rfl, fun K hK => ?_⟩
          have e51 : a.tmps[51]? = some (v530) := by rw [ha]; exact putSel_on (e := (7, 51, v530)) 5 rfl rfl (hon 7 (by kernel_rfl)) rfl
          replace ha := aM ha
          have BK511 := aM Q_BK511
          have HB := aM Q_HB
          have HO522 := aM (Q_HO522 (hon 2 (by kernel_rfl)))
          have HO525 := aM (Q_HO525 (hon 3 (by kernel_rfl)))
          have HO528 := aM (Q_HO528 (hon 6 (by kernel_rfl)))
          have HO531 := aM (Q_HO531 (hon 7 (by kernel_rfl)))
          refine value_ (w1 := w') (v := v530) (by rfl) rfl ?_ ?_
          ·go_simp
           (try simp only [i64_w])
           try rfl
          refine hK.out _ _ ⟨v521, v524, v527, v530, m8_, (v530), (by rw [ha.out]; exact putSel_upk 7 hb_ rfl rfl rfl), Q_BK511, Q_HB, Q_HO522, Q_HO525, Q_HO528, Q_HO531, Q_X8_, fun _ => rfl⟩
         exact steps_nil
        rintro b a w75 hall ⟨v521, v524, v527, v530, m8_, m9_, ha, Q_BK511, Q_HB, Q_HO522, Q_HO525, Q_HO528, Q_HO531, Q_X8_, Q_X9_⟩
        clear BK511 HB
        have hb0_ := hall 0 (by kernel_rfl)
        have hb2_ := hall 2 (by kernel_rfl)
        have hb3_ := hall 3 (by kernel_rfl)
        have hb4_ := hall 4 (by kernel_rfl)
        have hb6_ := hall 6 (by kernel_rfl)
        have hb7_ := hall 7 (by kernel_rfl)
        have hb8_ := hall 8 (by kernel_rfl)
        have hb9_ := hall 9 (by kernel_rfl)
        subst ha
        obtain rfl := Q_X8_ hb8_
        obtain rfl := Q_X9_ hb9_
        simp only [putSel, hb0_, hb2_, hb3_, hb4_, hb6_, hb7_, hb8_, hb9_, if_true, Act.put, sI, sZ, sS]
        have BK511 := aM Q_BK511
        clear Q_BK511
        have HB := aM Q_HB
        clear Q_HB
        have HO522 := aM (Q_HO522 hb2_)
        clear Q_HO522
        have HO525 := aM (Q_HO525 hb3_)
        clear Q_HO525
        have HO528 := aM (Q_HO528 hb6_)
        clear Q_HO528
        have HO531 := aM (Q_HO531 hb7_)
        clear Q_HO531
        clear hall hb0_ hb2_ hb3_ hb4_ hb6_ hb7_ hb8_ hb9_
        obtain ⟨Ao76, co76, eo76⟩ := Kd.R_slice HO525.1
        subst eo76
        have p532 : 0 ≤ (0 : Int) := (by omega)
        have q532 : 0 < (t523.length : Int) := oD (by first | (with_reducible assumption) | assumption)
        obtain ⟨ad532, e532, hx532_0⟩ := Kd.at_int (Kd.R_reads' HO525.1).2.2 0 p532 q532
        cases e532
        have qi532 : (0 < t523.length) = True := eq_true (by omega)
        (try rw [show ((0 : Int)).toNat = 0 from rfl] at hx532_0)
        (try rw [Addr.add_zero'] at hx532_0)
        replace p532 := eq_true p532
        replace q532 := eq_true q532
        try go_wp2
        go_ret
        exact ⟨by first | rfl | (simp [eN, eS] <;> rfl) | (simp [*, eN, eS] <;> rfl), by repeat (first | (with_reducible first | exact HB.1 | apply bAl | apply pbN | apply bD1 | refine bSt ?_ GE511.1) | exact HB.1)⟩
      ·rw [if_neg c21] at H
       exact absurd H (by simp)
     ·rw [if_neg c20] at H
      have c20b0 : ((t523.length : Int) == 1) = false := beq_eq_false_iff_ne.mpr c20
      have c20b1 : ((t523.length : Int) != 1) = true := bne_iff_ne.mpr c20
      by_cases c77 : (t529.length : Int) = 1
      ·rw [if_pos c77] at H
       have c77b0 : ((t529.length : Int) == 1) = true := beq_iff_eq.mpr c77
       have c77b1 : ((t529.length : Int) != 1) = false := bne_eq_false_iff_eq.mpr c77
       clear c77
       by_cases c78 : 0 < (t529.length : Int)
       ·rw [if_pos c78] at H
        have c78b0 : decide (0 < (t529.length : Int)) = true := dT c78
        have c78b1 : decide (0 < t529.length) = true := dT (by omega)
        clear c78
        by_cases c79 : (rd t529 0) = t515
        ·rw [if_pos c79] at H
         have c79b0 : ((rd t529 0) == t515) = true := beq_iff_eq.mpr c79
         have c79b1 : ((rd t529 0) != t515) = false := bne_eq_false_iff_eq.mpr c79
         clear c79
         replace H := Option.bind_eq_some_iff.mp H
         obtain ⟨t537, A800, H⟩ := H
         replace H : (some t537) = some r := H
         have A80 := aM A800
         clear A800
         obtain rfl := Option.some.inj H
         try go_wp2
         have n0_ := aM (bkD BK511.1)
         have n1_ := aM (bD1 HB.1)
         clear BK511
         clear HB
         have BK511 := n0_
         have HB := n1_
         clear n0_ n1_
         refine start_ (n := 10) (S := fun w' => True) (ds := []) #[false, false, false, false, false, false, false, false, false, false] (by kernel_rfl) rfl rfl trivial (fun hHeld => ?_); refine with_tabW w37_CasemapSimples.tab7 w37_CasemapSimples.bits7 (fun HT_ HW_ => ?_)
         generalize wc.drew = w81 at BK511 HB hHeld ⊢
         refine pure_ (i := 1) (N := some 45) (v := ?_) (a' := ?_) #[false, true, false, false, false, false, false, false, false, false] rfl rfl (any_of HT_.1 (by kernel_rfl)) (fun _ _ _ h => h) (Or.inl ⟨by rfl, ?_⟩) ?_ ?_
         rotate_left
         ·intro w'
          go_simp
          with_reducible rfl
         rotate_left
         ·simp only [Act.put, sI, sZ, sS, i64_w, i32_w]
          rfl
         refine pure_ (i := 5) (N := some 49) (v := ?_) (a' := ?_) #[false, true, false, false, false, true, false, false, false, false] rfl rfl (any_of HT_.1 (by kernel_rfl)) (fun _ _ _ h => h) (Or.inl ⟨by rfl, ?_⟩) ?_ ?_
         rotate_left
         ·intro w'
          go_simp
          with_reducible rfl
         rotate_left
         ·simp only [Act.put, sI, sZ, sS, i64_w, i32_w]
          rfl
         refine inv_at [0, 2, 3, 4, 6, 7, 8, 9] (fun a0_ b a w' => ∃ (v521 : Value) (v524 : Value) (v527 : Value) (v530 : Value) (m8_ : Value) (m9_ : Value), a = putSel a0_ b [(0, 44, .agg #[.slice P0 q0.length n0, .slice P1 q1.length n1, .slice P2 q2.length n2, .slice P3 q3.length n3, .slice P4 q4.length n4, .slice P5 q5.length n5]), (2, 46, v521), (3, 47, v524), (4, 48, .agg #[.slice P0 q0.length n0, .slice P1 q1.length n1, .slice P2 q2.length n2, .slice P3 q3.length n3, .slice P4 q4.length n4, .slice P5 q5.length n5]), (6, 50, v527), (7, 51, v530), (8, 11, m8_), (9, 12, m9_)] ∧ (w'.heap[gb511]? = some (.cells #[.slice P0 q0.length n0, .slice P1 q1.length n1, .slice P2 q2.length n2, .slice P3 q3.length n3, .slice P4 q4.length n4, .slice P5 q5.length n5] 27 (0, 0))) ∧ (Below w.heap.size w w') ∧ (b 2 = true → Kd.R (Kd.int .i64) 3 w' w.heap.size (fun _ => True) v521 y520) ∧ (b 3 = true → Kd.R (Kd.int .i64) 3 w' w.heap.size (fun _ => True) v524 t523) ∧ (b 6 = true → Kd.R (Kd.int .i64) 3 w' w.heap.size (fun _ => True) v527 y526) ∧ (b 7 = true → Kd.R (Kd.int .i64) 3 w' w.heap.size (fun _ => True) v530 t529) ∧ (b 8 = true → (m8_ : Value) = v524) ∧ (b 9 = true → (m9_ : Value) = v530)) HT_.1 HW_.1 (by kernel_rfl) (by kernel_rfl) ?_ ?_ ?_
         ·exact ⟨.bool false, .bool false, .bool false, .bool false, .bool false, .bool false, by simp only [putSel, Bool.false_eq_true, if_false], BK511.1, HB.1, fun h_ => absurd h_ (by decide), fun h_ => absurd h_ (by decide), fun h_ => absurd h_ (by decide), fun h_ => absurd h_ (by decide), fun h_ => absurd h_ (by decide), fun h_ => absurd h_ (by decide)⟩
         ·skip
          clear BK511 HB
          refine steps_cons ?_ ?_
          ·rintro b a w' ⟨v521, v524, v527, v530, m8_, m9_, ha, Q_BK511, Q_HB, Q_HO522, Q_HO525, Q_HO528, Q_HO531, Q_X8_, Q_X9_⟩ hb_ hon hoff
           refine ⟨_, rfl, fun K hK => ?_⟩
           have e2 : a.tmps[2]? = some (.pointer (some ⟨gb511, 0, none⟩)) := by rw [ha]; exact (putSel_off rfl).trans rfl
           replace ha := aM ha
           have BK511 := aM Q_BK511
           have HB := aM Q_HB
           have hc0_ : w'.cell? ⟨gb511, 0, none⟩ = some (.slice P0 q0.length n0) := (bkC BK511.1 0).trans rfl
           have hc1_ : w'.cell? ⟨gb511, 1, none⟩ = some (.slice P1 q1.length n1) := (bkC BK511.1 1).trans rfl
           have hc2_ : w'.cell? ⟨gb511, 2, none⟩ = some (.slice P2 q2.length n2) := (bkC BK511.1 2).trans rfl
           have hc3_ : w'.cell? ⟨gb511, 3, none⟩ = some (.slice P3 q3.length n3) := (bkC BK511.1 3).trans rfl
           have hc4_ : w'.cell? ⟨gb511, 4, none⟩ = some (.slice P4 q4.length n4) := (bkC BK511.1 4).trans rfl
           have hc5_ : w'.cell? ⟨gb511, 5, none⟩ = some (.slice P5 q5.length n5) := (bkC BK511.1 5).trans rfl
           refine value_ (w1 := w') (v := .agg #[.slice P0 q0.length n0, .slice P1 q1.length n1, .slice P2 q2.length n2, .slice P3 q3.length n3, .slice P4 q4.length n4, .slice P5 q5.length n5]) (by rfl) rfl ?_ ?_
           ·go_simp
            (try simp only [i64_w])
            try rfl
           refine hK.out _ _ ⟨v521, v524, v527, v530, m8_, m9_, (by rw [ha.out]; exact putSel_upk 0 hb_ rfl rfl rfl), Q_BK511, Q_HB, Q_HO522, fun h0_ => absurd ((hoff 3 (by kernel_rfl)).symm.trans h0_) (by decide), Q_HO528, fun h0_ => absurd ((hoff 7 (by kernel_rfl)).symm.trans h0_) (by decide), fun h0_ => absurd ((hoff 8 (by kernel_rfl)).symm.trans h0_) (by decide), fun h0_ => absurd ((hoff 9 (by kernel_rfl)).symm.trans h0_) (by decide)⟩
          refine steps_cons ?_ ?_
          ·rintro b a w' ⟨v521, v524, v527, v530, m8_, m9_, ha, Q_BK511, Q_HB, Q_HO522, Q_HO525, Q_HO528, Q_HO531, Q_X8_, Q_X9_⟩ hb_ hon hoff
           refine ⟨_, rfl, fun K hK => ?_⟩
           have e45 : a.tmps[45]? = some (.int .i64 a1) := by rw [ha]; exact (putSel_off rfl).trans rfl
           replace ha := aM ha
           have BK511 := aM Q_BK511
           have HB := aM Q_HB
           refine Kd.R_lit_step (Kd.int .i64) _ 3 ?hg (N := 46) ?hd (xs := ([a1] : List Int)) (inner := [.int .i64 a1]) (ok := fun _ => True) (okp := fun _ => True) ?hr ?hp (fun _ hk => hk) trivial (Below.refl _ _) (Nat.le_refl _) (by simp) ?_; (case hd => rfl); (case hg => rfl); (case hr => first | (go_simp; done) | (go_simp; rfl)); (case hp => exact (Reps.one (show Kd.M (Kd.int .i64) _ _ _ a1 [.int .i64 a1] from rfl) (Reps.none _ _)))
           intro v521 w82 ho83 hb hg_ hnew_
           clear hg_ hnew_
           (first | rw [← Ny520.1] at ho83 | (simp only [Int.reduceToNat] at ho83; rw [← Ny520.1] at ho83))
           have n0_ := aM (Kd.R_lower ho83 (bSz (by repeat (first | (with_reducible first | exact HB.1 | apply bAl | apply pbN | apply bD1 | refine bSt ?_ GE511.1) | exact HB.1))))
           have n1_ := aM (blk_below (g := gb511) (o := .cells #[.slice P0 q0.length n0, .slice P1 q1.length n1, .slice P2 q2.length n2, .slice P3 q3.length n3, .slice P4 q4.length n4, .slice P5 q5.length n5] 27 (0, 0)) (by (with_reducible repeat (first | refine bkN ?_ _ | refine bkD ?_ | refine bkA ?_ _)); exact BK511.1) hb)
           have n2_ := aM (bSp (by repeat (first | (with_reducible first | exact HB.1 | apply bAl | apply pbN | apply bD1 | refine bSt ?_ GE511.1) | exact HB.1)) hb)
           have z_HO528 := fun (h0_ : b 6 = true) => (show Kd.R (Kd.int .i64) 3 w82 w.heap.size (fun _ => True) v527 y526 from by first | exact (Kd.R_elder' (by (with_reducible repeat first | apply rA1 | apply rN1 | apply rD1); exact (Q_HO528 h0_)) (Kd.R_base ho83) hb) | exact Kd.R_mono (Kd.R_elder' (by (with_reducible repeat first | apply rA1 | apply rN1 | apply rD1); exact (Q_HO528 h0_)) (Kd.R_base ho83) hb) (fun _ h_ => by first | trivial | exact h_ | exact h_.1))
           clear BK511
           clear HB
           have HO522 := n0_
           have BK511 := n1_
           have HB := n2_
           clear n0_ n1_ n2_
           clear hb ho83
           refine hK.out _ _ ⟨v521, v524, v527, v530, m8_, m9_, (by rw [ha.out]; exact putSel_upk 1 hb_ rfl rfl rfl), (by (with_reducible repeat (first | refine bkN ?_ _ | refine bkD ?_ | refine bkA ?_ _)); exact BK511.1), (by repeat (first | (with_reducible first | exact HB.1 | apply bAl | apply pbN | apply bD1 | refine bSt ?_ GE511.1) | exact HB.1)), fun _ => (by (with_reducible repeat first | apply rA1 | apply rN1 | apply rD1); exact HO522.1), fun h0_ => absurd ((hoff 3 (by kernel_rfl)).symm.trans h0_) (by decide), z_HO528, fun h0_ => absurd ((hoff 7 (by kernel_rfl)).symm.trans h0_) (by decide), fun h0_ => absurd ((hoff 8 (by kernel_rfl)).symm.trans h0_) (by decide), fun h0_ => absurd ((hoff 9 (by kernel_rfl)).symm.trans h0_) (by decide)⟩
          refine steps_cons ?_ ?_
          ·rintro b a w' ⟨v521, v524, v527, v530, m8_, m9_, ha, Q_BK511, Q_HB, Q_HO522, Q_HO525, Q_HO528, Q_HO531, Q_X8_, Q_X9_⟩ hb_ hon hoff
           refine ⟨_, rfl, fun K hK => ?_⟩
           have e44 : a.tmps[44]? = some (.agg #[.slice P0 q0.length n0, .slice P1 q1.length n1, .slice P2 q2.length n2, .slice P3 q3.length n3, .slice P4 q4.length n4, .slice P5 q5.length n5]) := by rw [ha]; exact putSel_on (e := (0, 44, .agg #[.slice P0 q0.length n0, .slice P1 q1.length n1, .slice P2 q2.length n2, .slice P3 q3.length n3, .slice P4 q4.length n4, .slice P5 q5.length n5])) 0 rfl rfl (hon 0 (by kernel_rfl)) rfl
           have e46 : a.tmps[46]? = some (v521) := by rw [ha]; exact putSel_on (e := (2, 46, v521)) 1 rfl rfl (hon 2 (by kernel_rfl)) rfl
           replace ha := aM ha
           have BK511 := aM Q_BK511
           have HB := aM Q_HB
           have HO522 := aM (Q_HO522 (hon 2 (by kernel_rfl)))
           obtain ⟨Ao85, co85, eo85⟩ := Kd.R_slice HO522.1
           (first | subst eo85 | (injection eo85 with f1_ f2_ f3_; have f4_ := f1_.symm; have f5_ := f3_.symm; clear f1_ f2_ f3_; subst f4_; subst f5_))
           refine goes_ Try.func18 (by kernel_rfl) rfl #[.agg #[.slice P0 q0.length n0, .slice P1 q1.length n1, .slice P2 q2.length n2, .slice P3 q3.length n3, .slice P4 q4.length n4, .slice P5 q5.length n5], .slice Ao85 y520.length co85] (by rfl) rfl rfl (by first | (simp only [List.map_toArray, List.map_cons, List.map_nil, Act.eval, Array.getD_eq_getD_getElem?, Option.getD_some, e44, e46]; done) | (simp only [List.map_toArray, List.map_cons, List.map_nil, Act.eval, Array.getD_eq_getD_getElem?, Option.getD_some, e44, e46]; rfl)) ?_
           with_reducible refine (casemap_Lower.calls _ _ q0 _ _ q1 _ _ q2 _ _ q3 _ _ q4 _ _ q5 _ _ y520 t523 _ ?z1 ?z2 ?z3 ?z4 ?z5 ?z6 ?z7 ?z8 ?z9 ?z10 ?z11 ?z12 ?z13 ?z14 A18.1).mono ?_
           (case z1 => repeat (first | exact cB1 R0.1 HB.1 | with_reducible first | refine cA1 ?_ _ | refine cN1 ?_ _ | refine cD1 ?_))
           (case z2 => exact N0.1)
           (case z3 => repeat (first | exact cB1 R1.1 HB.1 | with_reducible first | refine cA1 ?_ _ | refine cN1 ?_ _ | refine cD1 ?_))
           (case z4 => exact N1.1)
           (case z5 => repeat (first | exact cB1 R2.1 HB.1 | with_reducible first | refine cA1 ?_ _ | refine cN1 ?_ _ | refine cD1 ?_))
           (case z6 => exact N2.1)
           (case z7 => repeat (first | exact cB1 R3.1 HB.1 | with_reducible first | refine cA1 ?_ _ | refine cN1 ?_ _ | refine cD1 ?_))
           (case z8 => exact N3.1)
           (case z9 => repeat (first | exact cB1 R4.1 HB.1 | with_reducible first | refine cA1 ?_ _ | refine cN1 ?_ _ | refine cD1 ?_))
           (case z10 => exact N4.1)
           (case z11 => repeat (first | exact cB1 R5.1 HB.1 | with_reducible first | refine cA1 ?_ _ | refine cN1 ?_ _ | refine cD1 ?_))
           (case z12 => exact N5.1)
           (case z13 => repeat (first | exact (Kd.R_reads' HO522.1).2.2 | (with_reducible refine Kd.C_alloc ?_ _) | (with_reducible refine Kd.C_drewN ?_ _) | (with_reducible refine Kd.C_drew ?_)))
           (case z14 => exact (Kd.R_reads' HO522.1).2.1)
           rintro e w86 ⟨v524, rfl, ho0, hb⟩
           refine ⟨_, rfl, ?_⟩
           have n0_ := aM (Kd.R_elder' (by (with_reducible repeat first | apply rA1 | apply rN1 | apply rD1); exact HO522.1) (Kd.R_base ho0) hb)
           have n1_ := aM (Kd.R_lower (Kd.R_new' ho0 (Kd.R_lt (by (with_reducible repeat first | apply rA1 | apply rN1 | apply rD1); exact HO522.1))) (bSz (by repeat (first | (with_reducible first | exact HB.1 | apply bAl | apply pbN | apply bD1 | refine bSt ?_ GE511.1) | exact HB.1))))
           have n2_ := aM (blk_below (g := gb511) (o := .cells #[.slice P0 q0.length n0, .slice P1 q1.length n1, .slice P2 q2.length n2, .slice P3 q3.length n3, .slice P4 q4.length n4, .slice P5 q5.length n5] 27 (0, 0)) (by (with_reducible repeat (first | refine bkN ?_ _ | refine bkD ?_ | refine bkA ?_ _)); exact BK511.1) hb)
           have n3_ := aM (bSp (by repeat (first | (with_reducible first | exact HB.1 | apply bAl | apply pbN | apply bD1 | refine bSt ?_ GE511.1) | exact HB.1)) hb)
           have z_HO528 := fun (h0_ : b 6 = true) => (show Kd.R (Kd.int .i64) 3 w86 w.heap.size (fun _ => True) v527 y526 from by first | exact (Kd.R_elder' (by (with_reducible repeat first | apply rA1 | apply rN1 | apply rD1); exact (Q_HO528 h0_)) (Kd.R_base ho0) hb) | exact Kd.R_mono (Kd.R_elder' (by (with_reducible repeat first | apply rA1 | apply rN1 | apply rD1); exact (Q_HO528 h0_)) (Kd.R_base ho0) hb) (fun _ h_ => by first | trivial | exact h_ | exact h_.1))
           clear HO522
           clear BK511
           clear HB
           have HO522 := n0_
           have HO525 := n1_
           have BK511 := n2_
           have HB := n3_
           clear n0_ n1_ n2_ n3_
           (try clear hb)
           (try clear hb2)
           (try clear hk)
           (try clear hi)
           (try clear ho0)
           refine hK.out _ _ ⟨.slice Ao85 y520.length co85, v524, v527, v530, m8_, m9_, (by rw [ha.out]; exact putSel_upk 2 hb_ rfl rfl rfl), (by (with_reducible repeat (first | refine bkN ?_ _ | refine bkD ?_ | refine bkA ?_ _)); exact BK511.1), (by repeat (first | (with_reducible first | exact HB.1 | apply bAl | apply pbN | apply bD1 | refine bSt ?_ GE511.1) | exact HB.1)), fun _ => (by (with_reducible repeat first | apply rA1 | apply rN1 | apply rD1); exact Kd.R_mono HO522.1 (fun _ hk => by first | trivial | exact hk.2)), fun _ => (by (with_reducible repeat first | apply rA1 | apply rN1 | apply rD1); exact Kd.R_mono HO525.1 (fun _ hk => by first | trivial | exact hk.2)), z_HO528, fun h0_ => absurd ((hoff 7 (by kernel_rfl)).symm.trans h0_) (by decide), fun h0_ => absurd ((hoff 8 (by kernel_rfl)).symm.trans h0_) (by decide), fun h0_ => absurd ((hoff 9 (by kernel_rfl)).symm.trans h0_) (by decide)⟩
          refine steps_cons ?_ ?_
          ·rintro b a w' ⟨v521, v524, v527, v530, m8_, m9_, ha, Q_BK511, Q_HB, Q_HO522, Q_HO525, Q_HO528, Q_HO531, Q_X8_, Q_X9_⟩ hb_ hon hoff
           refine ⟨_, rfl, fun K hK => ?_⟩
           have e2 : a.tmps[2]? = some (.pointer (some ⟨gb511, 0, none⟩)) := by rw [ha]; exact (putSel_off rfl).trans rfl
           replace ha := aM ha
           have BK511 := aM Q_BK511
           have HB := aM Q_HB
           have hc0_ : w'.cell? ⟨gb511, 0, none⟩ = some (.slice P0 q0.length n0) := (bkC BK511.1 0).trans rfl
           have hc1_ : w'.cell? ⟨gb511, 1, none⟩ = some (.slice P1 q1.length n1) := (bkC BK511.1 1).trans rfl
           have hc2_ : w'.cell? ⟨gb511, 2, none⟩ = some (.slice P2 q2.length n2) := (bkC BK511.1 2).trans rfl
           have hc3_ : w'.cell? ⟨gb511, 3, none⟩ = some (.slice P3 q3.length n3) := (bkC BK511.1 3).trans rfl
           have hc4_ : w'.cell? ⟨gb511, 4, none⟩ = some (.slice P4 q4.length n4) := (bkC BK511.1 4).trans rfl
           have hc5_ : w'.cell? ⟨gb511, 5, none⟩ = some (.slice P5 q5.length n5) := (bkC BK511.1 5).trans rfl
           refine value_ (w1 := w') (v := .agg #[.slice P0 q0.length n0, .slice P1 q1.length n1, .slice P2 q2.length n2, .slice P3 q3.length n3, .slice P4 q4.length n4, .slice P5 q5.length n5]) (by rfl) rfl ?_ ?_
           ·go_simp
            (try simp only [i64_w])
            try rfl
           refine hK.out _ _ ⟨v521, v524, v527, v530, m8_, m9_, (by rw [ha.out]; exact putSel_upk 3 hb_ rfl rfl rfl), Q_BK511, Q_HB, Q_HO522, Q_HO525, Q_HO528, fun h0_ => absurd ((hoff 7 (by kernel_rfl)).symm.trans h0_) (by decide), fun h0_ => absurd ((hoff 8 (by kernel_rfl)).symm.trans h0_) (by decide), fun h0_ => absurd ((hoff 9 (by kernel_rfl)).symm.trans h0_) (by decide)⟩
          refine steps_cons ?_ ?_
          ·rintro b a w' ⟨v521, v524, v527, v530, m8_, m9_, ha, Q_BK511, Q_HB, Q_HO522, Q_HO525, Q_HO528, Q_HO531, Q_X8_, Q_X9_⟩ hb_ hon hoff
           refine ⟨_, rfl, fun K hK => ?_⟩
           have e49 : a.tmps[49]? = some (.int .i64 a1) := by rw [ha]; exact (putSel_off rfl).trans rfl
           replace ha := aM ha
           have BK511 := aM Q_BK511
           have HB := aM Q_HB
           refine Kd.R_lit_step (Kd.int .i64) _ 3 ?hg (N := 50) ?hd (xs := ([a1] : List Int)) (inner := [.int .i64 a1]) (ok := fun _ => True) (okp := fun _ => True) ?hr ?hp (fun _ hk => hk) trivial (Below.refl _ _) (Nat.le_refl _) (by simp) ?_; (case hd => rfl); (case hg => rfl); (case hr => first | (go_simp; done) | (go_simp; rfl)); (case hp => exact (Reps.one (show Kd.M (Kd.int .i64) _ _ _ a1 [.int .i64 a1] from rfl) (Reps.none _ _)))
           intro v527 w82 ho83 hb hg_ hnew_
           clear hg_ hnew_
           (first | rw [← Ny526.1] at ho83 | (simp only [Int.reduceToNat] at ho83; rw [← Ny526.1] at ho83))
           have n0_ := aM (Kd.R_lower ho83 (bSz (by repeat (first | (with_reducible first | exact HB.1 | apply bAl | apply pbN | apply bD1 | refine bSt ?_ GE511.1) | exact HB.1))))
           have n1_ := aM (blk_below (g := gb511) (o := .cells #[.slice P0 q0.length n0, .slice P1 q1.length n1, .slice P2 q2.length n2, .slice P3 q3.length n3, .slice P4 q4.length n4, .slice P5 q5.length n5] 27 (0, 0)) (by (with_reducible repeat (first | refine bkN ?_ _ | refine bkD ?_ | refine bkA ?_ _)); exact BK511.1) hb)
           have n2_ := aM (bSp (by repeat (first | (with_reducible first | exact HB.1 | apply bAl | apply pbN | apply bD1 | refine bSt ?_ GE511.1) | exact HB.1)) hb)
           have z_HO522 := fun (h0_ : b 2 = true) => (show Kd.R (Kd.int .i64) 3 w82 w.heap.size (fun _ => True) v521 y520 from by first | exact (Kd.R_elder' (by (with_reducible repeat first | apply rA1 | apply rN1 | apply rD1); exact (Q_HO522 h0_)) (Kd.R_base ho83) hb) | exact Kd.R_mono (Kd.R_elder' (by (with_reducible repeat first | apply rA1 | apply rN1 | apply rD1); exact (Q_HO522 h0_)) (Kd.R_base ho83) hb) (fun _ h_ => by first | trivial | exact h_ | exact h_.1))
           have z_HO525 := fun (h0_ : b 3 = true) => (show Kd.R (Kd.int .i64) 3 w82 w.heap.size (fun _ => True) v524 t523 from by first | exact (Kd.R_elder' (by (with_reducible repeat first | apply rA1 | apply rN1 | apply rD1); exact (Q_HO525 h0_)) (Kd.R_base ho83) hb) | exact Kd.R_mono (Kd.R_elder' (by (with_reducible repeat first | apply rA1 | apply rN1 | apply rD1); exact (Q_HO525 h0_)) (Kd.R_base ho83) hb) (fun _ h_ => by first | trivial | exact h_ | exact h_.1))
           clear BK511
           clear HB
           have HO528 := n0_
           have BK511 := n1_
           have HB := n2_
           clear n0_ n1_ n2_
           clear hb ho83
           refine hK.out _ _ ⟨v521, v524, v527, v530, m8_, m9_, (by rw [ha.out]; exact putSel_upk 4 hb_ rfl rfl rfl), (by (with_reducible repeat (first | refine bkN ?_ _ | refine bkD ?_ | refine bkA ?_ _)); exact BK511.1), (by repeat (first | (with_reducible first | exact HB.1 | apply bAl | apply pbN | apply bD1 | refine bSt ?_ GE511.1) | exact HB.1)), z_HO522, z_HO525, fun _ => (by (with_reducible repeat first | apply rA1 | apply rN1 | apply rD1); exact HO528.1), fun h0_ => absurd ((hoff 7 (by kernel_rfl)).symm.trans h0_) (by decide), fun h0_ => absurd ((hoff 8 (by kernel_rfl)).symm.trans h0_) (by decide), fun h0_ => absurd ((hoff 9 (by kernel_rfl)).symm.trans h0_) (by decide)⟩
          refine steps_cons ?_ ?_
          ·rintro b a w' ⟨v521, v524, v527, v530, m8_, m9_, ha, Q_BK511, Q_HB, Q_HO522, Q_HO525, Q_HO528, Q_HO531, Q_X8_, Q_X9_⟩ hb_ hon hoff
           refine ⟨_, rfl, fun K hK => ?_⟩
           have e48 : a.tmps[48]? = some (.agg #[.slice P0 q0.length n0, .slice P1 q1.length n1, .slice P2 q2.length n2, .slice P3 q3.length n3, .slice P4 q4.length n4, .slice P5 q5.length n5]) := by rw [ha]; exact putSel_on (e := (4, 48, .agg #[.slice P0 q0.length n0, .slice P1 q1.length n1, .slice P2 q2.length n2, .slice P3 q3.length n3, .slice P4 q4.length n4, .slice P5 q5.length n5])) 3 rfl rfl (hon 4 (by kernel_rfl)) rfl
           have e50 : a.tmps[50]? = some (v527) := by rw [ha]; exact putSel_on (e := (6, 50, v527)) 4 rfl rfl (hon 6 (by kernel_rfl)) rfl
           replace ha := aM ha
           have BK511 := aM Q_BK511
           have HB := aM Q_HB
           have HO522 := aM (Q_HO522 (hon 2 (by kernel_rfl)))
           have HO525 := aM (Q_HO525 (hon 3 (by kernel_rfl)))
           have HO528 := aM (Q_HO528 (hon 6 (by kernel_rfl)))
           obtain ⟨Ao89, co89, eo89⟩ := Kd.R_slice HO528.1
           (first | subst eo89 | (injection eo89 with f1_ f2_ f3_; have f4_ := f1_.symm; have f5_ := f3_.symm; clear f1_ f2_ f3_; subst f4_; subst f5_))
           refine goes_ Try.func19 (by kernel_rfl) rfl #[.agg #[.slice P0 q0.length n0, .slice P1 q1.length n1, .slice P2 q2.length n2, .slice P3 q3.length n3, .slice P4 q4.length n4, .slice P5 q5.length n5], .slice Ao89 y526.length co89] (by rfl) rfl rfl (by first | (simp only [List.map_toArray, List.map_cons, List.map_nil, Act.eval, Array.getD_eq_getD_getElem?, Option.getD_some, e48, e50]; done) | (simp only [List.map_toArray, List.map_cons, List.map_nil, Act.eval, Array.getD_eq_getD_getElem?, Option.getD_some, e48, e50]; rfl)) ?_
           with_reducible refine (casemap_Upper.calls _ _ q0 _ _ q1 _ _ q2 _ _ q3 _ _ q4 _ _ q5 _ _ y526 t529 _ ?z1 ?z2 ?z3 ?z4 ?z5 ?z6 ?z7 ?z8 ?z9 ?z10 ?z11 ?z12 ?z13 ?z14 A19.1).mono ?_
           (case z1 => repeat (first | exact cB1 R0.1 HB.1 | with_reducible first | refine cA1 ?_ _ | refine cN1 ?_ _ | refine cD1 ?_))
           (case z2 => exact N0.1)
           (case z3 => repeat (first | exact cB1 R1.1 HB.1 | with_reducible first | refine cA1 ?_ _ | refine cN1 ?_ _ | refine cD1 ?_))
           (case z4 => exact N1.1)
           (case z5 => repeat (first | exact cB1 R2.1 HB.1 | with_reducible first | refine cA1 ?_ _ | refine cN1 ?_ _ | refine cD1 ?_))
           (case z6 => exact N2.1)
           (case z7 => repeat (first | exact cB1 R3.1 HB.1 | with_reducible first | refine cA1 ?_ _ | refine cN1 ?_ _ | refine cD1 ?_))
           (case z8 => exact N3.1)
           (case z9 => repeat (first | exact cB1 R4.1 HB.1 | with_reducible first | refine cA1 ?_ _ | refine cN1 ?_ _ | refine cD1 ?_))
           (case z10 => exact N4.1)
           (case z11 => repeat (first | exact cB1 R5.1 HB.1 | with_reducible first | refine cA1 ?_ _ | refine cN1 ?_ _ | refine cD1 ?_))
           (case z12 => exact N5.1)
           (case z13 => repeat (first | exact (Kd.R_reads' HO528.1).2.2 | (with_reducible refine Kd.C_alloc ?_ _) | (with_reducible refine Kd.C_drewN ?_ _) | (with_reducible refine Kd.C_drew ?_)))
           (case z14 => exact (Kd.R_reads' HO528.1).2.1)
           rintro e w90 ⟨v530, rfl, ho0, hb⟩
           refine ⟨_, rfl, ?_⟩
           have n0_ := aM (Kd.R_elder' (by (with_reducible repeat first | apply rA1 | apply rN1 | apply rD1); exact HO522.1) (Kd.R_base ho0) hb)
           have n1_ := aM (Kd.R_elder' (by (with_reducible repeat first | apply rA1 | apply rN1 | apply rD1); exact HO525.1) (Kd.R_base ho0) hb)
           have n2_ := aM (Kd.R_elder' (by (with_reducible repeat first | apply rA1 | apply rN1 | apply rD1); exact HO528.1) (Kd.R_base ho0) hb)
           have n3_ := aM (Kd.R_lower (Kd.R_new' (Kd.R_new' (Kd.R_new' ho0 (Kd.R_lt (by (with_reducible repeat first | apply rA1 | apply rN1 | apply rD1); exact HO522.1))) (Kd.R_lt (by (with_reducible repeat first | apply rA1 | apply rN1 | apply rD1); exact HO525.1))) (Kd.R_lt (by (with_reducible repeat first | apply rA1 | apply rN1 | apply rD1); exact HO528.1))) (bSz (by repeat (first | (with_reducible first | exact HB.1 | apply bAl | apply pbN | apply bD1 | refine bSt ?_ GE511.1) | exact HB.1))))
           have n4_ := aM (blk_below (g := gb511) (o := .cells #[.slice P0 q0.length n0, .slice P1 q1.length n1, .slice P2 q2.length n2, .slice P3 q3.length n3, .slice P4 q4.length n4, .slice P5 q5.length n5] 27 (0, 0)) (by (with_reducible repeat (first | refine bkN ?_ _ | refine bkD ?_ | refine bkA ?_ _)); exact BK511.1) hb)
           have n5_ := aM (bSp (by repeat (first | (with_reducible first | exact HB.1 | apply bAl | apply pbN | apply bD1 | refine bSt ?_ GE511.1) | exact HB.1)) hb)
           clear HO522
           clear HO525
           clear HO528
           clear BK511
           clear HB
           have HO522 := n0_
           have HO525 := n1_
           have HO528 := n2_
           have HO531 := n3_
           have BK511 := n4_
           have HB := n5_
           clear n0_ n1_ n2_ n3_ n4_ n5_
           (try clear hb)
           (try clear hb2)
           (try clear hk)
           (try clear hi)
           (try clear ho0)
           refine hK.out _ _ ⟨v521, v524, .slice Ao89 y526.length co89, v530, m8_, m9_, (by rw [ha.out]; exact putSel_upk 5 hb_ rfl rfl rfl), (by (with_reducible repeat (first | refine bkN ?_ _ | refine bkD ?_ | refine bkA ?_ _)); exact BK511.1), (by repeat (first | (with_reducible first | exact HB.1 | apply bAl | apply pbN | apply bD1 | refine bSt ?_ GE511.1) | exact HB.1)), fun _ => (by (with_reducible repeat first | apply rA1 | apply rN1 | apply rD1); exact Kd.R_mono HO522.1 (fun _ hk => by first | trivial | exact ⟨hk.1.1, ⟨hk.1.2, hk.2⟩⟩)), fun _ => (by (with_reducible repeat first | apply rA1 | apply rN1 | apply rD1); exact Kd.R_mono HO525.1 (fun _ hk => by first | trivial | exact ⟨hk.1.1, ⟨hk.1.2, hk.2⟩⟩)), fun _ => (by (with_reducible repeat first | apply rA1 | apply rN1 | apply rD1); exact Kd.R_mono HO528.1 (fun _ hk => by first | trivial | exact ⟨hk.1.1, ⟨hk.1.2, hk.2⟩⟩)), fun _ => (by (with_reducible repeat first | apply rA1 | apply rN1 | apply rD1); exact Kd.R_mono HO531.1 (fun _ hk => by first | trivial | exact ⟨hk.1.1.2, ⟨hk.1.2, hk.2⟩⟩)), fun h0_ => absurd ((hoff 8 (by kernel_rfl)).symm.trans h0_) (by decide), fun h0_ => absurd ((hoff 9 (by kernel_rfl)).symm.trans h0_) (by decide)⟩
          refine steps_cons ?_ ?_
          ·rintro b a w' ⟨v521, v524, v527, v530, m8_, m9_, ha, Q_BK511, Q_HB, Q_HO522, Q_HO525, Q_HO528, Q_HO531, Q_X8_, Q_X9_⟩ hb_ hon hoff
           refine ⟨_, rfl, fun K hK => ?_⟩
           have e47 : a.tmps[47]? = some (v524) := by rw [ha]; exact putSel_on (e := (3, 47, v524)) 2 rfl rfl (hon 3 (by kernel_rfl)) rfl
           replace ha := aM ha
           have BK511 := aM Q_BK511
           have HB := aM Q_HB
           have HO522 := aM (Q_HO522 (hon 2 (by kernel_rfl)))
           have HO525 := aM (Q_HO525 (hon 3 (by kernel_rfl)))
           have HO528 := aM (Q_HO528 (hon 6 (by kernel_rfl)))
           have HO531 := aM (Q_HO531 (hon 7 (by kernel_rfl)))
           refine value_ (w1 := w') (v := v524) (by rfl) rfl ?_ ?_
           ·go_simp
            (try simp only [i64_w])
            try rfl
           refine hK.out _ _ ⟨v521, v524, v527, v530, (v524), m9_, (by rw [ha.out]; exact putSel_upk 6 hb_ rfl rfl rfl), Q_BK511, Q_HB, Q_HO522, Q_HO525, Q_HO528, Q_HO531, fun _ => rfl, fun h0_ => absurd ((hoff 9 (by kernel_rfl)).symm.trans h0_) (by decide)⟩
          refine steps_cons ?_ ?_
          ·rintro b a w' ⟨v521, v524, v527, v530, m8_, m9_, ha, Q_BK511, Q_HB, Q_HO522, Q_HO525, Q_HO528, Q_HO531, Q_X8_, Q_X9_⟩ hb_ hon hoff
           refine ⟨_, rfl, fun K hK => ?_⟩
           have e51 : a.tmps[51]? = some (v530) := by rw [ha]; exact putSel_on (e := (7, 51, v530)) 5 rfl rfl (hon 7 (by kernel_rfl)) rfl
           replace ha := aM ha
           have BK511 := aM Q_BK511
           have HB := aM Q_HB
           have HO522 := aM (Q_HO522 (hon 2 (by kernel_rfl)))
           have HO525 := aM (Q_HO525 (hon 3 (by kernel_rfl)))
           have HO528 := aM (Q_HO528 (hon 6 (by kernel_rfl)))
           have HO531 := aM (Q_HO531 (hon 7 (by kernel_rfl)))
           refine value_ (w1 := w') (v := v530) (by rfl) rfl ?_ ?_
           ·go_simp
            (try simp only [i64_w])
            try rfl
           refine hK.out _ _ ⟨v521, v524, v527, v530, m8_, (v530), (by rw [ha.out]; exact putSel_upk 7 hb_ rfl rfl rfl), Q_BK511, Q_HB, Q_HO522, Q_HO525, Q_HO528, Q_HO531, Q_X8_, fun _ => rfl⟩
          exact steps_nil
         rintro b a w90 hall ⟨v521, v524, v527, v530, m8_, m9_, ha, Q_BK511, Q_HB, Q_HO522, Q_HO525, Q_HO528, Q_HO531, Q_X8_, Q_X9_⟩
         clear BK511 HB
         have hb0_ := hall 0 (by kernel_rfl)
         have hb2_ := hall 2 (by kernel_rfl)
         have hb3_ := hall 3 (by kernel_rfl)
         have hb4_ := hall 4 (by kernel_rfl)
         have hb6_ := hall 6 (by kernel_rfl)
         have hb7_ := hall 7 (by kernel_rfl)
         have hb8_ := hall 8 (by kernel_rfl)
         have hb9_ := hall 9 (by kernel_rfl)
         subst ha
         obtain rfl := Q_X8_ hb8_
         obtain rfl := Q_X9_ hb9_
         simp only [putSel, hb0_, hb2_, hb3_, hb4_, hb6_, hb7_, hb8_, hb9_, if_true, Act.put, sI, sZ, sS]
         have BK511 := aM Q_BK511
         clear Q_BK511
         have HB := aM Q_HB
         clear Q_HB
         have HO522 := aM (Q_HO522 hb2_)
         clear Q_HO522
         have HO525 := aM (Q_HO525 hb3_)
         clear Q_HO525
         have HO528 := aM (Q_HO528 hb6_)
         clear Q_HO528
         have HO531 := aM (Q_HO531 hb7_)
         clear Q_HO531
         clear hall hb0_ hb2_ hb3_ hb4_ hb6_ hb7_ hb8_ hb9_
         obtain ⟨Ao91, co91, eo91⟩ := Kd.R_slice HO525.1
         subst eo91
         obtain ⟨Ao92, co92, eo92⟩ := Kd.R_slice HO531.1
         subst eo92
         have p536 : 0 ≤ (0 : Int) := (by omega)
         have q536 : 0 < (t529.length : Int) := oD (by first | (with_reducible assumption) | assumption)
         obtain ⟨ad536, e536, hx536_0⟩ := Kd.at_int (Kd.R_reads' HO531.1).2.2 0 p536 q536
         cases e536
         have qi536 : (0 < t529.length) = True := eq_true (by omega)
         (try rw [show ((0 : Int)).toNat = 0 from rfl] at hx536_0)
         (try rw [Addr.add_zero'] at hx536_0)
         replace p536 := eq_true p536
         replace q536 := eq_true q536
         try go_wp2_with (first | (go_at_call 14; (with_reducible refine (w37_alive.calls  t537 _ A80.1).mono ?_); rintro e w93 ⟨rfl, hb⟩; have n0_ := aM (Kd.R_below (by (with_reducible repeat first | apply rA1 | apply rN1 | apply rD1); exact HO522.1) hb); have n1_ := aM (Kd.R_below (by (with_reducible repeat first | apply rA1 | apply rN1 | apply rD1); exact HO525.1) hb); have n2_ := aM (Kd.R_below (by (with_reducible repeat first | apply rA1 | apply rN1 | apply rD1); exact HO528.1) hb); have n3_ := aM (Kd.R_below (by (with_reducible repeat first | apply rA1 | apply rN1 | apply rD1); exact HO531.1) hb); have n4_ := aM (blk_below (g := gb511) (o := .cells #[.slice P0 q0.length n0, .slice P1 q1.length n1, .slice P2 q2.length n2, .slice P3 q3.length n3, .slice P4 q4.length n4, .slice P5 q5.length n5] 27 (0, 0)) (by (with_reducible repeat (first | refine bkN ?_ _ | refine bkD ?_ | refine bkA ?_ _)); exact BK511.1) hb); have n5_ := aM (bSp (by repeat (first | (with_reducible first | exact HB.1 | apply bAl | apply pbN | apply bD1 | refine bSt ?_ GE511.1) | exact HB.1)) hb); clear HO522; clear HO525; clear HO528; clear HO531; clear BK511; clear HB; have HO522 := n0_; have HO525 := n1_; have HO528 := n2_; have HO531 := n3_; have BK511 := n4_; have HB := n5_; clear n0_ n1_ n2_ n3_ n4_ n5_; (try clear hb); (try clear hb2); (try clear hk); (try clear hi)))
         go_ret
         exact ⟨by first | rfl | (simp [eN, eS] <;> rfl) | (simp [*, eN, eS] <;> rfl), by repeat (first | (with_reducible first | exact HB.1 | apply bAl | apply pbN | apply bD1 | refine bSt ?_ GE511.1) | exact HB.1)⟩
        ·rw [if_neg c79] at H
         have c79b0 : ((rd t529 0) == t515) = false := beq_eq_false_iff_ne.mpr c79
         have c79b1 : ((rd t529 0) != t515) = true := bne_iff_ne.mpr c79
         obtain rfl := Option.some.inj H
         try go_wp2
         have n0_ := aM (bkD BK511.1)
         have n1_ := aM (bD1 HB.1)
         clear BK511
         clear HB
         have BK511 := n0_
         have HB := n1_
         clear n0_ n1_
         refine start_ (n := 10) (S := fun w' => True) (ds := []) #[false, false, false, false, false, false, false, false, false, false] (by kernel_rfl) rfl rfl trivial (fun hHeld => ?_); refine with_tabW w37_CasemapSimples.tab7 w37_CasemapSimples.bits7 (fun HT_ HW_ => ?_)
         generalize wc.drew = w94 at BK511 HB hHeld ⊢
         refine pure_ (i := 1) (N := some 45) (v := ?_) (a' := ?_) #[false, true, false, false, false, false, false, false, false, false] rfl rfl (any_of HT_.1 (by kernel_rfl)) (fun _ _ _ h => h) (Or.inl ⟨by rfl, ?_⟩) ?_ ?_
         rotate_left
         ·intro w'
          go_simp
          with_reducible rfl
         rotate_left
         ·simp only [Act.put, sI, sZ, sS, i64_w, i32_w]
          rfl
         refine pure_ (i := 5) (N := some 49) (v := ?_) (a' := ?_) #[false, true, false, false, false, true, false, false, false, false] rfl rfl (any_of HT_.1 (by kernel_rfl)) (fun _ _ _ h => h) (Or.inl ⟨by rfl, ?_⟩) ?_ ?_
         rotate_left
         ·intro w'
          go_simp
          with_reducible rfl
         rotate_left
         ·simp only [Act.put, sI, sZ, sS, i64_w, i32_w]
          rfl
         refine inv_at [0, 2, 3, 4, 6, 7, 8, 9] (fun a0_ b a w' => ∃ (v521 : Value) (v524 : Value) (v527 : Value) (v530 : Value) (m8_ : Value) (m9_ : Value), a = putSel a0_ b [(0, 44, .agg #[.slice P0 q0.length n0, .slice P1 q1.length n1, .slice P2 q2.length n2, .slice P3 q3.length n3, .slice P4 q4.length n4, .slice P5 q5.length n5]), (2, 46, v521), (3, 47, v524), (4, 48, .agg #[.slice P0 q0.length n0, .slice P1 q1.length n1, .slice P2 q2.length n2, .slice P3 q3.length n3, .slice P4 q4.length n4, .slice P5 q5.length n5]), (6, 50, v527), (7, 51, v530), (8, 11, m8_), (9, 12, m9_)] ∧ (w'.heap[gb511]? = some (.cells #[.slice P0 q0.length n0, .slice P1 q1.length n1, .slice P2 q2.length n2, .slice P3 q3.length n3, .slice P4 q4.length n4, .slice P5 q5.length n5] 27 (0, 0))) ∧ (Below w.heap.size w w') ∧ (b 2 = true → Kd.R (Kd.int .i64) 3 w' w.heap.size (fun _ => True) v521 y520) ∧ (b 3 = true → Kd.R (Kd.int .i64) 3 w' w.heap.size (fun _ => True) v524 t523) ∧ (b 6 = true → Kd.R (Kd.int .i64) 3 w' w.heap.size (fun _ => True) v527 y526) ∧ (b 7 = true → Kd.R (Kd.int .i64) 3 w' w.heap.size (fun _ => True) v530 t529) ∧ (b 8 = true → (m8_ : Value) = v524) ∧ (b 9 = true → (m9_ : Value) = v530)) HT_.1 HW_.1 (by kernel_rfl) (by kernel_rfl) ?_ ?_ ?_
         ·exact ⟨.bool false, .bool false, .bool false, .bool false, .bool false, .bool false, by simp only [putSel, Bool.false_eq_true, if_false], BK511.1, HB.1, fun h_ => absurd h_ (by decide), fun h_ => absurd h_ (by decide), fun h_ => absurd h_ (by decide), fun h_ => absurd h_ (by decide), fun h_ => absurd h_ (by decide), fun h_ => absurd h_ (by decide)⟩
         ·skip
          clear BK511 HB
          refine steps_cons ?_ ?_
          ·rintro b a w' ⟨v521, v524, v527, v530, m8_, m9_, ha, Q_BK511, Q_HB, Q_HO522, Q_HO525, Q_HO528, Q_HO531, Q_X8_, Q_X9_⟩ hb_ hon hoff
           refine ⟨_, rfl, fun K hK => ?_⟩
           have e2 : a.tmps[2]? = some (.pointer (some ⟨gb511, 0, none⟩)) := by rw [ha]; exact (putSel_off rfl).trans rfl
           replace ha := aM ha
           have BK511 := aM Q_BK511
           have HB := aM Q_HB
           have hc0_ : w'.cell? ⟨gb511, 0, none⟩ = some (.slice P0 q0.length n0) := (bkC BK511.1 0).trans rfl
           have hc1_ : w'.cell? ⟨gb511, 1, none⟩ = some (.slice P1 q1.length n1) := (bkC BK511.1 1).trans rfl
           have hc2_ : w'.cell? ⟨gb511, 2, none⟩ = some (.slice P2 q2.length n2) := (bkC BK511.1 2).trans rfl
           have hc3_ : w'.cell? ⟨gb511, 3, none⟩ = some (.slice P3 q3.length n3) := (bkC BK511.1 3).trans rfl
           have hc4_ : w'.cell? ⟨gb511, 4, none⟩ = some (.slice P4 q4.length n4) := (bkC BK511.1 4).trans rfl
           have hc5_ : w'.cell? ⟨gb511, 5, none⟩ = some (.slice P5 q5.length n5) := (bkC BK511.1 5).trans rfl
           refine value_ (w1 := w') (v := .agg #[.slice P0 q0.length n0, .slice P1 q1.length n1, .slice P2 q2.length n2, .slice P3 q3.length n3, .slice P4 q4.length n4, .slice P5 q5.length n5]) (by rfl) rfl ?_ ?_
           ·go_simp
            (try simp only [i64_w])
            try rfl
           refine hK.out _ _ ⟨v521, v524, v527, v530, m8_, m9_, (by rw [ha.out]; exact putSel_upk 0 hb_ rfl rfl rfl), Q_BK511, Q_HB, Q_HO522, fun h0_ => absurd ((hoff 3 (by kernel_rfl)).symm.trans h0_) (by decide), Q_HO528, fun h0_ => absurd ((hoff 7 (by kernel_rfl)).symm.trans h0_) (by decide), fun h0_ => absurd ((hoff 8 (by kernel_rfl)).symm.trans h0_) (by decide), fun h0_ => absurd ((hoff 9 (by kernel_rfl)).symm.trans h0_) (by decide)⟩
          refine steps_cons ?_ ?_
          ·rintro b a w' ⟨v521, v524, v527, v530, m8_, m9_, ha, Q_BK511, Q_HB, Q_HO522, Q_HO525, Q_HO528, Q_HO531, Q_X8_, Q_X9_⟩ hb_ hon hoff
           refine ⟨_, rfl, fun K hK => ?_⟩
           have e45 : a.tmps[45]? = some (.int .i64 a1) := by rw [ha]; exact (putSel_off rfl).trans rfl
           replace ha := aM ha
           have BK511 := aM Q_BK511
           have HB := aM Q_HB
           refine Kd.R_lit_step (Kd.int .i64) _ 3 ?hg (N := 46) ?hd (xs := ([a1] : List Int)) (inner := [.int .i64 a1]) (ok := fun _ => True) (okp := fun _ => True) ?hr ?hp (fun _ hk => hk) trivial (Below.refl _ _) (Nat.le_refl _) (by simp) ?_; (case hd => rfl); (case hg => rfl); (case hr => first | (go_simp; done) | (go_simp; rfl)); (case hp => exact (Reps.one (show Kd.M (Kd.int .i64) _ _ _ a1 [.int .i64 a1] from rfl) (Reps.none _ _)))
           intro v521 w95 ho96 hb hg_ hnew_
           clear hg_ hnew_
           (first | rw [← Ny520.1] at ho96 | (simp only [Int.reduceToNat] at ho96; rw [← Ny520.1] at ho96))
           have n0_ := aM (Kd.R_lower ho96 (bSz (by repeat (first | (with_reducible first | exact HB.1 | apply bAl | apply pbN | apply bD1 | refine bSt ?_ GE511.1) | exact HB.1))))
           have n1_ := aM (blk_below (g := gb511) (o := .cells #[.slice P0 q0.length n0, .slice P1 q1.length n1, .slice P2 q2.length n2, .slice P3 q3.length n3, .slice P4 q4.length n4, .slice P5 q5.length n5] 27 (0, 0)) (by (with_reducible repeat (first | refine bkN ?_ _ | refine bkD ?_ | refine bkA ?_ _)); exact BK511.1) hb)
           have n2_ := aM (bSp (by repeat (first | (with_reducible first | exact HB.1 | apply bAl | apply pbN | apply bD1 | refine bSt ?_ GE511.1) | exact HB.1)) hb)
           have z_HO528 := fun (h0_ : b 6 = true) => (show Kd.R (Kd.int .i64) 3 w95 w.heap.size (fun _ => True) v527 y526 from by first | exact (Kd.R_elder' (by (with_reducible repeat first | apply rA1 | apply rN1 | apply rD1); exact (Q_HO528 h0_)) (Kd.R_base ho96) hb) | exact Kd.R_mono (Kd.R_elder' (by (with_reducible repeat first | apply rA1 | apply rN1 | apply rD1); exact (Q_HO528 h0_)) (Kd.R_base ho96) hb) (fun _ h_ => by first | trivial | exact h_ | exact h_.1))
           clear BK511
           clear HB
           have HO522 := n0_
           have BK511 := n1_
           have HB := n2_
           clear n0_ n1_ n2_
           clear hb ho96
           refine hK.out _ _ ⟨v521, v524, v527, v530, m8_, m9_, (by rw [ha.out]; exact putSel_upk 1 hb_ rfl rfl rfl), (by (with_reducible repeat (first | refine bkN ?_ _ | refine bkD ?_ | refine bkA ?_ _)); exact BK511.1), (by repeat (first | (with_reducible first | exact HB.1 | apply bAl | apply pbN | apply bD1 | refine bSt ?_ GE511.1) | exact HB.1)), fun _ => (by (with_reducible repeat first | apply rA1 | apply rN1 | apply rD1); exact HO522.1), fun h0_ => absurd ((hoff 3 (by kernel_rfl)).symm.trans h0_) (by decide), z_HO528, fun h0_ => absurd ((hoff 7 (by kernel_rfl)).symm.trans h0_) (by decide), fun h0_ => absurd ((hoff 8 (by kernel_rfl)).symm.trans h0_) (by decide), fun h0_ => absurd ((hoff 9 (by kernel_rfl)).symm.trans h0_) (by decide)⟩
          refine steps_cons ?_ ?_
          ·rintro b a w' ⟨v521, v524, v527, v530, m8_, m9_, ha, Q_BK511, Q_HB, Q_HO522, Q_HO525, Q_HO528, Q_HO531, Q_X8_, Q_X9_⟩ hb_ hon hoff
           refine ⟨_, rfl, fun K hK => ?_⟩
           have e44 : a.tmps[44]? = some (.agg #[.slice P0 q0.length n0, .slice P1 q1.length n1, .slice P2 q2.length n2, .slice P3 q3.length n3, .slice P4 q4.length n4, .slice P5 q5.length n5]) := by rw [ha]; exact putSel_on (e := (0, 44, .agg #[.slice P0 q0.length n0, .slice P1 q1.length n1, .slice P2 q2.length n2, .slice P3 q3.length n3, .slice P4 q4.length n4, .slice P5 q5.length n5])) 0 rfl rfl (hon 0 (by kernel_rfl)) rfl
           have e46 : a.tmps[46]? = some (v521) := by rw [ha]; exact putSel_on (e := (2, 46, v521)) 1 rfl rfl (hon 2 (by kernel_rfl)) rfl
           replace ha := aM ha
           have BK511 := aM Q_BK511
           have HB := aM Q_HB
           have HO522 := aM (Q_HO522 (hon 2 (by kernel_rfl)))
           obtain ⟨Ao98, co98, eo98⟩ := Kd.R_slice HO522.1
           (first | subst eo98 | (injection eo98 with f1_ f2_ f3_; have f4_ := f1_.symm; have f5_ := f3_.symm; clear f1_ f2_ f3_; subst f4_; subst f5_))
           refine goes_ Try.func18 (by kernel_rfl) rfl #[.agg #[.slice P0 q0.length n0, .slice P1 q1.length n1, .slice P2 q2.length n2, .slice P3 q3.length n3, .slice P4 q4.length n4, .slice P5 q5.length n5], .slice Ao98 y520.length co98] (by rfl) rfl rfl (by first | (simp only [List.map_toArray, List.map_cons, List.map_nil, Act.eval, Array.getD_eq_getD_getElem?, Option.getD_some, e44, e46]; done) | (simp only [List.map_toArray, List.map_cons, List.map_nil, Act.eval, Array.getD_eq_getD_getElem?, Option.getD_some, e44, e46]; rfl)) ?_
           with_reducible refine (casemap_Lower.calls _ _ q0 _ _ q1 _ _ q2 _ _ q3 _ _ q4 _ _ q5 _ _ y520 t523 _ ?z1 ?z2 ?z3 ?z4 ?z5 ?z6 ?z7 ?z8 ?z9 ?z10 ?z11 ?z12 ?z13 ?z14 A18.1).mono ?_
           (case z1 => repeat (first | exact cB1 R0.1 HB.1 | with_reducible first | refine cA1 ?_ _ | refine cN1 ?_ _ | refine cD1 ?_))
           (case z2 => exact N0.1)
           (case z3 => repeat (first | exact cB1 R1.1 HB.1 | with_reducible first | refine cA1 ?_ _ | refine cN1 ?_ _ | refine cD1 ?_))
           (case z4 => exact N1.1)
           (case z5 => repeat (first | exact cB1 R2.1 HB.1 | with_reducible first | refine cA1 ?_ _ | refine cN1 ?_ _ | refine cD1 ?_))
           (case z6 => exact N2.1)
           (case z7 => repeat (first | exact cB1 R3.1 HB.1 | with_reducible first | refine cA1 ?_ _ | refine cN1 ?_ _ | refine cD1 ?_))
           (case z8 => exact N3.1)
           (case z9 => repeat (first | exact cB1 R4.1 HB.1 | with_reducible first | refine cA1 ?_ _ | refine cN1 ?_ _ | refine cD1 ?_))
           (case z10 => exact N4.1)
           (case z11 => repeat (first | exact cB1 R5.1 HB.1 | with_reducible first | refine cA1 ?_ _ | refine cN1 ?_ _ | refine cD1 ?_))
           (case z12 => exact N5.1)
           (case z13 => repeat (first | exact (Kd.R_reads' HO522.1).2.2 | (with_reducible refine Kd.C_alloc ?_ _) | (with_reducible refine Kd.C_drewN ?_ _) | (with_reducible refine Kd.C_drew ?_)))
           (case z14 => exact (Kd.R_reads' HO522.1).2.1)
           rintro e w99 ⟨v524, rfl, ho0, hb⟩
           refine ⟨_, rfl, ?_⟩
           have n0_ := aM (Kd.R_elder' (by (with_reducible repeat first | apply rA1 | apply rN1 | apply rD1); exact HO522.1) (Kd.R_base ho0) hb)
           have n1_ := aM (Kd.R_lower (Kd.R_new' ho0 (Kd.R_lt (by (with_reducible repeat first | apply rA1 | apply rN1 | apply rD1); exact HO522.1))) (bSz (by repeat (first | (with_reducible first | exact HB.1 | apply bAl | apply pbN | apply bD1 | refine bSt ?_ GE511.1) | exact HB.1))))
           have n2_ := aM (blk_below (g := gb511) (o := .cells #[.slice P0 q0.length n0, .slice P1 q1.length n1, .slice P2 q2.length n2, .slice P3 q3.length n3, .slice P4 q4.length n4, .slice P5 q5.length n5] 27 (0, 0)) (by (with_reducible repeat (first | refine bkN ?_ _ | refine bkD ?_ | refine bkA ?_ _)); exact BK511.1) hb)
           have n3_ := aM (bSp (by repeat (first | (with_reducible first | exact HB.1 | apply bAl | apply pbN | apply bD1 | refine bSt ?_ GE511.1) | exact HB.1)) hb)
           have z_HO528 := fun (h0_ : b 6 = true) => (show Kd.R (Kd.int .i64) 3 w99 w.heap.size (fun _ => True) v527 y526 from by first | exact (Kd.R_elder' (by (with_reducible repeat first | apply rA1 | apply rN1 | apply rD1); exact (Q_HO528 h0_)) (Kd.R_base ho0) hb) | exact Kd.R_mono (Kd.R_elder' (by (with_reducible repeat first | apply rA1 | apply rN1 | apply rD1); exact (Q_HO528 h0_)) (Kd.R_base ho0) hb) (fun _ h_ => by first | trivial | exact h_ | exact h_.1))
           clear HO522
           clear BK511
           clear HB
           have HO522 := n0_
           have HO525 := n1_
           have BK511 := n2_
           have HB := n3_
           clear n0_ n1_ n2_ n3_
           (try clear hb)
           (try clear hb2)
           (try clear hk)
           (try clear hi)
           (try clear ho0)
           refine hK.out _ _ ⟨.slice Ao98 y520.length co98, v524, v527, v530, m8_, m9_, (by rw [ha.out]; exact putSel_upk 2 hb_ rfl rfl rfl), (by (with_reducible repeat (first | refine bkN ?_ _ | refine bkD ?_ | refine bkA ?_ _)); exact BK511.1), (by repeat (first | (with_reducible first | exact HB.1 | apply bAl | apply pbN | apply bD1 | refine bSt ?_ GE511.1) | exact HB.1)), fun _ => (by (with_reducible repeat first | apply rA1 | apply rN1 | apply rD1); exact Kd.R_mono HO522.1 (fun _ hk => by first | trivial | exact hk.2)), fun _ => (by (with_reducible repeat first | apply rA1 | apply rN1 | apply rD1); exact Kd.R_mono HO525.1 (fun _ hk => by first | trivial | exact hk.2)), z_HO528, fun h0_ => absurd ((hoff 7 (by kernel_rfl)).symm.trans h0_) (by decide), fun h0_ => absurd ((hoff 8 (by kernel_rfl)).symm.trans h0_) (by decide), fun h0_ => absurd ((hoff 9 (by kernel_rfl)).symm.trans h0_) (by decide)⟩
          refine steps_cons ?_ ?_
          ·rintro b a w' ⟨v521, v524, v527, v530, m8_, m9_, ha, Q_BK511, Q_HB, Q_HO522, Q_HO525, Q_HO528, Q_HO531, Q_X8_, Q_X9_⟩ hb_ hon hoff
           refine ⟨_, rfl, fun K hK => ?_⟩
           have e2 : a.tmps[2]? = some (.pointer (some ⟨gb511, 0, none⟩)) := by rw [ha]; exact (putSel_off rfl).trans rfl
           replace ha := aM ha
           have BK511 := aM Q_BK511
           have HB := aM Q_HB
           have hc0_ : w'.cell? ⟨gb511, 0, none⟩ = some (.slice P0 q0.length n0) := (bkC BK511.1 0).trans rfl
           have hc1_ : w'.cell? ⟨gb511, 1, none⟩ = some (.slice P1 q1.length n1) := (bkC BK511.1 1).trans rfl
           have hc2_ : w'.cell? ⟨gb511, 2, none⟩ = some (.slice P2 q2.length n2) := (bkC BK511.1 2).trans rfl
           have hc3_ : w'.cell? ⟨gb511, 3, none⟩ = some (.slice P3 q3.length n3) := (bkC BK511.1 3).trans rfl
           have hc4_ : w'.cell? ⟨gb511, 4, none⟩ = some (.slice P4 q4.length n4) := (bkC BK511.1 4).trans rfl
           have hc5_ : w'.cell? ⟨gb511, 5, none⟩ = some (.slice P5 q5.length n5) := (bkC BK511.1 5).trans rfl
           refine value_ (w1 := w') (v := .agg #[.slice P0 q0.length n0, .slice P1 q1.length n1, .slice P2 q2.length n2, .slice P3 q3.length n3, .slice P4 q4.length n4, .slice P5 q5.length n5]) (by rfl) rfl ?_ ?_
           ·go_simp
            (try simp only [i64_w])
            try rfl
           refine hK.out _ _ ⟨v521, v524, v527, v530, m8_, m9_, (by rw [ha.out]; exact putSel_upk 3 hb_ rfl rfl rfl), Q_BK511, Q_HB, Q_HO522, Q_HO525, Q_HO528, fun h0_ => absurd ((hoff 7 (by kernel_rfl)).symm.trans h0_) (by decide), fun h0_ => absurd ((hoff 8 (by kernel_rfl)).symm.trans h0_) (by decide), fun h0_ => absurd ((hoff 9 (by kernel_rfl)).symm.trans h0_) (by decide)⟩
          refine steps_cons ?_ ?_
          ·rintro b a w' ⟨v521, v524, v527, v530, m8_, m9_, ha, Q_BK511, Q_HB, Q_HO522, Q_HO525, Q_HO528, Q_HO531, Q_X8_, Q_X9_⟩ hb_ hon hoff
           refine ⟨_, rfl, fun K hK => ?_⟩
           have e49 : a.tmps[49]? = some (.int .i64 a1) := by rw [ha]; exact (putSel_off rfl).trans rfl
           replace ha := aM ha
           have BK511 := aM Q_BK511
           have HB := aM Q_HB
           refine Kd.R_lit_step (Kd.int .i64) _ 3 ?hg (N := 50) ?hd (xs := ([a1] : List Int)) (inner := [.int .i64 a1]) (ok := fun _ => True) (okp := fun _ => True) ?hr ?hp (fun _ hk => hk) trivial (Below.refl _ _) (Nat.le_refl _) (by simp) ?_; (case hd => rfl); (case hg => rfl); (case hr => first | (go_simp; done) | (go_simp; rfl)); (case hp => exact (Reps.one (show Kd.M (Kd.int .i64) _ _ _ a1 [.int .i64 a1] from rfl) (Reps.none _ _)))
           intro v527 w95 ho96 hb hg_ hnew_
           clear hg_ hnew_
           (first | rw [← Ny526.1] at ho96 | (simp only [Int.reduceToNat] at ho96; rw [← Ny526.1] at ho96))
           have n0_ := aM (Kd.R_lower ho96 (bSz (by repeat (first | (with_reducible first | exact HB.1 | apply bAl | apply pbN | apply bD1 | refine bSt ?_ GE511.1) | exact HB.1))))
           have n1_ := aM (blk_below (g := gb511) (o := .cells #[.slice P0 q0.length n0, .slice P1 q1.length n1, .slice P2 q2.length n2, .slice P3 q3.length n3, .slice P4 q4.length n4, .slice P5 q5.length n5] 27 (0, 0)) (by (with_reducible repeat (first | refine bkN ?_ _ | refine bkD ?_ | refine bkA ?_ _)); exact BK511.1) hb)
           have n2_ := aM (bSp (by repeat (first | (with_reducible first | exact HB.1 | apply bAl | apply pbN | apply bD1 | refine bSt ?_ GE511.1) | exact HB.1)) hb)
           have z_HO522 := fun (h0_ : b 2 = true) => (show Kd.R (Kd.int .i64) 3 w95 w.heap.size (fun _ => True) v521 y520 from by first | exact (Kd.R_elder' (by (with_reducible repeat first | apply rA1 | apply rN1 | apply rD1); exact (Q_HO522 h0_)) (Kd.R_base ho96) hb) | exact Kd.R_mono (Kd.R_elder' (by (with_reducible repeat first | apply rA1 | apply rN1 | apply rD1); exact (Q_HO522 h0_)) (Kd.R_base ho96) hb) (fun _ h_ => by first | trivial | exact h_ | exact h_.1))
           have z_HO525 := fun (h0_ : b 3 = true) => (show Kd.R (Kd.int .i64) 3 w95 w.heap.size (fun _ => True) v524 t523 from by first | exact (Kd.R_elder' (by (with_reducible repeat first | apply rA1 | apply rN1 | apply rD1); exact (Q_HO525 h0_)) (Kd.R_base ho96) hb) | exact Kd.R_mono (Kd.R_elder' (by (with_reducible repeat first | apply rA1 | apply rN1 | apply rD1); exact (Q_HO525 h0_)) (Kd.R_base ho96) hb) (fun _ h_ => by first | trivial | exact h_ | exact h_.1))
           clear BK511
           clear HB
           have HO528 := n0_
           have BK511 := n1_
           have HB := n2_
           clear n0_ n1_ n2_
           clear hb ho96
           refine hK.out _ _ ⟨v521, v524, v527, v530, m8_, m9_, (by rw [ha.out]; exact putSel_upk 4 hb_ rfl rfl rfl), (by (with_reducible repeat (first | refine bkN ?_ _ | refine bkD ?_ | refine bkA ?_ _)); exact BK511.1), (by repeat (first | (with_reducible first | exact HB.1 | apply bAl | apply pbN | apply bD1 | refine bSt ?_ GE511.1) | exact HB.1)), z_HO522, z_HO525, fun _ => (by (with_reducible repeat first | apply rA1 | apply rN1 | apply rD1); exact HO528.1), fun h0_ => absurd ((hoff 7 (by kernel_rfl)).symm.trans h0_) (by decide), fun h0_ => absurd ((hoff 8 (by kernel_rfl)).symm.trans h0_) (by decide), fun h0_ => absurd ((hoff 9 (by kernel_rfl)).symm.trans h0_) (by decide)⟩
          refine steps_cons ?_ ?_
          ·rintro b a w' ⟨v521, v524, v527, v530, m8_, m9_, ha, Q_BK511, Q_HB, Q_HO522, Q_HO525, Q_HO528, Q_HO531, Q_X8_, Q_X9_⟩ hb_ hon hoff
           refine ⟨_, rfl, fun K hK => ?_⟩
           have e48 : a.tmps[48]? = some (.agg #[.slice P0 q0.length n0, .slice P1 q1.length n1, .slice P2 q2.length n2, .slice P3 q3.length n3, .slice P4 q4.length n4, .slice P5 q5.length n5]) := by rw [ha]; exact putSel_on (e := (4, 48, .agg #[.slice P0 q0.length n0, .slice P1 q1.length n1, .slice P2 q2.length n2, .slice P3 q3.length n3, .slice P4 q4.length n4, .slice P5 q5.length n5])) 3 rfl rfl (hon 4 (by kernel_rfl)) rfl
           have e50 : a.tmps[50]? = some (v527) := by rw [ha]; exact putSel_on (e := (6, 50, v527)) 4 rfl rfl (hon 6 (by kernel_rfl)) rfl
           replace ha := aM ha
           have BK511 := aM Q_BK511
           have HB := aM Q_HB
           have HO522 := aM (Q_HO522 (hon 2 (by kernel_rfl)))
           have HO525 := aM (Q_HO525 (hon 3 (by kernel_rfl)))
           have HO528 := aM (Q_HO528 (hon 6 (by kernel_rfl)))
           obtain ⟨Ao102, co102, eo102⟩ := Kd.R_slice HO528.1
           (first | subst eo102 | (injection eo102 with f1_ f2_ f3_; have f4_ := f1_.symm; have f5_ := f3_.symm; clear f1_ f2_ f3_; subst f4_; subst f5_))
           refine goes_ Try.func19 (by kernel_rfl) rfl #[.agg #[.slice P0 q0.length n0, .slice P1 q1.length n1, .slice P2 q2.length n2, .slice P3 q3.length n3, .slice P4 q4.length n4, .slice P5 q5.length n5], .slice Ao102 y526.length co102] (by rfl) rfl rfl (by first | (simp only [List.map_toArray, List.map_cons, List.map_nil, Act.eval, Array.getD_eq_getD_getElem?, Option.getD_some, e48, e50]; done) | (simp only [List.map_toArray, List.map_cons, List.map_nil, Act.eval, Array.getD_eq_getD_getElem?, Option.getD_some, e48, e50]; rfl)) ?_
           with_reducible refine (casemap_Upper.calls _ _ q0 _ _ q1 _ _ q2 _ _ q3 _ _ q4 _ _ q5 _ _ y526 t529 _ ?z1 ?z2 ?z3 ?z4 ?z5 ?z6 ?z7 ?z8 ?z9 ?z10 ?z11 ?z12 ?z13 ?z14 A19.1).mono ?_
           (case z1 => repeat (first | exact cB1 R0.1 HB.1 | with_reducible first | refine cA1 ?_ _ | refine cN1 ?_ _ | refine cD1 ?_))
           (case z2 => exact N0.1)
           (case z3 => repeat (first | exact cB1 R1.1 HB.1 | with_reducible first | refine cA1 ?_ _ | refine cN1 ?_ _ | refine cD1 ?_))
           (case z4 => exact N1.1)
           (case z5 => repeat (first | exact cB1 R2.1 HB.1 | with_reducible first | refine cA1 ?_ _ | refine cN1 ?_ _ | refine cD1 ?_))
           (case z6 => exact N2.1)
           (case z7 => repeat (first | exact cB1 R3.1 HB.1 | with_reducible first | refine cA1 ?_ _ | refine cN1 ?_ _ | refine cD1 ?_))
           (case z8 => exact N3.1)
           (case z9 => repeat (first | exact cB1 R4.1 HB.1 | with_reducible first | refine cA1 ?_ _ | refine cN1 ?_ _ | refine cD1 ?_))
           (case z10 => exact N4.1)
           (case z11 => repeat (first | exact cB1 R5.1 HB.1 | with_reducible first | refine cA1 ?_ _ | refine cN1 ?_ _ | refine cD1 ?_))
           (case z12 => exact N5.1)
           (case z13 => repeat (first | exact (Kd.R_reads' HO528.1).2.2 | (with_reducible refine Kd.C_alloc ?_ _) | (with_reducible refine Kd.C_drewN ?_ _) | (with_reducible refine Kd.C_drew ?_)))
           (case z14 => exact (Kd.R_reads' HO528.1).2.1)
           rintro e w103 ⟨v530, rfl, ho0, hb⟩
           refine ⟨_, rfl, ?_⟩
           have n0_ := aM (Kd.R_elder' (by (with_reducible repeat first | apply rA1 | apply rN1 | apply rD1); exact HO522.1) (Kd.R_base ho0) hb)
           have n1_ := aM (Kd.R_elder' (by (with_reducible repeat first | apply rA1 | apply rN1 | apply rD1); exact HO525.1) (Kd.R_base ho0) hb)
           have n2_ := aM (Kd.R_elder' (by (with_reducible repeat first | apply rA1 | apply rN1 | apply rD1); exact HO528.1) (Kd.R_base ho0) hb)
           have n3_ := aM (Kd.R_lower (Kd.R_new' (Kd.R_new' (Kd.R_new' ho0 (Kd.R_lt (by (with_reducible repeat first | apply rA1 | apply rN1 | apply rD1); exact HO522.1))) (Kd.R_lt (by (with_reducible repeat first | apply rA1 | apply rN1 | apply rD1); exact HO525.1))) (Kd.R_lt (by (with_reducible repeat first | apply rA1 | apply rN1 | apply rD1); exact HO528.1))) (bSz (by repeat (first | (with_reducible first | exact HB.1 | apply bAl | apply pbN | apply bD1 | refine bSt ?_ GE511.1) | exact HB.1))))
           have n4_ := aM (blk_below (g := gb511) (o := .cells #[.slice P0 q0.length n0, .slice P1 q1.length n1, .slice P2 q2.length n2, .slice P3 q3.length n3, .slice P4 q4.length n4, .slice P5 q5.length n5] 27 (0, 0)) (by (with_reducible repeat (first | refine bkN ?_ _ | refine bkD ?_ | refine bkA ?_ _)); exact BK511.1) hb)
           have n5_ := aM (bSp (by repeat (first | (with_reducible first | exact HB.1 | apply bAl | apply pbN | apply bD1 | refine bSt ?_ GE511.1) | exact HB.1)) hb)
           clear HO522
           clear HO525
           clear HO528
           clear BK511
           clear HB
           have HO522 := n0_
           have HO525 := n1_
           have HO528 := n2_
           have HO531 := n3_
           have BK511 := n4_
           have HB := n5_
           clear n0_ n1_ n2_ n3_ n4_ n5_
           (try clear hb)
           (try clear hb2)
           (try clear hk)
           (try clear hi)
           (try clear ho0)
           refine hK.out _ _ ⟨v521, v524, .slice Ao102 y526.length co102, v530, m8_, m9_, (by rw [ha.out]; exact putSel_upk 5 hb_ rfl rfl rfl), (by (with_reducible repeat (first | refine bkN ?_ _ | refine bkD ?_ | refine bkA ?_ _)); exact BK511.1), (by repeat (first | (with_reducible first | exact HB.1 | apply bAl | apply pbN | apply bD1 | refine bSt ?_ GE511.1) | exact HB.1)), fun _ => (by (with_reducible repeat first | apply rA1 | apply rN1 | apply rD1); exact Kd.R_mono HO522.1 (fun _ hk => by first | trivial | exact ⟨hk.1.1, ⟨hk.1.2, hk.2⟩⟩)), fun _ => (by (with_reducible repeat first | apply rA1 | apply rN1 | apply rD1); exact Kd.R_mono HO525.1 (fun _ hk => by first | trivial | exact ⟨hk.1.1, ⟨hk.1.2, hk.2⟩⟩)), fun _ => (by (with_reducible repeat first | apply rA1 | apply rN1 | apply rD1); exact Kd.R_mono HO528.1 (fun _ hk => by first | trivial | exact ⟨hk.1.1, ⟨hk.1.2, hk.2⟩⟩)), fun _ => (by (with_reducible repeat first | apply rA1 | apply rN1 | apply rD1); exact Kd.R_mono HO531.1 (fun _ hk => by first | trivial | exact ⟨hk.1.1.2, ⟨hk.1.2, hk.2⟩⟩)), fun h0_ => absurd ((hoff 8 (by kernel_rfl)).symm.trans h0_) (by decide), fun h0_ => absurd ((hoff 9 (by kernel_rfl)).symm.trans h0_) (by decide)⟩
          refine steps_cons ?_ ?_
          ·rintro b a w' ⟨v521, v524, v527, v530, m8_, m9_, ha, Q_BK511, Q_HB, Q_HO522, Q_HO525, Q_HO528, Q_HO531, Q_X8_, Q_X9_⟩ hb_ hon hoff
           refine ⟨_, rfl, fun K hK => ?_⟩
           have e47 : a.tmps[47]? = some (v524) := by rw [ha]; exact putSel_on (e := (3, 47, v524)) 2 rfl rfl (hon 3 (by kernel_rfl)) rfl
           replace ha := aM ha
           have BK511 := aM Q_BK511
           have HB := aM Q_HB
           have HO522 := aM (Q_HO522 (hon 2 (by kernel_rfl)))
           have HO525 := aM (Q_HO525 (hon 3 (by kernel_rfl)))
           have HO528 := aM (Q_HO528 (hon 6 (by kernel_rfl)))
           have HO531 := aM (Q_HO531 (hon 7 (by kernel_rfl)))
           refine value_ (w1 := w') (v := v524) (by rfl) rfl ?_ ?_
           ·go_simp
            (try simp only [i64_w])
            try rfl
           refine hK.out _ _ ⟨v521, v524, v527, v530, (v524), m9_, (by rw [ha.out]; exact putSel_upk 6 hb_ rfl rfl rfl), Q_BK511, Q_HB, Q_HO522, Q_HO525, Q_HO528, Q_HO531, fun _ => rfl, fun h0_ => absurd ((hoff 9 (by kernel_rfl)).symm.trans h0_) (by decide)⟩
          refine steps_cons ?_ ?_
          ·rintro b a w' ⟨v521, v524, v527, v530, m8_, m9_, ha, Q_BK511, Q_HB, Q_HO522, Q_HO525, Q_HO528, Q_HO531, Q_X8_, Q_X9_⟩ hb_ hon hoff
           refine ⟨_, rfl, fun K hK => ?_⟩
           have e51 : a.tmps[51]? = some (v530) := by rw [ha]; exact putSel_on (e := (7, 51, v530)) 5 rfl rfl (hon 7 (by kernel_rfl)) rfl
           replace ha := aM ha
           have BK511 := aM Q_BK511
           have HB := aM Q_HB
           have HO522 := aM (Q_HO522 (hon 2 (by kernel_rfl)))
           have HO525 := aM (Q_HO525 (hon 3 (by kernel_rfl)))
           have HO528 := aM (Q_HO528 (hon 6 (by kernel_rfl)))
           have HO531 := aM (Q_HO531 (hon 7 (by kernel_rfl)))
           refine value_ (w1 := w') (v := v530) (by rfl) rfl ?_ ?_
           ·go_simp
            (try simp only [i64_w])
            try rfl
           refine hK.out _ _ ⟨v521, v524, v527, v530, m8_, (v530), (by rw [ha.out]; exact putSel_upk 7 hb_ rfl rfl rfl), Q_BK511, Q_HB, Q_HO522, Q_HO525, Q_HO528, Q_HO531, Q_X8_, fun _ => rfl⟩
          exact steps_nil
         rintro b a w103 hall ⟨v521, v524, v527, v530, m8_, m9_, ha, Q_BK511, Q_HB, Q_HO522, Q_HO525, Q_HO528, Q_HO531, Q_X8_, Q_X9_⟩
         clear BK511 HB
         have hb0_ := hall 0 (by kernel_rfl)
         have hb2_ := hall 2 (by kernel_rfl)
         have hb3_ := hall 3 (by kernel_rfl)
         have hb4_ := hall 4 (by kernel_rfl)
         have hb6_ := hall 6 (by kernel_rfl)
         have hb7_ := hall 7 (by kernel_rfl)
         have hb8_ := hall 8 (by kernel_rfl)
         have hb9_ := hall 9 (by kernel_rfl)
         subst ha
         obtain rfl := Q_X8_ hb8_
         obtain rfl := Q_X9_ hb9_
         simp only [putSel, hb0_, hb2_, hb3_, hb4_, hb6_, hb7_, hb8_, hb9_, if_true, Act.put, sI, sZ, sS]
         have BK511 := aM Q_BK511
         clear Q_BK511
         have HB := aM Q_HB
         clear Q_HB
         have HO522 := aM (Q_HO522 hb2_)
         clear Q_HO522
         have HO525 := aM (Q_HO525 hb3_)
         clear Q_HO525
         have HO528 := aM (Q_HO528 hb6_)
         clear Q_HO528
         have HO531 := aM (Q_HO531 hb7_)
         clear Q_HO531
         clear hall hb0_ hb2_ hb3_ hb4_ hb6_ hb7_ hb8_ hb9_
         obtain ⟨Ao104, co104, eo104⟩ := Kd.R_slice HO525.1
         subst eo104
         obtain ⟨Ao105, co105, eo105⟩ := Kd.R_slice HO531.1
         subst eo105
         have p536 : 0 ≤ (0 : Int) := (by omega)
         have q536 : 0 < (t529.length : Int) := oD (by first | (with_reducible assumption) | assumption)
         obtain ⟨ad536, e536, hx536_0⟩ := Kd.at_int (Kd.R_reads' HO531.1).2.2 0 p536 q536
         cases e536
         have qi536 : (0 < t529.length) = True := eq_true (by omega)
         (try rw [show ((0 : Int)).toNat = 0 from rfl] at hx536_0)
         (try rw [Addr.add_zero'] at hx536_0)
         replace p536 := eq_true p536
         replace q536 := eq_true q536
         try go_wp2
         go_ret
         exact ⟨by first | rfl | (simp [eN, eS] <;> rfl) | (simp [*, eN, eS] <;> rfl), by repeat (first | (with_reducible first | exact HB.1 | apply bAl | apply pbN | apply bD1 | refine bSt ?_ GE511.1) | exact HB.1)⟩
       ·rw [if_neg c78] at H
        exact absurd H (by simp)
      ·rw [if_neg c77] at H
       have c77b0 : ((t529.length : Int) == 1) = false := beq_eq_false_iff_ne.mpr c77
       have c77b1 : ((t529.length : Int) != 1) = true := bne_iff_ne.mpr c77
       replace H := Option.bind_eq_some_iff.mp H
       obtain ⟨t538, A1060, H⟩ := H
       replace H : (some t538) = some r := H
       have A106 := aM A1060
       clear A1060
       obtain rfl := Option.some.inj H
       try go_wp2
       have n0_ := aM (bkD BK511.1)
       have n1_ := aM (bD1 HB.1)
       clear BK511
       clear HB
       have BK511 := n0_
       have HB := n1_
       clear n0_ n1_
       refine start_ (n := 10) (S := fun w' => True) (ds := []) #[false, false, false, false, false, false, false, false, false, false] (by kernel_rfl) rfl rfl trivial (fun hHeld => ?_); refine with_tabW w37_CasemapSimples.tab7 w37_CasemapSimples.bits7 (fun HT_ HW_ => ?_)
       generalize wc.drew = w107 at BK511 HB hHeld ⊢
       refine pure_ (i := 1) (N := some 45) (v := ?_) (a' := ?_) #[false, true, false, false, false, false, false, false, false, false] rfl rfl (any_of HT_.1 (by kernel_rfl)) (fun _ _ _ h => h) (Or.inl ⟨by rfl, ?_⟩) ?_ ?_
       rotate_left
       ·intro w'
        go_simp
        with_reducible rfl
       rotate_left
       ·simp only [Act.put, sI, sZ, sS, i64_w, i32_w]
        rfl
       refine pure_ (i := 5) (N := some 49) (v := ?_) (a' := ?_) #[false, true, false, false, false, true, false, false, false, false] rfl rfl (any_of HT_.1 (by kernel_rfl)) (fun _ _ _ h => h) (Or.inl ⟨by rfl, ?_⟩) ?_ ?_
       rotate_left
       ·intro w'
        go_simp
        with_reducible rfl
       rotate_left
       ·simp only [Act.put, sI, sZ, sS, i64_w, i32_w]
        rfl
       refine inv_at [0, 2, 3, 4, 6, 7, 8, 9] (fun a0_ b a w' => ∃ (v521 : Value) (v524 : Value) (v527 : Value) (v530 : Value) (m8_ : Value) (m9_ : Value), a = putSel a0_ b [(0, 44, .agg #[.slice P0 q0.length n0, .slice P1 q1.length n1, .slice P2 q2.length n2, .slice P3 q3.length n3, .slice P4 q4.length n4, .slice P5 q5.length n5]), (2, 46, v521), (3, 47, v524), (4, 48, .agg #[.slice P0 q0.length n0, .slice P1 q1.length n1, .slice P2 q2.length n2, .slice P3 q3.length n3, .slice P4 q4.length n4, .slice P5 q5.length n5]), (6, 50, v527), (7, 51, v530), (8, 11, m8_), (9, 12, m9_)] ∧ (w'.heap[gb511]? = some (.cells #[.slice P0 q0.length n0, .slice P1 q1.length n1, .slice P2 q2.length n2, .slice P3 q3.length n3, .slice P4 q4.length n4, .slice P5 q5.length n5] 27 (0, 0))) ∧ (Below w.heap.size w w') ∧ (b 2 = true → Kd.R (Kd.int .i64) 3 w' w.heap.size (fun _ => True) v521 y520) ∧ (b 3 = true → Kd.R (Kd.int .i64) 3 w' w.heap.size (fun _ => True) v524 t523) ∧ (b 6 = true → Kd.R (Kd.int .i64) 3 w' w.heap.size (fun _ => True) v527 y526) ∧ (b 7 = true → Kd.R (Kd.int .i64) 3 w' w.heap.size (fun _ => True) v530 t529) ∧ (b 8 = true → (m8_ : Value) = v524) ∧ (b 9 = true → (m9_ : Value) = v530)) HT_.1 HW_.1 (by kernel_rfl) (by kernel_rfl) ?_ ?_ ?_
       ·exact ⟨.bool false, .bool false, .bool false, .bool false, .bool false, .bool false, by simp only [putSel, Bool.false_eq_true, if_false], BK511.1, HB.1, fun h_ => absurd h_ (by decide), fun h_ => absurd h_ (by decide), fun h_ => absurd h_ (by decide), fun h_ => absurd h_ (by decide), fun h_ => absurd h_ (by decide), fun h_ => absurd h_ (by decide)⟩
       ·skip
        clear BK511 HB
        refine steps_cons ?_ ?_
        ·rintro b a w' ⟨v521, v524, v527, v530, m8_, m9_, ha, Q_BK511, Q_HB, Q_HO522, Q_HO525, Q_HO528, Q_HO531, Q_X8_, Q_X9_⟩ hb_ hon hoff
         refine ⟨_, rfl, fun K hK => ?_⟩
         have e2 : a.tmps[2]? = some (.pointer (some ⟨gb511, 0, none⟩)) := by rw [ha]; exact (putSel_off rfl).trans rfl
         replace ha := aM ha
         have BK511 := aM Q_BK511
         have HB := aM Q_HB
         have hc0_ : w'.cell? ⟨gb511, 0, none⟩ = some (.slice P0 q0.length n0) := (bkC BK511.1 0).trans rfl
         have hc1_ : w'.cell? ⟨gb511, 1, none⟩ = some (.slice P1 q1.length n1) := (bkC BK511.1 1).trans rfl
         have hc2_ : w'.cell? ⟨gb511, 2, none⟩ = some (.slice P2 q2.length n2) := (bkC BK511.1 2).trans rfl
         have hc3_ : w'.cell? ⟨gb511, 3, none⟩ = some (.slice P3 q3.length n3) := (bkC BK511.1 3).trans rfl
         have hc4_ : w'.cell? ⟨gb511, 4, none⟩ = some (.slice P4 q4.length n4) := (bkC BK511.1 4).trans rfl
         have hc5_ : w'.cell? ⟨gb511, 5, none⟩ = some (.slice P5 q5.length n5) := (bkC BK511.1 5).trans rfl
         refine value_ (w1 := w') (v := .agg #[.slice P0 q0.length n0, .slice P1 q1.length n1, .slice P2 q2.length n2, .slice P3 q3.length n3, .slice P4 q4.length n4, .slice P5 q5.length n5]) (by rfl) rfl ?_ ?_
         ·go_simp
          (try simp only [i64_w])
          try rfl
         refine hK.out _ _ ⟨v521, v524, v527, v530, m8_, m9_, (by rw [ha.out]; exact putSel_upk 0 hb_ rfl rfl rfl), Q_BK511, Q_HB, Q_HO522, fun h0_ => absurd ((hoff 3 (by kernel_rfl)).symm.trans h0_) (by decide), Q_HO528, fun h0_ => absurd ((hoff 7 (by kernel_rfl)).symm.trans h0_) (by decide), fun h0_ => absurd ((hoff 8 (by kernel_rfl)).symm.trans h0_) (by decide), fun h0_ => absurd ((hoff 9 (by kernel_rfl)).symm.trans h0_) (by decide)⟩
        refine steps_cons ?_ ?_
        ·rintro b a w' ⟨v521, v524, v527, v530, m8_, m9_, ha, Q_BK511, Q_HB, Q_HO522, Q_HO525, Q_HO528, Q_HO531, Q_X8_, Q_X9_⟩ hb_ hon hoff
         refine ⟨_, rfl, fun K hK => ?_⟩
         have e45 : a.tmps[45]? = some (.int .i64 a1) := by rw [ha]; exact (putSel_off rfl).trans rfl
         replace ha := aM ha
         have BK511 := aM Q_BK511
         have HB := aM Q_HB
         refine Kd.R_lit_step (Kd.int .i64) _ 3 ?hg (N := 46) ?hd (xs := ([a1] : List Int)) (inner := [.int .i64 a1]) (ok := fun _ => True) (okp := fun _ => True) ?hr ?hp (fun _ hk => hk) trivial (Below.refl _ _) (Nat.le_refl _) (by simp) ?_; (case hd => rfl); (case hg => rfl); (case hr => first | (go_simp; done) | (go_simp; rfl)); (case hp => exact (Reps.one (show Kd.M (Kd.int .i64) _ _ _ a1 [.int .i64 a1] from rfl) (Reps.none _ _)))
         intro v521 w108 ho109 hb hg_ hnew_
         clear hg_ hnew_
         (first | rw [← Ny520.1] at ho109 | (simp only [Int.reduceToNat] at ho109; rw [← Ny520.1] at ho109))
         have n0_ := aM (Kd.R_lower ho109 (bSz (by repeat (first | (with_reducible first | exact HB.1 | apply bAl | apply pbN | apply bD1 | refine bSt ?_ GE511.1) | exact HB.1))))
         have n1_ := aM (blk_below (g := gb511) (o := .cells #[.slice P0 q0.length n0, .slice P1 q1.length n1, .slice P2 q2.length n2, .slice P3 q3.length n3, .slice P4 q4.length n4, .slice P5 q5.length n5] 27 (0, 0)) (by (with_reducible repeat (first | refine bkN ?_ _ | refine bkD ?_ | refine bkA ?_ _)); exact BK511.1) hb)
         have n2_ := aM (bSp (by repeat (first | (with_reducible first | exact HB.1 | apply bAl | apply pbN | apply bD1 | refine bSt ?_ GE511.1) | exact HB.1)) hb)
         have z_HO528 := fun (h0_ : b 6 = true) => (show Kd.R (Kd.int .i64) 3 w108 w.heap.size (fun _ => True) v527 y526 from by first | exact (Kd.R_elder' (by (with_reducible repeat first | apply rA1 | apply rN1 | apply rD1); exact (Q_HO528 h0_)) (Kd.R_base ho109) hb) | exact Kd.R_mono (Kd.R_elder' (by (with_reducible repeat first | apply rA1 | apply rN1 | apply rD1); exact (Q_HO528 h0_)) (Kd.R_base ho109) hb) (fun _ h_ => by first | trivial | exact h_ | exact h_.1))
         clear BK511
         clear HB
         have HO522 := n0_
         have BK511 := n1_
         have HB := n2_
         clear n0_ n1_ n2_
         clear hb ho109
         refine hK.out _ _ ⟨v521, v524, v527, v530, m8_, m9_, (by rw [ha.out]; exact putSel_upk 1 hb_ rfl rfl rfl), (by (with_reducible repeat (first | refine bkN ?_ _ | refine bkD ?_ | refine bkA ?_ _)); exact BK511.1), (by repeat (first | (with_reducible first | exact HB.1 | apply bAl | apply pbN | apply bD1 | refine bSt ?_ GE511.1) | exact HB.1)), fun _ => (by (with_reducible repeat first | apply rA1 | apply rN1 | apply rD1); exact HO522.1), fun h0_ => absurd ((hoff 3 (by kernel_rfl)).symm.trans h0_) (by decide), z_HO528, fun h0_ => absurd ((hoff 7 (by kernel_rfl)).symm.trans h0_) (by decide), fun h0_ => absurd ((hoff 8 (by kernel_rfl)).symm.trans h0_) (by decide), fun h0_ => absurd ((hoff 9 (by kernel_rfl)).symm.trans h0_) (by decide)⟩
        refine steps_cons ?_ ?_
        ·rintro b a w' ⟨v521, v524, v527, v530, m8_, m9_, ha, Q_BK511, Q_HB, Q_HO522, Q_HO525, Q_HO528, Q_HO531, Q_X8_, Q_X9_⟩ hb_ hon hoff
         refine ⟨_, rfl, fun K hK => ?_⟩
         have e44 : a.tmps[44]? = some (.agg #[.slice P0 q0.length n0, .slice P1 q1.length n1, .slice P2 q2.length n2, .slice P3 q3.length n3, .slice P4 q4.length n4, .slice P5 q5.length n5]) := by rw [ha]; exact putSel_on (e := (0, 44, .agg #[.slice P0 q0.length n0, .slice P1 q1.length n1, .slice P2 q2.length n2, .slice P3 q3.length n3, .slice P4 q4.length n4, .slice P5 q5.length n5])) 0 rfl rfl (hon 0 (by kernel_rfl)) rfl
         have e46 : a.tmps[46]? = some (v521) := by rw [ha]; exact putSel_on (e := (2, 46, v521)) 1 rfl rfl (hon 2 (by kernel_rfl)) rfl
         replace ha := aM ha
         have BK511 := aM Q_BK511
         have HB := aM Q_HB
         have HO522 := aM (Q_HO522 (hon 2 (by kernel_rfl)))
         obtain ⟨Ao111, co111, eo111⟩ := Kd.R_slice HO522.1
         (first | subst eo111 | (injection eo111 with f1_ f2_ f3_; have f4_ := f1_.symm; have f5_ := f3_.symm; clear f1_ f2_ f3_; subst f4_; subst f5_))
         refine goes_ Try.func18 (by kernel_rfl) rfl #[.agg #[.slice P0 q0.length n0, .slice P1 q1.length n1, .slice P2 q2.length n2, .slice P3 q3.length n3, .slice P4 q4.length n4, .slice P5 q5.length n5], .slice Ao111 y520.length co111] (by rfl) rfl rfl (by first | (simp only [List.map_toArray, List.map_cons, List.map_nil, Act.eval, Array.getD_eq_getD_getElem?, Option.getD_some, e44, e46]; done) | (simp only [List.map_toArray, List.map_cons, List.map_nil, Act.eval, Array.getD_eq_getD_getElem?, Option.getD_some, e44, e46]; rfl)) ?_
         with_reducible refine (casemap_Lower.calls _ _ q0 _ _ q1 _ _ q2 _ _ q3 _ _ q4 _ _ q5 _ _ y520 t523 _ ?z1 ?z2 ?z3 ?z4 ?z5 ?z6 ?z7 ?z8 ?z9 ?z10 ?z11 ?z12 ?z13 ?z14 A18.1).mono ?_
         (case z1 => repeat (first | exact cB1 R0.1 HB.1 | with_reducible first | refine cA1 ?_ _ | refine cN1 ?_ _ | refine cD1 ?_))
         (case z2 => exact N0.1)
         (case z3 => repeat (first | exact cB1 R1.1 HB.1 | with_reducible first | refine cA1 ?_ _ | refine cN1 ?_ _ | refine cD1 ?_))
         (case z4 => exact N1.1)
         (case z5 => repeat (first | exact cB1 R2.1 HB.1 | with_reducible first | refine cA1 ?_ _ | refine cN1 ?_ _ | refine cD1 ?_))
         (case z6 => exact N2.1)
         (case z7 => repeat (first | exact cB1 R3.1 HB.1 | with_reducible first | refine cA1 ?_ _ | refine cN1 ?_ _ | refine cD1 ?_))
         (case z8 => exact N3.1)
         (case z9 => repeat (first | exact cB1 R4.1 HB.1 | with_reducible first | refine cA1 ?_ _ | refine cN1 ?_ _ | refine cD1 ?_))
         (case z10 => exact N4.1)
         (case z11 => repeat (first | exact cB1 R5.1 HB.1 | with_reducible first | refine cA1 ?_ _ | refine cN1 ?_ _ | refine cD1 ?_))
         (case z12 => exact N5.1)
         (case z13 => repeat (first | exact (Kd.R_reads' HO522.1).2.2 | (with_reducible refine Kd.C_alloc ?_ _) | (with_reducible refine Kd.C_drewN ?_ _) | (with_reducible refine Kd.C_drew ?_)))
         (case z14 => exact (Kd.R_reads' HO522.1).2.1)
         rintro e w112 ⟨v524, rfl, ho0, hb⟩
         refine ⟨_, rfl, ?_⟩
         have n0_ := aM (Kd.R_elder' (by (with_reducible repeat first | apply rA1 | apply rN1 | apply rD1); exact HO522.1) (Kd.R_base ho0) hb)
         have n1_ := aM (Kd.R_lower (Kd.R_new' ho0 (Kd.R_lt (by (with_reducible repeat first | apply rA1 | apply rN1 | apply rD1); exact HO522.1))) (bSz (by repeat (first | (with_reducible first | exact HB.1 | apply bAl | apply pbN | apply bD1 | refine bSt ?_ GE511.1) | exact HB.1))))
         have n2_ := aM (blk_below (g := gb511) (o := .cells #[.slice P0 q0.length n0, .slice P1 q1.length n1, .slice P2 q2.length n2, .slice P3 q3.length n3, .slice P4 q4.length n4, .slice P5 q5.length n5] 27 (0, 0)) (by (with_reducible repeat (first | refine bkN ?_ _ | refine bkD ?_ | refine bkA ?_ _)); exact BK511.1) hb)
         have n3_ := aM (bSp (by repeat (first | (with_reducible first | exact HB.1 | apply bAl | apply pbN | apply bD1 | refine bSt ?_ GE511.1) | exact HB.1)) hb)
         have z_HO528 := fun (h0_ : b 6 = true) => (show Kd.R (Kd.int .i64) 3 w112 w.heap.size (fun _ => True) v527 y526 from by first | exact (Kd.R_elder' (by (with_reducible repeat first | apply rA1 | apply rN1 | apply rD1); exact (Q_HO528 h0_)) (Kd.R_base ho0) hb) | exact Kd.R_mono (Kd.R_elder' (by (with_reducible repeat first | apply rA1 | apply rN1 | apply rD1); exact (Q_HO528 h0_)) (Kd.R_base ho0) hb) (fun _ h_ => by first | trivial | exact h_ | exact h_.1))
         clear HO522
         clear BK511
         clear HB
         have HO522 := n0_
         have HO525 := n1_
         have BK511 := n2_
         have HB := n3_
         clear n0_ n1_ n2_ n3_
         (try clear hb)
         (try clear hb2)
         (try clear hk)
         (try clear hi)
         (try clear ho0)
         refine hK.out _ _ ⟨.slice Ao111 y520.length co111, v524, v527, v530, m8_, m9_, (by rw [ha.out]; exact putSel_upk 2 hb_ rfl rfl rfl), (by (with_reducible repeat (first | refine bkN ?_ _ | refine bkD ?_ | refine bkA ?_ _)); exact BK511.1), (by repeat (first | (with_reducible first | exact HB.1 | apply bAl | apply pbN | apply bD1 | refine bSt ?_ GE511.1) | exact HB.1)), fun _ => (by (with_reducible repeat first | apply rA1 | apply rN1 | apply rD1); exact Kd.R_mono HO522.1 (fun _ hk => by first | trivial | exact hk.2)), fun _ => (by (with_reducible repeat first | apply rA1 | apply rN1 | apply rD1); exact Kd.R_mono HO525.1 (fun _ hk => by first | trivial | exact hk.2)), z_HO528, fun h0_ => absurd ((hoff 7 (by kernel_rfl)).symm.trans h0_) (by decide), fun h0_ => absurd ((hoff 8 (by kernel_rfl)).symm.trans h0_) (by decide), fun h0_ => absurd ((hoff 9 (by kernel_rfl)).symm.trans h0_) (by decide)⟩
        refine steps_cons ?_ ?_
        ·rintro b a w' ⟨v521, v524, v527, v530, m8_, m9_, ha, Q_BK511, Q_HB, Q_HO522, Q_HO525, Q_HO528, Q_HO531, Q_X8_, Q_X9_⟩ hb_ hon hoff
         refine ⟨_, rfl, fun K hK => ?_⟩
         have e2 : a.tmps[2]? = some (.pointer (some ⟨gb511, 0, none⟩)) := by rw [ha]; exact (putSel_off rfl).trans rfl
         replace ha := aM ha
         have BK511 := aM Q_BK511
         have HB := aM Q_HB
         have hc0_ : w'.cell? ⟨gb511, 0, none⟩ = some (.slice P0 q0.length n0) := (bkC BK511.1 0).trans rfl
         have hc1_ : w'.cell? ⟨gb511, 1, none⟩ = some (.slice P1 q1.length n1) := (bkC BK511.1 1).trans rfl
         have hc2_ : w'.cell? ⟨gb511, 2, none⟩ = some (.slice P2 q2.length n2) := (bkC BK511.1 2).trans rfl
         have hc3_ : w'.cell? ⟨gb511, 3, none⟩ = some (.slice P3 q3.length n3) := (bkC BK511.1 3).trans rfl
         have hc4_ : w'.cell? ⟨gb511, 4, none⟩ = some (.slice P4 q4.length n4) := (bkC BK511.1 4).trans rfl
         have hc5_ : w'.cell? ⟨gb511, 5, none⟩ = some (.slice P5 q5.length n5) := (bkC BK511.1 5).trans rfl
         refine value_ (w1 := w') (v := .agg #[.slice P0 q0.length n0, .slice P1 q1.length n1, .slice P2 q2.length n2, .slice P3 q3.length n3, .slice P4 q4.length n4, .slice P5 q5.length n5]) (by rfl) rfl ?_ ?_
         ·go_simp
          (try simp only [i64_w])
          try rfl
         refine hK.out _ _ ⟨v521, v524, v527, v530, m8_, m9_, (by rw [ha.out]; exact putSel_upk 3 hb_ rfl rfl rfl), Q_BK511, Q_HB, Q_HO522, Q_HO525, Q_HO528, fun h0_ => absurd ((hoff 7 (by kernel_rfl)).symm.trans h0_) (by decide), fun h0_ => absurd ((hoff 8 (by kernel_rfl)).symm.trans h0_) (by decide), fun h0_ => absurd ((hoff 9 (by kernel_rfl)).symm.trans h0_) (by decide)⟩
        refine steps_cons ?_ ?_
        ·rintro b a w' ⟨v521, v524, v527, v530, m8_, m9_, ha, Q_BK511, Q_HB, Q_HO522, Q_HO525, Q_HO528, Q_HO531, Q_X8_, Q_X9_⟩ hb_ hon hoff
         refine ⟨_, rfl, fun K hK => ?_⟩
         have e49 : a.tmps[49]? = some (.int .i64 a1) := by rw [ha]; exact (putSel_off rfl).trans rfl
         replace ha := aM ha
         have BK511 := aM Q_BK511
         have HB := aM Q_HB
         refine Kd.R_lit_step (Kd.int .i64) _ 3 ?hg (N := 50) ?hd (xs := ([a1] : List Int)) (inner := [.int .i64 a1]) (ok := fun _ => True) (okp := fun _ => True) ?hr ?hp (fun _ hk => hk) trivial (Below.refl _ _) (Nat.le_refl _) (by simp) ?_; (case hd => rfl); (case hg => rfl); (case hr => first | (go_simp; done) | (go_simp; rfl)); (case hp => exact (Reps.one (show Kd.M (Kd.int .i64) _ _ _ a1 [.int .i64 a1] from rfl) (Reps.none _ _)))
         intro v527 w108 ho109 hb hg_ hnew_
         clear hg_ hnew_
         (first | rw [← Ny526.1] at ho109 | (simp only [Int.reduceToNat] at ho109; rw [← Ny526.1] at ho109))
         have n0_ := aM (Kd.R_lower ho109 (bSz (by repeat (first | (with_reducible first | exact HB.1 | apply bAl | apply pbN | apply bD1 | refine bSt ?_ GE511.1) | exact HB.1))))
         have n1_ := aM (blk_below (g := gb511) (o := .cells #[.slice P0 q0.length n0, .slice P1 q1.length n1, .slice P2 q2.length n2, .slice P3 q3.length n3, .slice P4 q4.length n4, .slice P5 q5.length n5] 27 (0, 0)) (by (with_reducible repeat (first | refine bkN ?_ _ | refine bkD ?_ | refine bkA ?_ _)); exact BK511.1) hb)
         have n2_ := aM (bSp (by repeat (first | (with_reducible first | exact HB.1 | apply bAl | apply pbN | apply bD1 | refine bSt ?_ GE511.1) | exact HB.1)) hb)
         have z_HO522 := fun (h0_ : b 2 = true) => (show Kd.R (Kd.int .i64) 3 w108 w.heap.size (fun _ => True) v521 y520 from by first | exact (Kd.R_elder' (by (with_reducible repeat first | apply rA1 | apply rN1 | apply rD1); exact (Q_HO522 h0_)) (Kd.R_base ho109) hb) | exact Kd.R_mono (Kd.R_elder' (by (with_reducible repeat first | apply rA1 | apply rN1 | apply rD1); exact (Q_HO522 h0_)) (Kd.R_base ho109) hb) (fun _ h_ => by first | trivial | exact h_ | exact h_.1))
         have z_HO525 := fun (h0_ : b 3 = true) => (show Kd.R (Kd.int .i64) 3 w108 w.heap.size (fun _ => True) v524 t523 from by first | exact (Kd.R_elder' (by (with_reducible repeat first | apply rA1 | apply rN1 | apply rD1); exact (Q_HO525 h0_)) (Kd.R_base ho109) hb) | exact Kd.R_mono (Kd.R_elder' (by (with_reducible repeat first | apply rA1 | apply rN1 | apply rD1); exact (Q_HO525 h0_)) (Kd.R_base ho109) hb) (fun _ h_ => by first | trivial | exact h_ | exact h_.1))
         clear BK511
         clear HB
         have HO528 := n0_
         have BK511 := n1_
         have HB := n2_
         clear n0_ n1_ n2_
         clear hb ho109
         refine hK.out _ _ ⟨v521, v524, v527, v530, m8_, m9_, (by rw [ha.out]; exact putSel_upk 4 hb_ rfl rfl rfl), (by (with_reducible repeat (first | refine bkN ?_ _ | refine bkD ?_ | refine bkA ?_ _)); exact BK511.1), (by repeat (first | (with_reducible first | exact HB.1 | apply bAl | apply pbN | apply bD1 | refine bSt ?_ GE511.1) | exact HB.1)), z_HO522, z_HO525, fun _ => (by (with_reducible repeat first | apply rA1 | apply rN1 | apply rD1); exact HO528.1), fun h0_ => absurd ((hoff 7 (by kernel_rfl)).symm.trans h0_) (by decide), fun h0_ => absurd ((hoff 8 (by kernel_rfl)).symm.trans h0_) (by decide), fun h0_ => absurd ((hoff 9 (by kernel_rfl)).symm.trans h0_) (by decide)⟩
        refine steps_cons ?_ ?_
        ·rintro b a w' ⟨v521, v524, v527, v530, m8_, m9_, ha, Q_BK511, Q_HB, Q_HO522, Q_HO525, Q_HO528, Q_HO531, Q_X8_, Q_X9_⟩ hb_ hon hoff
         refine ⟨_, rfl, fun K hK => ?_⟩
         have e48 : a.tmps[48]? = some (.agg #[.slice P0 q0.length n0, .slice P1 q1.length n1, .slice P2 q2.length n2, .slice P3 q3.length n3, .slice P4 q4.length n4, .slice P5 q5.length n5]) := by rw [ha]; exact putSel_on (e := (4, 48, .agg #[.slice P0 q0.length n0, .slice P1 q1.length n1, .slice P2 q2.length n2, .slice P3 q3.length n3, .slice P4 q4.length n4, .slice P5 q5.length n5])) 3 rfl rfl (hon 4 (by kernel_rfl)) rfl
         have e50 : a.tmps[50]? = some (v527) := by rw [ha]; exact putSel_on (e := (6, 50, v527)) 4 rfl rfl (hon 6 (by kernel_rfl)) rfl
         replace ha := aM ha
         have BK511 := aM Q_BK511
         have HB := aM Q_HB
         have HO522 := aM (Q_HO522 (hon 2 (by kernel_rfl)))
         have HO525 := aM (Q_HO525 (hon 3 (by kernel_rfl)))
         have HO528 := aM (Q_HO528 (hon 6 (by kernel_rfl)))
         obtain ⟨Ao115, co115, eo115⟩ := Kd.R_slice HO528.1
         (first | subst eo115 | (injection eo115 with f1_ f2_ f3_; have f4_ := f1_.symm; have f5_ := f3_.symm; clear f1_ f2_ f3_; subst f4_; subst f5_))
         refine goes_ Try.func19 (by kernel_rfl) rfl #[.agg #[.slice P0 q0.length n0, .slice P1 q1.length n1, .slice P2 q2.length n2, .slice P3 q3.length n3, .slice P4 q4.length n4, .slice P5 q5.length n5], .slice Ao115 y526.length co115] (by rfl) rfl rfl (by first | (simp only [List.map_toArray, List.map_cons, List.map_nil, Act.eval, Array.getD_eq_getD_getElem?, Option.getD_some, e48, e50]; done) | (simp only [List.map_toArray, List.map_cons, List.map_nil, Act.eval, Array.getD_eq_getD_getElem?, Option.getD_some, e48, e50]; rfl)) ?_
         with_reducible refine (casemap_Upper.calls _ _ q0 _ _ q1 _ _ q2 _ _ q3 _ _ q4 _ _ q5 _ _ y526 t529 _ ?z1 ?z2 ?z3 ?z4 ?z5 ?z6 ?z7 ?z8 ?z9 ?z10 ?z11 ?z12 ?z13 ?z14 A19.1).mono ?_
         (case z1 => repeat (first | exact cB1 R0.1 HB.1 | with_reducible first | refine cA1 ?_ _ | refine cN1 ?_ _ | refine cD1 ?_))
         (case z2 => exact N0.1)
         (case z3 => repeat (first | exact cB1 R1.1 HB.1 | with_reducible first | refine cA1 ?_ _ | refine cN1 ?_ _ | refine cD1 ?_))
         (case z4 => exact N1.1)
         (case z5 => repeat (first | exact cB1 R2.1 HB.1 | with_reducible first | refine cA1 ?_ _ | refine cN1 ?_ _ | refine cD1 ?_))
         (case z6 => exact N2.1)
         (case z7 => repeat (first | exact cB1 R3.1 HB.1 | with_reducible first | refine cA1 ?_ _ | refine cN1 ?_ _ | refine cD1 ?_))
         (case z8 => exact N3.1)
         (case z9 => repeat (first | exact cB1 R4.1 HB.1 | with_reducible first | refine cA1 ?_ _ | refine cN1 ?_ _ | refine cD1 ?_))
         (case z10 => exact N4.1)
         (case z11 => repeat (first | exact cB1 R5.1 HB.1 | with_reducible first | refine cA1 ?_ _ | refine cN1 ?_ _ | refine cD1 ?_))
         (case z12 => exact N5.1)
         (case z13 => repeat (first | exact (Kd.R_reads' HO528.1).2.2 | (with_reducible refine Kd.C_alloc ?_ _) | (with_reducible refine Kd.C_drewN ?_ _) | (with_reducible refine Kd.C_drew ?_)))
         (case z14 => exact (Kd.R_reads' HO528.1).2.1)
         rintro e w116 ⟨v530, rfl, ho0, hb⟩
         refine ⟨_, rfl, ?_⟩
         have n0_ := aM (Kd.R_elder' (by (with_reducible repeat first | apply rA1 | apply rN1 | apply rD1); exact HO522.1) (Kd.R_base ho0) hb)
         have n1_ := aM (Kd.R_elder' (by (with_reducible repeat first | apply rA1 | apply rN1 | apply rD1); exact HO525.1) (Kd.R_base ho0) hb)
         have n2_ := aM (Kd.R_elder' (by (with_reducible repeat first | apply rA1 | apply rN1 | apply rD1); exact HO528.1) (Kd.R_base ho0) hb)
         have n3_ := aM (Kd.R_lower (Kd.R_new' (Kd.R_new' (Kd.R_new' ho0 (Kd.R_lt (by (with_reducible repeat first | apply rA1 | apply rN1 | apply rD1); exact HO522.1))) (Kd.R_lt (by (with_reducible repeat first | apply rA1 | apply rN1 | apply rD1); exact HO525.1))) (Kd.R_lt (by (with_reducible repeat first | apply rA1 | apply rN1 | apply rD1); exact HO528.1))) (bSz (by repeat (first | (with_reducible first | exact HB.1 | apply bAl | apply pbN | apply bD1 | refine bSt ?_ GE511.1) | exact HB.1))))
         have n4_ := aM (blk_below (g := gb511) (o := .cells #[.slice P0 q0.length n0, .slice P1 q1.length n1, .slice P2 q2.length n2, .slice P3 q3.length n3, .slice P4 q4.length n4, .slice P5 q5.length n5] 27 (0, 0)) (by (with_reducible repeat (first | refine bkN ?_ _ | refine bkD ?_ | refine bkA ?_ _)); exact BK511.1) hb)
         have n5_ := aM (bSp (by repeat (first | (with_reducible first | exact HB.1 | apply bAl | apply pbN | apply bD1 | refine bSt ?_ GE511.1) | exact HB.1)) hb)
         clear HO522
         clear HO525
         clear HO528
         clear BK511
         clear HB
         have HO522 := n0_
         have HO525 := n1_
         have HO528 := n2_
         have HO531 := n3_
         have BK511 := n4_
         have HB := n5_
         clear n0_ n1_ n2_ n3_ n4_ n5_
         (try clear hb)
         (try clear hb2)
         (try clear hk)
         (try clear hi)
         (try clear ho0)
         refine hK.out _ _ ⟨v521, v524, .slice Ao115 y526.length co115, v530, m8_, m9_, (by rw [ha.out]; exact putSel_upk 5 hb_ rfl rfl rfl), (by (with_reducible repeat (first | refine bkN ?_ _ | refine bkD ?_ | refine bkA ?_ _)); exact BK511.1), (by repeat (first | (with_reducible first | exact HB.1 | apply bAl | apply pbN | apply bD1 | refine bSt ?_ GE511.1) | exact HB.1)), fun _ => (by (with_reducible repeat first | apply rA1 | apply rN1 | apply rD1); exact Kd.R_mono HO522.1 (fun _ hk => by first | trivial | exact ⟨hk.1.1, ⟨hk.1.2, hk.2⟩⟩)), fun _ => (by (with_reducible repeat first | apply rA1 | apply rN1 | apply rD1); exact Kd.R_mono HO525.1 (fun _ hk => by first | trivial | exact ⟨hk.1.1, ⟨hk.1.2, hk.2⟩⟩)), fun _ => (by (with_reducible repeat first | apply rA1 | apply rN1 | apply rD1); exact Kd.R_mono HO528.1 (fun _ hk => by first | trivial | exact ⟨hk.1.1, ⟨hk.1.2, hk.2⟩⟩)), fun _ => (by (with_reducible repeat first | apply rA1 | apply rN1 | apply rD1); exact Kd.R_mono HO531.1 (fun _ hk => by first | trivial | exact ⟨hk.1.1.2, ⟨hk.1.2, hk.2⟩⟩)), fun h0_ => absurd ((hoff 8 (by kernel_rfl)).symm.trans h0_) (by decide), fun h0_ => absurd ((hoff 9 (by kernel_rfl)).symm.trans h0_) (by decide)⟩
        refine steps_cons ?_ ?_
        ·rintro b a w' ⟨v521, v524, v527, v530, m8_, m9_, ha, Q_BK511, Q_HB, Q_HO522, Q_HO525, Q_HO528, Q_HO531, Q_X8_, Q_X9_⟩ hb_ hon hoff
         refine ⟨_, rfl, fun K hK => ?_⟩
         have e47 : a.tmps[47]? = some (v524) := by rw [ha]; exact putSel_on (e := (3, 47, v524)) 2 rfl rfl (hon 3 (by kernel_rfl)) rfl
         replace ha := aM ha
         have BK511 := aM Q_BK511
         have HB := aM Q_HB
         have HO522 := aM (Q_HO522 (hon 2 (by kernel_rfl)))
         have HO525 := aM (Q_HO525 (hon 3 (by kernel_rfl)))
         have HO528 := aM (Q_HO528 (hon 6 (by kernel_rfl)))
         have HO531 := aM (Q_HO531 (hon 7 (by kernel_rfl)))
         refine value_ (w1 := w') (v := v524) (by rfl) rfl ?_ ?_
         ·go_simp
          (try simp only [i64_w])
          try rfl
         refine hK.out _ _ ⟨v521, v524, v527, v530, (v524), m9_, (by rw [ha.out]; exact putSel_upk 6 hb_ rfl rfl rfl), Q_BK511, Q_HB, Q_HO522, Q_HO525, Q_HO528, Q_HO531, fun _ => rfl, fun h0_ => absurd ((hoff 9 (by kernel_rfl)).symm.trans h0_) (by decide)⟩
        refine steps_cons ?_ ?_
        ·rintro b a w' ⟨v521, v524, v527, v530, m8_, m9_, ha, Q_BK511, Q_HB, Q_HO522, Q_HO525, Q_HO528, Q_HO531, Q_X8_, Q_X9_⟩ hb_ hon hoff
         refine ⟨_, rfl, fun K hK => ?_⟩
         have e51 : a.tmps[51]? = some (v530) := by rw [ha]; exact putSel_on (e := (7, 51, v530)) 5 rfl rfl (hon 7 (by kernel_rfl)) rfl
         replace ha := aM ha
         have BK511 := aM Q_BK511
         have HB := aM Q_HB
         have HO522 := aM (Q_HO522 (hon 2 (by kernel_rfl)))
         have HO525 := aM (Q_HO525 (hon 3 (by kernel_rfl)))
         have HO528 := aM (Q_HO528 (hon 6 (by kernel_rfl)))
         have HO531 := aM (Q_HO531 (hon 7 (by kernel_rfl)))
         refine value_ (w1 := w') (v := v530) (by rfl) rfl ?_ ?_
         ·go_simp
          (try simp only [i64_w])
          try rfl
         refine hK.out _ _ ⟨v521, v524, v527, v530, m8_, (v530), (by rw [ha.out]; exact putSel_upk 7 hb_ rfl rfl rfl), Q_BK511, Q_HB, Q_HO522, Q_HO525, Q_HO528, Q_HO531, Q_X8_, fun _ => rfl⟩
        exact steps_nil
       rintro b a w116 hall ⟨v521, v524, v527, v530, m8_, m9_, ha, Q_BK511, Q_HB, Q_HO522, Q_HO525, Q_HO528, Q_HO531, Q_X8_, Q_X9_⟩
       clear BK511 HB
       have hb0_ := hall 0 (by kernel_rfl)
       have hb2_ := hall 2 (by kernel_rfl)
       have hb3_ := hall 3 (by kernel_rfl)
       have hb4_ := hall 4 (by kernel_rfl)
       have hb6_ := hall 6 (by kernel_rfl)
       have hb7_ := hall 7 (by kernel_rfl)
       have hb8_ := hall 8 (by kernel_rfl)
       have hb9_ := hall 9 (by kernel_rfl)
       subst ha
       obtain rfl := Q_X8_ hb8_
       obtain rfl := Q_X9_ hb9_
       simp only [putSel, hb0_, hb2_, hb3_, hb4_, hb6_, hb7_, hb8_, hb9_, if_true, Act.put, sI, sZ, sS]
       have BK511 := aM Q_BK511
       clear Q_BK511
       have HB := aM Q_HB
       clear Q_HB
       have HO522 := aM (Q_HO522 hb2_)
       clear Q_HO522
       have HO525 := aM (Q_HO525 hb3_)
       clear Q_HO525
       have HO528 := aM (Q_HO528 hb6_)
       clear Q_HO528
       have HO531 := aM (Q_HO531 hb7_)
       clear Q_HO531
       clear hall hb0_ hb2_ hb3_ hb4_ hb6_ hb7_ hb8_ hb9_
       obtain ⟨Ao117, co117, eo117⟩ := Kd.R_slice HO525.1
       subst eo117
       obtain ⟨Ao118, co118, eo118⟩ := Kd.R_slice HO531.1
       subst eo118
       try go_wp2_with (first | (go_at_call 14; (with_reducible refine (w37_alive.calls  t538 _ A106.1).mono ?_); rintro e w119 ⟨rfl, hb⟩; have n0_ := aM (Kd.R_below (by (with_reducible repeat first | apply rA1 | apply rN1 | apply rD1); exact HO522.1) hb); have n1_ := aM (Kd.R_below (by (with_reducible repeat first | apply rA1 | apply rN1 | apply rD1); exact HO525.1) hb); have n2_ := aM (Kd.R_below (by (with_reducible repeat first | apply rA1 | apply rN1 | apply rD1); exact HO528.1) hb); have n3_ := aM (Kd.R_below (by (with_reducible repeat first | apply rA1 | apply rN1 | apply rD1); exact HO531.1) hb); have n4_ := aM (blk_below (g := gb511) (o := .cells #[.slice P0 q0.length n0, .slice P1 q1.length n1, .slice P2 q2.length n2, .slice P3 q3.length n3, .slice P4 q4.length n4, .slice P5 q5.length n5] 27 (0, 0)) (by (with_reducible repeat (first | refine bkN ?_ _ | refine bkD ?_ | refine bkA ?_ _)); exact BK511.1) hb); have n5_ := aM (bSp (by repeat (first | (with_reducible first | exact HB.1 | apply bAl | apply pbN | apply bD1 | refine bSt ?_ GE511.1) | exact HB.1)) hb); clear HO522; clear HO525; clear HO528; clear HO531; clear BK511; clear HB; have HO522 := n0_; have HO525 := n1_; have HO528 := n2_; have HO531 := n3_; have BK511 := n4_; have HB := n5_; clear n0_ n1_ n2_ n3_ n4_ n5_; (try clear hb); (try clear hb2); (try clear hk); (try clear hi)))
       go_ret
       exact ⟨by first | rfl | (simp [eN, eS] <;> rfl) | (simp [*, eN, eS] <;> rfl), by repeat (first | (with_reducible first | exact HB.1 | apply bAl | apply pbN | apply bD1 | refine bSt ?_ GE511.1) | exact HB.1)⟩
 ·replace c4 := Bool.eq_false_iff.mpr c4
  subst c4
  have H1 : ((w37_alive.f).bind fun t513 => (some t513)) = some r := by rw [if_neg (show ¬ (false = true) by decide)] at H; exact H
  clear H
  have H := H1
  clear H1
  replace H := Option.bind_eq_some_iff.mp H
  obtain ⟨t513, A1200, H⟩ := H
  replace H : (some t513) = some r := H
  have A120 := aM A1200
  clear A1200
  obtain rfl := Option.some.inj H
  go_enter Try.func9, Try.ntmps9
  go_wp2_with (first | ((with_reducible refine gate_dst (N := 2) rfl ?_); (try (refine gate_guard (by rfl) ?_; dsimp only)); refine box_event ?hg (N := 2) ?hd (cs := #[.slice P0 q0.length n0, .slice P1 q1.length n1, .slice P2 q2.length n2, .slice P3 q3.length n3, .slice P4 q4.length n4, .slice P5 q5.length n5]) (t := 27) ?hr ?_; (case hd => rfl); (case hg => rfl); (case hr => first | (go_simp; done) | (go_simp; rfl)); intro gb511 hg w121 hbox hb; have n0_ := aM (bSp (by repeat (first | (with_reducible first | exact HB.1 | apply bAl | apply pbN | apply bD1) | exact HB.1)) hb); have n1_ := aM (hbox); have n2_ := aM ((by rw [hg]; exact (bSz (by repeat (first | (with_reducible first | exact HB.1 | apply bAl | apply pbN | apply bD1) | exact HB.1))) : w.heap.size ≤ gb511)); have n3_ := aM ((by rw [hg]; exact (bSz (by repeat (first | (with_reducible first | exact HB.1 | apply bAl | apply pbN | apply bD1) | exact HB.1))) : w.heap.size ≤ gb511)); clear HB; have HB := n0_; have BK511 := n1_; have GW511 := n2_; have GE511 := n3_; clear n0_ n1_ n2_ n3_; clear hb hbox hg; have hcz122_0 : w121.cell? ⟨gb511, 0, none⟩ = some (.slice P0 q0.length n0) := (bkC BK511.1 0).trans rfl; have hcz122_1 : w121.cell? ⟨gb511, 1, none⟩ = some (.slice P1 q1.length n1) := (bkC BK511.1 1).trans rfl; have hcz122_2 : w121.cell? ⟨gb511, 2, none⟩ = some (.slice P2 q2.length n2) := (bkC BK511.1 2).trans rfl; have hcz122_3 : w121.cell? ⟨gb511, 3, none⟩ = some (.slice P3 q3.length n3) := (bkC BK511.1 3).trans rfl; have hcz122_4 : w121.cell? ⟨gb511, 4, none⟩ = some (.slice P4 q4.length n4) := (bkC BK511.1 4).trans rfl; have hcz122_5 : w121.cell? ⟨gb511, 5, none⟩ = some (.slice P5 q5.length n5) := (bkC BK511.1 5).trans rfl; have hfz122_0 := bkF BK511.1 0; have hfz122_1 := bkF BK511.1 1; have hfz122_2 := bkF BK511.1 2; have hfz122_3 := bkF BK511.1 3; have hfz122_4 := bkF BK511.1 4; have hfz122_5 := bkF BK511.1 5) | ((with_reducible refine gate_callee (f := 20) rfl ?_); refine goesL_ (some 14) rfl rfl Try.func20 (by kernel_rfl) rfl #[.agg #[.slice P0 q0.length n0, .slice P1 q1.length n1, .slice P2 q2.length n2, .slice P3 q3.length n3, .slice P4 q4.length n4, .slice P5 q5.length n5]] rfl (by (try simp only [List.map_toArray, List.map_cons, List.map_nil]); first | done | rfl | (simp only [List.length_drop, List.length_take]; rfl)) ?_; (with_reducible refine (r37_Small.calls k _ _ q0 _ _ q1 _ _ q2 _ _ q3 _ _ q4 _ _ q5 false _ ?z1 ?z2 ?z3 ?z4 ?z5 ?z6 ?z7 ?z8 ?z9 ?z10 ?z11 ?z12 A3.1).mono ?_); (case z1 => repeat (first | exact cB1 R0.1 HB.1 | with_reducible first | refine cA1 ?_ _ | refine cN1 ?_ _ | refine cD1 ?_)); (case z2 => exact N0.1); (case z3 => repeat (first | exact cB1 R1.1 HB.1 | with_reducible first | refine cA1 ?_ _ | refine cN1 ?_ _ | refine cD1 ?_)); (case z4 => exact N1.1); (case z5 => repeat (first | exact cB1 R2.1 HB.1 | with_reducible first | refine cA1 ?_ _ | refine cN1 ?_ _ | refine cD1 ?_)); (case z6 => exact N2.1); (case z7 => repeat (first | exact cB1 R3.1 HB.1 | with_reducible first | refine cA1 ?_ _ | refine cN1 ?_ _ | refine cD1 ?_)); (case z8 => exact N3.1); (case z9 => repeat (first | exact cB1 R4.1 HB.1 | with_reducible first | refine cA1 ?_ _ | refine cN1 ?_ _ | refine cD1 ?_)); (case z10 => exact N4.1); (case z11 => repeat (first | exact cB1 R5.1 HB.1 | with_reducible first | refine cA1 ?_ _ | refine cN1 ?_ _ | refine cD1 ?_)); (case z12 => exact N5.1); rintro e w123 ⟨rfl, hb⟩; refine ⟨_, rfl, ?_⟩; have n0_ := aM (blk_below (g := gb511) (o := .cells #[.slice P0 q0.length n0, .slice P1 q1.length n1, .slice P2 q2.length n2, .slice P3 q3.length n3, .slice P4 q4.length n4, .slice P5 q5.length n5] 27 (0, 0)) (by (with_reducible repeat (first | refine bkN ?_ _ | refine bkD ?_ | refine bkA ?_ _)); exact BK511.1) hb); have n1_ := aM (bSp (by repeat (first | (with_reducible first | exact HB.1 | apply bAl | apply pbN | apply bD1 | refine bSt ?_ GE511.1) | exact HB.1)) hb); clear BK511; clear HB; have BK511 := n0_; have HB := n1_; clear n0_ n1_; (try clear hb); (try clear hb2); (try clear hk); (try clear hi)) | ((with_reducible refine gate_callee (f := 14) rfl ?_); refine goesL_ (some 16) rfl rfl Try.func14 (by kernel_rfl) rfl #[] rfl (by (try simp only [List.map_toArray, List.map_cons, List.map_nil]); first | done | rfl | (simp only [List.length_drop, List.length_take]; rfl)) ?_; (with_reducible refine (w37_alive.calls  t513 _ A120.1).mono ?_); rintro e w124 ⟨rfl, hb⟩; refine ⟨_, rfl, ?_⟩; have n0_ := aM (blk_below (g := gb511) (o := .cells #[.slice P0 q0.length n0, .slice P1 q1.length n1, .slice P2 q2.length n2, .slice P3 q3.length n3, .slice P4 q4.length n4, .slice P5 q5.length n5] 27 (0, 0)) (by (with_reducible repeat (first | refine bkN ?_ _ | refine bkD ?_ | refine bkA ?_ _)); exact BK511.1) hb); have n1_ := aM (bSp (by repeat (first | (with_reducible first | exact HB.1 | apply bAl | apply pbN | apply bD1 | refine bSt ?_ GE511.1) | exact HB.1)) hb); clear BK511; clear HB; have BK511 := n0_; have HB := n1_; clear n0_ n1_; (try clear hb); (try clear hb2); (try clear hk); (try clear hi)))
  go_ret
  exact ⟨by first | rfl | (simp [eN, eS] <;> rfl) | (simp [*, eN, eS] <;> rfl), by repeat (first | (with_reducible first | exact HB.1 | apply bAl | apply pbN | apply bD1 | refine bSt ?_ GE511.1) | exact HB.1)⟩
end Go.Proofs.Ythnkmcfhpjmihaa.Q
end
