/- Lemmas, printed and written for this claim: part 10. -/
import Derived.Test.YthnkmcfhpjmihaaG2
import Derived.Test.YthnkmcfhpjmihaaG7
import Derived.Test.YthnkmcfhpjmihaaG8
import Derived.Test.YthnkmcfhpjmihaaG9
section
namespace Go.Proofs.Ythnkmcfhpjmihaa.Q
open Go.RowKit Go.Proofs.YthnkmcfhpjmihaaW.PrintWords Go.Proofs.YthnkmcfhpjmihaaW.PrintLast Go.Proofs.YthnkmcfhpjmihaaW.PrintMore
attribute [local go_sem] max2_int min2_int max_two min_two max_three min_three max_four min_four
set_option linter.unusedVariables false
set_option linter.unusedSimpArgs false
abbrev cB0 := @Kd.C_below
abbrev cA0 := @Kd.C_alloc
abbrev cN0 := @Kd.C_drewN
abbrev cD0 := @Kd.C_drew
abbrev rA0 := @Kd.R_alloc
abbrev rN0 := @Kd.R_drewN
abbrev rD0 := @Kd.R_drew
theorem bk60 {w : World} {g : Nat} {t : TypeId} {a b c d e f : Value} (h : w.heap[g]? = some (.cells #[a, b, c, d, e, f] t (0, 0))) : w.cell? ⟨g, 0, none⟩ = some a ∧ w.cell? ⟨g, 1, none⟩ = some b ∧ w.cell? ⟨g, 2, none⟩ = some c ∧ w.cell? ⟨g, 3, none⟩ = some d ∧ w.cell? ⟨g, 4, none⟩ = some e ∧ w.cell? ⟨g, 5, none⟩ = some f := ⟨(bkC h 0).trans rfl, (bkC h 1).trans rfl, (bkC h 2).trans rfl, (bkC h 3).trans rfl, (bkC h 4).trans rfl, (bkC h 5).trans rfl⟩
mutual
def w37_CasemapJoins.j0 : Nat → List Int → List Int → Bool → List (S43) → List (S43) → List (S43) → List (S43) → List (S33) → List (S33) → Option (Bool)
 | 0, _, _, _, _, _, _, _, _, _ => none
 | k + 1, x1, x2, x18, x424000, x424001, x424002, x424003, x424004, x424005 => if x18 = true then ((w37_alive.f).bind fun t426 => (some t426)) else ((some (([] : List Int) : List Int)).bind fun y427 => (if y427.length + x1.length < 17592186044416 then ((some (y427 ++ x1 : List Int)).bind fun y430 => (if y430.length + x2.length < 17592186044416 then ((some (y430 ++ x2 : List Int)).bind fun y433 => ((casemap_Upper.f x424000 x424001 x424002 x424003 x424004 x424005 y433).bind fun t436 => ((some (([] : List Int) : List Int)).bind fun y439 => ((casemap_Upper.f x424000 x424001 x424002 x424003 x424004 x424005 x1).bind fun t442 => (if y439.length + t442.length < 17592186044416 then ((some (y439 ++ t442 : List Int)).bind fun y445 => ((casemap_Upper.f x424000 x424001 x424002 x424003 x424004 x424005 x2).bind fun t448 => (if y445.length + t448.length < 17592186044416 then ((r01_Equal.f k t436 (y445 ++ t448)).bind fun t454 => (if t454 = true then (w37_CasemapJoins.l0 k x1 x2 y433 0 x424000 x424001 x424002 x424003 x424004 x424005) else (some false))) else (none)))) else (none)))))) else (none))) else (none)))
def w37_CasemapJoins.l0 : Nat → List Int → List Int → List Int → Int → List (S43) → List (S43) → List (S43) → List (S43) → List (S33) → List (S33) → Option (Bool)
 | 0, _, _, _, _, _, _, _, _, _, _ => none
 | k + 1, x1, x2, x7, x8, x424000, x424001, x424002, x424003, x424004, x424005 => if x8 < (x424000.length : Int) then (if 0 ≤ x8 then (if ((rd_T43 x424000 x8).f2).toList = ([] : List UInt8) then (w37_CasemapJoins.l0 k x1 x2 x7 (wrap64 (x8 + 1)) x424000 x424001 x424002 x424003 x424004 x424005) else ((r37_Check.f k x424000 x424001 x424002 x424003 x424004 x424005).bind fun t456 => (if t456 = 0 then ((w37_alive.f).bind fun t457 => (some t457)) else (w37_CasemapJoins.l0 k x1 x2 x7 (wrap64 (x8 + 1)) x424000 x424001 x424002 x424003 x424004 x424005)))) else (none)) else ((casemap_Lower.f x424000 x424001 x424002 x424003 x424004 x424005 x7).bind fun t458 => ((some (([] : List Int) : List Int)).bind fun y461 => ((casemap_Lower.f x424000 x424001 x424002 x424003 x424004 x424005 x1).bind fun t464 => (if y461.length + t464.length < 17592186044416 then ((some (y461 ++ t464 : List Int)).bind fun y467 => ((casemap_Lower.f x424000 x424001 x424002 x424003 x424004 x424005 x2).bind fun t470 => (if y467.length + t470.length < 17592186044416 then ((r01_Equal.f k t458 (y467 ++ t470)).bind fun t476 => (if t476 = true then ((w37_alive.f).bind fun t477 => (some t477)) else (some false))) else (none)))) else (none)))))
end
def w37_CasemapJoins.f (k : Nat) (q0 : List (S43)) (q1 : List (S43)) (q2 : List (S43)) (q3 : List (S43)) (q4 : List (S33)) (q5 : List (S33)) (l1 : List Int) (l2 : List Int) : Option (Bool) := (w37_few.f k q0 q1 q2 q3 q4 q5 l1).bind fun t424 => (if t424 = true then ((w37_few.f k q0 q1 q2 q3 q4 q5 l2).bind fun t425 => (w37_CasemapJoins.j0 k l1 l2 (!t425) q0 q1 q2 q3 q4 q5)) else (w37_CasemapJoins.j0 k l1 l2 true q0 q1 q2 q3 q4 q5))
def w37_CasemapJoins.T4 : Bool × List (List Nat × List Nat) := (true, [([], []), ([], []), ([0, 1], [0, 1]), ([], []), ([], []), ([], []), ([4, 5, 2], [4, 5]), ([3, 6, 6], [3, 6]), ([], []), ([], []), ([8, 9, 7], [8, 9]), ([7, 10, 10], [7, 10]), ([2, 11, 11], [2, 11]), ([12], [12])])
def w37_CasemapJoins.B4 : List Nat := [0, 0, 3, 0, 0, 0, 55, 127, 0, 0, 1023, 2047, 4095, 8191]
theorem w37_CasemapJoins.tab4 : rtab .any (opsOf Try.f8 4) = w37_CasemapJoins.T4 := by kernel_rfl
theorem w37_CasemapJoins.bits4 : waitsOk w37_CasemapJoins.T4.2 w37_CasemapJoins.B4 = true := by kernel_rfl
def w37_CasemapJoins.T11 : Bool × List (List Nat × List Nat) := (true, [([], []), ([], []), ([0, 1], [0, 1]), ([], []), ([], []), ([], []), ([4, 5, 2], [4, 5]), ([3, 6, 6], [3, 6]), ([], []), ([], []), ([8, 9, 7], [8, 9]), ([7, 10, 10], [7, 10]), ([2, 11, 11], [2, 11]), ([12, 12], [12]), ([13, 13], [13]), ([13, 14], [13, 14]), ([15, 14, 0, 1, 2, 3, 4, 5, 6, 7, 8, 9, 10, 11, 12, 13, 14, 15], [15])])
def w37_CasemapJoins.B11 : List Nat := [0, 0, 3, 0, 0, 0, 55, 127, 0, 0, 1023, 2047, 4095, 8191, 16383, 32767, 65535]
theorem w37_CasemapJoins.tab11 : rtab .any (opsOf Try.f8 11) = w37_CasemapJoins.T11 := by kernel_rfl
theorem w37_CasemapJoins.bits11 : waitsOk w37_CasemapJoins.T11.2 w37_CasemapJoins.B11 = true := by kernel_rfl
set_option maxHeartbeats 8000000 in
set_option maxRecDepth 100000 in
theorem w37_CasemapJoins.calls (k : Nat) (P0 : Option Addr) (n0 : Nat) (q0 : List (S43)) (P1 : Option Addr) (n1 : Nat) (q1 : List (S43)) (P2 : Option Addr) (n2 : Nat) (q2 : List (S43)) (P3 : Option Addr) (n3 : Nat) (q3 : List (S43)) (P4 : Option Addr) (n4 : Nat) (q4 : List (S33)) (P5 : Option Addr) (n5 : Nat) (q5 : List (S33)) (A1 : Option Addr) (c1 : Nat) (l1 : List Int) (A2 : Option Addr) (c2 : Nat) (l2 : List Int) (r : Bool) (w : World) (hr0_0 : Kd.C k43 w P0 q0.length q0) (hc0_0 : q0.length ≤ n0) (hr0_1 : Kd.C k43 w P1 q1.length q1) (hc0_1 : q1.length ≤ n1) (hr0_2 : Kd.C k43 w P2 q2.length q2) (hc0_2 : q2.length ≤ n2) (hr0_3 : Kd.C k43 w P3 q3.length q3) (hc0_3 : q3.length ≤ n3) (hr0_4 : Kd.C k33 w P4 q4.length q4) (hc0_4 : q4.length ≤ n4) (hr0_5 : Kd.C k33 w P5 q5.length q5) (hc0_5 : q5.length ≤ n5) (hr1 : Kd.C (Kd.int .i64) w A1 l1.length l1) (hc1 : l1.length ≤ c1) (hr2 : Kd.C (Kd.int .i64) w A2 l2.length l2) (hc2 : l2.length ≤ c2) (h : w37_CasemapJoins.f k q0 q1 q2 q3 q4 q5 l1 l2 = some r) :
  Calls Try.prog 8 #[.agg #[.slice P0 q0.length n0, .slice P1 q1.length n1, .slice P2 q2.length n2, .slice P3 q3.length n3, .slice P4 q4.length n4, .slice P5 q5.length n5], .slice A1 l1.length c1, .slice A2 l2.length c2] w fun e w' => e = .returned (.bool r) ∧ Below w.heap.size w w' := by
 have hu27 := Try.underlying27
 have R0 := aM hr0_0
 have N0 := aM hc0_0
 clear hr0_0 hc0_0
 have R1 := aM hr0_1
 have N1 := aM hc0_1
 clear hr0_1 hc0_1
 have R2 := aM hr0_2
 have N2 := aM hc0_2
 clear hr0_2 hc0_2
 have R3 := aM hr0_3
 have N3 := aM hc0_3
 clear hr0_3 hc0_3
 have R4 := aM hr0_4
 have N4 := aM hc0_4
 clear hr0_4 hc0_4
 have R5 := aM hr0_5
 have N5 := aM hc0_5
 clear hr0_5 hc0_5
 have HR1 := aM hr1
 have HC1 := aM hc1
 clear hr1 hc1
 have HR2 := aM hr2
 have HC2 := aM hc2
 clear hr2 hc2
 have HB := aM (Below.refl w.heap.size w)
 have H : ((w37_few.f k q0 q1 q2 q3 q4 q5 l1).bind fun t424 => (if t424 = true then ((w37_few.f k q0 q1 q2 q3 q4 q5 l2).bind fun t425 => (w37_CasemapJoins.j0 k l1 l2 (!t425) q0 q1 q2 q3 q4 q5)) else (w37_CasemapJoins.j0 k l1 l2 true q0 q1 q2 q3 q4 q5))) = some r := h
 clear h
 have HC4 := aM H
 clear H
 go_enter Try.func8, Try.ntmps8
 go_upto_region 1 with (first | ((with_reducible refine gate_dst (N := 3) rfl ?_); refine box_event ?hg (N := 3) ?hd (cs := #[.slice P0 q0.length n0, .slice P1 q1.length n1, .slice P2 q2.length n2, .slice P3 q3.length n3, .slice P4 q4.length n4, .slice P5 q5.length n5]) (t := 27) ?hr ?_; (case hd => rfl); (case hg => rfl); (case hr => first | (go_simp; done) | (go_simp; rfl)); intro gb423 hg w5 hbox hb; have n0_ := aM (bSp (by repeat (first | (with_reducible first | exact HB.1 | apply bAl | apply pbN | apply bD1) | exact HB.1)) hb); have n1_ := aM (hbox); have n2_ := aM ((by rw [hg]; exact (bSz (by repeat (first | (with_reducible first | exact HB.1 | apply bAl | apply pbN | apply bD1) | exact HB.1))) : w.heap.size ≤ gb423)); have n3_ := aM ((by rw [hg]; exact (bSz (by repeat (first | (with_reducible first | exact HB.1 | apply bAl | apply pbN | apply bD1) | exact HB.1))) : w.heap.size ≤ gb423)); clear HB; have HB := n0_; have BK423 := n1_; have GW423 := n2_; have GE423 := n3_; clear n0_ n1_ n2_ n3_; clear hb hbox hg))
 (try simp only [Act.put, sI, sZ, sS])
 go_cut [18] (fun v18 wc => ∃ (kq : Nat) (x18_3 : Bool), v18 = .bool x18_3 ∧ Aside0 (w37_CasemapJoins.j0 kq l1 l2 x18_3 q0 q1 q2 q3 q4 q5 = some r) ∧ Aside0 (kq ≤ k) ∧ Aside0 (wc.heap[gb423]? = some (.cells #[(.slice P0 q0.length n0), (.slice P1 q1.length n1), (.slice P2 q2.length n2), (.slice P3 q3.length n3), (.slice P4 q4.length n4), (.slice P5 q5.length n5)] 27 (0, 0))) ∧ Aside0 (Below w.heap.size w wc))
 case first =>
  have H := HC4.1
  clear HC4
  replace H := Option.bind_eq_some_iff.mp H
  obtain ⟨t424, A60, H⟩ := H
  replace H : (if t424 = true then ((w37_few.f k q0 q1 q2 q3 q4 q5 l2).bind fun t425 => (w37_CasemapJoins.j0 k l1 l2 (!t425) q0 q1 q2 q3 q4 q5)) else (w37_CasemapJoins.j0 k l1 l2 true q0 q1 q2 q3 q4 q5)) = some r := H
  have A6 := aM A60
  clear A60
  by_cases c7 : t424 = true
  ·subst c7
   have H1 : ((w37_few.f k q0 q1 q2 q3 q4 q5 l2).bind fun t425 => (w37_CasemapJoins.j0 k l1 l2 (!t425) q0 q1 q2 q3 q4 q5)) = some r := by rw [if_pos rfl] at H; exact H
   clear H
   have H := H1
   clear H1
   replace H := Option.bind_eq_some_iff.mp H
   obtain ⟨t425, A80, H⟩ := H
   replace H : (w37_CasemapJoins.j0 k l1 l2 (!t425) q0 q1 q2 q3 q4 q5) = some r := H
   have A8 := aM A80
   clear A80
   have H' := aM H
   clear H
   have hcz9_0 : w5.cell? ⟨gb423, 0, none⟩ = some (.slice P0 q0.length n0) := (bkC BK423.1 0).trans rfl
   have hcz9_1 : w5.cell? ⟨gb423, 1, none⟩ = some (.slice P1 q1.length n1) := (bkC BK423.1 1).trans rfl
   have hcz9_2 : w5.cell? ⟨gb423, 2, none⟩ = some (.slice P2 q2.length n2) := (bkC BK423.1 2).trans rfl
   have hcz9_3 : w5.cell? ⟨gb423, 3, none⟩ = some (.slice P3 q3.length n3) := (bkC BK423.1 3).trans rfl
   have hcz9_4 : w5.cell? ⟨gb423, 4, none⟩ = some (.slice P4 q4.length n4) := (bkC BK423.1 4).trans rfl
   have hcz9_5 : w5.cell? ⟨gb423, 5, none⟩ = some (.slice P5 q5.length n5) := (bkC BK423.1 5).trans rfl
   have hfz9_0 := bkF BK423.1 0
   have hfz9_1 := bkF BK423.1 1
   have hfz9_2 := bkF BK423.1 2
   have hfz9_3 := bkF BK423.1 3
   have hfz9_4 := bkF BK423.1 4
   have hfz9_5 := bkF BK423.1 5
   go_wp2_with (first | ((with_reducible refine gate_callee (f := 12) rfl ?_); refine goesL_ (some 11) rfl rfl Try.func12 (by kernel_rfl) rfl #[.agg #[.slice P0 q0.length n0, .slice P1 q1.length n1, .slice P2 q2.length n2, .slice P3 q3.length n3, .slice P4 q4.length n4, .slice P5 q5.length n5], .slice A1 l1.length c1] rfl (by (try simp only [List.map_toArray, List.map_cons, List.map_nil]); first | done | rfl | (simp only [List.length_drop, List.length_take]; rfl)) ?_; (with_reducible refine (w37_few.calls k _ _ q0 _ _ q1 _ _ q2 _ _ q3 _ _ q4 _ _ q5 _ _ l1 true _ ?z1 ?z2 ?z3 ?z4 ?z5 ?z6 ?z7 ?z8 ?z9 ?z10 ?z11 ?z12 ?z13 ?z14 A6.1).mono ?_); (case z1 => repeat (first | exact cB0 R0.1 HB.1 | with_reducible first | refine cA0 ?_ _ | refine cN0 ?_ _ | refine cD0 ?_)); (case z2 => exact N0.1); (case z3 => repeat (first | exact cB0 R1.1 HB.1 | with_reducible first | refine cA0 ?_ _ | refine cN0 ?_ _ | refine cD0 ?_)); (case z4 => exact N1.1); (case z5 => repeat (first | exact cB0 R2.1 HB.1 | with_reducible first | refine cA0 ?_ _ | refine cN0 ?_ _ | refine cD0 ?_)); (case z6 => exact N2.1); (case z7 => repeat (first | exact cB0 R3.1 HB.1 | with_reducible first | refine cA0 ?_ _ | refine cN0 ?_ _ | refine cD0 ?_)); (case z8 => exact N3.1); (case z9 => repeat (first | exact cB0 R4.1 HB.1 | with_reducible first | refine cA0 ?_ _ | refine cN0 ?_ _ | refine cD0 ?_)); (case z10 => exact N4.1); (case z11 => repeat (first | exact cB0 R5.1 HB.1 | with_reducible first | refine cA0 ?_ _ | refine cN0 ?_ _ | refine cD0 ?_)); (case z12 => exact N5.1); (case z13 => repeat (first | exact cB0 HR1.1 HB.1 | with_reducible first | refine cA0 ?_ _ | refine cN0 ?_ _ | refine cD0 ?_)); (case z14 => exact HC1.1); rintro e w10 ⟨rfl, hb⟩; refine ⟨_, rfl, ?_⟩; have n0_ := aM (blk_below (g := gb423) (o := .cells #[.slice P0 q0.length n0, .slice P1 q1.length n1, .slice P2 q2.length n2, .slice P3 q3.length n3, .slice P4 q4.length n4, .slice P5 q5.length n5] 27 (0, 0)) (by (with_reducible repeat (first | refine bkN ?_ _ | refine bkD ?_ | refine bkA ?_ _)); exact BK423.1) hb); have n1_ := aM (bSp (by repeat (first | (with_reducible first | exact HB.1 | apply bAl | apply pbN | apply bD1 | refine bSt ?_ GE423.1) | exact HB.1)) hb); clear BK423; clear HB; have BK423 := n0_; have HB := n1_; clear n0_ n1_; (try clear hb); (try clear hb2); (try clear hk); (try clear hi); have hcz11_0 : w10.cell? ⟨gb423, 0, none⟩ = some (.slice P0 q0.length n0) := (bkC BK423.1 0).trans rfl; have hcz11_1 : w10.cell? ⟨gb423, 1, none⟩ = some (.slice P1 q1.length n1) := (bkC BK423.1 1).trans rfl; have hcz11_2 : w10.cell? ⟨gb423, 2, none⟩ = some (.slice P2 q2.length n2) := (bkC BK423.1 2).trans rfl; have hcz11_3 : w10.cell? ⟨gb423, 3, none⟩ = some (.slice P3 q3.length n3) := (bkC BK423.1 3).trans rfl; have hcz11_4 : w10.cell? ⟨gb423, 4, none⟩ = some (.slice P4 q4.length n4) := (bkC BK423.1 4).trans rfl; have hcz11_5 : w10.cell? ⟨gb423, 5, none⟩ = some (.slice P5 q5.length n5) := (bkC BK423.1 5).trans rfl; have hfz11_0 := bkF BK423.1 0; have hfz11_1 := bkF BK423.1 1; have hfz11_2 := bkF BK423.1 2; have hfz11_3 := bkF BK423.1 3; have hfz11_4 := bkF BK423.1 4; have hfz11_5 := bkF BK423.1 5) | (go_at_call 12; (with_reducible refine (w37_few.calls k _ _ q0 _ _ q1 _ _ q2 _ _ q3 _ _ q4 _ _ q5 _ _ l2 t425 _ ?z1 ?z2 ?z3 ?z4 ?z5 ?z6 ?z7 ?z8 ?z9 ?z10 ?z11 ?z12 ?z13 ?z14 A8.1).mono ?_); (case z1 => repeat (first | exact cB0 R0.1 HB.1 | with_reducible first | refine cA0 ?_ _ | refine cN0 ?_ _ | refine cD0 ?_)); (case z2 => exact N0.1); (case z3 => repeat (first | exact cB0 R1.1 HB.1 | with_reducible first | refine cA0 ?_ _ | refine cN0 ?_ _ | refine cD0 ?_)); (case z4 => exact N1.1); (case z5 => repeat (first | exact cB0 R2.1 HB.1 | with_reducible first | refine cA0 ?_ _ | refine cN0 ?_ _ | refine cD0 ?_)); (case z6 => exact N2.1); (case z7 => repeat (first | exact cB0 R3.1 HB.1 | with_reducible first | refine cA0 ?_ _ | refine cN0 ?_ _ | refine cD0 ?_)); (case z8 => exact N3.1); (case z9 => repeat (first | exact cB0 R4.1 HB.1 | with_reducible first | refine cA0 ?_ _ | refine cN0 ?_ _ | refine cD0 ?_)); (case z10 => exact N4.1); (case z11 => repeat (first | exact cB0 R5.1 HB.1 | with_reducible first | refine cA0 ?_ _ | refine cN0 ?_ _ | refine cD0 ?_)); (case z12 => exact N5.1); (case z13 => repeat (first | exact cB0 HR2.1 HB.1 | with_reducible first | refine cA0 ?_ _ | refine cN0 ?_ _ | refine cD0 ?_)); (case z14 => exact HC2.1); rintro e w12 ⟨rfl, hb⟩; have n0_ := aM (blk_below (g := gb423) (o := .cells #[.slice P0 q0.length n0, .slice P1 q1.length n1, .slice P2 q2.length n2, .slice P3 q3.length n3, .slice P4 q4.length n4, .slice P5 q5.length n5] 27 (0, 0)) (by (with_reducible repeat (first | refine bkN ?_ _ | refine bkD ?_ | refine bkA ?_ _)); exact BK423.1) hb); have n1_ := aM (bSp (by repeat (first | (with_reducible first | exact HB.1 | apply bAl | apply pbN | apply bD1 | refine bSt ?_ GE423.1) | exact HB.1)) hb); clear BK423; clear HB; have BK423 := n0_; have HB := n1_; clear n0_ n1_; (try clear hb); (try clear hb2); (try clear hk); (try clear hi)))
   go_meet
   case rel => exact ⟨_, (!t425), (by first | rfl | (simp; done) | (simp [*]; done)), H', ⟨by first | omega | exact Nat.le_refl _⟩, ⟨by (with_reducible repeat (first | refine bkN ?_ _ | refine bkD ?_ | refine bkA ?_ _)); exact BK423.1⟩, ⟨by repeat (first | (with_reducible first | exact HB.1 | apply bAl | apply pbN | apply bD1 | refine bSt ?_ GE423.1) | exact HB.1)⟩⟩
  ·replace c7 := Bool.eq_false_iff.mpr c7
   subst c7
   have H1 : (w37_CasemapJoins.j0 k l1 l2 true q0 q1 q2 q3 q4 q5) = some r := by rw [if_neg (show ¬ (false = true) by decide)] at H; exact H
   clear H
   have H := H1
   clear H1
   have H' := aM H
   clear H
   have hcz13_0 : w5.cell? ⟨gb423, 0, none⟩ = some (.slice P0 q0.length n0) := (bkC BK423.1 0).trans rfl
   have hcz13_1 : w5.cell? ⟨gb423, 1, none⟩ = some (.slice P1 q1.length n1) := (bkC BK423.1 1).trans rfl
   have hcz13_2 : w5.cell? ⟨gb423, 2, none⟩ = some (.slice P2 q2.length n2) := (bkC BK423.1 2).trans rfl
   have hcz13_3 : w5.cell? ⟨gb423, 3, none⟩ = some (.slice P3 q3.length n3) := (bkC BK423.1 3).trans rfl
   have hcz13_4 : w5.cell? ⟨gb423, 4, none⟩ = some (.slice P4 q4.length n4) := (bkC BK423.1 4).trans rfl
   have hcz13_5 : w5.cell? ⟨gb423, 5, none⟩ = some (.slice P5 q5.length n5) := (bkC BK423.1 5).trans rfl
   have hfz13_0 := bkF BK423.1 0
   have hfz13_1 := bkF BK423.1 1
   have hfz13_2 := bkF BK423.1 2
   have hfz13_3 := bkF BK423.1 3
   have hfz13_4 := bkF BK423.1 4
   have hfz13_5 := bkF BK423.1 5
   go_wp2_with (first | ((with_reducible refine gate_callee (f := 12) rfl ?_); refine goesL_ (some 11) rfl rfl Try.func12 (by kernel_rfl) rfl #[.agg #[.slice P0 q0.length n0, .slice P1 q1.length n1, .slice P2 q2.length n2, .slice P3 q3.length n3, .slice P4 q4.length n4, .slice P5 q5.length n5], .slice A1 l1.length c1] rfl (by (try simp only [List.map_toArray, List.map_cons, List.map_nil]); first | done | rfl | (simp only [List.length_drop, List.length_take]; rfl)) ?_; (with_reducible refine (w37_few.calls k _ _ q0 _ _ q1 _ _ q2 _ _ q3 _ _ q4 _ _ q5 _ _ l1 false _ ?z1 ?z2 ?z3 ?z4 ?z5 ?z6 ?z7 ?z8 ?z9 ?z10 ?z11 ?z12 ?z13 ?z14 A6.1).mono ?_); (case z1 => repeat (first | exact cB0 R0.1 HB.1 | with_reducible first | refine cA0 ?_ _ | refine cN0 ?_ _ | refine cD0 ?_)); (case z2 => exact N0.1); (case z3 => repeat (first | exact cB0 R1.1 HB.1 | with_reducible first | refine cA0 ?_ _ | refine cN0 ?_ _ | refine cD0 ?_)); (case z4 => exact N1.1); (case z5 => repeat (first | exact cB0 R2.1 HB.1 | with_reducible first | refine cA0 ?_ _ | refine cN0 ?_ _ | refine cD0 ?_)); (case z6 => exact N2.1); (case z7 => repeat (first | exact cB0 R3.1 HB.1 | with_reducible first | refine cA0 ?_ _ | refine cN0 ?_ _ | refine cD0 ?_)); (case z8 => exact N3.1); (case z9 => repeat (first | exact cB0 R4.1 HB.1 | with_reducible first | refine cA0 ?_ _ | refine cN0 ?_ _ | refine cD0 ?_)); (case z10 => exact N4.1); (case z11 => repeat (first | exact cB0 R5.1 HB.1 | with_reducible first | refine cA0 ?_ _ | refine cN0 ?_ _ | refine cD0 ?_)); (case z12 => exact N5.1); (case z13 => repeat (first | exact cB0 HR1.1 HB.1 | with_reducible first | refine cA0 ?_ _ | refine cN0 ?_ _ | refine cD0 ?_)); (case z14 => exact HC1.1); rintro e w14 ⟨rfl, hb⟩; refine ⟨_, rfl, ?_⟩; have n0_ := aM (blk_below (g := gb423) (o := .cells #[.slice P0 q0.length n0, .slice P1 q1.length n1, .slice P2 q2.length n2, .slice P3 q3.length n3, .slice P4 q4.length n4, .slice P5 q5.length n5] 27 (0, 0)) (by (with_reducible repeat (first | refine bkN ?_ _ | refine bkD ?_ | refine bkA ?_ _)); exact BK423.1) hb); have n1_ := aM (bSp (by repeat (first | (with_reducible first | exact HB.1 | apply bAl | apply pbN | apply bD1 | refine bSt ?_ GE423.1) | exact HB.1)) hb); clear BK423; clear HB; have BK423 := n0_; have HB := n1_; clear n0_ n1_; (try clear hb); (try clear hb2); (try clear hk); (try clear hi)))
   go_meet
   case rel => exact ⟨_, (true), (by first | rfl | (simp; done) | (simp [*]; done)), H', ⟨by first | omega | exact Nat.le_refl _⟩, ⟨by (with_reducible repeat (first | refine bkN ?_ _ | refine bkD ?_ | refine bkA ?_ _)); exact BK423.1⟩, ⟨by repeat (first | (with_reducible first | exact HB.1 | apply bAl | apply pbN | apply bD1 | refine bSt ?_ GE423.1) | exact HB.1)⟩⟩
 case rest =>
  clear HC4
  (try clear c1); (try clear c2); (try clear p2); (try clear c7); (try clear c8); (try clear c12); (try clear hcz11_0); (try clear hcz11_1); (try clear hcz11_2); (try clear hcz11_3); (try clear hcz11_4); (try clear hcz11_5); (try clear hcz13_0); (try clear hcz13_1); (try clear hcz13_2); (try clear hcz13_3); (try clear hcz13_4); (try clear hcz13_5); (try clear hcz9_0); (try clear hcz9_1); (try clear hcz9_2); (try clear hcz9_3); (try clear hcz9_4); (try clear hcz9_5); (try clear hfz11_0); (try clear hfz11_1); (try clear hfz11_2); (try clear hfz11_3); (try clear hfz11_4); (try clear hfz11_5); (try clear hfz13_0); (try clear hfz13_1); (try clear hfz13_2); (try clear hfz13_3); (try clear hfz13_4); (try clear hfz13_5); (try clear hfz9_0); (try clear hfz9_1); (try clear hfz9_2); (try clear hfz9_3); (try clear hfz9_4); (try clear hfz9_5)
  obtain ⟨kq, x18_3, rfl, HA, HJ3, BK423, HB⟩ := hcut
  cases kq with
  | zero => exact absurd HA.1 (by simp [w37_CasemapJoins.j0])
  | succ kj3 =>
   have H := HA.1
   clear HA
   simp only [w37_CasemapJoins.j0] at H
   by_cases c15 : x18_3 = true
   ·subst c15
    have H1 : ((w37_alive.f).bind fun t426 => (some t426)) = some r := by rw [if_pos rfl] at H; exact H
    clear H
    have H := H1
    clear H1
    replace H := Option.bind_eq_some_iff.mp H
    obtain ⟨t426, A160, H⟩ := H
    replace H : (some t426) = some r := H
    have A16 := aM A160
    clear A160
    obtain rfl := Option.some.inj H
    go_wp2_with (first | ((with_reducible refine gate_callee (f := 14) rfl ?_); refine goesL_ (some 19) rfl rfl Try.func14 (by kernel_rfl) rfl #[] rfl (by (try simp only [List.map_toArray, List.map_cons, List.map_nil]); first | done | rfl | (simp only [List.length_drop, List.length_take]; rfl)) ?_; (with_reducible refine (w37_alive.calls  t426 _ A16.1).mono ?_); rintro e w17 ⟨rfl, hb⟩; refine ⟨_, rfl, ?_⟩; have n0_ := aM (blk_below (g := gb423) (o := .cells #[.slice P0 q0.length n0, .slice P1 q1.length n1, .slice P2 q2.length n2, .slice P3 q3.length n3, .slice P4 q4.length n4, .slice P5 q5.length n5] 27 (0, 0)) (by (with_reducible repeat (first | refine bkN ?_ _ | refine bkD ?_ | refine bkA ?_ _)); exact BK423.1) hb); have n1_ := aM (bSp (by repeat (first | (with_reducible first | exact HB.1 | apply bAl | apply pbN | apply bD1 | refine bSt ?_ GE423.1) | exact HB.1)) hb); clear BK423; clear HB; have BK423 := n0_; have HB := n1_; clear n0_ n1_; (try clear hb); (try clear hb2); (try clear hk); (try clear hi)))
    go_ret
    exact ⟨by first | rfl | (simp [eN, eS] <;> rfl) | (simp [*, eN, eS] <;> rfl), by repeat (first | (with_reducible first | exact HB.1 | apply bAl | apply pbN | apply bD1 | refine bSt ?_ GE423.1) | exact HB.1)⟩
   ·replace c15 := Bool.eq_false_iff.mpr c15
    subst c15
    have H1 : ((some (([] : List Int) : List Int)).bind fun y427 => (if y427.length + l1.length < 17592186044416 then ((some (y427 ++ l1 : List Int)).bind fun y430 => (if y430.length + l2.length < 17592186044416 then ((some (y430 ++ l2 : List Int)).bind fun y433 => ((casemap_Upper.f q0 q1 q2 q3 q4 q5 y433).bind fun t436 => ((some (([] : List Int) : List Int)).bind fun y439 => ((casemap_Upper.f q0 q1 q2 q3 q4 q5 l1).bind fun t442 => (if y439.length + t442.length < 17592186044416 then ((some (y439 ++ t442 : List Int)).bind fun y445 => ((casemap_Upper.f q0 q1 q2 q3 q4 q5 l2).bind fun t448 => (if y445.length + t448.length < 17592186044416 then ((r01_Equal.f kj3 t436 (y445 ++ t448)).bind fun t454 => (if t454 = true then (w37_CasemapJoins.l0 kj3 l1 l2 y433 0 q0 q1 q2 q3 q4 q5) else (some false))) else (none)))) else (none)))))) else (none))) else (none))) = some r := by rw [if_neg (show ¬ (false = true) by decide)] at H; exact H
    clear H
    have H := H1
    clear H1
    obtain ⟨y427, hy427⟩ : ∃ y_ : List Int, y_ = (([] : List Int)) := ⟨_, rfl⟩
    replace H : (if y427.length + l1.length < 17592186044416 then ((some (y427 ++ l1 : List Int)).bind fun y430 => (if y430.length + l2.length < 17592186044416 then ((some (y430 ++ l2 : List Int)).bind fun y433 => ((casemap_Upper.f q0 q1 q2 q3 q4 q5 y433).bind fun t436 => ((some (([] : List Int) : List Int)).bind fun y439 => ((casemap_Upper.f q0 q1 q2 q3 q4 q5 l1).bind fun t442 => (if y439.length + t442.length < 17592186044416 then ((some (y439 ++ t442 : List Int)).bind fun y445 => ((casemap_Upper.f q0 q1 q2 q3 q4 q5 l2).bind fun t448 => (if y445.length + t448.length < 17592186044416 then ((r01_Equal.f kj3 t436 (y445 ++ t448)).bind fun t454 => (if t454 = true then (w37_CasemapJoins.l0 kj3 l1 l2 y433 0 q0 q1 q2 q3 q4 q5) else (some false))) else (none)))) else (none)))))) else (none))) else (none)) = some r := by first | (rw [hy427]; with_reducible exact H) | (have H2_ := (Option.bind_some _ _).symm.trans H; rw [hy427]; with_reducible exact H2_) | (have H2_ := (Option.bind_some _ _).symm.trans H; with_reducible exact H2_) | with_reducible exact H | (rw [hy427]; exact H) | exact H
    have Ny427 := aM hy427
    clear hy427
    by_cases c18 : y427.length + l1.length < 17592186044416
    ·rw [if_pos c18] at H
     have LMc18 := aM c18
     clear c18
     obtain ⟨y430, hy430⟩ : ∃ y_ : List Int, y_ = (y427 ++ l1) := ⟨_, rfl⟩
     replace H : (if y430.length + l2.length < 17592186044416 then ((some (y430 ++ l2 : List Int)).bind fun y433 => ((casemap_Upper.f q0 q1 q2 q3 q4 q5 y433).bind fun t436 => ((some (([] : List Int) : List Int)).bind fun y439 => ((casemap_Upper.f q0 q1 q2 q3 q4 q5 l1).bind fun t442 => (if y439.length + t442.length < 17592186044416 then ((some (y439 ++ t442 : List Int)).bind fun y445 => ((casemap_Upper.f q0 q1 q2 q3 q4 q5 l2).bind fun t448 => (if y445.length + t448.length < 17592186044416 then ((r01_Equal.f kj3 t436 (y445 ++ t448)).bind fun t454 => (if t454 = true then (w37_CasemapJoins.l0 kj3 l1 l2 y433 0 q0 q1 q2 q3 q4 q5) else (some false))) else (none)))) else (none)))))) else (none)) = some r := by first | (rw [hy430]; with_reducible exact H) | (have H2_ := (Option.bind_some _ _).symm.trans H; rw [hy430]; with_reducible exact H2_) | (have H2_ := (Option.bind_some _ _).symm.trans H; with_reducible exact H2_) | with_reducible exact H | (rw [hy430]; exact H) | exact H
     have Ny430 := aM hy430
     clear hy430
     by_cases c19 : y430.length + l2.length < 17592186044416
     ·rw [if_pos c19] at H
      have LMc19 := aM c19
      clear c19
      obtain ⟨y433, hy433⟩ : ∃ y_ : List Int, y_ = (y430 ++ l2) := ⟨_, rfl⟩
      replace H : ((casemap_Upper.f q0 q1 q2 q3 q4 q5 y433).bind fun t436 => ((some (([] : List Int) : List Int)).bind fun y439 => ((casemap_Upper.f q0 q1 q2 q3 q4 q5 l1).bind fun t442 => (if y439.length + t442.length < 17592186044416 then ((some (y439 ++ t442 : List Int)).bind fun y445 => ((casemap_Upper.f q0 q1 q2 q3 q4 q5 l2).bind fun t448 => (if y445.length + t448.length < 17592186044416 then ((r01_Equal.f kj3 t436 (y445 ++ t448)).bind fun t454 => (if t454 = true then (w37_CasemapJoins.l0 kj3 l1 l2 y433 0 q0 q1 q2 q3 q4 q5) else (some false))) else (none)))) else (none))))) = some r := by first | (rw [hy433]; with_reducible exact H) | (have H2_ := (Option.bind_some _ _).symm.trans H; rw [hy433]; with_reducible exact H2_) | (have H2_ := (Option.bind_some _ _).symm.trans H; with_reducible exact H2_) | with_reducible exact H | (rw [hy433]; exact H) | exact H
      have Ny433 := aM hy433
      clear hy433
      replace H := Option.bind_eq_some_iff.mp H
      obtain ⟨t436, A200, H⟩ := H
      replace H : ((some (([] : List Int) : List Int)).bind fun y439 => ((casemap_Upper.f q0 q1 q2 q3 q4 q5 l1).bind fun t442 => (if y439.length + t442.length < 17592186044416 then ((some (y439 ++ t442 : List Int)).bind fun y445 => ((casemap_Upper.f q0 q1 q2 q3 q4 q5 l2).bind fun t448 => (if y445.length + t448.length < 17592186044416 then ((r01_Equal.f kj3 t436 (y445 ++ t448)).bind fun t454 => (if t454 = true then (w37_CasemapJoins.l0 kj3 l1 l2 y433 0 q0 q1 q2 q3 q4 q5) else (some false))) else (none)))) else (none)))) = some r := H
      have A20 := aM A200
      clear A200
      obtain ⟨y439, hy439⟩ : ∃ y_ : List Int, y_ = (([] : List Int)) := ⟨_, rfl⟩
      replace H : ((casemap_Upper.f q0 q1 q2 q3 q4 q5 l1).bind fun t442 => (if y439.length + t442.length < 17592186044416 then ((some (y439 ++ t442 : List Int)).bind fun y445 => ((casemap_Upper.f q0 q1 q2 q3 q4 q5 l2).bind fun t448 => (if y445.length + t448.length < 17592186044416 then ((r01_Equal.f kj3 t436 (y445 ++ t448)).bind fun t454 => (if t454 = true then (w37_CasemapJoins.l0 kj3 l1 l2 y433 0 q0 q1 q2 q3 q4 q5) else (some false))) else (none)))) else (none))) = some r := by first | (rw [hy439]; with_reducible exact H) | (have H2_ := (Option.bind_some _ _).symm.trans H; rw [hy439]; with_reducible exact H2_) | (have H2_ := (Option.bind_some _ _).symm.trans H; with_reducible exact H2_) | with_reducible exact H | (rw [hy439]; exact H) | exact H
      have Ny439 := aM hy439
      clear hy439
      replace H := Option.bind_eq_some_iff.mp H
      obtain ⟨t442, A210, H⟩ := H
      replace H : (if y439.length + t442.length < 17592186044416 then ((some (y439 ++ t442 : List Int)).bind fun y445 => ((casemap_Upper.f q0 q1 q2 q3 q4 q5 l2).bind fun t448 => (if y445.length + t448.length < 17592186044416 then ((r01_Equal.f kj3 t436 (y445 ++ t448)).bind fun t454 => (if t454 = true then (w37_CasemapJoins.l0 kj3 l1 l2 y433 0 q0 q1 q2 q3 q4 q5) else (some false))) else (none)))) else (none)) = some r := H
      have A21 := aM A210
      clear A210
      by_cases c22 : y439.length + t442.length < 17592186044416
      ·rw [if_pos c22] at H
       have LMc22 := aM c22
       clear c22
       obtain ⟨y445, hy445⟩ : ∃ y_ : List Int, y_ = (y439 ++ t442) := ⟨_, rfl⟩
       replace H : ((casemap_Upper.f q0 q1 q2 q3 q4 q5 l2).bind fun t448 => (if y445.length + t448.length < 17592186044416 then ((r01_Equal.f kj3 t436 (y445 ++ t448)).bind fun t454 => (if t454 = true then (w37_CasemapJoins.l0 kj3 l1 l2 y433 0 q0 q1 q2 q3 q4 q5) else (some false))) else (none))) = some r := by first | (rw [hy445]; with_reducible exact H) | (have H2_ := (Option.bind_some _ _).symm.trans H; rw [hy445]; with_reducible exact H2_) | (have H2_ := (Option.bind_some _ _).symm.trans H; with_reducible exact H2_) | with_reducible exact H | (rw [hy445]; exact H) | exact H
       have Ny445 := aM hy445
       clear hy445
       replace H := Option.bind_eq_some_iff.mp H
       obtain ⟨t448, A230, H⟩ := H
       replace H : (if y445.length + t448.length < 17592186044416 then ((r01_Equal.f kj3 t436 (y445 ++ t448)).bind fun t454 => (if t454 = true then (w37_CasemapJoins.l0 kj3 l1 l2 y433 0 q0 q1 q2 q3 q4 q5) else (some false))) else (none)) = some r := H
       have A23 := aM A230
       clear A230
       by_cases c24 : y445.length + t448.length < 17592186044416
       ·rw [if_pos c24] at H
        have LMc24 := aM c24
        clear c24
        obtain ⟨y451, hy451⟩ : ∃ y_ : List Int, y_ = (y445 ++ t448) := ⟨_, rfl⟩
        replace H : ((r01_Equal.f kj3 t436 y451).bind fun t454 => (if t454 = true then (w37_CasemapJoins.l0 kj3 l1 l2 y433 0 q0 q1 q2 q3 q4 q5) else (some false))) = some r := by first | (rw [hy451]; with_reducible exact H) | (have H2_ := (Option.bind_some _ _).symm.trans H; rw [hy451]; with_reducible exact H2_) | (have H2_ := (Option.bind_some _ _).symm.trans H; with_reducible exact H2_) | with_reducible exact H | (rw [hy451]; exact H) | exact H
        have Ny451 := aM hy451
        clear hy451
        replace H := Option.bind_eq_some_iff.mp H
        obtain ⟨t454, A250, H⟩ := H
        replace H : (if t454 = true then (w37_CasemapJoins.l0 kj3 l1 l2 y433 0 q0 q1 q2 q3 q4 q5) else (some false)) = some r := H
        have A25 := aM A250
        clear A250
        by_cases c26 : t454 = true
        ·subst c26
         have H1 : (w37_CasemapJoins.l0 kj3 l1 l2 y433 0 q0 q1 q2 q3 q4 q5) = some r := by rw [if_pos rfl] at H; exact H
         clear H
         have H := H1
         clear H1
         have H' := aM H
         clear H
         try go_wp2_with (first | ((with_reducible refine gate_dst (N := 20) rfl ?_); refine Kd.R_lit (Kd.int .i64) _ 3 ?hg (N := 20) ?hd (xs := ([] : List Int)) (inner := []) (ok := fun _ => True) (okp := fun _ => True) ?hr ?hp (fun _ hk => hk) trivial (Below.refl _ _) (Nat.le_refl _) (by simp) ?_; (case hd => rfl); (case hg => rfl); (case hr => first | (go_simp; done) | (go_simp; rfl)); (case hp => exact (Reps.none _ _)); intro v428 w27 ho28 hb hg_ hnew_; clear hg_ hnew_; (first | rw [← Ny427.1] at ho28 | (simp only [Int.reduceToNat] at ho28; rw [← Ny427.1] at ho28)); have n0_ := aM (Kd.R_lower ho28 (bSz (by repeat (first | (with_reducible first | exact HB.1 | apply bAl | apply pbN | apply bD1 | refine bSt ?_ GE423.1) | exact HB.1)))); have n1_ := aM (blk_below (g := gb423) (o := .cells #[.slice P0 q0.length n0, .slice P1 q1.length n1, .slice P2 q2.length n2, .slice P3 q3.length n3, .slice P4 q4.length n4, .slice P5 q5.length n5] 27 (0, 0)) (by (with_reducible repeat (first | refine bkN ?_ _ | refine bkD ?_ | refine bkA ?_ _)); exact BK423.1) hb); have n2_ := aM (bSp (by repeat (first | (with_reducible first | exact HB.1 | apply bAl | apply pbN | apply bD1 | refine bSt ?_ GE423.1) | exact HB.1)) hb); clear BK423; clear HB; have HO429 := n0_; have BK423 := n1_; have HB := n2_; clear n0_ n1_ n2_; clear hb ho28) | ((with_reducible refine gate_builtin (b := .append) (xs := #[.tmp 20, .tmp 21]) rfl ?_); at_builtin; refine Kd.R_append_rows (Kd.int .i64) (w0 := w) w.heap.size rfl (.tmp 20) (.tmp 21) 28 3 (.int .i64 0) 8 rfl Try.underlying28 info3 rfl (by decide) (by omega) v428 y427 l1 _ _ _ (fun _ => True) (fun _ => False) rfl rfl ?aO ?aR (fun _ _ h => h) (fun _ h => h.elim) ?aF ?aB ?aS ?aL ?_; (case aR => repeat (first | exact cB0 HR1.1 HB.1 | with_reducible first | refine cA0 ?_ _ | refine cN0 ?_ _ | refine cD0 ?_)); (case aB => exact (by repeat (first | (with_reducible first | exact HB.1 | apply bAl | apply pbN | apply bD1 | refine bSt ?_ GE423.1) | exact HB.1))); (case aF => exact (fun _ _ => trivial)); (case aO => exact (by (with_reducible repeat first | apply rA0 | apply rN0 | apply rD0); exact HO429.1)); (case aS => exact (bSz (by repeat (first | (with_reducible first | exact HB.1 | apply bAl | apply pbN | apply bD1 | refine bSt ?_ GE423.1) | exact HB.1)))); (case aL => have := LMc18.1; omega); intro v431 w29 ho hb hg hat; rw [← Ny430.1] at ho; have n0_ := aM (blk_grown (g := gb423) (o := .cells #[.slice P0 q0.length n0, .slice P1 q1.length n1, .slice P2 q2.length n2, .slice P3 q3.length n3, .slice P4 q4.length n4, .slice P5 q5.length n5] 27 (0, 0)) (by (with_reducible repeat (first | refine bkN ?_ _ | refine bkD ?_ | refine bkA ?_ _)); exact BK423.1) hg (Kd.R_ne HO429.1 BK423.1 (by decide))); have n1_ := aM (hb); have n2_ := aM (ho); clear BK423; clear HB; clear HO429; have BK423 := n0_; have HB := n1_; have HO432 := n2_; clear n0_ n1_ n2_; clear ho hb hg hat) | ((with_reducible refine gate_builtin (b := .append) (xs := #[.tmp 22, .tmp 23]) rfl ?_); at_builtin; refine Kd.R_append_rows (Kd.int .i64) (w0 := w) w.heap.size rfl (.tmp 22) (.tmp 23) 28 3 (.int .i64 0) 8 rfl Try.underlying28 info3 rfl (by decide) (by omega) v431 y430 l2 _ _ _ (fun _ => True) (fun _ => False) rfl rfl ?aO ?aR (fun _ _ h => h) (fun _ h => h.elim) ?aF ?aB ?aS ?aL ?_; (case aR => repeat (first | exact cB0 HR2.1 HB.1 | with_reducible first | refine cA0 ?_ _ | refine cN0 ?_ _ | refine cD0 ?_)); (case aB => exact (by repeat (first | (with_reducible first | exact HB.1 | apply bAl | apply pbN | apply bD1 | refine bSt ?_ GE423.1) | exact HB.1))); (case aF => exact (fun _ _ => trivial)); (case aO => exact (by (with_reducible repeat first | apply rA0 | apply rN0 | apply rD0); exact HO432.1)); (case aS => exact (bSz (by repeat (first | (with_reducible first | exact HB.1 | apply bAl | apply pbN | apply bD1 | refine bSt ?_ GE423.1) | exact HB.1)))); (case aL => have := LMc19.1; omega); intro v434 w30 ho hb hg hat; rw [← Ny433.1] at ho; have n0_ := aM (blk_grown (g := gb423) (o := .cells #[.slice P0 q0.length n0, .slice P1 q1.length n1, .slice P2 q2.length n2, .slice P3 q3.length n3, .slice P4 q4.length n4, .slice P5 q5.length n5] 27 (0, 0)) (by (with_reducible repeat (first | refine bkN ?_ _ | refine bkD ?_ | refine bkA ?_ _)); exact BK423.1) hg (Kd.R_ne HO432.1 BK423.1 (by decide))); have n1_ := aM (hb); have n2_ := aM (ho); clear BK423; clear HB; clear HO432; have BK423 := n0_; have HB := n1_; have HO435 := n2_; clear n0_ n1_ n2_; clear ho hb hg hat; obtain ⟨Ao31, co31, eo31⟩ := Kd.R_slice HO435.1; subst eo31))
         have n0_ := aM (Kd.R_drew HO435.1)
         have n1_ := aM (bkD BK423.1)
         have n2_ := aM (bD1 HB.1)
         clear HO435
         clear BK423
         clear HB
         have HO435 := n0_
         have BK423 := n1_
         have HB := n2_
         clear n0_ n1_ n2_
         refine start_ (n := 14) (S := fun w' => w'.cell? ⟨gb423, 0, none⟩ = some (.slice P0 q0.length n0) ∧ w'.cell? ⟨gb423, 1, none⟩ = some (.slice P1 q1.length n1) ∧ w'.cell? ⟨gb423, 2, none⟩ = some (.slice P2 q2.length n2) ∧ w'.cell? ⟨gb423, 3, none⟩ = some (.slice P3 q3.length n3) ∧ w'.cell? ⟨gb423, 4, none⟩ = some (.slice P4 q4.length n4) ∧ w'.cell? ⟨gb423, 5, none⟩ = some (.slice P5 q5.length n5)) (ds := []) #[false, false, false, false, false, false, false, false, false, false, false, false, false, false] (by kernel_rfl) rfl rfl (bk60 BK423.1) (fun hHeld => ?_); refine with_tabW w37_CasemapJoins.tab4 w37_CasemapJoins.bits4 (fun HT_ HW_ => ?_)
         generalize w30.drew = w32 at HO435 BK423 HB hHeld ⊢
         refine pure_ (i := 1) (N := some 26) (v := ?_) (a' := ?_) #[false, true, false, false, false, false, false, false, false, false, false, false, false, false] rfl rfl (any_of HT_.1 (by kernel_rfl)) (fun _ _ _ h => h) (Or.inl ⟨by rfl, ?_⟩) ?_ ?_
         rotate_left
         ·intro w'
          go_simp
          with_reducible rfl
         rotate_left
         ·simp only [Act.put, sI, sZ, sS, i64_w, i32_w]
          rfl
         refine pure_ (i := 5) (N := some 30) (v := ?_) (a' := ?_) #[false, true, false, false, false, true, false, false, false, false, false, false, false, false] rfl rfl (any_of HT_.1 (by kernel_rfl)) (fun _ _ _ h => h) (Or.inl ⟨by rfl, ?_⟩) ?_ ?_
         rotate_left
         ·intro w'
          go_simp
          with_reducible rfl
         rotate_left
         ·simp only [Act.put, sI, sZ, sS, i64_w, i32_w]
          rfl
         refine pure_ (i := 9) (N := some 34) (v := ?_) (a' := ?_) #[false, true, false, false, false, true, false, false, false, true, false, false, false, false] rfl rfl (any_of HT_.1 (by kernel_rfl)) (fun _ _ _ h => h) (Or.inl ⟨by rfl, ?_⟩) ?_ ?_
         rotate_left
         ·intro w'
          go_simp
          with_reducible rfl
         rotate_left
         ·simp only [Act.put, sI, sZ, sS, i64_w, i32_w]
          rfl
         refine take_ (i := 0) (N := some 25) (v := ?_) (a' := ?_) #[true, true, false, false, false, true, false, false, false, true, false, false, false, false] rfl rfl (take_ofW HT_.1 HW_.1 (by kernel_rfl)) (fun _ _ _ h => h) (Or.inl ⟨by rfl, ?_⟩) hHeld ?_ ?_
         rotate_left
         ·rintro w' ⟨s0, s1, s2, s3, s4, s5⟩
          go_simp
          with_reducible rfl
         rotate_left
         ·simp only [Act.put, sI, sZ, sS, i64_w, i32_w]
          rfl
         refine take_ (i := 4) (N := some 29) (v := ?_) (a' := ?_) #[true, true, false, false, true, true, false, false, false, true, false, false, false, false] rfl rfl (take_ofW HT_.1 HW_.1 (by kernel_rfl)) (fun _ _ _ h => h) (Or.inl ⟨by rfl, ?_⟩) hHeld ?_ ?_
         rotate_left
         ·rintro w' ⟨s0, s1, s2, s3, s4, s5⟩
          go_simp
          with_reducible rfl
         rotate_left
         ·simp only [Act.put, sI, sZ, sS, i64_w, i32_w]
          rfl
         refine take_ (i := 8) (N := some 33) (v := ?_) (a' := ?_) #[true, true, false, false, true, true, false, false, true, true, false, false, false, false] rfl rfl (take_ofW HT_.1 HW_.1 (by kernel_rfl)) (fun _ _ _ h => h) (Or.inl ⟨by rfl, ?_⟩) hHeld ?_ ?_
         rotate_left
         ·rintro w' ⟨s0, s1, s2, s3, s4, s5⟩
          go_simp
          with_reducible rfl
         rotate_left
         ·simp only [Act.put, sI, sZ, sS, i64_w, i32_w]
          rfl
         refine join_ (σ := Value × Value × Value) 5 #[true, true, true, true, true, true, true, false, true, true, false, false, false, false] (fun s_ => [(27, s_.1), (28, s_.2.1), (31, s_.2.2)]) (fun s_ w' => (w'.cell? ⟨gb423, 0, none⟩ = some (.slice P0 q0.length n0) ∧ w'.cell? ⟨gb423, 1, none⟩ = some (.slice P1 q1.length n1) ∧ w'.cell? ⟨gb423, 2, none⟩ = some (.slice P2 q2.length n2) ∧ w'.cell? ⟨gb423, 3, none⟩ = some (.slice P3 q3.length n3) ∧ w'.cell? ⟨gb423, 4, none⟩ = some (.slice P4 q4.length n4) ∧ w'.cell? ⟨gb423, 5, none⟩ = some (.slice P5 q5.length n5)) ∧ (Kd.R (Kd.int .i64) 3 w' w.heap.size (fun k_ => some k_ ≠ (s_.1 : Value).ownBlock ∧ some k_ ≠ (s_.2.1 : Value).ownBlock ∧ some k_ ≠ (s_.2.2 : Value).ownBlock) (.slice Ao31 y433.length co31) y433) ∧ (Kd.R (Kd.int .i64) 3 w' w.heap.size (fun k_ => some k_ ≠ (.slice Ao31 y433.length co31 : Value).ownBlock ∧ some k_ ≠ (s_.2.1 : Value).ownBlock ∧ some k_ ≠ (s_.2.2 : Value).ownBlock) s_.1 t436) ∧ (Kd.R (Kd.int .i64) 3 w' w.heap.size (fun k_ => some k_ ≠ (.slice Ao31 y433.length co31 : Value).ownBlock ∧ some k_ ≠ (s_.1 : Value).ownBlock ∧ some k_ ≠ (s_.2.2 : Value).ownBlock) s_.2.1 y439) ∧ (Kd.R (Kd.int .i64) 3 w' w.heap.size (fun k_ => some k_ ≠ (.slice Ao31 y433.length co31 : Value).ownBlock ∧ some k_ ≠ (s_.1 : Value).ownBlock ∧ some k_ ≠ (s_.2.1 : Value).ownBlock) s_.2.2 t442) ∧ (w'.heap[gb423]? = some (.cells #[.slice P0 q0.length n0, .slice P1 q1.length n1, .slice P2 q2.length n2, .slice P3 q3.length n3, .slice P4 q4.length n4, .slice P5 q5.length n5] 27 (0, 0))) ∧ (Below w.heap.size w w')) ?_ ?_
         rotate_left
         ·intro hCont
          refine two_ (i := 2) (j := 3) (Ni := some 27) (Nj := some 28) #[true, true, true, false, true, true, false, false, true, true, false, false, false, false] #[true, true, false, true, true, true, false, false, true, true, false, false, false, false] rfl rfl rfl rfl (two_of HT_.1 (by kernel_rfl)) (by decide) (by decide) (fun K hK => ?_) (fun K hK => ?_)
          ·skip
           refine goes_ Try.func19 (by kernel_rfl) rfl #[.agg #[.slice P0 q0.length n0, .slice P1 q1.length n1, .slice P2 q2.length n2, .slice P3 q3.length n3, .slice P4 q4.length n4, .slice P5 q5.length n5], .slice Ao31 y433.length co31] (by rfl) rfl rfl (by (try simp only [List.map_toArray, List.map_cons, List.map_nil]); first | done | rfl | (simp only [List.length_drop, List.length_take]; rfl)) ?_
           with_reducible refine (casemap_Upper.calls _ _ q0 _ _ q1 _ _ q2 _ _ q3 _ _ q4 _ _ q5 _ _ y433 t436 _ ?z1 ?z2 ?z3 ?z4 ?z5 ?z6 ?z7 ?z8 ?z9 ?z10 ?z11 ?z12 ?z13 ?z14 A20.1).mono ?_
           (case z1 => repeat (first | exact cB0 R0.1 HB.1 | with_reducible first | refine cA0 ?_ _ | refine cN0 ?_ _ | refine cD0 ?_))
           (case z2 => exact N0.1)
           (case z3 => repeat (first | exact cB0 R1.1 HB.1 | with_reducible first | refine cA0 ?_ _ | refine cN0 ?_ _ | refine cD0 ?_))
           (case z4 => exact N1.1)
           (case z5 => repeat (first | exact cB0 R2.1 HB.1 | with_reducible first | refine cA0 ?_ _ | refine cN0 ?_ _ | refine cD0 ?_))
           (case z6 => exact N2.1)
           (case z7 => repeat (first | exact cB0 R3.1 HB.1 | with_reducible first | refine cA0 ?_ _ | refine cN0 ?_ _ | refine cD0 ?_))
           (case z8 => exact N3.1)
           (case z9 => repeat (first | exact cB0 R4.1 HB.1 | with_reducible first | refine cA0 ?_ _ | refine cN0 ?_ _ | refine cD0 ?_))
           (case z10 => exact N4.1)
           (case z11 => repeat (first | exact cB0 R5.1 HB.1 | with_reducible first | refine cA0 ?_ _ | refine cN0 ?_ _ | refine cD0 ?_))
           (case z12 => exact N5.1)
           (case z13 => repeat (first | exact (Kd.R_reads' HO435.1).2.2 | (with_reducible refine Kd.C_alloc ?_ _) | (with_reducible refine Kd.C_drewN ?_ _) | (with_reducible refine Kd.C_drew ?_)))
           (case z14 => exact (Kd.R_reads' HO435.1).2.1)
           rintro e w33 ⟨v437, rfl, ho0, hb⟩
           refine ⟨_, rfl, ?_⟩
           have n0_ := aM (Kd.R_elder' (by (with_reducible repeat first | apply rA0 | apply rN0 | apply rD0); exact HO435.1) (Kd.R_base ho0) hb)
           have n1_ := aM (Kd.R_lower (Kd.R_new' ho0 (Kd.R_lt (by (with_reducible repeat first | apply rA0 | apply rN0 | apply rD0); exact HO435.1))) (bSz (by repeat (first | (with_reducible first | exact HB.1 | apply bAl | apply pbN | apply bD1 | refine bSt ?_ GE423.1) | exact HB.1))))
           have n2_ := aM (blk_below (g := gb423) (o := .cells #[.slice P0 q0.length n0, .slice P1 q1.length n1, .slice P2 q2.length n2, .slice P3 q3.length n3, .slice P4 q4.length n4, .slice P5 q5.length n5] 27 (0, 0)) (by (with_reducible repeat (first | refine bkN ?_ _ | refine bkD ?_ | refine bkA ?_ _)); exact BK423.1) hb)
           have n3_ := aM (bSp (by repeat (first | (with_reducible first | exact HB.1 | apply bAl | apply pbN | apply bD1 | refine bSt ?_ GE423.1) | exact HB.1)) hb)
           clear HO435
           clear BK423
           clear HB
           have HO435 := n0_
           have HO438 := n1_
           have BK423 := n2_
           have HB := n3_
           clear n0_ n1_ n2_ n3_
           (try clear hb)
           (try clear hb2)
           (try clear hk)
           (try clear hi)
           (try clear ho0)
           refine hK.out _ _ (bk60 BK423.1) (fun hHeld => ?_)
           clear hK K
           refine norm_ (a' := ?_) ?_ ?_
           rotate_left
           ·show Act.put _ (some 27) _ = _
            simp only [Act.put, sI, sZ, sS, i64_w, i32_w]
            rfl
           refine two_ (i := 3) (j := 6) (Ni := some 28) (Nj := some 31) #[true, true, true, true, true, true, false, false, true, true, false, false, false, false] #[true, true, true, false, true, true, true, false, true, true, false, false, false, false] rfl rfl rfl rfl (two_of HT_.1 (by kernel_rfl)) (by decide) (by decide) (fun K hK => ?_) (fun K hK => ?_)
           ·skip
            refine Kd.R_lit_step (Kd.int .i64) _ 3 ?hg (N := 28) ?hd (xs := ([] : List Int)) (inner := []) (ok := fun _ => True) (okp := fun _ => True) ?hr ?hp (fun _ hk => hk) trivial (Below.refl _ _) (Nat.le_refl _) (by simp) ?_; (case hd => rfl); (case hg => rfl); (case hr => first | (go_simp; done) | (go_simp; rfl)); (case hp => exact (Reps.none _ _))
            intro v440 w34 ho35 hb hg_ hnew_
            clear hg_ hnew_
            (first | rw [← Ny439.1] at ho35 | (simp only [Int.reduceToNat] at ho35; rw [← Ny439.1] at ho35))
            have n0_ := aM (Kd.R_elder' (by (with_reducible repeat first | apply rA0 | apply rN0 | apply rD0); exact HO435.1) (Kd.R_base ho35) hb)
            have n1_ := aM (Kd.R_elder' (by (with_reducible repeat first | apply rA0 | apply rN0 | apply rD0); exact HO438.1) (Kd.R_base ho35) hb)
            have n2_ := aM (Kd.R_lower (Kd.R_new' (Kd.R_new' ho35 (Kd.R_lt (by (with_reducible repeat first | apply rA0 | apply rN0 | apply rD0); exact HO435.1))) (Kd.R_lt (by (with_reducible repeat first | apply rA0 | apply rN0 | apply rD0); exact HO438.1))) (bSz (by repeat (first | (with_reducible first | exact HB.1 | apply bAl | apply pbN | apply bD1 | refine bSt ?_ GE423.1) | exact HB.1))))
            have n3_ := aM (blk_below (g := gb423) (o := .cells #[.slice P0 q0.length n0, .slice P1 q1.length n1, .slice P2 q2.length n2, .slice P3 q3.length n3, .slice P4 q4.length n4, .slice P5 q5.length n5] 27 (0, 0)) (by (with_reducible repeat (first | refine bkN ?_ _ | refine bkD ?_ | refine bkA ?_ _)); exact BK423.1) hb)
            have n4_ := aM (bSp (by repeat (first | (with_reducible first | exact HB.1 | apply bAl | apply pbN | apply bD1 | refine bSt ?_ GE423.1) | exact HB.1)) hb)
            clear HO435
            clear HO438
            clear BK423
            clear HB
            have HO435 := n0_
            have HO438 := n1_
            have HO441 := n2_
            have BK423 := n3_
            have HB := n4_
            clear n0_ n1_ n2_ n3_ n4_
            clear hb ho35
            refine hK.out _ _ (bk60 BK423.1) (fun hHeld => ?_)
            clear hK K
            refine norm_ (a' := ?_) ?_ ?_
            rotate_left
            ·show Act.put _ (some 28) _ = _
             simp only [Act.put, sI, sZ, sS, i64_w, i32_w]
             rfl
            refine one_ (i := 6) (N := some 31) #[true, true, true, true, true, true, true, false, true, true, false, false, false, false] rfl rfl (one_of HT_.1 (by kernel_rfl)) (by decide) (fun K hK => ?_)
            refine goes_ Try.func19 (by kernel_rfl) rfl #[.agg #[.slice P0 q0.length n0, .slice P1 q1.length n1, .slice P2 q2.length n2, .slice P3 q3.length n3, .slice P4 q4.length n4, .slice P5 q5.length n5], .slice A1 l1.length c1] (by rfl) rfl rfl (by (try simp only [List.map_toArray, List.map_cons, List.map_nil]); first | done | rfl | (simp only [List.length_drop, List.length_take]; rfl)) ?_
            with_reducible refine (casemap_Upper.calls _ _ q0 _ _ q1 _ _ q2 _ _ q3 _ _ q4 _ _ q5 _ _ l1 t442 _ ?z1 ?z2 ?z3 ?z4 ?z5 ?z6 ?z7 ?z8 ?z9 ?z10 ?z11 ?z12 ?z13 ?z14 A21.1).mono ?_
            (case z1 => repeat (first | exact cB0 R0.1 HB.1 | with_reducible first | refine cA0 ?_ _ | refine cN0 ?_ _ | refine cD0 ?_))
            (case z2 => exact N0.1)
            (case z3 => repeat (first | exact cB0 R1.1 HB.1 | with_reducible first | refine cA0 ?_ _ | refine cN0 ?_ _ | refine cD0 ?_))
            (case z4 => exact N1.1)
            (case z5 => repeat (first | exact cB0 R2.1 HB.1 | with_reducible first | refine cA0 ?_ _ | refine cN0 ?_ _ | refine cD0 ?_))
            (case z6 => exact N2.1)
            (case z7 => repeat (first | exact cB0 R3.1 HB.1 | with_reducible first | refine cA0 ?_ _ | refine cN0 ?_ _ | refine cD0 ?_))
            (case z8 => exact N3.1)
            (case z9 => repeat (first | exact cB0 R4.1 HB.1 | with_reducible first | refine cA0 ?_ _ | refine cN0 ?_ _ | refine cD0 ?_))
            (case z10 => exact N4.1)
            (case z11 => repeat (first | exact cB0 R5.1 HB.1 | with_reducible first | refine cA0 ?_ _ | refine cN0 ?_ _ | refine cD0 ?_))
            (case z12 => exact N5.1)
            (case z13 => repeat (first | exact cB0 HR1.1 HB.1 | with_reducible first | refine cA0 ?_ _ | refine cN0 ?_ _ | refine cD0 ?_))
            (case z14 => exact HC1.1)
            rintro e w36 ⟨v443, rfl, ho0, hb⟩
            refine ⟨_, rfl, ?_⟩
            have n0_ := aM (Kd.R_elder' (by (with_reducible repeat first | apply rA0 | apply rN0 | apply rD0); exact HO435.1) (Kd.R_base ho0) hb)
            have n1_ := aM (Kd.R_elder' (by (with_reducible repeat first | apply rA0 | apply rN0 | apply rD0); exact HO438.1) (Kd.R_base ho0) hb)
            have n2_ := aM (Kd.R_elder' (by (with_reducible repeat first | apply rA0 | apply rN0 | apply rD0); exact HO441.1) (Kd.R_base ho0) hb)
            have n3_ := aM (Kd.R_lower (Kd.R_new' (Kd.R_new' (Kd.R_new' ho0 (Kd.R_lt (by (with_reducible repeat first | apply rA0 | apply rN0 | apply rD0); exact HO435.1))) (Kd.R_lt (by (with_reducible repeat first | apply rA0 | apply rN0 | apply rD0); exact HO438.1))) (Kd.R_lt (by (with_reducible repeat first | apply rA0 | apply rN0 | apply rD0); exact HO441.1))) (bSz (by repeat (first | (with_reducible first | exact HB.1 | apply bAl | apply pbN | apply bD1 | refine bSt ?_ GE423.1) | exact HB.1))))
            have n4_ := aM (blk_below (g := gb423) (o := .cells #[.slice P0 q0.length n0, .slice P1 q1.length n1, .slice P2 q2.length n2, .slice P3 q3.length n3, .slice P4 q4.length n4, .slice P5 q5.length n5] 27 (0, 0)) (by (with_reducible repeat (first | refine bkN ?_ _ | refine bkD ?_ | refine bkA ?_ _)); exact BK423.1) hb)
            have n5_ := aM (bSp (by repeat (first | (with_reducible first | exact HB.1 | apply bAl | apply pbN | apply bD1 | refine bSt ?_ GE423.1) | exact HB.1)) hb)
            clear HO435
            clear HO438
            clear HO441
            clear BK423
            clear HB
            have HO435 := n0_
            have HO438 := n1_
            have HO441 := n2_
            have HO444 := n3_
            have BK423 := n4_
            have HB := n5_
            clear n0_ n1_ n2_ n3_ n4_ n5_
            (try clear hb)
            (try clear hb2)
            (try clear hk)
            (try clear hi)
            (try clear ho0)
            refine hK.out _ _ (bk60 BK423.1) (fun hHeld => ?_)
            clear hK K
            refine norm_ (a' := ?_) ?_ ?_
            rotate_left
            ·show Act.put _ (some 31) _ = _
             simp only [Act.put, sI, sZ, sS, i64_w, i32_w]
             rfl
            exact norm_ (by simp only [putAll, Act.put, sI, sZ, sS]) (hCont (v437, v440, v443) _ ⟨hHeld, (by (with_reducible repeat first | apply rA0 | apply rN0 | apply rD0); exact Kd.R_mono HO435.1 (fun _ hk => ⟨hk.1.1.2, ⟨hk.1.2, hk.2⟩⟩)), (by (with_reducible repeat first | apply rA0 | apply rN0 | apply rD0); exact Kd.R_mono HO438.1 (fun _ hk => ⟨hk.1.1.2, ⟨hk.1.2, hk.2⟩⟩)), (by (with_reducible repeat first | apply rA0 | apply rN0 | apply rD0); exact Kd.R_mono HO441.1 (fun _ hk => ⟨hk.1.1.2, ⟨hk.1.2, hk.2⟩⟩)), (by (with_reducible repeat first | apply rA0 | apply rN0 | apply rD0); exact Kd.R_mono HO444.1 (fun _ hk => ⟨hk.1.1.2, ⟨hk.1.2, hk.2⟩⟩)), (by (with_reducible repeat (first | refine bkN ?_ _ | refine bkD ?_ | refine bkA ?_ _)); exact BK423.1), (by repeat (first | (with_reducible first | exact HB.1 | apply bAl | apply pbN | apply bD1 | refine bSt ?_ GE423.1) | exact HB.1))⟩)
           ·skip
            refine goes_ Try.func19 (by kernel_rfl) rfl #[.agg #[.slice P0 q0.length n0, .slice P1 q1.length n1, .slice P2 q2.length n2, .slice P3 q3.length n3, .slice P4 q4.length n4, .slice P5 q5.length n5], .slice A1 l1.length c1] (by rfl) rfl rfl (by (try simp only [List.map_toArray, List.map_cons, List.map_nil]); first | done | rfl | (simp only [List.length_drop, List.length_take]; rfl)) ?_
            with_reducible refine (casemap_Upper.calls _ _ q0 _ _ q1 _ _ q2 _ _ q3 _ _ q4 _ _ q5 _ _ l1 t442 _ ?z1 ?z2 ?z3 ?z4 ?z5 ?z6 ?z7 ?z8 ?z9 ?z10 ?z11 ?z12 ?z13 ?z14 A21.1).mono ?_
            (case z1 => repeat (first | exact cB0 R0.1 HB.1 | with_reducible first | refine cA0 ?_ _ | refine cN0 ?_ _ | refine cD0 ?_))
            (case z2 => exact N0.1)
            (case z3 => repeat (first | exact cB0 R1.1 HB.1 | with_reducible first | refine cA0 ?_ _ | refine cN0 ?_ _ | refine cD0 ?_))
            (case z4 => exact N1.1)
            (case z5 => repeat (first | exact cB0 R2.1 HB.1 | with_reducible first | refine cA0 ?_ _ | refine cN0 ?_ _ | refine cD0 ?_))
            (case z6 => exact N2.1)
            (case z7 => repeat (first | exact cB0 R3.1 HB.1 | with_reducible first | refine cA0 ?_ _ | refine cN0 ?_ _ | refine cD0 ?_))
            (case z8 => exact N3.1)
            (case z9 => repeat (first | exact cB0 R4.1 HB.1 | with_reducible first | refine cA0 ?_ _ | refine cN0 ?_ _ | refine cD0 ?_))
            (case z10 => exact N4.1)
            (case z11 => repeat (first | exact cB0 R5.1 HB.1 | with_reducible first | refine cA0 ?_ _ | refine cN0 ?_ _ | refine cD0 ?_))
            (case z12 => exact N5.1)
            (case z13 => repeat (first | exact cB0 HR1.1 HB.1 | with_reducible first | refine cA0 ?_ _ | refine cN0 ?_ _ | refine cD0 ?_))
            (case z14 => exact HC1.1)
            rintro e w34 ⟨v443, rfl, ho0, hb⟩
            refine ⟨_, rfl, ?_⟩
            have n0_ := aM (Kd.R_elder' (by (with_reducible repeat first | apply rA0 | apply rN0 | apply rD0); exact HO435.1) (Kd.R_base ho0) hb)
            have n1_ := aM (Kd.R_elder' (by (with_reducible repeat first | apply rA0 | apply rN0 | apply rD0); exact HO438.1) (Kd.R_base ho0) hb)
            have n2_ := aM (Kd.R_lower (Kd.R_new' (Kd.R_new' ho0 (Kd.R_lt (by (with_reducible repeat first | apply rA0 | apply rN0 | apply rD0); exact HO435.1))) (Kd.R_lt (by (with_reducible repeat first | apply rA0 | apply rN0 | apply rD0); exact HO438.1))) (bSz (by repeat (first | (with_reducible first | exact HB.1 | apply bAl | apply pbN | apply bD1 | refine bSt ?_ GE423.1) | exact HB.1))))
            have n3_ := aM (blk_below (g := gb423) (o := .cells #[.slice P0 q0.length n0, .slice P1 q1.length n1, .slice P2 q2.length n2, .slice P3 q3.length n3, .slice P4 q4.length n4, .slice P5 q5.length n5] 27 (0, 0)) (by (with_reducible repeat (first | refine bkN ?_ _ | refine bkD ?_ | refine bkA ?_ _)); exact BK423.1) hb)
            have n4_ := aM (bSp (by repeat (first | (with_reducible first | exact HB.1 | apply bAl | apply pbN | apply bD1 | refine bSt ?_ GE423.1) | exact HB.1)) hb)
            clear HO435
            clear HO438
            clear BK423
            clear HB
            have HO435 := n0_
            have HO438 := n1_
            have HO444 := n2_
            have BK423 := n3_
            have HB := n4_
            clear n0_ n1_ n2_ n3_ n4_
            (try clear hb)
            (try clear hb2)
            (try clear hk)
            (try clear hi)
            (try clear ho0)
            refine hK.out _ _ (bk60 BK423.1) (fun hHeld => ?_)
            clear hK K
            refine norm_ (a' := ?_) ?_ ?_
            rotate_left
            ·show Act.put _ (some 31) _ = _
             simp only [Act.put, sI, sZ, sS, i64_w, i32_w]
             rfl
            refine one_ (i := 3) (N := some 28) #[true, true, true, true, true, true, true, false, true, true, false, false, false, false] rfl rfl (one_of HT_.1 (by kernel_rfl)) (by decide) (fun K hK => ?_)
            refine Kd.R_lit_step (Kd.int .i64) _ 3 ?hg (N := 28) ?hd (xs := ([] : List Int)) (inner := []) (ok := fun _ => True) (okp := fun _ => True) ?hr ?hp (fun _ hk => hk) trivial (Below.refl _ _) (Nat.le_refl _) (by simp) ?_; (case hd => rfl); (case hg => rfl); (case hr => first | (go_simp; done) | (go_simp; rfl)); (case hp => exact (Reps.none _ _))
            intro v440 w35 ho36 hb hg_ hnew_
            clear hg_ hnew_
            (first | rw [← Ny439.1] at ho36 | (simp only [Int.reduceToNat] at ho36; rw [← Ny439.1] at ho36))
            have n0_ := aM (Kd.R_elder' (by (with_reducible repeat first | apply rA0 | apply rN0 | apply rD0); exact HO435.1) (Kd.R_base ho36) hb)
            have n1_ := aM (Kd.R_elder' (by (with_reducible repeat first | apply rA0 | apply rN0 | apply rD0); exact HO438.1) (Kd.R_base ho36) hb)
            have n2_ := aM (Kd.R_elder' (by (with_reducible repeat first | apply rA0 | apply rN0 | apply rD0); exact HO444.1) (Kd.R_base ho36) hb)
            have n3_ := aM (Kd.R_lower (Kd.R_new' (Kd.R_new' (Kd.R_new' ho36 (Kd.R_lt (by (with_reducible repeat first | apply rA0 | apply rN0 | apply rD0); exact HO435.1))) (Kd.R_lt (by (with_reducible repeat first | apply rA0 | apply rN0 | apply rD0); exact HO438.1))) (Kd.R_lt (by (with_reducible repeat first | apply rA0 | apply rN0 | apply rD0); exact HO444.1))) (bSz (by repeat (first | (with_reducible first | exact HB.1 | apply bAl | apply pbN | apply bD1 | refine bSt ?_ GE423.1) | exact HB.1))))
            have n4_ := aM (blk_below (g := gb423) (o := .cells #[.slice P0 q0.length n0, .slice P1 q1.length n1, .slice P2 q2.length n2, .slice P3 q3.length n3, .slice P4 q4.length n4, .slice P5 q5.length n5] 27 (0, 0)) (by (with_reducible repeat (first | refine bkN ?_ _ | refine bkD ?_ | refine bkA ?_ _)); exact BK423.1) hb)
            have n5_ := aM (bSp (by repeat (first | (with_reducible first | exact HB.1 | apply bAl | apply pbN | apply bD1 | refine bSt ?_ GE423.1) | exact HB.1)) hb)
            clear HO435
            clear HO438
            clear HO444
            clear BK423
            clear HB
            have HO435 := n0_
            have HO438 := n1_
            have HO444 := n2_
            have HO441 := n3_
            have BK423 := n4_
            have HB := n5_
            clear n0_ n1_ n2_ n3_ n4_ n5_
            clear hb ho36
            refine hK.out _ _ (bk60 BK423.1) (fun hHeld => ?_)
            clear hK K
            refine norm_ (a' := ?_) ?_ ?_
            rotate_left
            ·show Act.put _ (some 28) _ = _
             simp only [Act.put, sI, sZ, sS, i64_w, i32_w]
             rfl
            exact norm_ (by simp only [putAll, Act.put, sI, sZ, sS]) (hCont (v437, v440, v443) _ ⟨hHeld, (by (with_reducible repeat first | apply rA0 | apply rN0 | apply rD0); exact Kd.R_mono HO435.1 (fun _ hk => ⟨hk.1.1.2, ⟨hk.2, hk.1.2⟩⟩)), (by (with_reducible repeat first | apply rA0 | apply rN0 | apply rD0); exact Kd.R_mono HO438.1 (fun _ hk => ⟨hk.1.1.2, ⟨hk.2, hk.1.2⟩⟩)), (by (with_reducible repeat first | apply rA0 | apply rN0 | apply rD0); exact Kd.R_mono HO441.1 (fun _ hk => ⟨hk.1.1.2, ⟨hk.1.2, hk.2⟩⟩)), (by (with_reducible repeat first | apply rA0 | apply rN0 | apply rD0); exact Kd.R_mono HO444.1 (fun _ hk => ⟨hk.1.1.2, ⟨hk.1.2, hk.2⟩⟩)), (by (with_reducible repeat (first | refine bkN ?_ _ | refine bkD ?_ | refine bkA ?_ _)); exact BK423.1), (by repeat (first | (with_reducible first | exact HB.1 | apply bAl | apply pbN | apply bD1 | refine bSt ?_ GE423.1) | exact HB.1))⟩)
          ·skip
           refine Kd.R_lit_step (Kd.int .i64) _ 3 ?hg (N := 28) ?hd (xs := ([] : List Int)) (inner := []) (ok := fun _ => True) (okp := fun _ => True) ?hr ?hp (fun _ hk => hk) trivial (Below.refl _ _) (Nat.le_refl _) (by simp) ?_; (case hd => rfl); (case hg => rfl); (case hr => first | (go_simp; done) | (go_simp; rfl)); (case hp => exact (Reps.none _ _))
           intro v440 w33 ho34 hb hg_ hnew_
           clear hg_ hnew_
           (first | rw [← Ny439.1] at ho34 | (simp only [Int.reduceToNat] at ho34; rw [← Ny439.1] at ho34))
           have n0_ := aM (Kd.R_elder' (by (with_reducible repeat first | apply rA0 | apply rN0 | apply rD0); exact HO435.1) (Kd.R_base ho34) hb)
           have n1_ := aM (Kd.R_lower (Kd.R_new' ho34 (Kd.R_lt (by (with_reducible repeat first | apply rA0 | apply rN0 | apply rD0); exact HO435.1))) (bSz (by repeat (first | (with_reducible first | exact HB.1 | apply bAl | apply pbN | apply bD1 | refine bSt ?_ GE423.1) | exact HB.1))))
           have n2_ := aM (blk_below (g := gb423) (o := .cells #[.slice P0 q0.length n0, .slice P1 q1.length n1, .slice P2 q2.length n2, .slice P3 q3.length n3, .slice P4 q4.length n4, .slice P5 q5.length n5] 27 (0, 0)) (by (with_reducible repeat (first | refine bkN ?_ _ | refine bkD ?_ | refine bkA ?_ _)); exact BK423.1) hb)
           have n3_ := aM (bSp (by repeat (first | (with_reducible first | exact HB.1 | apply bAl | apply pbN | apply bD1 | refine bSt ?_ GE423.1) | exact HB.1)) hb)
           clear HO435
           clear BK423
           clear HB
           have HO435 := n0_
           have HO441 := n1_
           have BK423 := n2_
           have HB := n3_
           clear n0_ n1_ n2_ n3_
           clear hb ho34
           refine hK.out _ _ (bk60 BK423.1) (fun hHeld => ?_)
           clear hK K
           refine norm_ (a' := ?_) ?_ ?_
           rotate_left
           ·show Act.put _ (some 28) _ = _
            simp only [Act.put, sI, sZ, sS, i64_w, i32_w]
            rfl
           refine one_ (i := 2) (N := some 27) #[true, true, true, true, true, true, false, false, true, true, false, false, false, false] rfl rfl (one_of HT_.1 (by kernel_rfl)) (by decide) (fun K hK => ?_)
           refine goes_ Try.func19 (by kernel_rfl) rfl #[.agg #[.slice P0 q0.length n0, .slice P1 q1.length n1, .slice P2 q2.length n2, .slice P3 q3.length n3, .slice P4 q4.length n4, .slice P5 q5.length n5], .slice Ao31 y433.length co31] (by rfl) rfl rfl (by (try simp only [List.map_toArray, List.map_cons, List.map_nil]); first | done | rfl | (simp only [List.length_drop, List.length_take]; rfl)) ?_
           with_reducible refine (casemap_Upper.calls _ _ q0 _ _ q1 _ _ q2 _ _ q3 _ _ q4 _ _ q5 _ _ y433 t436 _ ?z1 ?z2 ?z3 ?z4 ?z5 ?z6 ?z7 ?z8 ?z9 ?z10 ?z11 ?z12 ?z13 ?z14 A20.1).mono ?_
           (case z1 => repeat (first | exact cB0 R0.1 HB.1 | with_reducible first | refine cA0 ?_ _ | refine cN0 ?_ _ | refine cD0 ?_))
           (case z2 => exact N0.1)
           (case z3 => repeat (first | exact cB0 R1.1 HB.1 | with_reducible first | refine cA0 ?_ _ | refine cN0 ?_ _ | refine cD0 ?_))
           (case z4 => exact N1.1)
           (case z5 => repeat (first | exact cB0 R2.1 HB.1 | with_reducible first | refine cA0 ?_ _ | refine cN0 ?_ _ | refine cD0 ?_))
           (case z6 => exact N2.1)
           (case z7 => repeat (first | exact cB0 R3.1 HB.1 | with_reducible first | refine cA0 ?_ _ | refine cN0 ?_ _ | refine cD0 ?_))
           (case z8 => exact N3.1)
           (case z9 => repeat (first | exact cB0 R4.1 HB.1 | with_reducible first | refine cA0 ?_ _ | refine cN0 ?_ _ | refine cD0 ?_))
           (case z10 => exact N4.1)
           (case z11 => repeat (first | exact cB0 R5.1 HB.1 | with_reducible first | refine cA0 ?_ _ | refine cN0 ?_ _ | refine cD0 ?_))
           (case z12 => exact N5.1)
           (case z13 => repeat (first | exact (Kd.R_reads' HO435.1).2.2 | (with_reducible refine Kd.C_alloc ?_ _) | (with_reducible refine Kd.C_drewN ?_ _) | (with_reducible refine Kd.C_drew ?_)))
           (case z14 => exact (Kd.R_reads' HO435.1).2.1)
           rintro e w35 ⟨v437, rfl, ho0, hb⟩
           refine ⟨_, rfl, ?_⟩
           have n0_ := aM (Kd.R_elder' (by (with_reducible repeat first | apply rA0 | apply rN0 | apply rD0); exact HO435.1) (Kd.R_base ho0) hb)
           have n1_ := aM (Kd.R_elder' (by (with_reducible repeat first | apply rA0 | apply rN0 | apply rD0); exact HO441.1) (Kd.R_base ho0) hb)
           have n2_ := aM (Kd.R_lower (Kd.R_new' (Kd.R_new' ho0 (Kd.R_lt (by (with_reducible repeat first | apply rA0 | apply rN0 | apply rD0); exact HO435.1))) (Kd.R_lt (by (with_reducible repeat first | apply rA0 | apply rN0 | apply rD0); exact HO441.1))) (bSz (by repeat (first | (with_reducible first | exact HB.1 | apply bAl | apply pbN | apply bD1 | refine bSt ?_ GE423.1) | exact HB.1))))
           have n3_ := aM (blk_below (g := gb423) (o := .cells #[.slice P0 q0.length n0, .slice P1 q1.length n1, .slice P2 q2.length n2, .slice P3 q3.length n3, .slice P4 q4.length n4, .slice P5 q5.length n5] 27 (0, 0)) (by (with_reducible repeat (first | refine bkN ?_ _ | refine bkD ?_ | refine bkA ?_ _)); exact BK423.1) hb)
           have n4_ := aM (bSp (by repeat (first | (with_reducible first | exact HB.1 | apply bAl | apply pbN | apply bD1 | refine bSt ?_ GE423.1) | exact HB.1)) hb)
           clear HO435
           clear HO441
           clear BK423
           clear HB
           have HO435 := n0_
           have HO441 := n1_
           have HO438 := n2_
           have BK423 := n3_
           have HB := n4_
           clear n0_ n1_ n2_ n3_ n4_
           (try clear hb)
           (try clear hb2)
           (try clear hk)
           (try clear hi)
           (try clear ho0)
           refine hK.out _ _ (bk60 BK423.1) (fun hHeld => ?_)
           clear hK K
           refine norm_ (a' := ?_) ?_ ?_
           rotate_left
           ·show Act.put _ (some 27) _ = _
            simp only [Act.put, sI, sZ, sS, i64_w, i32_w]
            rfl
           refine one_ (i := 6) (N := some 31) #[true, true, true, true, true, true, true, false, true, true, false, false, false, false] rfl rfl (one_of HT_.1 (by kernel_rfl)) (by decide) (fun K hK => ?_)
           refine goes_ Try.func19 (by kernel_rfl) rfl #[.agg #[.slice P0 q0.length n0, .slice P1 q1.length n1, .slice P2 q2.length n2, .slice P3 q3.length n3, .slice P4 q4.length n4, .slice P5 q5.length n5], .slice A1 l1.length c1] (by rfl) rfl rfl (by (try simp only [List.map_toArray, List.map_cons, List.map_nil]); first | done | rfl | (simp only [List.length_drop, List.length_take]; rfl)) ?_
           with_reducible refine (casemap_Upper.calls _ _ q0 _ _ q1 _ _ q2 _ _ q3 _ _ q4 _ _ q5 _ _ l1 t442 _ ?z1 ?z2 ?z3 ?z4 ?z5 ?z6 ?z7 ?z8 ?z9 ?z10 ?z11 ?z12 ?z13 ?z14 A21.1).mono ?_
           (case z1 => repeat (first | exact cB0 R0.1 HB.1 | with_reducible first | refine cA0 ?_ _ | refine cN0 ?_ _ | refine cD0 ?_))
           (case z2 => exact N0.1)
           (case z3 => repeat (first | exact cB0 R1.1 HB.1 | with_reducible first | refine cA0 ?_ _ | refine cN0 ?_ _ | refine cD0 ?_))
           (case z4 => exact N1.1)
           (case z5 => repeat (first | exact cB0 R2.1 HB.1 | with_reducible first | refine cA0 ?_ _ | refine cN0 ?_ _ | refine cD0 ?_))
           (case z6 => exact N2.1)
           (case z7 => repeat (first | exact cB0 R3.1 HB.1 | with_reducible first | refine cA0 ?_ _ | refine cN0 ?_ _ | refine cD0 ?_))
           (case z8 => exact N3.1)
           (case z9 => repeat (first | exact cB0 R4.1 HB.1 | with_reducible first | refine cA0 ?_ _ | refine cN0 ?_ _ | refine cD0 ?_))
           (case z10 => exact N4.1)
           (case z11 => repeat (first | exact cB0 R5.1 HB.1 | with_reducible first | refine cA0 ?_ _ | refine cN0 ?_ _ | refine cD0 ?_))
           (case z12 => exact N5.1)
           (case z13 => repeat (first | exact cB0 HR1.1 HB.1 | with_reducible first | refine cA0 ?_ _ | refine cN0 ?_ _ | refine cD0 ?_))
           (case z14 => exact HC1.1)
           rintro e w36 ⟨v443, rfl, ho0, hb⟩
           refine ⟨_, rfl, ?_⟩
           have n0_ := aM (Kd.R_elder' (by (with_reducible repeat first | apply rA0 | apply rN0 | apply rD0); exact HO435.1) (Kd.R_base ho0) hb)
           have n1_ := aM (Kd.R_elder' (by (with_reducible repeat first | apply rA0 | apply rN0 | apply rD0); exact HO441.1) (Kd.R_base ho0) hb)
           have n2_ := aM (Kd.R_elder' (by (with_reducible repeat first | apply rA0 | apply rN0 | apply rD0); exact HO438.1) (Kd.R_base ho0) hb)
           have n3_ := aM (Kd.R_lower (Kd.R_new' (Kd.R_new' (Kd.R_new' ho0 (Kd.R_lt (by (with_reducible repeat first | apply rA0 | apply rN0 | apply rD0); exact HO435.1))) (Kd.R_lt (by (with_reducible repeat first | apply rA0 | apply rN0 | apply rD0); exact HO441.1))) (Kd.R_lt (by (with_reducible repeat first | apply rA0 | apply rN0 | apply rD0); exact HO438.1))) (bSz (by repeat (first | (with_reducible first | exact HB.1 | apply bAl | apply pbN | apply bD1 | refine bSt ?_ GE423.1) | exact HB.1))))
           have n4_ := aM (blk_below (g := gb423) (o := .cells #[.slice P0 q0.length n0, .slice P1 q1.length n1, .slice P2 q2.length n2, .slice P3 q3.length n3, .slice P4 q4.length n4, .slice P5 q5.length n5] 27 (0, 0)) (by (with_reducible repeat (first | refine bkN ?_ _ | refine bkD ?_ | refine bkA ?_ _)); exact BK423.1) hb)
           have n5_ := aM (bSp (by repeat (first | (with_reducible first | exact HB.1 | apply bAl | apply pbN | apply bD1 | refine bSt ?_ GE423.1) | exact HB.1)) hb)
           clear HO435
           clear HO441
           clear HO438
           clear BK423
           clear HB
           have HO435 := n0_
           have HO441 := n1_
           have HO438 := n2_
           have HO444 := n3_
           have BK423 := n4_
           have HB := n5_
           clear n0_ n1_ n2_ n3_ n4_ n5_
           (try clear hb)
           (try clear hb2)
           (try clear hk)
           (try clear hi)
           (try clear ho0)
           refine hK.out _ _ (bk60 BK423.1) (fun hHeld => ?_)
           clear hK K
           refine norm_ (a' := ?_) ?_ ?_
           rotate_left
           ·show Act.put _ (some 31) _ = _
            simp only [Act.put, sI, sZ, sS, i64_w, i32_w]
            rfl
           exact norm_ (by simp only [putAll, Act.put, sI, sZ, sS]) (hCont (v437, v440, v443) _ ⟨hHeld, (by (with_reducible repeat first | apply rA0 | apply rN0 | apply rD0); exact Kd.R_mono HO435.1 (fun _ hk => ⟨hk.1.2, ⟨hk.1.1.2, hk.2⟩⟩)), (by (with_reducible repeat first | apply rA0 | apply rN0 | apply rD0); exact Kd.R_mono HO438.1 (fun _ hk => ⟨hk.1.1.2, ⟨hk.1.2, hk.2⟩⟩)), (by (with_reducible repeat first | apply rA0 | apply rN0 | apply rD0); exact Kd.R_mono HO441.1 (fun _ hk => ⟨hk.1.1.2, ⟨hk.1.2, hk.2⟩⟩)), (by (with_reducible repeat first | apply rA0 | apply rN0 | apply rD0); exact Kd.R_mono HO444.1 (fun _ hk => ⟨hk.1.1.2, ⟨hk.2, hk.1.2⟩⟩)), (by (with_reducible repeat (first | refine bkN ?_ _ | refine bkD ?_ | refine bkA ?_ _)); exact BK423.1), (by repeat (first | (with_reducible first | exact HB.1 | apply bAl | apply pbN | apply bD1 | refine bSt ?_ GE423.1) | exact HB.1))⟩)
         rintro ⟨v437, v440, v443⟩ w37 ⟨hS_, h0_, h1_, h2_, h3_, h4_, h5_⟩
         have n0_ : Aside0 (Kd.R (Kd.int .i64) 3 w37 w.heap.size (fun k_ => some k_ ≠ (v437 : Value).ownBlock ∧ some k_ ≠ (v440 : Value).ownBlock ∧ some k_ ≠ (v443 : Value).ownBlock) (.slice Ao31 y433.length co31) y433) := ⟨h0_⟩
         have n1_ : Aside0 (Kd.R (Kd.int .i64) 3 w37 w.heap.size (fun k_ => some k_ ≠ (.slice Ao31 y433.length co31 : Value).ownBlock ∧ some k_ ≠ (v440 : Value).ownBlock ∧ some k_ ≠ (v443 : Value).ownBlock) v437 t436) := ⟨h1_⟩
         have n2_ : Aside0 (Kd.R (Kd.int .i64) 3 w37 w.heap.size (fun k_ => some k_ ≠ (.slice Ao31 y433.length co31 : Value).ownBlock ∧ some k_ ≠ (v437 : Value).ownBlock ∧ some k_ ≠ (v443 : Value).ownBlock) v440 y439) := ⟨h2_⟩
         have n3_ : Aside0 (Kd.R (Kd.int .i64) 3 w37 w.heap.size (fun k_ => some k_ ≠ (.slice Ao31 y433.length co31 : Value).ownBlock ∧ some k_ ≠ (v437 : Value).ownBlock ∧ some k_ ≠ (v440 : Value).ownBlock) v443 t442) := ⟨h3_⟩
         have n4_ : Aside0 (w37.heap[gb423]? = some (.cells #[.slice P0 q0.length n0, .slice P1 q1.length n1, .slice P2 q2.length n2, .slice P3 q3.length n3, .slice P4 q4.length n4, .slice P5 q5.length n5] 27 (0, 0))) := ⟨h4_⟩
         have n5_ : Aside0 (Below w.heap.size w w37) := ⟨h5_⟩
         clear HO435
         clear BK423
         clear HB
         clear h0_ h1_ h2_ h3_ h4_ h5_
         have HO435 := n0_
         have HO438 := n1_
         have HO441 := n2_
         have HO444 := n3_
         have BK423 := n4_
         have HB := n5_
         clear n0_ n1_ n2_ n3_ n4_ n5_
         have hHeld : w37.cell? ⟨gb423, 0, none⟩ = some (.slice P0 q0.length n0) ∧ w37.cell? ⟨gb423, 1, none⟩ = some (.slice P1 q1.length n1) ∧ w37.cell? ⟨gb423, 2, none⟩ = some (.slice P2 q2.length n2) ∧ w37.cell? ⟨gb423, 3, none⟩ = some (.slice P3 q3.length n3) ∧ w37.cell? ⟨gb423, 4, none⟩ = some (.slice P4 q4.length n4) ∧ w37.cell? ⟨gb423, 5, none⟩ = some (.slice P5 q5.length n5) := hS_
         obtain ⟨Ao39, co39, eo39⟩ := Kd.R_slice HO444.1
         (first | subst eo39 | (injection eo39 with f1_ f2_ f3_; have f4_ := f1_.symm; have f5_ := f3_.symm; clear f1_ f2_ f3_; subst f4_; subst f5_))
         refine norm_ (a' := ?_) ?_ ?_
         rotate_left
         ·simp only [putAll, Act.put, sI, sZ, sS]
          rfl
         refine one_ (i := 7) (N := some 32) #[true, true, true, true, true, true, true, true, true, true, false, false, false, false] rfl rfl (one_of HT_.1 (by kernel_rfl)) (by decide) (fun K hK => ?_)
         refine Kd.R_append_rows_step (Kd.int .i64) (w0 := w) w.heap.size (by rfl) (.tmp 28) (.tmp 31) 28 3 (.int .i64 0) 8 rfl Try.underlying28 info3 rfl (by decide) (by omega) v440 y439 t442 _ _ _ (fun k_ => some k_ ≠ (.slice Ao31 y433.length co31 : Value).ownBlock ∧ some k_ ≠ (v437 : Value).ownBlock ∧ some k_ ≠ (.slice Ao39 t442.length co39 : Value).ownBlock) (fun _ => False) rfl rfl ?aO ?aR (fun _ _ h => h) (fun _ h => h.elim) ?aF ?aB ?aS ?aL ?_
         (case aR => repeat (first | exact (Kd.R_reads' HO444.1).2.2 | (with_reducible refine Kd.C_alloc ?_ _) | (with_reducible refine Kd.C_drewN ?_ _) | (with_reducible refine Kd.C_drew ?_)))
         (case aB => exact (by repeat (first | (with_reducible first | exact HB.1 | apply bAl | apply pbN | apply bD1 | refine bSt ?_ GE423.1) | exact HB.1)))
         (case aF => exact (fun k_ hk => ⟨Kd.fresh' (Kd.R_lt (by (with_reducible repeat first | apply rA0 | apply rN0 | apply rD0); exact HO435.1)) k_ hk, Kd.fresh' (Kd.R_lt (by (with_reducible repeat first | apply rA0 | apply rN0 | apply rD0); exact HO438.1)) k_ hk, Kd.fresh' (Kd.R_lt (by (with_reducible repeat first | apply rA0 | apply rN0 | apply rD0); exact HO444.1)) k_ hk⟩))
         (case aO => exact (by (with_reducible repeat first | apply rA0 | apply rN0 | apply rD0); exact HO441.1))
         (case aS => exact (bSz (by repeat (first | (with_reducible first | exact HB.1 | apply bAl | apply pbN | apply bD1 | refine bSt ?_ GE423.1) | exact HB.1))))
         (case aL => have := LMc22.1; omega)
         intro v446 w38 ho hb hg hat
         rw [← Ny445.1] at ho
         have n0_ := aM (blk_grown (g := gb423) (o := .cells #[.slice P0 q0.length n0, .slice P1 q1.length n1, .slice P2 q2.length n2, .slice P3 q3.length n3, .slice P4 q4.length n4, .slice P5 q5.length n5] 27 (0, 0)) (by (with_reducible repeat (first | refine bkN ?_ _ | refine bkD ?_ | refine bkA ?_ _)); exact BK423.1) hg (Kd.R_ne HO441.1 BK423.1 (by decide)))
         have n1_ := aM (Kd.R_after (ok := (fun k_ => some k_ ≠ (v437 : Value).ownBlock ∧ some k_ ≠ (.slice Ao39 t442.length co39 : Value).ownBlock)) (by (with_reducible repeat first | apply rA0 | apply rN0 | apply rD0); exact Kd.R_mono HO435.1 (fun _ hk => ⟨⟨hk.1, hk.2.2⟩, hk.2.1⟩)) hg hat)
         have n2_ := aM (Kd.R_after (ok := (fun k_ => some k_ ≠ (.slice Ao31 y433.length co31 : Value).ownBlock ∧ some k_ ≠ (.slice Ao39 t442.length co39 : Value).ownBlock)) (by (with_reducible repeat first | apply rA0 | apply rN0 | apply rD0); exact Kd.R_mono HO438.1 (fun _ hk => ⟨⟨hk.1, hk.2.2⟩, hk.2.1⟩)) hg hat)
         have n3_ := aM (Kd.R_after (ok := (fun k_ => some k_ ≠ (.slice Ao31 y433.length co31 : Value).ownBlock ∧ some k_ ≠ (v437 : Value).ownBlock)) (by (with_reducible repeat first | apply rA0 | apply rN0 | apply rD0); exact Kd.R_mono HO444.1 (fun _ hk => ⟨⟨hk.1, hk.2.1⟩, hk.2.2⟩)) hg hat)
         have n4_ := aM (hb)
         have n5_ := aM (ho)
         clear BK423
         clear HO435
         clear HO438
         clear HO444
         clear HB
         clear HO441
         have BK423 := n0_
         have HO435 := n1_
         have HO438 := n2_
         have HO444 := n3_
         have HB := n4_
         have HO447 := n5_
         clear n0_ n1_ n2_ n3_ n4_ n5_
         clear ho hb hg hat
         refine hK.out _ _ (bk60 BK423.1) (fun hHeld => ?_)
         clear hK K
         refine norm_ (a' := ?_) ?_ ?_
         rotate_left
         ·show Act.put _ (some 32) _ = _
          simp only [Act.put, sI, sZ, sS, i64_w, i32_w]
          rfl
         refine one_ (i := 10) (N := some 35) #[true, true, true, true, true, true, true, true, true, true, true, false, false, false] rfl rfl (one_of HT_.1 (by kernel_rfl)) (by decide) (fun K hK => ?_)
         refine goes_ Try.func19 (by kernel_rfl) rfl #[.agg #[.slice P0 q0.length n0, .slice P1 q1.length n1, .slice P2 q2.length n2, .slice P3 q3.length n3, .slice P4 q4.length n4, .slice P5 q5.length n5], .slice A2 l2.length c2] (by rfl) rfl rfl (by (try simp only [List.map_toArray, List.map_cons, List.map_nil]); first | done | rfl | (simp only [List.length_drop, List.length_take]; rfl)) ?_
         with_reducible refine (casemap_Upper.calls _ _ q0 _ _ q1 _ _ q2 _ _ q3 _ _ q4 _ _ q5 _ _ l2 t448 _ ?z1 ?z2 ?z3 ?z4 ?z5 ?z6 ?z7 ?z8 ?z9 ?z10 ?z11 ?z12 ?z13 ?z14 A23.1).mono ?_
         (case z1 => repeat (first | exact cB0 R0.1 HB.1 | with_reducible first | refine cA0 ?_ _ | refine cN0 ?_ _ | refine cD0 ?_))
         (case z2 => exact N0.1)
         (case z3 => repeat (first | exact cB0 R1.1 HB.1 | with_reducible first | refine cA0 ?_ _ | refine cN0 ?_ _ | refine cD0 ?_))
         (case z4 => exact N1.1)
         (case z5 => repeat (first | exact cB0 R2.1 HB.1 | with_reducible first | refine cA0 ?_ _ | refine cN0 ?_ _ | refine cD0 ?_))
         (case z6 => exact N2.1)
         (case z7 => repeat (first | exact cB0 R3.1 HB.1 | with_reducible first | refine cA0 ?_ _ | refine cN0 ?_ _ | refine cD0 ?_))
         (case z8 => exact N3.1)
         (case z9 => repeat (first | exact cB0 R4.1 HB.1 | with_reducible first | refine cA0 ?_ _ | refine cN0 ?_ _ | refine cD0 ?_))
         (case z10 => exact N4.1)
         (case z11 => repeat (first | exact cB0 R5.1 HB.1 | with_reducible first | refine cA0 ?_ _ | refine cN0 ?_ _ | refine cD0 ?_))
         (case z12 => exact N5.1)
         (case z13 => repeat (first | exact cB0 HR2.1 HB.1 | with_reducible first | refine cA0 ?_ _ | refine cN0 ?_ _ | refine cD0 ?_))
         (case z14 => exact HC2.1)
         rintro e w40 ⟨v449, rfl, ho0, hb⟩
         refine ⟨_, rfl, ?_⟩
         have n0_ := aM (Kd.R_elder' (by (with_reducible repeat first | apply rA0 | apply rN0 | apply rD0); exact HO435.1) (Kd.R_base ho0) hb)
         have n1_ := aM (Kd.R_elder' (by (with_reducible repeat first | apply rA0 | apply rN0 | apply rD0); exact HO438.1) (Kd.R_base ho0) hb)
         have n2_ := aM (Kd.R_elder' (by (with_reducible repeat first | apply rA0 | apply rN0 | apply rD0); exact HO444.1) (Kd.R_base ho0) hb)
         have n3_ := aM (Kd.R_elder' (by (with_reducible repeat first | apply rA0 | apply rN0 | apply rD0); exact HO447.1) (Kd.R_base ho0) hb)
         have n4_ := aM (Kd.R_lower (Kd.R_new' (Kd.R_new' (Kd.R_new' (Kd.R_new' ho0 (Kd.R_lt (by (with_reducible repeat first | apply rA0 | apply rN0 | apply rD0); exact HO435.1))) (Kd.R_lt (by (with_reducible repeat first | apply rA0 | apply rN0 | apply rD0); exact HO438.1))) (Kd.R_lt (by (with_reducible repeat first | apply rA0 | apply rN0 | apply rD0); exact HO444.1))) (Kd.R_lt (by (with_reducible repeat first | apply rA0 | apply rN0 | apply rD0); exact HO447.1))) (bSz (by repeat (first | (with_reducible first | exact HB.1 | apply bAl | apply pbN | apply bD1 | refine bSt ?_ GE423.1) | exact HB.1))))
         have n5_ := aM (blk_below (g := gb423) (o := .cells #[.slice P0 q0.length n0, .slice P1 q1.length n1, .slice P2 q2.length n2, .slice P3 q3.length n3, .slice P4 q4.length n4, .slice P5 q5.length n5] 27 (0, 0)) (by (with_reducible repeat (first | refine bkN ?_ _ | refine bkD ?_ | refine bkA ?_ _)); exact BK423.1) hb)
         have n6_ := aM (bSp (by repeat (first | (with_reducible first | exact HB.1 | apply bAl | apply pbN | apply bD1 | refine bSt ?_ GE423.1) | exact HB.1)) hb)
         clear HO435
         clear HO438
         clear HO444
         clear HO447
         clear BK423
         clear HB
         have HO435 := n0_
         have HO438 := n1_
         have HO444 := n2_
         have HO447 := n3_
         have HO450 := n4_
         have BK423 := n5_
         have HB := n6_
         clear n0_ n1_ n2_ n3_ n4_ n5_ n6_
         (try clear hb)
         (try clear hb2)
         (try clear hk)
         (try clear hi)
         (try clear ho0)
         obtain ⟨Ao42, co42, eo42⟩ := Kd.R_slice HO450.1
         (first | subst eo42 | (injection eo42 with f1_ f2_ f3_; have f4_ := f1_.symm; have f5_ := f3_.symm; clear f1_ f2_ f3_; subst f4_; subst f5_))
         refine hK.out _ _ (bk60 BK423.1) (fun hHeld => ?_)
         clear hK K
         refine norm_ (a' := ?_) ?_ ?_
         rotate_left
         ·show Act.put _ (some 35) _ = _
          simp only [Act.put, sI, sZ, sS, i64_w, i32_w]
          rfl
         refine one_ (i := 11) (N := some 36) #[true, true, true, true, true, true, true, true, true, true, true, true, false, false] rfl rfl (one_of HT_.1 (by kernel_rfl)) (by decide) (fun K hK => ?_)
         refine Kd.R_append_rows_step (Kd.int .i64) (w0 := w) w.heap.size (by rfl) (.tmp 32) (.tmp 35) 28 3 (.int .i64 0) 8 rfl Try.underlying28 info3 rfl (by decide) (by omega) v446 y445 t448 _ _ _ (fun k_ => some k_ ≠ (.slice Ao31 y433.length co31 : Value).ownBlock ∧ some k_ ≠ (v437 : Value).ownBlock ∧ some k_ ≠ (.slice Ao39 t442.length co39 : Value).ownBlock ∧ some k_ ≠ (.slice Ao42 t448.length co42 : Value).ownBlock) (fun _ => False) rfl rfl ?aO ?aR (fun _ _ h => h) (fun _ h => h.elim) ?aF ?aB ?aS ?aL ?_
         (case aR => repeat (first | exact (Kd.R_reads' HO450.1).2.2 | (with_reducible refine Kd.C_alloc ?_ _) | (with_reducible refine Kd.C_drewN ?_ _) | (with_reducible refine Kd.C_drew ?_)))
         (case aB => exact (by repeat (first | (with_reducible first | exact HB.1 | apply bAl | apply pbN | apply bD1 | refine bSt ?_ GE423.1) | exact HB.1)))
         (case aF => exact (fun k_ hk => ⟨Kd.fresh' (Kd.R_lt (by (with_reducible repeat first | apply rA0 | apply rN0 | apply rD0); exact HO435.1)) k_ hk, Kd.fresh' (Kd.R_lt (by (with_reducible repeat first | apply rA0 | apply rN0 | apply rD0); exact HO438.1)) k_ hk, Kd.fresh' (Kd.R_lt (by (with_reducible repeat first | apply rA0 | apply rN0 | apply rD0); exact HO444.1)) k_ hk, Kd.fresh' (Kd.R_lt (by (with_reducible repeat first | apply rA0 | apply rN0 | apply rD0); exact HO450.1)) k_ hk⟩))
         (case aO => exact (by (with_reducible repeat first | apply rA0 | apply rN0 | apply rD0); exact Kd.R_mono HO447.1 (fun _ hk => ⟨hk.1.1, ⟨hk.1.2.1, ⟨hk.1.2.2, hk.2⟩⟩⟩)))
         (case aS => exact (bSz (by repeat (first | (with_reducible first | exact HB.1 | apply bAl | apply pbN | apply bD1 | refine bSt ?_ GE423.1) | exact HB.1))))
         (case aL => have := LMc24.1; omega)
         intro v452 w41 ho hb hg hat
         rw [← Ny451.1] at ho
         have n0_ := aM (blk_grown (g := gb423) (o := .cells #[.slice P0 q0.length n0, .slice P1 q1.length n1, .slice P2 q2.length n2, .slice P3 q3.length n3, .slice P4 q4.length n4, .slice P5 q5.length n5] 27 (0, 0)) (by (with_reducible repeat (first | refine bkN ?_ _ | refine bkD ?_ | refine bkA ?_ _)); exact BK423.1) hg (Kd.R_ne HO447.1 BK423.1 (by decide)))
         have n1_ := aM (Kd.R_after (ok := (fun k_ => some k_ ≠ (v437 : Value).ownBlock ∧ some k_ ≠ (.slice Ao39 t442.length co39 : Value).ownBlock ∧ some k_ ≠ (.slice Ao42 t448.length co42 : Value).ownBlock)) (by (with_reducible repeat first | apply rA0 | apply rN0 | apply rD0); exact Kd.R_mono HO435.1 (fun _ hk => ⟨⟨hk.1.1.1, ⟨hk.1.1.2, hk.2⟩⟩, hk.1.2⟩)) hg hat)
         have n2_ := aM (Kd.R_after (ok := (fun k_ => some k_ ≠ (.slice Ao31 y433.length co31 : Value).ownBlock ∧ some k_ ≠ (.slice Ao39 t442.length co39 : Value).ownBlock ∧ some k_ ≠ (.slice Ao42 t448.length co42 : Value).ownBlock)) (by (with_reducible repeat first | apply rA0 | apply rN0 | apply rD0); exact Kd.R_mono HO438.1 (fun _ hk => ⟨⟨hk.1.1.1, ⟨hk.1.1.2, hk.2⟩⟩, hk.1.2⟩)) hg hat)
         have n3_ := aM (Kd.R_after (ok := (fun k_ => some k_ ≠ (.slice Ao31 y433.length co31 : Value).ownBlock ∧ some k_ ≠ (v437 : Value).ownBlock ∧ some k_ ≠ (.slice Ao42 t448.length co42 : Value).ownBlock)) (by (with_reducible repeat first | apply rA0 | apply rN0 | apply rD0); exact Kd.R_mono HO444.1 (fun _ hk => ⟨⟨hk.1.1.1, ⟨hk.1.1.2, hk.2⟩⟩, hk.1.2⟩)) hg hat)
         have n4_ := aM (Kd.R_after (ok := (fun k_ => some k_ ≠ (.slice Ao31 y433.length co31 : Value).ownBlock ∧ some k_ ≠ (v437 : Value).ownBlock ∧ some k_ ≠ (.slice Ao39 t442.length co39 : Value).ownBlock)) (by (with_reducible repeat first | apply rA0 | apply rN0 | apply rD0); exact Kd.R_mono HO450.1 (fun _ hk => ⟨⟨hk.1.1.1.2, ⟨hk.1.1.2, hk.1.2⟩⟩, hk.2⟩)) hg hat)
         have n5_ := aM (hb)
         have n6_ := aM (ho)
         clear BK423
         clear HO435
         clear HO438
         clear HO444
         clear HO450
         clear HB
         clear HO447
         have BK423 := n0_
         have HO435 := n1_
         have HO438 := n2_
         have HO444 := n3_
         have HO450 := n4_
         have HB := n5_
         have HO453 := n6_
         clear n0_ n1_ n2_ n3_ n4_ n5_ n6_
         clear ho hb hg hat
         obtain ⟨Ao43, co43, eo43⟩ := Kd.R_slice HO438.1
         (first | subst eo43 | (injection eo43 with f1_ f2_ f3_; have f4_ := f1_.symm; have f5_ := f3_.symm; clear f1_ f2_ f3_; subst f4_; subst f5_))
         obtain ⟨Ao44, co44, eo44⟩ := Kd.R_slice HO453.1
         (first | subst eo44 | (injection eo44 with f1_ f2_ f3_; have f4_ := f1_.symm; have f5_ := f3_.symm; clear f1_ f2_ f3_; subst f4_; subst f5_))
         refine hK.out _ _ (bk60 BK423.1) (fun hHeld => ?_)
         clear hK K
         refine norm_ (a' := ?_) ?_ ?_
         rotate_left
         ·show Act.put _ (some 36) _ = _
          simp only [Act.put, sI, sZ, sS, i64_w, i32_w]
          rfl
         refine one_ (i := 12) (N := some 37) #[true, true, true, true, true, true, true, true, true, true, true, true, true, false] rfl rfl (one_of HT_.1 (by kernel_rfl)) (by decide) (fun K hK => ?_)
         refine goes_ Try.func16 (by kernel_rfl) rfl #[.slice Ao43 t436.length co43, .slice Ao44 y451.length co44] (by rfl) rfl rfl (by (try simp only [List.map_toArray, List.map_cons, List.map_nil]); first | done | rfl | (simp only [List.length_drop, List.length_take]; rfl)) ?_
         with_reducible refine (r01_Equal.calls kj3 _ _ t436 _ _ y451 true _ ?z1 ?z2 ?z3 ?z4 A25.1).mono ?_
         (case z1 => repeat (first | exact (Kd.R_reads' HO438.1).2.2 | (with_reducible refine Kd.C_alloc ?_ _) | (with_reducible refine Kd.C_drewN ?_ _) | (with_reducible refine Kd.C_drew ?_)))
         (case z2 => exact (Kd.R_reads' HO438.1).2.1)
         (case z3 => repeat (first | exact (Kd.R_reads' HO453.1).2.2 | (with_reducible refine Kd.C_alloc ?_ _) | (with_reducible refine Kd.C_drewN ?_ _) | (with_reducible refine Kd.C_drew ?_)))
         (case z4 => exact (Kd.R_reads' HO453.1).2.1)
         rintro e w' ⟨rfl, ⟨nd, rfl⟩⟩
         refine ⟨_, rfl, ?_⟩
         refine hK.out _ _ (bk60 BK423.1) (fun hHeld => ?_)
         clear hK K
         refine norm_ (a' := ?_) ?_ ?_
         rotate_left
         ·show Act.put _ (some 37) _ = _
          simp only [Act.put, sI, sZ, sS, i64_w, i32_w]
          rfl
         refine pure_ (i := 13) (N := some 38) (v := ?_) (a' := ?_) #[true, true, true, true, true, true, true, true, true, true, true, true, true, true] rfl rfl (any_of HT_.1 (by kernel_rfl)) (fun _ _ _ h => h) (Or.inl ⟨by rfl, ?_⟩) ?_ ?_
         rotate_left
         ·intro w'
          go_simp
          with_reducible rfl
         rotate_left
         ·simp only [Act.put, sI, sZ, sS, i64_w, i32_w]
          rfl
         refine done_ (done_of HT_.1 (by kernel_rfl)) ?_
         try go_wp2
         go_loopg [8] kj3 (fun kq v8 w' => ∃ (x8_2 : Int), v8 = .int .i64 x8_2 ∧ Aside0 (w37_CasemapJoins.l0 kq l1 l2 y433 x8_2 q0 q1 q2 q3 q4 q5 = some r) ∧ Aside0 (kq ≤ kj3) ∧ Aside0 (Kd.R (Kd.int .i64) 3 w' w.heap.size (fun _ => True) (.slice Ao31 y433.length co31) y433) ∧ Aside0 (w'.heap[gb423]? = some (.cells #[(.slice P0 q0.length n0), (.slice P1 q1.length n1), (.slice P2 q2.length n2), (.slice P3 q3.length n3), (.slice P4 q4.length n4), (.slice P5 q5.length n5)] 27 (0, 0))) ∧ Aside0 (Below w.heap.size w w'))
         case atStart => exact ⟨(0), (by first | rfl | (simp; done) | (simp [*]; done)), H', ⟨Nat.le_refl _⟩, ⟨by (with_reducible repeat first | apply rA0 | apply rN0 | apply rD0); exact Kd.R_mono HO435.1 (fun _ hk => trivial)⟩, ⟨by (with_reducible repeat (first | refine bkN ?_ _ | refine bkD ?_ | refine bkA ?_ _)); exact BK423.1⟩, ⟨by repeat (first | (with_reducible first | exact HB.1 | apply bAl | apply pbN | apply bD1 | refine bSt ?_ GE423.1) | exact HB.1)⟩⟩
         case round =>
          clear H'
          (try clear c1); (try clear c2); (try clear p2); (try clear c16); (try clear c18); (try clear c19); (try clear c22); (try clear c24); (try clear c26)
          obtain ⟨x8_2, rfl, HA, HK2, HO_7, BK423, HB⟩ := hrel
          cases gk with
          | zero => exact absurd HA.1 (by simp [w37_CasemapJoins.l0])
          | succ k2 =>
           have H := HA.1
           clear HA
           simp only [w37_CasemapJoins.l0] at H
           by_cases c45 : x8_2 < (q0.length : Int)
           ·rw [if_pos c45] at H
            have c45b0 : decide (x8_2 < (q0.length : Int)) = true := dT c45
            clear c45
            by_cases c46 : 0 ≤ x8_2
            ·rw [if_pos c46] at H
             have c46b0 : decide (0 ≤ x8_2) = true := dT c46
             clear c46
             by_cases c47 : ((rd_T43 q0 x8_2).f2).toList = ([] : List UInt8)
             ·rw [if_pos c47] at H
              have c47b0 : (((rd_T43 q0 x8_2).f2).toList == ([] : List UInt8)) = true := beq_iff_eq.mpr c47
              have c47b1 : (((rd_T43 q0 x8_2).f2).toList != ([] : List UInt8)) = false := bne_eq_false_iff_eq.mpr c47
              clear c47
              have H' := aM H
              clear H
              have hcz48_0 : wr.cell? ⟨gb423, 0, none⟩ = some (.slice P0 q0.length n0) := (bkC BK423.1 0).trans rfl
              have hcz48_1 : wr.cell? ⟨gb423, 1, none⟩ = some (.slice P1 q1.length n1) := (bkC BK423.1 1).trans rfl
              have hcz48_2 : wr.cell? ⟨gb423, 2, none⟩ = some (.slice P2 q2.length n2) := (bkC BK423.1 2).trans rfl
              have hcz48_3 : wr.cell? ⟨gb423, 3, none⟩ = some (.slice P3 q3.length n3) := (bkC BK423.1 3).trans rfl
              have hcz48_4 : wr.cell? ⟨gb423, 4, none⟩ = some (.slice P4 q4.length n4) := (bkC BK423.1 4).trans rfl
              have hcz48_5 : wr.cell? ⟨gb423, 5, none⟩ = some (.slice P5 q5.length n5) := (bkC BK423.1 5).trans rfl
              have hfz48_0 := bkF BK423.1 0
              have hfz48_1 := bkF BK423.1 1
              have hfz48_2 := bkF BK423.1 2
              have hfz48_3 := bkF BK423.1 3
              have hfz48_4 := bkF BK423.1 4
              have hfz48_5 := bkF BK423.1 5
              have p455 : 0 ≤ (x8_2 : Int) := oD (by first | (with_reducible assumption) | assumption)
              have q455 : x8_2 < (q0.length : Int) := oD (by first | (with_reducible assumption) | assumption)
              obtain ⟨ad455, A455_1, c455_1, e455, hx455_0, hx455_1, hx455_2, hl455_1, hi455_1⟩ := at_T43 R0.1 x8_2 p455 q455
              cases e455
              replace hx455_0 := (HB.1.cell (World.block_lt_of_cell? w _ hx455_0)).trans hx455_0
              replace hx455_1 := (HB.1.cell (World.block_lt_of_cell? w _ hx455_1)).trans hx455_1
              replace hx455_2 := (HB.1.cell (World.block_lt_of_cell? w _ hx455_2)).trans hx455_2
              have HR455_1 := aM hi455_1
              have HC455_1 := aM hl455_1
              clear hi455_1 hl455_1
              replace p455 := eq_true p455
              replace q455 := eq_true q455
              go_wp2
              go_roundg k2
              case measure => have := HJ3.1; have := HK2.1; omega
              case rel => exact ⟨(wrap64 (x8_2 + 1)), (by first | rfl | (simp; done) | (simp [*]; done)), H', ⟨by have := HJ3.1; have := HK2.1; omega⟩, ⟨by (with_reducible repeat first | apply rA0 | apply rN0 | apply rD0); exact HO_7.1⟩, ⟨by (with_reducible repeat (first | refine bkN ?_ _ | refine bkD ?_ | refine bkA ?_ _)); exact BK423.1⟩, ⟨by repeat (first | (with_reducible first | exact HB.1 | apply bAl | apply pbN | apply bD1 | refine bSt ?_ GE423.1) | exact HB.1)⟩⟩
             ·rw [if_neg c47] at H
              have c47b0 : (((rd_T43 q0 x8_2).f2).toList == ([] : List UInt8)) = false := beq_eq_false_iff_ne.mpr c47
              have c47b1 : (((rd_T43 q0 x8_2).f2).toList != ([] : List UInt8)) = true := bne_iff_ne.mpr c47
              replace H := Option.bind_eq_some_iff.mp H
              obtain ⟨t456, A490, H⟩ := H
              replace H : (if t456 = 0 then ((w37_alive.f).bind fun t457 => (some t457)) else (w37_CasemapJoins.l0 k2 l1 l2 y433 (wrap64 (x8_2 + 1)) q0 q1 q2 q3 q4 q5)) = some r := H
              have A49 := aM A490
              clear A490
              by_cases c50 : t456 = 0
              ·rw [if_pos c50] at H
               have c50b0 : (t456 == 0) = true := beq_iff_eq.mpr c50
               have c50b1 : (t456 != 0) = false := bne_eq_false_iff_eq.mpr c50
               clear c50
               replace H := Option.bind_eq_some_iff.mp H
               obtain ⟨t457, A510, H⟩ := H
               replace H : (some t457) = some r := H
               have A51 := aM A510
               clear A510
               obtain rfl := Option.some.inj H
               have hcz52_0 : wr.cell? ⟨gb423, 0, none⟩ = some (.slice P0 q0.length n0) := (bkC BK423.1 0).trans rfl
               have hcz52_1 : wr.cell? ⟨gb423, 1, none⟩ = some (.slice P1 q1.length n1) := (bkC BK423.1 1).trans rfl
               have hcz52_2 : wr.cell? ⟨gb423, 2, none⟩ = some (.slice P2 q2.length n2) := (bkC BK423.1 2).trans rfl
               have hcz52_3 : wr.cell? ⟨gb423, 3, none⟩ = some (.slice P3 q3.length n3) := (bkC BK423.1 3).trans rfl
               have hcz52_4 : wr.cell? ⟨gb423, 4, none⟩ = some (.slice P4 q4.length n4) := (bkC BK423.1 4).trans rfl
               have hcz52_5 : wr.cell? ⟨gb423, 5, none⟩ = some (.slice P5 q5.length n5) := (bkC BK423.1 5).trans rfl
               have hfz52_0 := bkF BK423.1 0
               have hfz52_1 := bkF BK423.1 1
               have hfz52_2 := bkF BK423.1 2
               have hfz52_3 := bkF BK423.1 3
               have hfz52_4 := bkF BK423.1 4
               have hfz52_5 := bkF BK423.1 5
               have p455 : 0 ≤ (x8_2 : Int) := oD (by first | (with_reducible assumption) | assumption)
               have q455 : x8_2 < (q0.length : Int) := oD (by first | (with_reducible assumption) | assumption)
               obtain ⟨ad455, A455_1, c455_1, e455, hx455_0, hx455_1, hx455_2, hl455_1, hi455_1⟩ := at_T43 R0.1 x8_2 p455 q455
               cases e455
               replace hx455_0 := (HB.1.cell (World.block_lt_of_cell? w _ hx455_0)).trans hx455_0
               replace hx455_1 := (HB.1.cell (World.block_lt_of_cell? w _ hx455_1)).trans hx455_1
               replace hx455_2 := (HB.1.cell (World.block_lt_of_cell? w _ hx455_2)).trans hx455_2
               have HR455_1 := aM hi455_1
               have HC455_1 := aM hl455_1
               clear hi455_1 hl455_1
               replace p455 := eq_true p455
               replace q455 := eq_true q455
               go_wp2_with (first | (go_at_call 17; (with_reducible refine (r37_Check.calls k2 (fun k_ => k_ < w.heap.size) _ _ q0 (fun k_ => k_ < w.heap.size) _ _ q1 (fun k_ => k_ < w.heap.size) _ _ q2 (fun k_ => k_ < w.heap.size) _ _ q3 _ _ q4 _ _ q5 t456 _ ?z1 ?z2 ?z3 ?z4 ?z5 ?z6 ?z7 ?z8 A49.1).mono ?_); (case z1 => exact Kd.V_mk N0.1 (Kd.F_below (Kd.C_F k43_heap R0.1) (by repeat (first | (with_reducible first | exact HB.1 | apply bAl | apply pbN | apply bD1 | refine bSt ?_ GE423.1) | exact HB.1)))); (case z2 => exact Kd.V_mk N1.1 (Kd.F_below (Kd.C_F k43_heap R1.1) (by repeat (first | (with_reducible first | exact HB.1 | apply bAl | apply pbN | apply bD1 | refine bSt ?_ GE423.1) | exact HB.1)))); (case z3 => exact Kd.V_mk N2.1 (Kd.F_below (Kd.C_F k43_heap R2.1) (by repeat (first | (with_reducible first | exact HB.1 | apply bAl | apply pbN | apply bD1 | refine bSt ?_ GE423.1) | exact HB.1)))); (case z4 => exact Kd.V_mk N3.1 (Kd.F_below (Kd.C_F k43_heap R3.1) (by repeat (first | (with_reducible first | exact HB.1 | apply bAl | apply pbN | apply bD1 | refine bSt ?_ GE423.1) | exact HB.1)))); (case z5 => repeat (first | exact cB0 R4.1 HB.1 | with_reducible first | refine cA0 ?_ _ | refine cN0 ?_ _ | refine cD0 ?_)); (case z6 => exact N4.1); (case z7 => repeat (first | exact cB0 R5.1 HB.1 | with_reducible first | refine cA0 ?_ _ | refine cN0 ?_ _ | refine cD0 ?_)); (case z8 => exact N5.1); rintro e w53 ⟨rfl, hb⟩; have n0_ := aM (Kd.R_below (by (with_reducible repeat first | apply rA0 | apply rN0 | apply rD0); exact HO_7.1) hb); have n1_ := aM (blk_below (g := gb423) (o := .cells #[.slice (some ad455) q0.length n0, .slice P1 q1.length n1, .slice P2 q2.length n2, .slice P3 q3.length n3, .slice P4 q4.length n4, .slice P5 q5.length n5] 27 (0, 0)) (by (with_reducible repeat (first | refine bkN ?_ _ | refine bkD ?_ | refine bkA ?_ _)); exact BK423.1) hb); have n2_ := aM (bSp (by repeat (first | (with_reducible first | exact HB.1 | apply bAl | apply pbN | apply bD1 | refine bSt ?_ GE423.1) | exact HB.1)) hb); clear HO_7; clear BK423; clear HB; have HO_7 := n0_; have BK423 := n1_; have HB := n2_; clear n0_ n1_ n2_; (try clear hb); (try clear hb2); (try clear hk); (try clear hi)) | ((with_reducible refine gate_callee (f := 14) rfl ?_); refine goesL_ (some 58) rfl rfl Try.func14 (by kernel_rfl) rfl #[] rfl (by (try simp only [List.map_toArray, List.map_cons, List.map_nil]); first | done | rfl | (simp only [List.length_drop, List.length_take]; rfl)) ?_; (with_reducible refine (w37_alive.calls  t457 _ A51.1).mono ?_); rintro e w54 ⟨rfl, hb⟩; refine ⟨_, rfl, ?_⟩; have n0_ := aM (Kd.R_below (by (with_reducible repeat first | apply rA0 | apply rN0 | apply rD0); exact HO_7.1) hb); have n1_ := aM (blk_below (g := gb423) (o := .cells #[.slice (some ad455) q0.length n0, .slice P1 q1.length n1, .slice P2 q2.length n2, .slice P3 q3.length n3, .slice P4 q4.length n4, .slice P5 q5.length n5] 27 (0, 0)) (by (with_reducible repeat (first | refine bkN ?_ _ | refine bkD ?_ | refine bkA ?_ _)); exact BK423.1) hb); have n2_ := aM (bSp (by repeat (first | (with_reducible first | exact HB.1 | apply bAl | apply pbN | apply bD1 | refine bSt ?_ GE423.1) | exact HB.1)) hb); clear HO_7; clear BK423; clear HB; have HO_7 := n0_; have BK423 := n1_; have HB := n2_; clear n0_ n1_ n2_; (try clear hb); (try clear hb2); (try clear hk); (try clear hi)))
               go_ret
               exact ⟨by first | rfl | (simp [eN, eS] <;> rfl) | (simp [*, eN, eS] <;> rfl), by repeat (first | (with_reducible first | exact HB.1 | apply bAl | apply pbN | apply bD1 | refine bSt ?_ GE423.1) | exact HB.1)⟩
              ·rw [if_neg c50] at H
               have c50b0 : (t456 == 0) = false := beq_eq_false_iff_ne.mpr c50
               have c50b1 : (t456 != 0) = true := bne_iff_ne.mpr c50
               have H' := aM H
               clear H
               have hcz55_0 : wr.cell? ⟨gb423, 0, none⟩ = some (.slice P0 q0.length n0) := (bkC BK423.1 0).trans rfl
               have hcz55_1 : wr.cell? ⟨gb423, 1, none⟩ = some (.slice P1 q1.length n1) := (bkC BK423.1 1).trans rfl
               have hcz55_2 : wr.cell? ⟨gb423, 2, none⟩ = some (.slice P2 q2.length n2) := (bkC BK423.1 2).trans rfl
               have hcz55_3 : wr.cell? ⟨gb423, 3, none⟩ = some (.slice P3 q3.length n3) := (bkC BK423.1 3).trans rfl
               have hcz55_4 : wr.cell? ⟨gb423, 4, none⟩ = some (.slice P4 q4.length n4) := (bkC BK423.1 4).trans rfl
               have hcz55_5 : wr.cell? ⟨gb423, 5, none⟩ = some (.slice P5 q5.length n5) := (bkC BK423.1 5).trans rfl
               have hfz55_0 := bkF BK423.1 0
               have hfz55_1 := bkF BK423.1 1
               have hfz55_2 := bkF BK423.1 2
               have hfz55_3 := bkF BK423.1 3
               have hfz55_4 := bkF BK423.1 4
               have hfz55_5 := bkF BK423.1 5
               have p455 : 0 ≤ (x8_2 : Int) := oD (by first | (with_reducible assumption) | assumption)
               have q455 : x8_2 < (q0.length : Int) := oD (by first | (with_reducible assumption) | assumption)
               obtain ⟨ad455, A455_1, c455_1, e455, hx455_0, hx455_1, hx455_2, hl455_1, hi455_1⟩ := at_T43 R0.1 x8_2 p455 q455
               cases e455
               replace hx455_0 := (HB.1.cell (World.block_lt_of_cell? w _ hx455_0)).trans hx455_0
               replace hx455_1 := (HB.1.cell (World.block_lt_of_cell? w _ hx455_1)).trans hx455_1
               replace hx455_2 := (HB.1.cell (World.block_lt_of_cell? w _ hx455_2)).trans hx455_2
               have HR455_1 := aM hi455_1
               have HC455_1 := aM hl455_1
               clear hi455_1 hl455_1
               replace p455 := eq_true p455
               replace q455 := eq_true q455
               go_wp2_with (first | (go_at_call 17; (with_reducible refine (r37_Check.calls k2 (fun k_ => k_ < w.heap.size) _ _ q0 (fun k_ => k_ < w.heap.size) _ _ q1 (fun k_ => k_ < w.heap.size) _ _ q2 (fun k_ => k_ < w.heap.size) _ _ q3 _ _ q4 _ _ q5 t456 _ ?z1 ?z2 ?z3 ?z4 ?z5 ?z6 ?z7 ?z8 A49.1).mono ?_); (case z1 => exact Kd.V_mk N0.1 (Kd.F_below (Kd.C_F k43_heap R0.1) (by repeat (first | (with_reducible first | exact HB.1 | apply bAl | apply pbN | apply bD1 | refine bSt ?_ GE423.1) | exact HB.1)))); (case z2 => exact Kd.V_mk N1.1 (Kd.F_below (Kd.C_F k43_heap R1.1) (by repeat (first | (with_reducible first | exact HB.1 | apply bAl | apply pbN | apply bD1 | refine bSt ?_ GE423.1) | exact HB.1)))); (case z3 => exact Kd.V_mk N2.1 (Kd.F_below (Kd.C_F k43_heap R2.1) (by repeat (first | (with_reducible first | exact HB.1 | apply bAl | apply pbN | apply bD1 | refine bSt ?_ GE423.1) | exact HB.1)))); (case z4 => exact Kd.V_mk N3.1 (Kd.F_below (Kd.C_F k43_heap R3.1) (by repeat (first | (with_reducible first | exact HB.1 | apply bAl | apply pbN | apply bD1 | refine bSt ?_ GE423.1) | exact HB.1)))); (case z5 => repeat (first | exact cB0 R4.1 HB.1 | with_reducible first | refine cA0 ?_ _ | refine cN0 ?_ _ | refine cD0 ?_)); (case z6 => exact N4.1); (case z7 => repeat (first | exact cB0 R5.1 HB.1 | with_reducible first | refine cA0 ?_ _ | refine cN0 ?_ _ | refine cD0 ?_)); (case z8 => exact N5.1); rintro e w56 ⟨rfl, hb⟩; have n0_ := aM (Kd.R_below (by (with_reducible repeat first | apply rA0 | apply rN0 | apply rD0); exact HO_7.1) hb); have n1_ := aM (blk_below (g := gb423) (o := .cells #[.slice (some ad455) q0.length n0, .slice P1 q1.length n1, .slice P2 q2.length n2, .slice P3 q3.length n3, .slice P4 q4.length n4, .slice P5 q5.length n5] 27 (0, 0)) (by (with_reducible repeat (first | refine bkN ?_ _ | refine bkD ?_ | refine bkA ?_ _)); exact BK423.1) hb); have n2_ := aM (bSp (by repeat (first | (with_reducible first | exact HB.1 | apply bAl | apply pbN | apply bD1 | refine bSt ?_ GE423.1) | exact HB.1)) hb); clear HO_7; clear BK423; clear HB; have HO_7 := n0_; have BK423 := n1_; have HB := n2_; clear n0_ n1_ n2_; (try clear hb); (try clear hb2); (try clear hk); (try clear hi)))
               go_roundg k2
               case measure => have := HJ3.1; have := HK2.1; omega
               case rel => exact ⟨(wrap64 (x8_2 + 1)), (by first | rfl | (simp; done) | (simp [*]; done)), H', ⟨by have := HJ3.1; have := HK2.1; omega⟩, ⟨by (with_reducible repeat first | apply rA0 | apply rN0 | apply rD0); exact HO_7.1⟩, ⟨by (with_reducible repeat (first | refine bkN ?_ _ | refine bkD ?_ | refine bkA ?_ _)); exact BK423.1⟩, ⟨by repeat (first | (with_reducible first | exact HB.1 | apply bAl | apply pbN | apply bD1 | refine bSt ?_ GE423.1) | exact HB.1)⟩⟩
            ·rw [if_neg c46] at H
             exact absurd H (by simp)
           ·rw [if_neg c45] at H
            have c45b0 : decide (x8_2 < (q0.length : Int)) = false := decide_eq_false c45
            clear c45
            replace H := Option.bind_eq_some_iff.mp H
            obtain ⟨t458, A570, H⟩ := H
            replace H : ((some (([] : List Int) : List Int)).bind fun y461 => ((casemap_Lower.f q0 q1 q2 q3 q4 q5 l1).bind fun t464 => (if y461.length + t464.length < 17592186044416 then ((some (y461 ++ t464 : List Int)).bind fun y467 => ((casemap_Lower.f q0 q1 q2 q3 q4 q5 l2).bind fun t470 => (if y467.length + t470.length < 17592186044416 then ((r01_Equal.f k2 t458 (y467 ++ t470)).bind fun t476 => (if t476 = true then ((w37_alive.f).bind fun t477 => (some t477)) else (some false))) else (none)))) else (none)))) = some r := H
            have A57 := aM A570
            clear A570
            obtain ⟨y461, hy461⟩ : ∃ y_ : List Int, y_ = (([] : List Int)) := ⟨_, rfl⟩
            replace H : ((casemap_Lower.f q0 q1 q2 q3 q4 q5 l1).bind fun t464 => (if y461.length + t464.length < 17592186044416 then ((some (y461 ++ t464 : List Int)).bind fun y467 => ((casemap_Lower.f q0 q1 q2 q3 q4 q5 l2).bind fun t470 => (if y467.length + t470.length < 17592186044416 then ((r01_Equal.f k2 t458 (y467 ++ t470)).bind fun t476 => (if t476 = true then ((w37_alive.f).bind fun t477 => (some t477)) else (some false))) else (none)))) else (none))) = some r := by first | (rw [hy461]; with_reducible exact H) | (have H2_ := (Option.bind_some _ _).symm.trans H; rw [hy461]; with_reducible exact H2_) | (have H2_ := (Option.bind_some _ _).symm.trans H; with_reducible exact H2_) | with_reducible exact H | (rw [hy461]; exact H) | exact H
            have Ny461 := aM hy461
            clear hy461
            replace H := Option.bind_eq_some_iff.mp H
            obtain ⟨t464, A580, H⟩ := H
            replace H : (if y461.length + t464.length < 17592186044416 then ((some (y461 ++ t464 : List Int)).bind fun y467 => ((casemap_Lower.f q0 q1 q2 q3 q4 q5 l2).bind fun t470 => (if y467.length + t470.length < 17592186044416 then ((r01_Equal.f k2 t458 (y467 ++ t470)).bind fun t476 => (if t476 = true then ((w37_alive.f).bind fun t477 => (some t477)) else (some false))) else (none)))) else (none)) = some r := H
            have A58 := aM A580
            clear A580
            by_cases c59 : y461.length + t464.length < 17592186044416
            ·rw [if_pos c59] at H
             have LMc59 := aM c59
             clear c59
             obtain ⟨y467, hy467⟩ : ∃ y_ : List Int, y_ = (y461 ++ t464) := ⟨_, rfl⟩
             replace H : ((casemap_Lower.f q0 q1 q2 q3 q4 q5 l2).bind fun t470 => (if y467.length + t470.length < 17592186044416 then ((r01_Equal.f k2 t458 (y467 ++ t470)).bind fun t476 => (if t476 = true then ((w37_alive.f).bind fun t477 => (some t477)) else (some false))) else (none))) = some r := by first | (rw [hy467]; with_reducible exact H) | (have H2_ := (Option.bind_some _ _).symm.trans H; rw [hy467]; with_reducible exact H2_) | (have H2_ := (Option.bind_some _ _).symm.trans H; with_reducible exact H2_) | with_reducible exact H | (rw [hy467]; exact H) | exact H
             have Ny467 := aM hy467
             clear hy467
             replace H := Option.bind_eq_some_iff.mp H
             obtain ⟨t470, A600, H⟩ := H
             replace H : (if y467.length + t470.length < 17592186044416 then ((r01_Equal.f k2 t458 (y467 ++ t470)).bind fun t476 => (if t476 = true then ((w37_alive.f).bind fun t477 => (some t477)) else (some false))) else (none)) = some r := H
             have A60 := aM A600
             clear A600
             by_cases c61 : y467.length + t470.length < 17592186044416
             ·rw [if_pos c61] at H
              have LMc61 := aM c61
              clear c61
              obtain ⟨y473, hy473⟩ : ∃ y_ : List Int, y_ = (y467 ++ t470) := ⟨_, rfl⟩
              replace H : ((r01_Equal.f k2 t458 y473).bind fun t476 => (if t476 = true then ((w37_alive.f).bind fun t477 => (some t477)) else (some false))) = some r := by first | (rw [hy473]; with_reducible exact H) | (have H2_ := (Option.bind_some _ _).symm.trans H; rw [hy473]; with_reducible exact H2_) | (have H2_ := (Option.bind_some _ _).symm.trans H; with_reducible exact H2_) | with_reducible exact H | (rw [hy473]; exact H) | exact H
              have Ny473 := aM hy473
              clear hy473
              replace H := Option.bind_eq_some_iff.mp H
              obtain ⟨t476, A620, H⟩ := H
              replace H : (if t476 = true then ((w37_alive.f).bind fun t477 => (some t477)) else (some false)) = some r := H
              have A62 := aM A620
              clear A620
              by_cases c63 : t476 = true
              ·subst c63
               have H1 : ((w37_alive.f).bind fun t477 => (some t477)) = some r := by rw [if_pos rfl] at H; exact H
               clear H
               have H := H1
               clear H1
               replace H := Option.bind_eq_some_iff.mp H
               obtain ⟨t477, A640, H⟩ := H
               replace H : (some t477) = some r := H
               have A64 := aM A640
               clear A640
               obtain rfl := Option.some.inj H
               have hcz65_0 : wr.cell? ⟨gb423, 0, none⟩ = some (.slice P0 q0.length n0) := (bkC BK423.1 0).trans rfl
               have hcz65_1 : wr.cell? ⟨gb423, 1, none⟩ = some (.slice P1 q1.length n1) := (bkC BK423.1 1).trans rfl
               have hcz65_2 : wr.cell? ⟨gb423, 2, none⟩ = some (.slice P2 q2.length n2) := (bkC BK423.1 2).trans rfl
               have hcz65_3 : wr.cell? ⟨gb423, 3, none⟩ = some (.slice P3 q3.length n3) := (bkC BK423.1 3).trans rfl
               have hcz65_4 : wr.cell? ⟨gb423, 4, none⟩ = some (.slice P4 q4.length n4) := (bkC BK423.1 4).trans rfl
               have hcz65_5 : wr.cell? ⟨gb423, 5, none⟩ = some (.slice P5 q5.length n5) := (bkC BK423.1 5).trans rfl
               have hfz65_0 := bkF BK423.1 0
               have hfz65_1 := bkF BK423.1 1
               have hfz65_2 := bkF BK423.1 2
               have hfz65_3 := bkF BK423.1 3
               have hfz65_4 := bkF BK423.1 4
               have hfz65_5 := bkF BK423.1 5
               try go_wp2
               have n0_ := aM (Kd.R_drew HO_7.1)
               have n1_ := aM (bkD BK423.1)
               have n2_ := aM (bD1 HB.1)
               clear HO_7
               clear BK423
               clear HB
               have HO_7 := n0_
               have BK423 := n1_
               have HB := n2_
               clear n0_ n1_ n2_
               refine start_ (n := 17) (S := fun w' => w'.cell? ⟨gb423, 0, none⟩ = some (.slice P0 q0.length n0) ∧ w'.cell? ⟨gb423, 1, none⟩ = some (.slice P1 q1.length n1) ∧ w'.cell? ⟨gb423, 2, none⟩ = some (.slice P2 q2.length n2) ∧ w'.cell? ⟨gb423, 3, none⟩ = some (.slice P3 q3.length n3) ∧ w'.cell? ⟨gb423, 4, none⟩ = some (.slice P4 q4.length n4) ∧ w'.cell? ⟨gb423, 5, none⟩ = some (.slice P5 q5.length n5)) (ds := []) #[false, false, false, false, false, false, false, false, false, false, false, false, false, false, false, false, false] (by kernel_rfl) rfl rfl (bk60 BK423.1) (fun hHeld => ?_); refine with_tabW w37_CasemapJoins.tab11 w37_CasemapJoins.bits11 (fun HT_ HW_ => ?_)
               generalize wr.drew = w66 at HO_7 BK423 HB hHeld ⊢
               refine pure_ (i := 1) (N := some 60) (v := ?_) (a' := ?_) #[false, true, false, false, false, false, false, false, false, false, false, false, false, false, false, false, false] rfl rfl (any_of HT_.1 (by kernel_rfl)) (fun _ _ _ h => h) (Or.inl ⟨by rfl, ?_⟩) ?_ ?_
               rotate_left
               ·intro w'
                go_simp
                with_reducible rfl
               rotate_left
               ·simp only [Act.put, sI, sZ, sS, i64_w, i32_w]
                rfl
               refine pure_ (i := 5) (N := some 64) (v := ?_) (a' := ?_) #[false, true, false, false, false, true, false, false, false, false, false, false, false, false, false, false, false] rfl rfl (any_of HT_.1 (by kernel_rfl)) (fun _ _ _ h => h) (Or.inl ⟨by rfl, ?_⟩) ?_ ?_
               rotate_left
               ·intro w'
                go_simp
                with_reducible rfl
               rotate_left
               ·simp only [Act.put, sI, sZ, sS, i64_w, i32_w]
                rfl
               refine pure_ (i := 9) (N := some 68) (v := ?_) (a' := ?_) #[false, true, false, false, false, true, false, false, false, true, false, false, false, false, false, false, false] rfl rfl (any_of HT_.1 (by kernel_rfl)) (fun _ _ _ h => h) (Or.inl ⟨by rfl, ?_⟩) ?_ ?_
               rotate_left
               ·intro w'
                go_simp
                with_reducible rfl
               rotate_left
               ·simp only [Act.put, sI, sZ, sS, i64_w, i32_w]
                rfl
               refine take_ (i := 0) (N := some 59) (v := ?_) (a' := ?_) #[true, true, false, false, false, true, false, false, false, true, false, false, false, false, false, false, false] rfl rfl (take_ofW HT_.1 HW_.1 (by kernel_rfl)) (fun _ _ _ h => h) (Or.inl ⟨by rfl, ?_⟩) hHeld ?_ ?_
               rotate_left
               ·rintro w' ⟨s0, s1, s2, s3, s4, s5⟩
                go_simp
                with_reducible rfl
               rotate_left
               ·simp only [Act.put, sI, sZ, sS, i64_w, i32_w]
                rfl
               refine take_ (i := 4) (N := some 63) (v := ?_) (a' := ?_) #[true, true, false, false, true, true, false, false, false, true, false, false, false, false, false, false, false] rfl rfl (take_ofW HT_.1 HW_.1 (by kernel_rfl)) (fun _ _ _ h => h) (Or.inl ⟨by rfl, ?_⟩) hHeld ?_ ?_
               rotate_left
               ·rintro w' ⟨s0, s1, s2, s3, s4, s5⟩
                go_simp
                with_reducible rfl
               rotate_left
               ·simp only [Act.put, sI, sZ, sS, i64_w, i32_w]
                rfl
               refine take_ (i := 8) (N := some 67) (v := ?_) (a' := ?_) #[true, true, false, false, true, true, false, false, true, true, false, false, false, false, false, false, false] rfl rfl (take_ofW HT_.1 HW_.1 (by kernel_rfl)) (fun _ _ _ h => h) (Or.inl ⟨by rfl, ?_⟩) hHeld ?_ ?_
               rotate_left
               ·rintro w' ⟨s0, s1, s2, s3, s4, s5⟩
                go_simp
                with_reducible rfl
               rotate_left
               ·simp only [Act.put, sI, sZ, sS, i64_w, i32_w]
                rfl
               refine join_ (σ := Value × Value × Value) 8 #[true, true, true, true, true, true, true, false, true, true, false, false, false, false, false, false, false] (fun s_ => [(61, s_.1), (62, s_.2.1), (65, s_.2.2)]) (fun s_ w' => (w'.cell? ⟨gb423, 0, none⟩ = some (.slice P0 q0.length n0) ∧ w'.cell? ⟨gb423, 1, none⟩ = some (.slice P1 q1.length n1) ∧ w'.cell? ⟨gb423, 2, none⟩ = some (.slice P2 q2.length n2) ∧ w'.cell? ⟨gb423, 3, none⟩ = some (.slice P3 q3.length n3) ∧ w'.cell? ⟨gb423, 4, none⟩ = some (.slice P4 q4.length n4) ∧ w'.cell? ⟨gb423, 5, none⟩ = some (.slice P5 q5.length n5)) ∧ (Kd.R (Kd.int .i64) 3 w' w.heap.size (fun k_ => some k_ ≠ (s_.2.1 : Value).ownBlock ∧ some k_ ≠ (s_.2.2 : Value).ownBlock ∧ some k_ ≠ (.slice Ao31 y433.length co31 : Value).ownBlock) s_.1 t458) ∧ (Kd.R (Kd.int .i64) 3 w' w.heap.size (fun k_ => some k_ ≠ (s_.1 : Value).ownBlock ∧ some k_ ≠ (s_.2.2 : Value).ownBlock ∧ some k_ ≠ (.slice Ao31 y433.length co31 : Value).ownBlock) s_.2.1 y461) ∧ (Kd.R (Kd.int .i64) 3 w' w.heap.size (fun k_ => some k_ ≠ (s_.1 : Value).ownBlock ∧ some k_ ≠ (s_.2.1 : Value).ownBlock ∧ some k_ ≠ (.slice Ao31 y433.length co31 : Value).ownBlock) s_.2.2 t464) ∧ (Kd.R (Kd.int .i64) 3 w' w.heap.size (fun k_ => some k_ ≠ (s_.1 : Value).ownBlock ∧ some k_ ≠ (s_.2.1 : Value).ownBlock ∧ some k_ ≠ (s_.2.2 : Value).ownBlock) (.slice Ao31 y433.length co31) y433) ∧ (w'.heap[gb423]? = some (.cells #[.slice P0 q0.length n0, .slice P1 q1.length n1, .slice P2 q2.length n2, .slice P3 q3.length n3, .slice P4 q4.length n4, .slice P5 q5.length n5] 27 (0, 0))) ∧ (Below w.heap.size w w')) ?_ ?_
               rotate_left
               ·intro hCont
                refine two_ (i := 2) (j := 3) (Ni := some 61) (Nj := some 62) #[true, true, true, false, true, true, false, false, true, true, false, false, false, false, false, false, false] #[true, true, false, true, true, true, false, false, true, true, false, false, false, false, false, false, false] rfl rfl rfl rfl (two_of HT_.1 (by kernel_rfl)) (by decide) (by decide) (fun K hK => ?_) (fun K hK => ?_)
                ·skip
                 refine goes_ Try.func18 (by kernel_rfl) rfl #[.agg #[.slice P0 q0.length n0, .slice P1 q1.length n1, .slice P2 q2.length n2, .slice P3 q3.length n3, .slice P4 q4.length n4, .slice P5 q5.length n5], .slice Ao31 y433.length co31] (by rfl) rfl rfl (by (try simp only [List.map_toArray, List.map_cons, List.map_nil]); first | done | rfl | (simp only [List.length_drop, List.length_take]; rfl)) ?_
                 with_reducible refine (casemap_Lower.calls _ _ q0 _ _ q1 _ _ q2 _ _ q3 _ _ q4 _ _ q5 _ _ y433 t458 _ ?z1 ?z2 ?z3 ?z4 ?z5 ?z6 ?z7 ?z8 ?z9 ?z10 ?z11 ?z12 ?z13 ?z14 A57.1).mono ?_
                 (case z1 => repeat (first | exact cB0 R0.1 HB.1 | with_reducible first | refine cA0 ?_ _ | refine cN0 ?_ _ | refine cD0 ?_))
                 (case z2 => exact N0.1)
                 (case z3 => repeat (first | exact cB0 R1.1 HB.1 | with_reducible first | refine cA0 ?_ _ | refine cN0 ?_ _ | refine cD0 ?_))
                 (case z4 => exact N1.1)
                 (case z5 => repeat (first | exact cB0 R2.1 HB.1 | with_reducible first | refine cA0 ?_ _ | refine cN0 ?_ _ | refine cD0 ?_))
                 (case z6 => exact N2.1)
                 (case z7 => repeat (first | exact cB0 R3.1 HB.1 | with_reducible first | refine cA0 ?_ _ | refine cN0 ?_ _ | refine cD0 ?_))
                 (case z8 => exact N3.1)
                 (case z9 => repeat (first | exact cB0 R4.1 HB.1 | with_reducible first | refine cA0 ?_ _ | refine cN0 ?_ _ | refine cD0 ?_))
                 (case z10 => exact N4.1)
                 (case z11 => repeat (first | exact cB0 R5.1 HB.1 | with_reducible first | refine cA0 ?_ _ | refine cN0 ?_ _ | refine cD0 ?_))
                 (case z12 => exact N5.1)
                 (case z13 => repeat (first | exact (Kd.R_reads' HO_7.1).2.2 | (with_reducible refine Kd.C_alloc ?_ _) | (with_reducible refine Kd.C_drewN ?_ _) | (with_reducible refine Kd.C_drew ?_)))
                 (case z14 => exact (Kd.R_reads' HO_7.1).2.1)
                 rintro e w67 ⟨v459, rfl, ho0, hb⟩
                 refine ⟨_, rfl, ?_⟩
                 have n0_ := aM (Kd.R_elder' (by (with_reducible repeat first | apply rA0 | apply rN0 | apply rD0); exact HO_7.1) (Kd.R_base ho0) hb)
                 have n1_ := aM (Kd.R_lower (Kd.R_new' ho0 (Kd.R_lt (by (with_reducible repeat first | apply rA0 | apply rN0 | apply rD0); exact HO_7.1))) (bSz (by repeat (first | (with_reducible first | exact HB.1 | apply bAl | apply pbN | apply bD1 | refine bSt ?_ GE423.1) | exact HB.1))))
                 have n2_ := aM (blk_below (g := gb423) (o := .cells #[.slice P0 q0.length n0, .slice P1 q1.length n1, .slice P2 q2.length n2, .slice P3 q3.length n3, .slice P4 q4.length n4, .slice P5 q5.length n5] 27 (0, 0)) (by (with_reducible repeat (first | refine bkN ?_ _ | refine bkD ?_ | refine bkA ?_ _)); exact BK423.1) hb)
                 have n3_ := aM (bSp (by repeat (first | (with_reducible first | exact HB.1 | apply bAl | apply pbN | apply bD1 | refine bSt ?_ GE423.1) | exact HB.1)) hb)
                 clear HO_7
                 clear BK423
                 clear HB
                 have HO_7 := n0_
                 have HO460 := n1_
                 have BK423 := n2_
                 have HB := n3_
                 clear n0_ n1_ n2_ n3_
                 (try clear hb)
                 (try clear hb2)
                 (try clear hk)
                 (try clear hi)
                 (try clear ho0)
                 refine hK.out _ _ (bk60 BK423.1) (fun hHeld => ?_)
                 clear hK K
                 refine norm_ (a' := ?_) ?_ ?_
                 rotate_left
                 ·show Act.put _ (some 61) _ = _
                  simp only [Act.put, sI, sZ, sS, i64_w, i32_w]
                  rfl
                 refine two_ (i := 3) (j := 6) (Ni := some 62) (Nj := some 65) #[true, true, true, true, true, true, false, false, true, true, false, false, false, false, false, false, false] #[true, true, true, false, true, true, true, false, true, true, false, false, false, false, false, false, false] rfl rfl rfl rfl (two_of HT_.1 (by kernel_rfl)) (by decide) (by decide) (fun K hK => ?_) (fun K hK => ?_)
                 ·skip
                  refine Kd.R_lit_step (Kd.int .i64) _ 3 ?hg (N := 62) ?hd (xs := ([] : List Int)) (inner := []) (ok := fun _ => True) (okp := fun _ => True) ?hr ?hp (fun _ hk => hk) trivial (Below.refl _ _) (Nat.le_refl _) (by simp) ?_; (case hd => rfl); (case hg => rfl); (case hr => first | (go_simp; done) | (go_simp; rfl)); (case hp => exact (Reps.none _ _))
                  intro v462 w68 ho69 hb hg_ hnew_
                  clear hg_ hnew_
                  (first | rw [← Ny461.1] at ho69 | (simp only [Int.reduceToNat] at ho69; rw [← Ny461.1] at ho69))
                  have n0_ := aM (Kd.R_elder' (by (with_reducible repeat first | apply rA0 | apply rN0 | apply rD0); exact HO_7.1) (Kd.R_base ho69) hb)
                  have n1_ := aM (Kd.R_elder' (by (with_reducible repeat first | apply rA0 | apply rN0 | apply rD0); exact HO460.1) (Kd.R_base ho69) hb)
                  have n2_ := aM (Kd.R_lower (Kd.R_new' (Kd.R_new' ho69 (Kd.R_lt (by (with_reducible repeat first | apply rA0 | apply rN0 | apply rD0); exact HO_7.1))) (Kd.R_lt (by (with_reducible repeat first | apply rA0 | apply rN0 | apply rD0); exact HO460.1))) (bSz (by repeat (first | (with_reducible first | exact HB.1 | apply bAl | apply pbN | apply bD1 | refine bSt ?_ GE423.1) | exact HB.1))))
                  have n3_ := aM (blk_below (g := gb423) (o := .cells #[.slice P0 q0.length n0, .slice P1 q1.length n1, .slice P2 q2.length n2, .slice P3 q3.length n3, .slice P4 q4.length n4, .slice P5 q5.length n5] 27 (0, 0)) (by (with_reducible repeat (first | refine bkN ?_ _ | refine bkD ?_ | refine bkA ?_ _)); exact BK423.1) hb)
                  have n4_ := aM (bSp (by repeat (first | (with_reducible first | exact HB.1 | apply bAl | apply pbN | apply bD1 | refine bSt ?_ GE423.1) | exact HB.1)) hb)
                  clear HO_7
                  clear HO460
                  clear BK423
                  clear HB
                  have HO_7 := n0_
                  have HO460 := n1_
                  have HO463 := n2_
                  have BK423 := n3_
                  have HB := n4_
                  clear n0_ n1_ n2_ n3_ n4_
                  clear hb ho69
                  refine hK.out _ _ (bk60 BK423.1) (fun hHeld => ?_)
                  clear hK K
                  refine norm_ (a' := ?_) ?_ ?_
                  rotate_left
                  ·show Act.put _ (some 62) _ = _
                   simp only [Act.put, sI, sZ, sS, i64_w, i32_w]
                   rfl
                  refine one_ (i := 6) (N := some 65) #[true, true, true, true, true, true, true, false, true, true, false, false, false, false, false, false, false] rfl rfl (one_of HT_.1 (by kernel_rfl)) (by decide) (fun K hK => ?_)
                  refine goes_ Try.func18 (by kernel_rfl) rfl #[.agg #[.slice P0 q0.length n0, .slice P1 q1.length n1, .slice P2 q2.length n2, .slice P3 q3.length n3, .slice P4 q4.length n4, .slice P5 q5.length n5], .slice A1 l1.length c1] (by rfl) rfl rfl (by (try simp only [List.map_toArray, List.map_cons, List.map_nil]); first | done | rfl | (simp only [List.length_drop, List.length_take]; rfl)) ?_
                  with_reducible refine (casemap_Lower.calls _ _ q0 _ _ q1 _ _ q2 _ _ q3 _ _ q4 _ _ q5 _ _ l1 t464 _ ?z1 ?z2 ?z3 ?z4 ?z5 ?z6 ?z7 ?z8 ?z9 ?z10 ?z11 ?z12 ?z13 ?z14 A58.1).mono ?_
                  (case z1 => repeat (first | exact cB0 R0.1 HB.1 | with_reducible first | refine cA0 ?_ _ | refine cN0 ?_ _ | refine cD0 ?_))
                  (case z2 => exact N0.1)
                  (case z3 => repeat (first | exact cB0 R1.1 HB.1 | with_reducible first | refine cA0 ?_ _ | refine cN0 ?_ _ | refine cD0 ?_))
                  (case z4 => exact N1.1)
                  (case z5 => repeat (first | exact cB0 R2.1 HB.1 | with_reducible first | refine cA0 ?_ _ | refine cN0 ?_ _ | refine cD0 ?_))
                  (case z6 => exact N2.1)
                  (case z7 => repeat (first | exact cB0 R3.1 HB.1 | with_reducible first | refine cA0 ?_ _ | refine cN0 ?_ _ | refine cD0 ?_))
                  (case z8 => exact N3.1)
                  (case z9 => repeat (first | exact cB0 R4.1 HB.1 | with_reducible first | refine cA0 ?_ _ | refine cN0 ?_ _ | refine cD0 ?_))
                  (case z10 => exact N4.1)
                  (case z11 => repeat (first | exact cB0 R5.1 HB.1 | with_reducible first | refine cA0 ?_ _ | refine cN0 ?_ _ | refine cD0 ?_))
                  (case z12 => exact N5.1)
                  (case z13 => repeat (first | exact cB0 HR1.1 HB.1 | with_reducible first | refine cA0 ?_ _ | refine cN0 ?_ _ | refine cD0 ?_))
                  (case z14 => exact HC1.1)
                  rintro e w70 ⟨v465, rfl, ho0, hb⟩
                  refine ⟨_, rfl, ?_⟩
                  have n0_ := aM (Kd.R_elder' (by (with_reducible repeat first | apply rA0 | apply rN0 | apply rD0); exact HO_7.1) (Kd.R_base ho0) hb)
                  have n1_ := aM (Kd.R_elder' (by (with_reducible repeat first | apply rA0 | apply rN0 | apply rD0); exact HO460.1) (Kd.R_base ho0) hb)
                  have n2_ := aM (Kd.R_elder' (by (with_reducible repeat first | apply rA0 | apply rN0 | apply rD0); exact HO463.1) (Kd.R_base ho0) hb)
                  have n3_ := aM (Kd.R_lower (Kd.R_new' (Kd.R_new' (Kd.R_new' ho0 (Kd.R_lt (by (with_reducible repeat first | apply rA0 | apply rN0 | apply rD0); exact HO_7.1))) (Kd.R_lt (by (with_reducible repeat first | apply rA0 | apply rN0 | apply rD0); exact HO460.1))) (Kd.R_lt (by (with_reducible repeat first | apply rA0 | apply rN0 | apply rD0); exact HO463.1))) (bSz (by repeat (first | (with_reducible first | exact HB.1 | apply bAl | apply pbN | apply bD1 | refine bSt ?_ GE423.1) | exact HB.1))))
                  have n4_ := aM (blk_below (g := gb423) (o := .cells #[.slice P0 q0.length n0, .slice P1 q1.length n1, .slice P2 q2.length n2, .slice P3 q3.length n3, .slice P4 q4.length n4, .slice P5 q5.length n5] 27 (0, 0)) (by (with_reducible repeat (first | refine bkN ?_ _ | refine bkD ?_ | refine bkA ?_ _)); exact BK423.1) hb)
                  have n5_ := aM (bSp (by repeat (first | (with_reducible first | exact HB.1 | apply bAl | apply pbN | apply bD1 | refine bSt ?_ GE423.1) | exact HB.1)) hb)
                  clear HO_7
                  clear HO460
                  clear HO463
                  clear BK423
                  clear HB
                  have HO_7 := n0_
                  have HO460 := n1_
                  have HO463 := n2_
                  have HO466 := n3_
                  have BK423 := n4_
                  have HB := n5_
                  clear n0_ n1_ n2_ n3_ n4_ n5_
                  (try clear hb)
                  (try clear hb2)
                  (try clear hk)
                  (try clear hi)
                  (try clear ho0)
                  refine hK.out _ _ (bk60 BK423.1) (fun hHeld => ?_)
                  clear hK K
                  refine norm_ (a' := ?_) ?_ ?_
                  rotate_left
                  ·show Act.put _ (some 65) _ = _
                   simp only [Act.put, sI, sZ, sS, i64_w, i32_w]
                   rfl
                  exact norm_ (by simp only [putAll, Act.put, sI, sZ, sS]) (hCont (v459, v462, v465) _ ⟨hHeld, (by (with_reducible repeat first | apply rA0 | apply rN0 | apply rD0); exact Kd.R_mono HO460.1 (fun _ hk => ⟨hk.1.2, ⟨hk.2, hk.1.1.2⟩⟩)), (by (with_reducible repeat first | apply rA0 | apply rN0 | apply rD0); exact Kd.R_mono HO463.1 (fun _ hk => ⟨hk.1.2, ⟨hk.2, hk.1.1.2⟩⟩)), (by (with_reducible repeat first | apply rA0 | apply rN0 | apply rD0); exact Kd.R_mono HO466.1 (fun _ hk => ⟨hk.1.2, ⟨hk.2, hk.1.1.2⟩⟩)), (by (with_reducible repeat first | apply rA0 | apply rN0 | apply rD0); exact Kd.R_mono HO_7.1 (fun _ hk => ⟨hk.1.1.2, ⟨hk.1.2, hk.2⟩⟩)), (by (with_reducible repeat (first | refine bkN ?_ _ | refine bkD ?_ | refine bkA ?_ _)); exact BK423.1), (by repeat (first | (with_reducible first | exact HB.1 | apply bAl | apply pbN | apply bD1 | refine bSt ?_ GE423.1) | exact HB.1))⟩)
                 ·skip
                  refine goes_ Try.func18 (by kernel_rfl) rfl #[.agg #[.slice P0 q0.length n0, .slice P1 q1.length n1, .slice P2 q2.length n2, .slice P3 q3.length n3, .slice P4 q4.length n4, .slice P5 q5.length n5], .slice A1 l1.length c1] (by rfl) rfl rfl (by (try simp only [List.map_toArray, List.map_cons, List.map_nil]); first | done | rfl | (simp only [List.length_drop, List.length_take]; rfl)) ?_
                  with_reducible refine (casemap_Lower.calls _ _ q0 _ _ q1 _ _ q2 _ _ q3 _ _ q4 _ _ q5 _ _ l1 t464 _ ?z1 ?z2 ?z3 ?z4 ?z5 ?z6 ?z7 ?z8 ?z9 ?z10 ?z11 ?z12 ?z13 ?z14 A58.1).mono ?_
                  (case z1 => repeat (first | exact cB0 R0.1 HB.1 | with_reducible first | refine cA0 ?_ _ | refine cN0 ?_ _ | refine cD0 ?_))
                  (case z2 => exact N0.1)
                  (case z3 => repeat (first | exact cB0 R1.1 HB.1 | with_reducible first | refine cA0 ?_ _ | refine cN0 ?_ _ | refine cD0 ?_))
                  (case z4 => exact N1.1)
                  (case z5 => repeat (first | exact cB0 R2.1 HB.1 | with_reducible first | refine cA0 ?_ _ | refine cN0 ?_ _ | refine cD0 ?_))
                  (case z6 => exact N2.1)
                  (case z7 => repeat (first | exact cB0 R3.1 HB.1 | with_reducible first | refine cA0 ?_ _ | refine cN0 ?_ _ | refine cD0 ?_))
                  (case z8 => exact N3.1)
                  (case z9 => repeat (first | exact cB0 R4.1 HB.1 | with_reducible first | refine cA0 ?_ _ | refine cN0 ?_ _ | refine cD0 ?_))
                  (case z10 => exact N4.1)
                  (case z11 => repeat (first | exact cB0 R5.1 HB.1 | with_reducible first | refine cA0 ?_ _ | refine cN0 ?_ _ | refine cD0 ?_))
                  (case z12 => exact N5.1)
                  (case z13 => repeat (first | exact cB0 HR1.1 HB.1 | with_reducible first | refine cA0 ?_ _ | refine cN0 ?_ _ | refine cD0 ?_))
                  (case z14 => exact HC1.1)
                  rintro e w68 ⟨v465, rfl, ho0, hb⟩
                  refine ⟨_, rfl, ?_⟩
                  have n0_ := aM (Kd.R_elder' (by (with_reducible repeat first | apply rA0 | apply rN0 | apply rD0); exact HO_7.1) (Kd.R_base ho0) hb)
                  have n1_ := aM (Kd.R_elder' (by (with_reducible repeat first | apply rA0 | apply rN0 | apply rD0); exact HO460.1) (Kd.R_base ho0) hb)
                  have n2_ := aM (Kd.R_lower (Kd.R_new' (Kd.R_new' ho0 (Kd.R_lt (by (with_reducible repeat first | apply rA0 | apply rN0 | apply rD0); exact HO_7.1))) (Kd.R_lt (by (with_reducible repeat first | apply rA0 | apply rN0 | apply rD0); exact HO460.1))) (bSz (by repeat (first | (with_reducible first | exact HB.1 | apply bAl | apply pbN | apply bD1 | refine bSt ?_ GE423.1) | exact HB.1))))
                  have n3_ := aM (blk_below (g := gb423) (o := .cells #[.slice P0 q0.length n0, .slice P1 q1.length n1, .slice P2 q2.length n2, .slice P3 q3.length n3, .slice P4 q4.length n4, .slice P5 q5.length n5] 27 (0, 0)) (by (with_reducible repeat (first | refine bkN ?_ _ | refine bkD ?_ | refine bkA ?_ _)); exact BK423.1) hb)
                  have n4_ := aM (bSp (by repeat (first | (with_reducible first | exact HB.1 | apply bAl | apply pbN | apply bD1 | refine bSt ?_ GE423.1) | exact HB.1)) hb)
                  clear HO_7
                  clear HO460
                  clear BK423
                  clear HB
                  have HO_7 := n0_
                  have HO460 := n1_
                  have HO466 := n2_
                  have BK423 := n3_
                  have HB := n4_
                  clear n0_ n1_ n2_ n3_ n4_
                  (try clear hb)
                  (try clear hb2)
                  (try clear hk)
                  (try clear hi)
                  (try clear ho0)
                  refine hK.out _ _ (bk60 BK423.1) (fun hHeld => ?_)
                  clear hK K
                  refine norm_ (a' := ?_) ?_ ?_
                  rotate_left
                  ·show Act.put _ (some 65) _ = _
                   simp only [Act.put, sI, sZ, sS, i64_w, i32_w]
                   rfl
                  refine one_ (i := 3) (N := some 62) #[true, true, true, true, true, true, true, false, true, true, false, false, false, false, false, false, false] rfl rfl (one_of HT_.1 (by kernel_rfl)) (by decide) (fun K hK => ?_)
                  refine Kd.R_lit_step (Kd.int .i64) _ 3 ?hg (N := 62) ?hd (xs := ([] : List Int)) (inner := []) (ok := fun _ => True) (okp := fun _ => True) ?hr ?hp (fun _ hk => hk) trivial (Below.refl _ _) (Nat.le_refl _) (by simp) ?_; (case hd => rfl); (case hg => rfl); (case hr => first | (go_simp; done) | (go_simp; rfl)); (case hp => exact (Reps.none _ _))
                  intro v462 w69 ho70 hb hg_ hnew_
                  clear hg_ hnew_
                  (first | rw [← Ny461.1] at ho70 | (simp only [Int.reduceToNat] at ho70; rw [← Ny461.1] at ho70))
                  have n0_ := aM (Kd.R_elder' (by (with_reducible repeat first | apply rA0 | apply rN0 | apply rD0); exact HO_7.1) (Kd.R_base ho70) hb)
                  have n1_ := aM (Kd.R_elder' (by (with_reducible repeat first | apply rA0 | apply rN0 | apply rD0); exact HO460.1) (Kd.R_base ho70) hb)
                  have n2_ := aM (Kd.R_elder' (by (with_reducible repeat first | apply rA0 | apply rN0 | apply rD0); exact HO466.1) (Kd.R_base ho70) hb)
                  have n3_ := aM (Kd.R_lower (Kd.R_new' (Kd.R_new' (Kd.R_new' ho70 (Kd.R_lt (by (with_reducible repeat first | apply rA0 | apply rN0 | apply rD0); exact HO_7.1))) (Kd.R_lt (by (with_reducible repeat first | apply rA0 | apply rN0 | apply rD0); exact HO460.1))) (Kd.R_lt (by (with_reducible repeat first | apply rA0 | apply rN0 | apply rD0); exact HO466.1))) (bSz (by repeat (first | (with_reducible first | exact HB.1 | apply bAl | apply pbN | apply bD1 | refine bSt ?_ GE423.1) | exact HB.1))))
                  have n4_ := aM (blk_below (g := gb423) (o := .cells #[.slice P0 q0.length n0, .slice P1 q1.length n1, .slice P2 q2.length n2, .slice P3 q3.length n3, .slice P4 q4.length n4, .slice P5 q5.length n5] 27 (0, 0)) (by (with_reducible repeat (first | refine bkN ?_ _ | refine bkD ?_ | refine bkA ?_ _)); exact BK423.1) hb)
                  have n5_ := aM (bSp (by repeat (first | (with_reducible first | exact HB.1 | apply bAl | apply pbN | apply bD1 | refine bSt ?_ GE423.1) | exact HB.1)) hb)
                  clear HO_7
                  clear HO460
                  clear HO466
                  clear BK423
                  clear HB
                  have HO_7 := n0_
                  have HO460 := n1_
                  have HO466 := n2_
                  have HO463 := n3_
                  have BK423 := n4_
                  have HB := n5_
                  clear n0_ n1_ n2_ n3_ n4_ n5_
                  clear hb ho70
                  refine hK.out _ _ (bk60 BK423.1) (fun hHeld => ?_)
                  clear hK K
                  refine norm_ (a' := ?_) ?_ ?_
                  rotate_left
                  ·show Act.put _ (some 62) _ = _
                   simp only [Act.put, sI, sZ, sS, i64_w, i32_w]
                   rfl
                  exact norm_ (by simp only [putAll, Act.put, sI, sZ, sS]) (hCont (v459, v462, v465) _ ⟨hHeld, (by (with_reducible repeat first | apply rA0 | apply rN0 | apply rD0); exact Kd.R_mono HO460.1 (fun _ hk => ⟨hk.2, ⟨hk.1.2, hk.1.1.2⟩⟩)), (by (with_reducible repeat first | apply rA0 | apply rN0 | apply rD0); exact Kd.R_mono HO463.1 (fun _ hk => ⟨hk.1.2, ⟨hk.2, hk.1.1.2⟩⟩)), (by (with_reducible repeat first | apply rA0 | apply rN0 | apply rD0); exact Kd.R_mono HO466.1 (fun _ hk => ⟨hk.1.2, ⟨hk.2, hk.1.1.2⟩⟩)), (by (with_reducible repeat first | apply rA0 | apply rN0 | apply rD0); exact Kd.R_mono HO_7.1 (fun _ hk => ⟨hk.1.1.2, ⟨hk.2, hk.1.2⟩⟩)), (by (with_reducible repeat (first | refine bkN ?_ _ | refine bkD ?_ | refine bkA ?_ _)); exact BK423.1), (by repeat (first | (with_reducible first | exact HB.1 | apply bAl | apply pbN | apply bD1 | refine bSt ?_ GE423.1) | exact HB.1))⟩)
                ·skip
                 refine Kd.R_lit_step (Kd.int .i64) _ 3 ?hg (N := 62) ?hd (xs := ([] : List Int)) (inner := []) (ok := fun _ => True) (okp := fun _ => True) ?hr ?hp (fun _ hk => hk) trivial (Below.refl _ _) (Nat.le_refl _) (by simp) ?_; (case hd => rfl); (case hg => rfl); (case hr => first | (go_simp; done) | (go_simp; rfl)); (case hp => exact (Reps.none _ _))
                 intro v462 w67 ho68 hb hg_ hnew_
                 clear hg_ hnew_
                 (first | rw [← Ny461.1] at ho68 | (simp only [Int.reduceToNat] at ho68; rw [← Ny461.1] at ho68))
                 have n0_ := aM (Kd.R_elder' (by (with_reducible repeat first | apply rA0 | apply rN0 | apply rD0); exact HO_7.1) (Kd.R_base ho68) hb)
                 have n1_ := aM (Kd.R_lower (Kd.R_new' ho68 (Kd.R_lt (by (with_reducible repeat first | apply rA0 | apply rN0 | apply rD0); exact HO_7.1))) (bSz (by repeat (first | (with_reducible first | exact HB.1 | apply bAl | apply pbN | apply bD1 | refine bSt ?_ GE423.1) | exact HB.1))))
                 have n2_ := aM (blk_below (g := gb423) (o := .cells #[.slice P0 q0.length n0, .slice P1 q1.length n1, .slice P2 q2.length n2, .slice P3 q3.length n3, .slice P4 q4.length n4, .slice P5 q5.length n5] 27 (0, 0)) (by (with_reducible repeat (first | refine bkN ?_ _ | refine bkD ?_ | refine bkA ?_ _)); exact BK423.1) hb)
                 have n3_ := aM (bSp (by repeat (first | (with_reducible first | exact HB.1 | apply bAl | apply pbN | apply bD1 | refine bSt ?_ GE423.1) | exact HB.1)) hb)
                 clear HO_7
                 clear BK423
                 clear HB
                 have HO_7 := n0_
                 have HO463 := n1_
                 have BK423 := n2_
                 have HB := n3_
                 clear n0_ n1_ n2_ n3_
                 clear hb ho68
                 refine hK.out _ _ (bk60 BK423.1) (fun hHeld => ?_)
                 clear hK K
                 refine norm_ (a' := ?_) ?_ ?_
                 rotate_left
                 ·show Act.put _ (some 62) _ = _
                  simp only [Act.put, sI, sZ, sS, i64_w, i32_w]
                  rfl
                 refine one_ (i := 2) (N := some 61) #[true, true, true, true, true, true, false, false, true, true, false, false, false, false, false, false, false] rfl rfl (one_of HT_.1 (by kernel_rfl)) (by decide) (fun K hK => ?_)
                 refine goes_ Try.func18 (by kernel_rfl) rfl #[.agg #[.slice P0 q0.length n0, .slice P1 q1.length n1, .slice P2 q2.length n2, .slice P3 q3.length n3, .slice P4 q4.length n4, .slice P5 q5.length n5], .slice Ao31 y433.length co31] (by rfl) rfl rfl (by (try simp only [List.map_toArray, List.map_cons, List.map_nil]); first | done | rfl | (simp only [List.length_drop, List.length_take]; rfl)) ?_
                 with_reducible refine (casemap_Lower.calls _ _ q0 _ _ q1 _ _ q2 _ _ q3 _ _ q4 _ _ q5 _ _ y433 t458 _ ?z1 ?z2 ?z3 ?z4 ?z5 ?z6 ?z7 ?z8 ?z9 ?z10 ?z11 ?z12 ?z13 ?z14 A57.1).mono ?_
                 (case z1 => repeat (first | exact cB0 R0.1 HB.1 | with_reducible first | refine cA0 ?_ _ | refine cN0 ?_ _ | refine cD0 ?_))
                 (case z2 => exact N0.1)
                 (case z3 => repeat (first | exact cB0 R1.1 HB.1 | with_reducible first | refine cA0 ?_ _ | refine cN0 ?_ _ | refine cD0 ?_))
                 (case z4 => exact N1.1)
                 (case z5 => repeat (first | exact cB0 R2.1 HB.1 | with_reducible first | refine cA0 ?_ _ | refine cN0 ?_ _ | refine cD0 ?_))
                 (case z6 => exact N2.1)
                 (case z7 => repeat (first | exact cB0 R3.1 HB.1 | with_reducible first | refine cA0 ?_ _ | refine cN0 ?_ _ | refine cD0 ?_))
                 (case z8 => exact N3.1)
                 (case z9 => repeat (first | exact cB0 R4.1 HB.1 | with_reducible first | refine cA0 ?_ _ | refine cN0 ?_ _ | refine cD0 ?_))
                 (case z10 => exact N4.1)
                 (case z11 => repeat (first | exact cB0 R5.1 HB.1 | with_reducible first | refine cA0 ?_ _ | refine cN0 ?_ _ | refine cD0 ?_))
                 (case z12 => exact N5.1)
                 (case z13 => repeat (first | exact (Kd.R_reads' HO_7.1).2.2 | (with_reducible refine Kd.C_alloc ?_ _) | (with_reducible refine Kd.C_drewN ?_ _) | (with_reducible refine Kd.C_drew ?_)))
                 (case z14 => exact (Kd.R_reads' HO_7.1).2.1)
                 rintro e w69 ⟨v459, rfl, ho0, hb⟩
                 refine ⟨_, rfl, ?_⟩
                 have n0_ := aM (Kd.R_elder' (by (with_reducible repeat first | apply rA0 | apply rN0 | apply rD0); exact HO_7.1) (Kd.R_base ho0) hb)
                 have n1_ := aM (Kd.R_elder' (by (with_reducible repeat first | apply rA0 | apply rN0 | apply rD0); exact HO463.1) (Kd.R_base ho0) hb)
                 have n2_ := aM (Kd.R_lower (Kd.R_new' (Kd.R_new' ho0 (Kd.R_lt (by (with_reducible repeat first | apply rA0 | apply rN0 | apply rD0); exact HO_7.1))) (Kd.R_lt (by (with_reducible repeat first | apply rA0 | apply rN0 | apply rD0); exact HO463.1))) (bSz (by repeat (first | (with_reducible first | exact HB.1 | apply bAl | apply pbN | apply bD1 | refine bSt ?_ GE423.1) | exact HB.1))))
                 have n3_ := aM (blk_below (g := gb423) (o := .cells #[.slice P0 q0.length n0, .slice P1 q1.length n1, .slice P2 q2.length n2, .slice P3 q3.length n3, .slice P4 q4.length n4, .slice P5 q5.length n5] 27 (0, 0)) (by (with_reducible repeat (first | refine bkN ?_ _ | refine bkD ?_ | refine bkA ?_ _)); exact BK423.1) hb)
                 have n4_ := aM (bSp (by repeat (first | (with_reducible first | exact HB.1 | apply bAl | apply pbN | apply bD1 | refine bSt ?_ GE423.1) | exact HB.1)) hb)
                 clear HO_7
                 clear HO463
                 clear BK423
                 clear HB
                 have HO_7 := n0_
                 have HO463 := n1_
                 have HO460 := n2_
                 have BK423 := n3_
                 have HB := n4_
                 clear n0_ n1_ n2_ n3_ n4_
                 (try clear hb)
                 (try clear hb2)
                 (try clear hk)
                 (try clear hi)
                 (try clear ho0)
                 refine hK.out _ _ (bk60 BK423.1) (fun hHeld => ?_)
                 clear hK K
                 refine norm_ (a' := ?_) ?_ ?_
                 rotate_left
                 ·show Act.put _ (some 61) _ = _
                  simp only [Act.put, sI, sZ, sS, i64_w, i32_w]
                  rfl
                 refine one_ (i := 6) (N := some 65) #[true, true, true, true, true, true, true, false, true, true, false, false, false, false, false, false, false] rfl rfl (one_of HT_.1 (by kernel_rfl)) (by decide) (fun K hK => ?_)
                 refine goes_ Try.func18 (by kernel_rfl) rfl #[.agg #[.slice P0 q0.length n0, .slice P1 q1.length n1, .slice P2 q2.length n2, .slice P3 q3.length n3, .slice P4 q4.length n4, .slice P5 q5.length n5], .slice A1 l1.length c1] (by rfl) rfl rfl (by (try simp only [List.map_toArray, List.map_cons, List.map_nil]); first | done | rfl | (simp only [List.length_drop, List.length_take]; rfl)) ?_
                 with_reducible refine (casemap_Lower.calls _ _ q0 _ _ q1 _ _ q2 _ _ q3 _ _ q4 _ _ q5 _ _ l1 t464 _ ?z1 ?z2 ?z3 ?z4 ?z5 ?z6 ?z7 ?z8 ?z9 ?z10 ?z11 ?z12 ?z13 ?z14 A58.1).mono ?_
                 (case z1 => repeat (first | exact cB0 R0.1 HB.1 | with_reducible first | refine cA0 ?_ _ | refine cN0 ?_ _ | refine cD0 ?_))
                 (case z2 => exact N0.1)
                 (case z3 => repeat (first | exact cB0 R1.1 HB.1 | with_reducible first | refine cA0 ?_ _ | refine cN0 ?_ _ | refine cD0 ?_))
                 (case z4 => exact N1.1)
                 (case z5 => repeat (first | exact cB0 R2.1 HB.1 | with_reducible first | refine cA0 ?_ _ | refine cN0 ?_ _ | refine cD0 ?_))
                 (case z6 => exact N2.1)
                 (case z7 => repeat (first | exact cB0 R3.1 HB.1 | with_reducible first | refine cA0 ?_ _ | refine cN0 ?_ _ | refine cD0 ?_))
                 (case z8 => exact N3.1)
                 (case z9 => repeat (first | exact cB0 R4.1 HB.1 | with_reducible first | refine cA0 ?_ _ | refine cN0 ?_ _ | refine cD0 ?_))
                 (case z10 => exact N4.1)
                 (case z11 => repeat (first | exact cB0 R5.1 HB.1 | with_reducible first | refine cA0 ?_ _ | refine cN0 ?_ _ | refine cD0 ?_))
                 (case z12 => exact N5.1)
                 (case z13 => repeat (first | exact cB0 HR1.1 HB.1 | with_reducible first | refine cA0 ?_ _ | refine cN0 ?_ _ | refine cD0 ?_))
                 (case z14 => exact HC1.1)
                 rintro e w70 ⟨v465, rfl, ho0, hb⟩
                 refine ⟨_, rfl, ?_⟩
                 have n0_ := aM (Kd.R_elder' (by (with_reducible repeat first | apply rA0 | apply rN0 | apply rD0); exact HO_7.1) (Kd.R_base ho0) hb)
                 have n1_ := aM (Kd.R_elder' (by (with_reducible repeat first | apply rA0 | apply rN0 | apply rD0); exact HO463.1) (Kd.R_base ho0) hb)
                 have n2_ := aM (Kd.R_elder' (by (with_reducible repeat first | apply rA0 | apply rN0 | apply rD0); exact HO460.1) (Kd.R_base ho0) hb)
                 have n3_ := aM (Kd.R_lower (Kd.R_new' (Kd.R_new' (Kd.R_new' ho0 (Kd.R_lt (by (with_reducible repeat first | apply rA0 | apply rN0 | apply rD0); exact HO_7.1))) (Kd.R_lt (by (with_reducible repeat first | apply rA0 | apply rN0 | apply rD0); exact HO463.1))) (Kd.R_lt (by (with_reducible repeat first | apply rA0 | apply rN0 | apply rD0); exact HO460.1))) (bSz (by repeat (first | (with_reducible first | exact HB.1 | apply bAl | apply pbN | apply bD1 | refine bSt ?_ GE423.1) | exact HB.1))))
                 have n4_ := aM (blk_below (g := gb423) (o := .cells #[.slice P0 q0.length n0, .slice P1 q1.length n1, .slice P2 q2.length n2, .slice P3 q3.length n3, .slice P4 q4.length n4, .slice P5 q5.length n5] 27 (0, 0)) (by (with_reducible repeat (first | refine bkN ?_ _ | refine bkD ?_ | refine bkA ?_ _)); exact BK423.1) hb)
                 have n5_ := aM (bSp (by repeat (first | (with_reducible first | exact HB.1 | apply bAl | apply pbN | apply bD1 | refine bSt ?_ GE423.1) | exact HB.1)) hb)
                 clear HO_7
                 clear HO463
                 clear HO460
                 clear BK423
                 clear HB
                 have HO_7 := n0_
                 have HO463 := n1_
                 have HO460 := n2_
                 have HO466 := n3_
                 have BK423 := n4_
                 have HB := n5_
                 clear n0_ n1_ n2_ n3_ n4_ n5_
                 (try clear hb)
                 (try clear hb2)
                 (try clear hk)
                 (try clear hi)
                 (try clear ho0)
                 refine hK.out _ _ (bk60 BK423.1) (fun hHeld => ?_)
                 clear hK K
                 refine norm_ (a' := ?_) ?_ ?_
                 rotate_left
                 ·show Act.put _ (some 65) _ = _
                  simp only [Act.put, sI, sZ, sS, i64_w, i32_w]
                  rfl
                 exact norm_ (by simp only [putAll, Act.put, sI, sZ, sS]) (hCont (v459, v462, v465) _ ⟨hHeld, (by (with_reducible repeat first | apply rA0 | apply rN0 | apply rD0); exact Kd.R_mono HO460.1 (fun _ hk => ⟨hk.1.2, ⟨hk.2, hk.1.1.2⟩⟩)), (by (with_reducible repeat first | apply rA0 | apply rN0 | apply rD0); exact Kd.R_mono HO463.1 (fun _ hk => ⟨hk.1.2, ⟨hk.2, hk.1.1.2⟩⟩)), (by (with_reducible repeat first | apply rA0 | apply rN0 | apply rD0); exact Kd.R_mono HO466.1 (fun _ hk => ⟨hk.2, ⟨hk.1.2, hk.1.1.2⟩⟩)), (by (with_reducible repeat first | apply rA0 | apply rN0 | apply rD0); exact Kd.R_mono HO_7.1 (fun _ hk => ⟨hk.1.2, ⟨hk.1.1.2, hk.2⟩⟩)), (by (with_reducible repeat (first | refine bkN ?_ _ | refine bkD ?_ | refine bkA ?_ _)); exact BK423.1), (by repeat (first | (with_reducible first | exact HB.1 | apply bAl | apply pbN | apply bD1 | refine bSt ?_ GE423.1) | exact HB.1))⟩)
               rintro ⟨v459, v462, v465⟩ w71 ⟨hS_, h0_, h1_, h2_, h3_, h4_, h5_⟩
               have n0_ : Aside0 (Kd.R (Kd.int .i64) 3 w71 w.heap.size (fun k_ => some k_ ≠ (v462 : Value).ownBlock ∧ some k_ ≠ (v465 : Value).ownBlock ∧ some k_ ≠ (.slice Ao31 y433.length co31 : Value).ownBlock) v459 t458) := ⟨h0_⟩
               have n1_ : Aside0 (Kd.R (Kd.int .i64) 3 w71 w.heap.size (fun k_ => some k_ ≠ (v459 : Value).ownBlock ∧ some k_ ≠ (v465 : Value).ownBlock ∧ some k_ ≠ (.slice Ao31 y433.length co31 : Value).ownBlock) v462 y461) := ⟨h1_⟩
               have n2_ : Aside0 (Kd.R (Kd.int .i64) 3 w71 w.heap.size (fun k_ => some k_ ≠ (v459 : Value).ownBlock ∧ some k_ ≠ (v462 : Value).ownBlock ∧ some k_ ≠ (.slice Ao31 y433.length co31 : Value).ownBlock) v465 t464) := ⟨h2_⟩
               have n3_ : Aside0 (Kd.R (Kd.int .i64) 3 w71 w.heap.size (fun k_ => some k_ ≠ (v459 : Value).ownBlock ∧ some k_ ≠ (v462 : Value).ownBlock ∧ some k_ ≠ (v465 : Value).ownBlock) (.slice Ao31 y433.length co31) y433) := ⟨h3_⟩
               have n4_ : Aside0 (w71.heap[gb423]? = some (.cells #[.slice P0 q0.length n0, .slice P1 q1.length n1, .slice P2 q2.length n2, .slice P3 q3.length n3, .slice P4 q4.length n4, .slice P5 q5.length n5] 27 (0, 0))) := ⟨h4_⟩
               have n5_ : Aside0 (Below w.heap.size w w71) := ⟨h5_⟩
               clear HO_7
               clear BK423
               clear HB
               clear h0_ h1_ h2_ h3_ h4_ h5_
               have HO460 := n0_
               have HO463 := n1_
               have HO466 := n2_
               have HO_7 := n3_
               have BK423 := n4_
               have HB := n5_
               clear n0_ n1_ n2_ n3_ n4_ n5_
               have hHeld : w71.cell? ⟨gb423, 0, none⟩ = some (.slice P0 q0.length n0) ∧ w71.cell? ⟨gb423, 1, none⟩ = some (.slice P1 q1.length n1) ∧ w71.cell? ⟨gb423, 2, none⟩ = some (.slice P2 q2.length n2) ∧ w71.cell? ⟨gb423, 3, none⟩ = some (.slice P3 q3.length n3) ∧ w71.cell? ⟨gb423, 4, none⟩ = some (.slice P4 q4.length n4) ∧ w71.cell? ⟨gb423, 5, none⟩ = some (.slice P5 q5.length n5) := hS_
               obtain ⟨Ao73, co73, eo73⟩ := Kd.R_slice HO466.1
               (first | subst eo73 | (injection eo73 with f1_ f2_ f3_; have f4_ := f1_.symm; have f5_ := f3_.symm; clear f1_ f2_ f3_; subst f4_; subst f5_))
               refine norm_ (a' := ?_) ?_ ?_
               rotate_left
               ·simp only [putAll, Act.put, sI, sZ, sS]
                rfl
               refine one_ (i := 7) (N := some 66) #[true, true, true, true, true, true, true, true, true, true, false, false, false, false, false, false, false] rfl rfl (one_of HT_.1 (by kernel_rfl)) (by decide) (fun K hK => ?_)
               refine Kd.R_append_rows_step (Kd.int .i64) (w0 := w) w.heap.size (by rfl) (.tmp 62) (.tmp 65) 28 3 (.int .i64 0) 8 rfl Try.underlying28 info3 rfl (by decide) (by omega) v462 y461 t464 _ _ _ (fun k_ => some k_ ≠ (.slice Ao31 y433.length co31 : Value).ownBlock ∧ some k_ ≠ (v459 : Value).ownBlock ∧ some k_ ≠ (.slice Ao73 t464.length co73 : Value).ownBlock) (fun _ => False) rfl rfl ?aO ?aR (fun _ _ h => h) (fun _ h => h.elim) ?aF ?aB ?aS ?aL ?_
               (case aR => repeat (first | exact (Kd.R_reads' HO466.1).2.2 | (with_reducible refine Kd.C_alloc ?_ _) | (with_reducible refine Kd.C_drewN ?_ _) | (with_reducible refine Kd.C_drew ?_)))
               (case aB => exact (by repeat (first | (with_reducible first | exact HB.1 | apply bAl | apply pbN | apply bD1 | refine bSt ?_ GE423.1) | exact HB.1)))
               (case aF => exact (fun k_ hk => ⟨Kd.fresh' (Kd.R_lt (by (with_reducible repeat first | apply rA0 | apply rN0 | apply rD0); exact HO_7.1)) k_ hk, Kd.fresh' (Kd.R_lt (by (with_reducible repeat first | apply rA0 | apply rN0 | apply rD0); exact HO460.1)) k_ hk, Kd.fresh' (Kd.R_lt (by (with_reducible repeat first | apply rA0 | apply rN0 | apply rD0); exact HO466.1)) k_ hk⟩))
               (case aO => exact (by (with_reducible repeat first | apply rA0 | apply rN0 | apply rD0); exact Kd.R_mono HO463.1 (fun _ hk => ⟨hk.2.2, ⟨hk.1, hk.2.1⟩⟩)))
               (case aS => exact (bSz (by repeat (first | (with_reducible first | exact HB.1 | apply bAl | apply pbN | apply bD1 | refine bSt ?_ GE423.1) | exact HB.1))))
               (case aL => have := LMc59.1; omega)
               intro v468 w72 ho hb hg hat
               rw [← Ny467.1] at ho
               have n0_ := aM (Kd.R_after (ok := (fun k_ => some k_ ≠ (v459 : Value).ownBlock ∧ some k_ ≠ (.slice Ao73 t464.length co73 : Value).ownBlock)) (by (with_reducible repeat first | apply rA0 | apply rN0 | apply rD0); exact Kd.R_mono HO_7.1 (fun _ hk => ⟨⟨hk.1, hk.2.2⟩, hk.2.1⟩)) hg hat)
               have n1_ := aM (blk_grown (g := gb423) (o := .cells #[.slice P0 q0.length n0, .slice P1 q1.length n1, .slice P2 q2.length n2, .slice P3 q3.length n3, .slice P4 q4.length n4, .slice P5 q5.length n5] 27 (0, 0)) (by (with_reducible repeat (first | refine bkN ?_ _ | refine bkD ?_ | refine bkA ?_ _)); exact BK423.1) hg (Kd.R_ne HO463.1 BK423.1 (by decide)))
               have n2_ := aM (Kd.R_after (ok := (fun k_ => some k_ ≠ (.slice Ao31 y433.length co31 : Value).ownBlock ∧ some k_ ≠ (.slice Ao73 t464.length co73 : Value).ownBlock)) (by (with_reducible repeat first | apply rA0 | apply rN0 | apply rD0); exact Kd.R_mono HO460.1 (fun _ hk => ⟨⟨hk.2.2, hk.2.1⟩, hk.1⟩)) hg hat)
               have n3_ := aM (Kd.R_after (ok := (fun k_ => some k_ ≠ (.slice Ao31 y433.length co31 : Value).ownBlock ∧ some k_ ≠ (v459 : Value).ownBlock)) (by (with_reducible repeat first | apply rA0 | apply rN0 | apply rD0); exact Kd.R_mono HO466.1 (fun _ hk => ⟨⟨hk.2.2, hk.1⟩, hk.2.1⟩)) hg hat)
               have n4_ := aM (hb)
               have n5_ := aM (ho)
               clear HO_7
               clear BK423
               clear HO460
               clear HO466
               clear HB
               clear HO463
               have HO_7 := n0_
               have BK423 := n1_
               have HO460 := n2_
               have HO466 := n3_
               have HB := n4_
               have HO469 := n5_
               clear n0_ n1_ n2_ n3_ n4_ n5_
               clear ho hb hg hat
               refine hK.out _ _ (bk60 BK423.1) (fun hHeld => ?_)
               clear hK K
               refine norm_ (a' := ?_) ?_ ?_
               rotate_left
               ·show Act.put _ (some 66) _ = _
                simp only [Act.put, sI, sZ, sS, i64_w, i32_w]
                rfl
               refine one_ (i := 10) (N := some 69) #[true, true, true, true, true, true, true, true, true, true, true, false, false, false, false, false, false] rfl rfl (one_of HT_.1 (by kernel_rfl)) (by decide) (fun K hK => ?_)
               refine goes_ Try.func18 (by kernel_rfl) rfl #[.agg #[.slice P0 q0.length n0, .slice P1 q1.length n1, .slice P2 q2.length n2, .slice P3 q3.length n3, .slice P4 q4.length n4, .slice P5 q5.length n5], .slice A2 l2.length c2] (by rfl) rfl rfl (by (try simp only [List.map_toArray, List.map_cons, List.map_nil]); first | done | rfl | (simp only [List.length_drop, List.length_take]; rfl)) ?_
               with_reducible refine (casemap_Lower.calls _ _ q0 _ _ q1 _ _ q2 _ _ q3 _ _ q4 _ _ q5 _ _ l2 t470 _ ?z1 ?z2 ?z3 ?z4 ?z5 ?z6 ?z7 ?z8 ?z9 ?z10 ?z11 ?z12 ?z13 ?z14 A60.1).mono ?_
               (case z1 => repeat (first | exact cB0 R0.1 HB.1 | with_reducible first | refine cA0 ?_ _ | refine cN0 ?_ _ | refine cD0 ?_))
               (case z2 => exact N0.1)
               (case z3 => repeat (first | exact cB0 R1.1 HB.1 | with_reducible first | refine cA0 ?_ _ | refine cN0 ?_ _ | refine cD0 ?_))
               (case z4 => exact N1.1)
               (case z5 => repeat (first | exact cB0 R2.1 HB.1 | with_reducible first | refine cA0 ?_ _ | refine cN0 ?_ _ | refine cD0 ?_))
               (case z6 => exact N2.1)
               (case z7 => repeat (first | exact cB0 R3.1 HB.1 | with_reducible first | refine cA0 ?_ _ | refine cN0 ?_ _ | refine cD0 ?_))
               (case z8 => exact N3.1)
               (case z9 => repeat (first | exact cB0 R4.1 HB.1 | with_reducible first | refine cA0 ?_ _ | refine cN0 ?_ _ | refine cD0 ?_))
               (case z10 => exact N4.1)
               (case z11 => repeat (first | exact cB0 R5.1 HB.1 | with_reducible first | refine cA0 ?_ _ | refine cN0 ?_ _ | refine cD0 ?_))
               (case z12 => exact N5.1)
               (case z13 => repeat (first | exact cB0 HR2.1 HB.1 | with_reducible first | refine cA0 ?_ _ | refine cN0 ?_ _ | refine cD0 ?_))
               (case z14 => exact HC2.1)
               rintro e w74 ⟨v471, rfl, ho0, hb⟩
               refine ⟨_, rfl, ?_⟩
               have n0_ := aM (Kd.R_elder' (by (with_reducible repeat first | apply rA0 | apply rN0 | apply rD0); exact HO_7.1) (Kd.R_base ho0) hb)
               have n1_ := aM (Kd.R_elder' (by (with_reducible repeat first | apply rA0 | apply rN0 | apply rD0); exact HO460.1) (Kd.R_base ho0) hb)
               have n2_ := aM (Kd.R_elder' (by (with_reducible repeat first | apply rA0 | apply rN0 | apply rD0); exact HO466.1) (Kd.R_base ho0) hb)
               have n3_ := aM (Kd.R_elder' (by (with_reducible repeat first | apply rA0 | apply rN0 | apply rD0); exact HO469.1) (Kd.R_base ho0) hb)
               have n4_ := aM (Kd.R_lower (Kd.R_new' (Kd.R_new' (Kd.R_new' (Kd.R_new' ho0 (Kd.R_lt (by (with_reducible repeat first | apply rA0 | apply rN0 | apply rD0); exact HO_7.1))) (Kd.R_lt (by (with_reducible repeat first | apply rA0 | apply rN0 | apply rD0); exact HO460.1))) (Kd.R_lt (by (with_reducible repeat first | apply rA0 | apply rN0 | apply rD0); exact HO466.1))) (Kd.R_lt (by (with_reducible repeat first | apply rA0 | apply rN0 | apply rD0); exact HO469.1))) (bSz (by repeat (first | (with_reducible first | exact HB.1 | apply bAl | apply pbN | apply bD1 | refine bSt ?_ GE423.1) | exact HB.1))))
               have n5_ := aM (blk_below (g := gb423) (o := .cells #[.slice P0 q0.length n0, .slice P1 q1.length n1, .slice P2 q2.length n2, .slice P3 q3.length n3, .slice P4 q4.length n4, .slice P5 q5.length n5] 27 (0, 0)) (by (with_reducible repeat (first | refine bkN ?_ _ | refine bkD ?_ | refine bkA ?_ _)); exact BK423.1) hb)
               have n6_ := aM (bSp (by repeat (first | (with_reducible first | exact HB.1 | apply bAl | apply pbN | apply bD1 | refine bSt ?_ GE423.1) | exact HB.1)) hb)
               clear HO_7
               clear HO460
               clear HO466
               clear HO469
               clear BK423
               clear HB
               have HO_7 := n0_
               have HO460 := n1_
               have HO466 := n2_
               have HO469 := n3_
               have HO472 := n4_
               have BK423 := n5_
               have HB := n6_
               clear n0_ n1_ n2_ n3_ n4_ n5_ n6_
               (try clear hb)
               (try clear hb2)
               (try clear hk)
               (try clear hi)
               (try clear ho0)
               obtain ⟨Ao76, co76, eo76⟩ := Kd.R_slice HO472.1
               (first | subst eo76 | (injection eo76 with f1_ f2_ f3_; have f4_ := f1_.symm; have f5_ := f3_.symm; clear f1_ f2_ f3_; subst f4_; subst f5_))
               refine hK.out _ _ (bk60 BK423.1) (fun hHeld => ?_)
               clear hK K
               refine norm_ (a' := ?_) ?_ ?_
               rotate_left
               ·show Act.put _ (some 69) _ = _
                simp only [Act.put, sI, sZ, sS, i64_w, i32_w]
                rfl
               refine one_ (i := 11) (N := some 70) #[true, true, true, true, true, true, true, true, true, true, true, true, false, false, false, false, false] rfl rfl (one_of HT_.1 (by kernel_rfl)) (by decide) (fun K hK => ?_)
               refine Kd.R_append_rows_step (Kd.int .i64) (w0 := w) w.heap.size (by rfl) (.tmp 66) (.tmp 69) 28 3 (.int .i64 0) 8 rfl Try.underlying28 info3 rfl (by decide) (by omega) v468 y467 t470 _ _ _ (fun k_ => some k_ ≠ (.slice Ao31 y433.length co31 : Value).ownBlock ∧ some k_ ≠ (v459 : Value).ownBlock ∧ some k_ ≠ (.slice Ao73 t464.length co73 : Value).ownBlock ∧ some k_ ≠ (.slice Ao76 t470.length co76 : Value).ownBlock) (fun _ => False) rfl rfl ?aO ?aR (fun _ _ h => h) (fun _ h => h.elim) ?aF ?aB ?aS ?aL ?_
               (case aR => repeat (first | exact (Kd.R_reads' HO472.1).2.2 | (with_reducible refine Kd.C_alloc ?_ _) | (with_reducible refine Kd.C_drewN ?_ _) | (with_reducible refine Kd.C_drew ?_)))
               (case aB => exact (by repeat (first | (with_reducible first | exact HB.1 | apply bAl | apply pbN | apply bD1 | refine bSt ?_ GE423.1) | exact HB.1)))
               (case aF => exact (fun k_ hk => ⟨Kd.fresh' (Kd.R_lt (by (with_reducible repeat first | apply rA0 | apply rN0 | apply rD0); exact HO_7.1)) k_ hk, Kd.fresh' (Kd.R_lt (by (with_reducible repeat first | apply rA0 | apply rN0 | apply rD0); exact HO460.1)) k_ hk, Kd.fresh' (Kd.R_lt (by (with_reducible repeat first | apply rA0 | apply rN0 | apply rD0); exact HO466.1)) k_ hk, Kd.fresh' (Kd.R_lt (by (with_reducible repeat first | apply rA0 | apply rN0 | apply rD0); exact HO472.1)) k_ hk⟩))
               (case aO => exact (by (with_reducible repeat first | apply rA0 | apply rN0 | apply rD0); exact Kd.R_mono HO469.1 (fun _ hk => ⟨hk.1.1, ⟨hk.1.2.1, ⟨hk.1.2.2, hk.2⟩⟩⟩)))
               (case aS => exact (bSz (by repeat (first | (with_reducible first | exact HB.1 | apply bAl | apply pbN | apply bD1 | refine bSt ?_ GE423.1) | exact HB.1))))
               (case aL => have := LMc61.1; omega)
               intro v474 w75 ho hb hg hat
               rw [← Ny473.1] at ho
               have n0_ := aM (Kd.R_after (ok := (fun k_ => some k_ ≠ (v459 : Value).ownBlock ∧ some k_ ≠ (.slice Ao73 t464.length co73 : Value).ownBlock ∧ some k_ ≠ (.slice Ao76 t470.length co76 : Value).ownBlock)) (by (with_reducible repeat first | apply rA0 | apply rN0 | apply rD0); exact Kd.R_mono HO_7.1 (fun _ hk => ⟨⟨hk.1.1.1, ⟨hk.1.1.2, hk.2⟩⟩, hk.1.2⟩)) hg hat)
               have n1_ := aM (blk_grown (g := gb423) (o := .cells #[.slice P0 q0.length n0, .slice P1 q1.length n1, .slice P2 q2.length n2, .slice P3 q3.length n3, .slice P4 q4.length n4, .slice P5 q5.length n5] 27 (0, 0)) (by (with_reducible repeat (first | refine bkN ?_ _ | refine bkD ?_ | refine bkA ?_ _)); exact BK423.1) hg (Kd.R_ne HO469.1 BK423.1 (by decide)))
               have n2_ := aM (Kd.R_after (ok := (fun k_ => some k_ ≠ (.slice Ao31 y433.length co31 : Value).ownBlock ∧ some k_ ≠ (.slice Ao73 t464.length co73 : Value).ownBlock ∧ some k_ ≠ (.slice Ao76 t470.length co76 : Value).ownBlock)) (by (with_reducible repeat first | apply rA0 | apply rN0 | apply rD0); exact Kd.R_mono HO460.1 (fun _ hk => ⟨⟨hk.1.1.1, ⟨hk.1.1.2, hk.2⟩⟩, hk.1.2⟩)) hg hat)
               have n3_ := aM (Kd.R_after (ok := (fun k_ => some k_ ≠ (.slice Ao31 y433.length co31 : Value).ownBlock ∧ some k_ ≠ (v459 : Value).ownBlock ∧ some k_ ≠ (.slice Ao76 t470.length co76 : Value).ownBlock)) (by (with_reducible repeat first | apply rA0 | apply rN0 | apply rD0); exact Kd.R_mono HO466.1 (fun _ hk => ⟨⟨hk.1.1.1, ⟨hk.1.1.2, hk.2⟩⟩, hk.1.2⟩)) hg hat)
               have n4_ := aM (Kd.R_after (ok := (fun k_ => some k_ ≠ (.slice Ao31 y433.length co31 : Value).ownBlock ∧ some k_ ≠ (v459 : Value).ownBlock ∧ some k_ ≠ (.slice Ao73 t464.length co73 : Value).ownBlock)) (by (with_reducible repeat first | apply rA0 | apply rN0 | apply rD0); exact Kd.R_mono HO472.1 (fun _ hk => ⟨⟨hk.1.1.1.2, ⟨hk.1.1.2, hk.1.2⟩⟩, hk.2⟩)) hg hat)
               have n5_ := aM (hb)
               have n6_ := aM (ho)
               clear HO_7
               clear BK423
               clear HO460
               clear HO466
               clear HO472
               clear HB
               clear HO469
               have HO_7 := n0_
               have BK423 := n1_
               have HO460 := n2_
               have HO466 := n3_
               have HO472 := n4_
               have HB := n5_
               have HO475 := n6_
               clear n0_ n1_ n2_ n3_ n4_ n5_ n6_
               clear ho hb hg hat
               obtain ⟨Ao77, co77, eo77⟩ := Kd.R_slice HO460.1
               (first | subst eo77 | (injection eo77 with f1_ f2_ f3_; have f4_ := f1_.symm; have f5_ := f3_.symm; clear f1_ f2_ f3_; subst f4_; subst f5_))
               obtain ⟨Ao78, co78, eo78⟩ := Kd.R_slice HO475.1
               (first | subst eo78 | (injection eo78 with f1_ f2_ f3_; have f4_ := f1_.symm; have f5_ := f3_.symm; clear f1_ f2_ f3_; subst f4_; subst f5_))
               refine hK.out _ _ (bk60 BK423.1) (fun hHeld => ?_)
               clear hK K
               refine norm_ (a' := ?_) ?_ ?_
               rotate_left
               ·show Act.put _ (some 70) _ = _
                simp only [Act.put, sI, sZ, sS, i64_w, i32_w]
                rfl
               refine one_ (i := 12) (N := some 71) #[true, true, true, true, true, true, true, true, true, true, true, true, true, false, false, false, false] rfl rfl (one_of HT_.1 (by kernel_rfl)) (by decide) (fun K hK => ?_)
               refine goes_ Try.func16 (by kernel_rfl) rfl #[.slice Ao77 t458.length co77, .slice Ao78 y473.length co78] (by rfl) rfl rfl (by (try simp only [List.map_toArray, List.map_cons, List.map_nil]); first | done | rfl | (simp only [List.length_drop, List.length_take]; rfl)) ?_
               with_reducible refine (r01_Equal.calls k2 _ _ t458 _ _ y473 true _ ?z1 ?z2 ?z3 ?z4 A62.1).mono ?_
               (case z1 => repeat (first | exact (Kd.R_reads' HO460.1).2.2 | (with_reducible refine Kd.C_alloc ?_ _) | (with_reducible refine Kd.C_drewN ?_ _) | (with_reducible refine Kd.C_drew ?_)))
               (case z2 => exact (Kd.R_reads' HO460.1).2.1)
               (case z3 => repeat (first | exact (Kd.R_reads' HO475.1).2.2 | (with_reducible refine Kd.C_alloc ?_ _) | (with_reducible refine Kd.C_drewN ?_ _) | (with_reducible refine Kd.C_drew ?_)))
               (case z4 => exact (Kd.R_reads' HO475.1).2.1)
               rintro e w' ⟨rfl, ⟨nd, rfl⟩⟩
               refine ⟨_, rfl, ?_⟩
               refine hK.out _ _ (bk60 BK423.1) (fun hHeld => ?_)
               clear hK K
               refine norm_ (a' := ?_) ?_ ?_
               rotate_left
               ·show Act.put _ (some 71) _ = _
                simp only [Act.put, sI, sZ, sS, i64_w, i32_w]
                rfl
               refine pure_ (i := 13) (N := some 72) (v := ?_) (a' := ?_) #[true, true, true, true, true, true, true, true, true, true, true, true, true, true, false, false, false] rfl rfl (any_of HT_.1 (by kernel_rfl)) (fun _ _ _ h => h) (Or.inl ⟨by rfl, ?_⟩) ?_ ?_
               rotate_left
               ·intro w'
                go_simp
                with_reducible rfl
               rotate_left
               ·simp only [Act.put, sI, sZ, sS, i64_w, i32_w]
                rfl
               refine one_ (i := 14) (N := some 73) #[true, true, true, true, true, true, true, true, true, true, true, true, true, true, true, false, false] rfl rfl (one_of HT_.1 (by kernel_rfl)) (by decide) (fun K hK => ?_)
               refine goes_ Try.func14 (by kernel_rfl) rfl #[] (by rfl) rfl rfl (by (try simp only [List.map_toArray, List.map_cons, List.map_nil]); first | done | rfl | (simp only [List.length_drop, List.length_take]; rfl)) ?_
               with_reducible refine (w37_alive.calls  t477 _ A64.1).mono ?_
               rintro e w79 ⟨rfl, hb⟩
               refine ⟨_, rfl, ?_⟩
               have n0_ := aM (Kd.R_below (by (with_reducible repeat first | apply rA0 | apply rN0 | apply rD0); exact HO_7.1) hb)
               have n1_ := aM (Kd.R_below (by (with_reducible repeat first | apply rA0 | apply rN0 | apply rD0); exact HO460.1) hb)
               have n2_ := aM (Kd.R_below (by (with_reducible repeat first | apply rA0 | apply rN0 | apply rD0); exact HO466.1) hb)
               have n3_ := aM (Kd.R_below (by (with_reducible repeat first | apply rA0 | apply rN0 | apply rD0); exact HO472.1) hb)
               have n4_ := aM (Kd.R_below (by (with_reducible repeat first | apply rA0 | apply rN0 | apply rD0); exact HO475.1) hb)
               have n5_ := aM (blk_below (g := gb423) (o := .cells #[.slice P0 q0.length n0, .slice P1 q1.length n1, .slice P2 q2.length n2, .slice P3 q3.length n3, .slice P4 q4.length n4, .slice P5 q5.length n5] 27 (0, 0)) (by (with_reducible repeat (first | refine bkN ?_ _ | refine bkD ?_ | refine bkA ?_ _)); exact BK423.1) hb)
               have n6_ := aM (bSp (by repeat (first | (with_reducible first | exact HB.1 | apply bAl | apply pbN | apply bD1 | refine bSt ?_ GE423.1) | exact HB.1)) hb)
               clear HO_7
               clear HO460
               clear HO466
               clear HO472
               clear HO475
               clear BK423
               clear HB
               have HO_7 := n0_
               have HO460 := n1_
               have HO466 := n2_
               have HO472 := n3_
               have HO475 := n4_
               have BK423 := n5_
               have HB := n6_
               clear n0_ n1_ n2_ n3_ n4_ n5_ n6_
               (try clear hb)
               (try clear hb2)
               (try clear hk)
               (try clear hi)
               refine hK.out _ _ (bk60 BK423.1) (fun hHeld => ?_)
               clear hK K
               refine norm_ (a' := ?_) ?_ ?_
               rotate_left
               ·show Act.put _ (some 73) _ = _
                simp only [Act.put, sI, sZ, sS, i64_w, i32_w]
                rfl
               refine pure_ (i := 15) (N := some 74) (v := ?_) (a' := ?_) #[true, true, true, true, true, true, true, true, true, true, true, true, true, true, true, true, false] rfl rfl (any_of HT_.1 (by kernel_rfl)) (fun _ _ _ h => h) (Or.inl ⟨by rfl, ?_⟩) ?_ ?_
               rotate_left
               ·intro w'
                go_simp
                with_reducible rfl
               rotate_left
               ·simp only [Act.put, sI, sZ, sS, i64_w, i32_w]
                rfl
               refine pure_ (i := 16) (N := some 6) (v := ?_) (a' := ?_) #[true, true, true, true, true, true, true, true, true, true, true, true, true, true, true, true, true] rfl rfl (any_of HT_.1 (by kernel_rfl)) (fun _ _ _ h => h) (Or.inl ⟨by rfl, ?_⟩) ?_ ?_
               rotate_left
               ·intro w'
                go_simp
                with_reducible rfl
               rotate_left
               ·simp only [Act.put, sI, sZ, sS, i64_w, i32_w]
                rfl
               refine done_ (done_of HT_.1 (by kernel_rfl)) ?_
               try go_wp2
               go_ret
               exact ⟨by first | rfl | (simp [eN, eS] <;> rfl) | (simp [*, eN, eS] <;> rfl), by repeat (first | (with_reducible first | exact HB.1 | apply bAl | apply pbN | apply bD1 | refine bSt ?_ GE423.1) | exact HB.1)⟩
              ·replace c63 := Bool.eq_false_iff.mpr c63
               subst c63
               have H1 : (some false) = some r := by rw [if_neg (show ¬ (false = true) by decide)] at H; exact H
               clear H
               have H := H1
               clear H1
               obtain rfl := Option.some.inj H
               have hcz80_0 : wr.cell? ⟨gb423, 0, none⟩ = some (.slice P0 q0.length n0) := (bkC BK423.1 0).trans rfl
               have hcz80_1 : wr.cell? ⟨gb423, 1, none⟩ = some (.slice P1 q1.length n1) := (bkC BK423.1 1).trans rfl
               have hcz80_2 : wr.cell? ⟨gb423, 2, none⟩ = some (.slice P2 q2.length n2) := (bkC BK423.1 2).trans rfl
               have hcz80_3 : wr.cell? ⟨gb423, 3, none⟩ = some (.slice P3 q3.length n3) := (bkC BK423.1 3).trans rfl
               have hcz80_4 : wr.cell? ⟨gb423, 4, none⟩ = some (.slice P4 q4.length n4) := (bkC BK423.1 4).trans rfl
               have hcz80_5 : wr.cell? ⟨gb423, 5, none⟩ = some (.slice P5 q5.length n5) := (bkC BK423.1 5).trans rfl
               have hfz80_0 := bkF BK423.1 0
               have hfz80_1 := bkF BK423.1 1
               have hfz80_2 := bkF BK423.1 2
               have hfz80_3 := bkF BK423.1 3
               have hfz80_4 := bkF BK423.1 4
               have hfz80_5 := bkF BK423.1 5
               try go_wp2
               have n0_ := aM (Kd.R_drew HO_7.1)
               have n1_ := aM (bkD BK423.1)
               have n2_ := aM (bD1 HB.1)
               clear HO_7
               clear BK423
               clear HB
               have HO_7 := n0_
               have BK423 := n1_
               have HB := n2_
               clear n0_ n1_ n2_
               refine start_ (n := 17) (S := fun w' => w'.cell? ⟨gb423, 0, none⟩ = some (.slice P0 q0.length n0) ∧ w'.cell? ⟨gb423, 1, none⟩ = some (.slice P1 q1.length n1) ∧ w'.cell? ⟨gb423, 2, none⟩ = some (.slice P2 q2.length n2) ∧ w'.cell? ⟨gb423, 3, none⟩ = some (.slice P3 q3.length n3) ∧ w'.cell? ⟨gb423, 4, none⟩ = some (.slice P4 q4.length n4) ∧ w'.cell? ⟨gb423, 5, none⟩ = some (.slice P5 q5.length n5)) (ds := []) #[false, false, false, false, false, false, false, false, false, false, false, false, false, false, false, false, false] (by kernel_rfl) rfl rfl (bk60 BK423.1) (fun hHeld => ?_); refine with_tabW w37_CasemapJoins.tab11 w37_CasemapJoins.bits11 (fun HT_ HW_ => ?_)
               generalize wr.drew = w81 at HO_7 BK423 HB hHeld ⊢
               refine pure_ (i := 1) (N := some 60) (v := ?_) (a' := ?_) #[false, true, false, false, false, false, false, false, false, false, false, false, false, false, false, false, false] rfl rfl (any_of HT_.1 (by kernel_rfl)) (fun _ _ _ h => h) (Or.inl ⟨by rfl, ?_⟩) ?_ ?_
               rotate_left
               ·intro w'
                go_simp
                with_reducible rfl
               rotate_left
               ·simp only [Act.put, sI, sZ, sS, i64_w, i32_w]
                rfl
               refine pure_ (i := 5) (N := some 64) (v := ?_) (a' := ?_) #[false, true, false, false, false, true, false, false, false, false, false, false, false, false, false, false, false] rfl rfl (any_of HT_.1 (by kernel_rfl)) (fun _ _ _ h => h) (Or.inl ⟨by rfl, ?_⟩) ?_ ?_
               rotate_left
               ·intro w'
                go_simp
                with_reducible rfl
               rotate_left
               ·simp only [Act.put, sI, sZ, sS, i64_w, i32_w]
                rfl
               refine pure_ (i := 9) (N := some 68) (v := ?_) (a' := ?_) #[false, true, false, false, false, true, false, false, false, true, false, false, false, false, false, false, false] rfl rfl (any_of HT_.1 (by kernel_rfl)) (fun _ _ _ h => h) (Or.inl ⟨by rfl, ?_⟩) ?_ ?_
               rotate_left
               ·intro w'
                go_simp
                with_reducible rfl
               rotate_left
               ·simp only [Act.put, sI, sZ, sS, i64_w, i32_w]
                rfl
               refine take_ (i := 0) (N := some 59) (v := ?_) (a' := ?_) #[true, true, false, false, false, true, false, false, false, true, false, false, false, false, false, false, false] rfl rfl (take_ofW HT_.1 HW_.1 (by kernel_rfl)) (fun _ _ _ h => h) (Or.inl ⟨by rfl, ?_⟩) hHeld ?_ ?_
               rotate_left
               ·rintro w' ⟨s0, s1, s2, s3, s4, s5⟩
                go_simp
                with_reducible rfl
               rotate_left
               ·simp only [Act.put, sI, sZ, sS, i64_w, i32_w]
                rfl
               refine take_ (i := 4) (N := some 63) (v := ?_) (a' := ?_) #[true, true, false, false, true, true, false, false, false, true, false, false, false, false, false, false, false] rfl rfl (take_ofW HT_.1 HW_.1 (by kernel_rfl)) (fun _ _ _ h => h) (Or.inl ⟨by rfl, ?_⟩) hHeld ?_ ?_
               rotate_left
               ·rintro w' ⟨s0, s1, s2, s3, s4, s5⟩
                go_simp
                with_reducible rfl
               rotate_left
               ·simp only [Act.put, sI, sZ, sS, i64_w, i32_w]
                rfl
               refine take_ (i := 8) (N := some 67) (v := ?_) (a' := ?_) #[true, true, false, false, true, true, false, false, true, true, false, false, false, false, false, false, false] rfl rfl (take_ofW HT_.1 HW_.1 (by kernel_rfl)) (fun _ _ _ h => h) (Or.inl ⟨by rfl, ?_⟩) hHeld ?_ ?_
               rotate_left
               ·rintro w' ⟨s0, s1, s2, s3, s4, s5⟩
                go_simp
                with_reducible rfl
               rotate_left
               ·simp only [Act.put, sI, sZ, sS, i64_w, i32_w]
                rfl
               refine join_ (σ := Value × Value × Value) 8 #[true, true, true, true, true, true, true, false, true, true, false, false, false, false, false, false, false] (fun s_ => [(61, s_.1), (62, s_.2.1), (65, s_.2.2)]) (fun s_ w' => (w'.cell? ⟨gb423, 0, none⟩ = some (.slice P0 q0.length n0) ∧ w'.cell? ⟨gb423, 1, none⟩ = some (.slice P1 q1.length n1) ∧ w'.cell? ⟨gb423, 2, none⟩ = some (.slice P2 q2.length n2) ∧ w'.cell? ⟨gb423, 3, none⟩ = some (.slice P3 q3.length n3) ∧ w'.cell? ⟨gb423, 4, none⟩ = some (.slice P4 q4.length n4) ∧ w'.cell? ⟨gb423, 5, none⟩ = some (.slice P5 q5.length n5)) ∧ (Kd.R (Kd.int .i64) 3 w' w.heap.size (fun k_ => some k_ ≠ (s_.2.1 : Value).ownBlock ∧ some k_ ≠ (s_.2.2 : Value).ownBlock ∧ some k_ ≠ (.slice Ao31 y433.length co31 : Value).ownBlock) s_.1 t458) ∧ (Kd.R (Kd.int .i64) 3 w' w.heap.size (fun k_ => some k_ ≠ (s_.1 : Value).ownBlock ∧ some k_ ≠ (s_.2.2 : Value).ownBlock ∧ some k_ ≠ (.slice Ao31 y433.length co31 : Value).ownBlock) s_.2.1 y461) ∧ (Kd.R (Kd.int .i64) 3 w' w.heap.size (fun k_ => some k_ ≠ (s_.1 : Value).ownBlock ∧ some k_ ≠ (s_.2.1 : Value).ownBlock ∧ some k_ ≠ (.slice Ao31 y433.length co31 : Value).ownBlock) s_.2.2 t464) ∧ (Kd.R (Kd.int .i64) 3 w' w.heap.size (fun k_ => some k_ ≠ (s_.1 : Value).ownBlock ∧ some k_ ≠ (s_.2.1 : Value).ownBlock ∧ some k_ ≠ (s_.2.2 : Value).ownBlock) (.slice Ao31 y433.length co31) y433) ∧ (w'.heap[gb423]? = some (.cells #[.slice P0 q0.length n0, .slice P1 q1.length n1, .slice P2 q2.length n2, .slice P3 q3.length n3, .slice P4 q4.length n4, .slice P5 q5.length n5] 27 (0, 0))) ∧ (Below w.heap.size w w')) ?_ ?_
               rotate_left
               ·intro hCont
                refine two_ (i := 2) (j := 3) (Ni := some 61) (Nj := some 62) #[true, true, true, false, true, true, false, false, true, true, false, false, false, false, false, false, false] #[true, true, false, true, true, true, false, false, true, true, false, false, false, false, false, false, false] rfl rfl rfl rfl (two_of HT_.1 (by kernel_rfl)) (by decide) (by decide) (fun K hK => ?_) (fun K hK => ?_)
                ·skip
                 refine goes_ Try.func18 (by kernel_rfl) rfl #[.agg #[.slice P0 q0.length n0, .slice P1 q1.length n1, .slice P2 q2.length n2, .slice P3 q3.length n3, .slice P4 q4.length n4, .slice P5 q5.length n5], .slice Ao31 y433.length co31] (by rfl) rfl rfl (by (try simp only [List.map_toArray, List.map_cons, List.map_nil]); first | done | rfl | (simp only [List.length_drop, List.length_take]; rfl)) ?_
                 with_reducible refine (casemap_Lower.calls _ _ q0 _ _ q1 _ _ q2 _ _ q3 _ _ q4 _ _ q5 _ _ y433 t458 _ ?z1 ?z2 ?z3 ?z4 ?z5 ?z6 ?z7 ?z8 ?z9 ?z10 ?z11 ?z12 ?z13 ?z14 A57.1).mono ?_
                 (case z1 => repeat (first | exact cB0 R0.1 HB.1 | with_reducible first | refine cA0 ?_ _ | refine cN0 ?_ _ | refine cD0 ?_))
                 (case z2 => exact N0.1)
                 (case z3 => repeat (first | exact cB0 R1.1 HB.1 | with_reducible first | refine cA0 ?_ _ | refine cN0 ?_ _ | refine cD0 ?_))
                 (case z4 => exact N1.1)
                 (case z5 => repeat (first | exact cB0 R2.1 HB.1 | with_reducible first | refine cA0 ?_ _ | refine cN0 ?_ _ | refine cD0 ?_))
                 (case z6 => exact N2.1)
                 (case z7 => repeat (first | exact cB0 R3.1 HB.1 | with_reducible first | refine cA0 ?_ _ | refine cN0 ?_ _ | refine cD0 ?_))
                 (case z8 => exact N3.1)
                 (case z9 => repeat (first | exact cB0 R4.1 HB.1 | with_reducible first | refine cA0 ?_ _ | refine cN0 ?_ _ | refine cD0 ?_))
                 (case z10 => exact N4.1)
                 (case z11 => repeat (first | exact cB0 R5.1 HB.1 | with_reducible first | refine cA0 ?_ _ | refine cN0 ?_ _ | refine cD0 ?_))
                 (case z12 => exact N5.1)
                 (case z13 => repeat (first | exact (Kd.R_reads' HO_7.1).2.2 | (with_reducible refine Kd.C_alloc ?_ _) | (with_reducible refine Kd.C_drewN ?_ _) | (with_reducible refine Kd.C_drew ?_)))
                 (case z14 => exact (Kd.R_reads' HO_7.1).2.1)
                 rintro e w82 ⟨v459, rfl, ho0, hb⟩
                 refine ⟨_, rfl, ?_⟩
                 have n0_ := aM (Kd.R_elder' (by (with_reducible repeat first | apply rA0 | apply rN0 | apply rD0); exact HO_7.1) (Kd.R_base ho0) hb)
                 have n1_ := aM (Kd.R_lower (Kd.R_new' ho0 (Kd.R_lt (by (with_reducible repeat first | apply rA0 | apply rN0 | apply rD0); exact HO_7.1))) (bSz (by repeat (first | (with_reducible first | exact HB.1 | apply bAl | apply pbN | apply bD1 | refine bSt ?_ GE423.1) | exact HB.1))))
                 have n2_ := aM (blk_below (g := gb423) (o := .cells #[.slice P0 q0.length n0, .slice P1 q1.length n1, .slice P2 q2.length n2, .slice P3 q3.length n3, .slice P4 q4.length n4, .slice P5 q5.length n5] 27 (0, 0)) (by (with_reducible repeat (first | refine bkN ?_ _ | refine bkD ?_ | refine bkA ?_ _)); exact BK423.1) hb)
                 have n3_ := aM (bSp (by repeat (first | (with_reducible first | exact HB.1 | apply bAl | apply pbN | apply bD1 | refine bSt ?_ GE423.1) | exact HB.1)) hb)
                 clear HO_7
                 clear BK423
                 clear HB
                 have HO_7 := n0_
                 have HO460 := n1_
                 have BK423 := n2_
                 have HB := n3_
                 clear n0_ n1_ n2_ n3_
                 (try clear hb)
                 (try clear hb2)
                 (try clear hk)
                 (try clear hi)
                 (try clear ho0)
                 refine hK.out _ _ (bk60 BK423.1) (fun hHeld => ?_)
                 clear hK K
                 refine norm_ (a' := ?_) ?_ ?_
                 rotate_left
                 ·show Act.put _ (some 61) _ = _
                  simp only [Act.put, sI, sZ, sS, i64_w, i32_w]
                  rfl
                 refine two_ (i := 3) (j := 6) (Ni := some 62) (Nj := some 65) #[true, true, true, true, true, true, false, false, true, true, false, false, false, false, false, false, false] #[true, true, true, false, true, true, true, false, true, true, false, false, false, false, false, false, false] rfl rfl rfl rfl (two_of HT_.1 (by kernel_rfl)) (by decide) (by decide) (fun K hK => ?_) (fun K hK => ?_)
                 ·skip
                  refine Kd.R_lit_step (Kd.int .i64) _ 3 ?hg (N := 62) ?hd (xs := ([] : List Int)) (inner := []) (ok := fun _ => True) (okp := fun _ => True) ?hr ?hp (fun _ hk => hk) trivial (Below.refl _ _) (Nat.le_refl _) (by simp) ?_; (case hd => rfl); (case hg => rfl); (case hr => first | (go_simp; done) | (go_simp; rfl)); (case hp => exact (Reps.none _ _))
                  intro v462 w83 ho84 hb hg_ hnew_
                  clear hg_ hnew_
                  (first | rw [← Ny461.1] at ho84 | (simp only [Int.reduceToNat] at ho84; rw [← Ny461.1] at ho84))
                  have n0_ := aM (Kd.R_elder' (by (with_reducible repeat first | apply rA0 | apply rN0 | apply rD0); exact HO_7.1) (Kd.R_base ho84) hb)
                  have n1_ := aM (Kd.R_elder' (by (with_reducible repeat first | apply rA0 | apply rN0 | apply rD0); exact HO460.1) (Kd.R_base ho84) hb)
                  have n2_ := aM (Kd.R_lower (Kd.R_new' (Kd.R_new' ho84 (Kd.R_lt (by (with_reducible repeat first | apply rA0 | apply rN0 | apply rD0); exact HO_7.1))) (Kd.R_lt (by (with_reducible repeat first | apply rA0 | apply rN0 | apply rD0); exact HO460.1))) (bSz (by repeat (first | (with_reducible first | exact HB.1 | apply bAl | apply pbN | apply bD1 | refine bSt ?_ GE423.1) | exact HB.1))))
                  have n3_ := aM (blk_below (g := gb423) (o := .cells #[.slice P0 q0.length n0, .slice P1 q1.length n1, .slice P2 q2.length n2, .slice P3 q3.length n3, .slice P4 q4.length n4, .slice P5 q5.length n5] 27 (0, 0)) (by (with_reducible repeat (first | refine bkN ?_ _ | refine bkD ?_ | refine bkA ?_ _)); exact BK423.1) hb)
                  have n4_ := aM (bSp (by repeat (first | (with_reducible first | exact HB.1 | apply bAl | apply pbN | apply bD1 | refine bSt ?_ GE423.1) | exact HB.1)) hb)
                  clear HO_7
                  clear HO460
                  clear BK423
                  clear HB
                  have HO_7 := n0_
                  have HO460 := n1_
                  have HO463 := n2_
                  have BK423 := n3_
                  have HB := n4_
                  clear n0_ n1_ n2_ n3_ n4_
                  clear hb ho84
                  refine hK.out _ _ (bk60 BK423.1) (fun hHeld => ?_)
                  clear hK K
                  refine norm_ (a' := ?_) ?_ ?_
                  rotate_left
                  ·show Act.put _ (some 62) _ = _
                   simp only [Act.put, sI, sZ, sS, i64_w, i32_w]
                   rfl
                  refine one_ (i := 6) (N := some 65) #[true, true, true, true, true, true, true, false, true, true, false, false, false, false, false, false, false] rfl rfl (one_of HT_.1 (by kernel_rfl)) (by decide) (fun K hK => ?_)
                  refine goes_ Try.func18 (by kernel_rfl) rfl #[.agg #[.slice P0 q0.length n0, .slice P1 q1.length n1, .slice P2 q2.length n2, .slice P3 q3.length n3, .slice P4 q4.length n4, .slice P5 q5.length n5], .slice A1 l1.length c1] (by rfl) rfl rfl (by (try simp only [List.map_toArray, List.map_cons, List.map_nil]); first | done | rfl | (simp only [List.length_drop, List.length_take]; rfl)) ?_
                  with_reducible refine (casemap_Lower.calls _ _ q0 _ _ q1 _ _ q2 _ _ q3 _ _ q4 _ _ q5 _ _ l1 t464 _ ?z1 ?z2 ?z3 ?z4 ?z5 ?z6 ?z7 ?z8 ?z9 ?z10 ?z11 ?z12 ?z13 ?z14 A58.1).mono ?_
                  (case z1 => repeat (first | exact cB0 R0.1 HB.1 | with_reducible first | refine cA0 ?_ _ | refine cN0 ?_ _ | refine cD0 ?_))
                  (case z2 => exact N0.1)
                  (case z3 => repeat (first | exact cB0 R1.1 HB.1 | with_reducible first | refine cA0 ?_ _ | refine cN0 ?_ _ | refine cD0 ?_))
                  (case z4 => exact N1.1)
                  (case z5 => repeat (first | exact cB0 R2.1 HB.1 | with_reducible first | refine cA0 ?_ _ | refine cN0 ?_ _ | refine cD0 ?_))
                  (case z6 => exact N2.1)
                  (case z7 => repeat (first | exact cB0 R3.1 HB.1 | with_reducible first | refine cA0 ?_ _ | refine cN0 ?_ _ | refine cD0 ?_))
                  (case z8 => exact N3.1)
                  (case z9 => repeat (first | exact cB0 R4.1 HB.1 | with_reducible first | refine cA0 ?_ _ | refine cN0 ?_ _ | refine cD0 ?_))
                  (case z10 => exact N4.1)
                  (case z11 => repeat (first | exact cB0 R5.1 HB.1 | with_reducible first | refine cA0 ?_ _ | refine cN0 ?_ _ | refine cD0 ?_))
                  (case z12 => exact N5.1)
                  (case z13 => repeat (first | exact cB0 HR1.1 HB.1 | with_reducible first | refine cA0 ?_ _ | refine cN0 ?_ _ | refine cD0 ?_))
                  (case z14 => exact HC1.1)
                  rintro e w85 ⟨v465, rfl, ho0, hb⟩
                  refine ⟨_, rfl, ?_⟩
                  have n0_ := aM (Kd.R_elder' (by (with_reducible repeat first | apply rA0 | apply rN0 | apply rD0); exact HO_7.1) (Kd.R_base ho0) hb)
                  have n1_ := aM (Kd.R_elder' (by (with_reducible repeat first | apply rA0 | apply rN0 | apply rD0); exact HO460.1) (Kd.R_base ho0) hb)
                  have n2_ := aM (Kd.R_elder' (by (with_reducible repeat first | apply rA0 | apply rN0 | apply rD0); exact HO463.1) (Kd.R_base ho0) hb)
                  have n3_ := aM (Kd.R_lower (Kd.R_new' (Kd.R_new' (Kd.R_new' ho0 (Kd.R_lt (by (with_reducible repeat first | apply rA0 | apply rN0 | apply rD0); exact HO_7.1))) (Kd.R_lt (by (with_reducible repeat first | apply rA0 | apply rN0 | apply rD0); exact HO460.1))) (Kd.R_lt (by (with_reducible repeat first | apply rA0 | apply rN0 | apply rD0); exact HO463.1))) (bSz (by repeat (first | (with_reducible first | exact HB.1 | apply bAl | apply pbN | apply bD1 | refine bSt ?_ GE423.1) | exact HB.1))))
                  have n4_ := aM (blk_below (g := gb423) (o := .cells #[.slice P0 q0.length n0, .slice P1 q1.length n1, .slice P2 q2.length n2, .slice P3 q3.length n3, .slice P4 q4.length n4, .slice P5 q5.length n5] 27 (0, 0)) (by (with_reducible repeat (first | refine bkN ?_ _ | refine bkD ?_ | refine bkA ?_ _)); exact BK423.1) hb)
                  have n5_ := aM (bSp (by repeat (first | (with_reducible first | exact HB.1 | apply bAl | apply pbN | apply bD1 | refine bSt ?_ GE423.1) | exact HB.1)) hb)
                  clear HO_7
                  clear HO460
                  clear HO463
                  clear BK423
                  clear HB
                  have HO_7 := n0_
                  have HO460 := n1_
                  have HO463 := n2_
                  have HO466 := n3_
                  have BK423 := n4_
                  have HB := n5_
                  clear n0_ n1_ n2_ n3_ n4_ n5_
                  (try clear hb)
                  (try clear hb2)
                  (try clear hk)
                  (try clear hi)
                  (try clear ho0)
                  refine hK.out _ _ (bk60 BK423.1) (fun hHeld => ?_)
                  clear hK K
                  refine norm_ (a' := ?_) ?_ ?_
                  rotate_left
                  ·show Act.put _ (some 65) _ = _
                   simp only [Act.put, sI, sZ, sS, i64_w, i32_w]
                   rfl
                  exact norm_ (by simp only [putAll, Act.put, sI, sZ, sS]) (hCont (v459, v462, v465) _ ⟨hHeld, (by (with_reducible repeat first | apply rA0 | apply rN0 | apply rD0); exact Kd.R_mono HO460.1 (fun _ hk => ⟨hk.1.2, ⟨hk.2, hk.1.1.2⟩⟩)), (by (with_reducible repeat first | apply rA0 | apply rN0 | apply rD0); exact Kd.R_mono HO463.1 (fun _ hk => ⟨hk.1.2, ⟨hk.2, hk.1.1.2⟩⟩)), (by (with_reducible repeat first | apply rA0 | apply rN0 | apply rD0); exact Kd.R_mono HO466.1 (fun _ hk => ⟨hk.1.2, ⟨hk.2, hk.1.1.2⟩⟩)), (by (with_reducible repeat first | apply rA0 | apply rN0 | apply rD0); exact Kd.R_mono HO_7.1 (fun _ hk => ⟨hk.1.1.2, ⟨hk.1.2, hk.2⟩⟩)), (by (with_reducible repeat (first | refine bkN ?_ _ | refine bkD ?_ | refine bkA ?_ _)); exact BK423.1), (by repeat (first | (with_reducible first | exact HB.1 | apply bAl | apply pbN | apply bD1 | refine bSt ?_ GE423.1) | exact HB.1))⟩)
                 ·skip
                  refine goes_ Try.func18 (by kernel_rfl) rfl #[.agg #[.slice P0 q0.length n0, .slice P1 q1.length n1, .slice P2 q2.length n2, .slice P3 q3.length n3, .slice P4 q4.length n4, .slice P5 q5.length n5], .slice A1 l1.length c1] (by rfl) rfl rfl (by (try simp only [List.map_toArray, List.map_cons, List.map_nil]); first | done | rfl | (simp only [List.length_drop, List.length_take]; rfl)) ?_
                  with_reducible refine (casemap_Lower.calls _ _ q0 _ _ q1 _ _ q2 _ _ q3 _ _ q4 _ _ q5 _ _ l1 t464 _ ?z1 ?z2 ?z3 ?z4 ?z5 ?z6 ?z7 ?z8 ?z9 ?z10 ?z11 ?z12 ?z13 ?z14 A58.1).mono ?_
                  (case z1 => repeat (first | exact cB0 R0.1 HB.1 | with_reducible first | refine cA0 ?_ _ | refine cN0 ?_ _ | refine cD0 ?_))
                  (case z2 => exact N0.1)
                  (case z3 => repeat (first | exact cB0 R1.1 HB.1 | with_reducible first | refine cA0 ?_ _ | refine cN0 ?_ _ | refine cD0 ?_))
                  (case z4 => exact N1.1)
                  (case z5 => repeat (first | exact cB0 R2.1 HB.1 | with_reducible first | refine cA0 ?_ _ | refine cN0 ?_ _ | refine cD0 ?_))
                  (case z6 => exact N2.1)
                  (case z7 => repeat (first | exact cB0 R3.1 HB.1 | with_reducible first | refine cA0 ?_ _ | refine cN0 ?_ _ | refine cD0 ?_))
                  (case z8 => exact N3.1)
                  (case z9 => repeat (first | exact cB0 R4.1 HB.1 | with_reducible first | refine cA0 ?_ _ | refine cN0 ?_ _ | refine cD0 ?_))
                  (case z10 => exact N4.1)
                  (case z11 => repeat (first | exact cB0 R5.1 HB.1 | with_reducible first | refine cA0 ?_ _ | refine cN0 ?_ _ | refine cD0 ?_))
                  (case z12 => exact N5.1)
                  (case z13 => repeat (first | exact cB0 HR1.1 HB.1 | with_reducible first | refine cA0 ?_ _ | refine cN0 ?_ _ | refine cD0 ?_))
                  (case z14 => exact HC1.1)
                  rintro e w83 ⟨v465, rfl, ho0, hb⟩
                  refine ⟨_, rfl, ?_⟩
                  have n0_ := aM (Kd.R_elder' (by (with_reducible repeat first | apply rA0 | apply rN0 | apply rD0); exact HO_7.1) (Kd.R_base ho0) hb)
                  have n1_ := aM (Kd.R_elder' (by (with_reducible repeat first | apply rA0 | apply rN0 | apply rD0); exact HO460.1) (Kd.R_base ho0) hb)
                  have n2_ := aM (Kd.R_lower (Kd.R_new' (Kd.R_new' ho0 (Kd.R_lt (by (with_reducible repeat first | apply rA0 | apply rN0 | apply rD0); exact HO_7.1))) (Kd.R_lt (by (with_reducible repeat first | apply rA0 | apply rN0 | apply rD0); exact HO460.1))) (bSz (by repeat (first | (with_reducible first | exact HB.1 | apply bAl | apply pbN | apply bD1 | refine bSt ?_ GE423.1) | exact HB.1))))
                  have n3_ := aM (blk_below (g := gb423) (o := .cells #[.slice P0 q0.length n0, .slice P1 q1.length n1, .slice P2 q2.length n2, .slice P3 q3.length n3, .slice P4 q4.length n4, .slice P5 q5.length n5] 27 (0, 0)) (by (with_reducible repeat (first | refine bkN ?_ _ | refine bkD ?_ | refine bkA ?_ _)); exact BK423.1) hb)
                  have n4_ := aM (bSp (by repeat (first | (with_reducible first | exact HB.1 | apply bAl | apply pbN | apply bD1 | refine bSt ?_ GE423.1) | exact HB.1)) hb)
                  clear HO_7
                  clear HO460
                  clear BK423
                  clear HB
                  have HO_7 := n0_
                  have HO460 := n1_
                  have HO466 := n2_
                  have BK423 := n3_
                  have HB := n4_
                  clear n0_ n1_ n2_ n3_ n4_
                  (try clear hb)
                  (try clear hb2)
                  (try clear hk)
                  (try clear hi)
                  (try clear ho0)
                  refine hK.out _ _ (bk60 BK423.1) (fun hHeld => ?_)
                  clear hK K
                  refine norm_ (a' := ?_) ?_ ?_
                  rotate_left
                  ·show Act.put _ (some 65) _ = _
                   simp only [Act.put, sI, sZ, sS, i64_w, i32_w]
                   rfl
                  refine one_ (i := 3) (N := some 62) #[true, true, true, true, true, true, true, false, true, true, false, false, false, false, false, false, false] rfl rfl (one_of HT_.1 (by kernel_rfl)) (by decide) (fun K hK => ?_)
                  refine Kd.R_lit_step (Kd.int .i64) _ 3 ?hg (N := 62) ?hd (xs := ([] : List Int)) (inner := []) (ok := fun _ => True) (okp := fun _ => True) ?hr ?hp (fun _ hk => hk) trivial (Below.refl _ _) (Nat.le_refl _) (by simp) ?_; (case hd => rfl); (case hg => rfl); (case hr => first | (go_simp; done) | (go_simp; rfl)); (case hp => exact (Reps.none _ _))
                  intro v462 w84 ho85 hb hg_ hnew_
                  clear hg_ hnew_
                  (first | rw [← Ny461.1] at ho85 | (simp only [Int.reduceToNat] at ho85; rw [← Ny461.1] at ho85))
                  have n0_ := aM (Kd.R_elder' (by (with_reducible repeat first | apply rA0 | apply rN0 | apply rD0); exact HO_7.1) (Kd.R_base ho85) hb)
                  have n1_ := aM (Kd.R_elder' (by (with_reducible repeat first | apply rA0 | apply rN0 | apply rD0); exact HO460.1) (Kd.R_base ho85) hb)
                  have n2_ := aM (Kd.R_elder' (by (with_reducible repeat first | apply rA0 | apply rN0 | apply rD0); exact HO466.1) (Kd.R_base ho85) hb)
                  have n3_ := aM (Kd.R_lower (Kd.R_new' (Kd.R_new' (Kd.R_new' ho85 (Kd.R_lt (by (with_reducible repeat first | apply rA0 | apply rN0 | apply rD0); exact HO_7.1))) (Kd.R_lt (by (with_reducible repeat first | apply rA0 | apply rN0 | apply rD0); exact HO460.1))) (Kd.R_lt (by (with_reducible repeat first | apply rA0 | apply rN0 | apply rD0); exact HO466.1))) (bSz (by repeat (first | (with_reducible first | exact HB.1 | apply bAl | apply pbN | apply bD1 | refine bSt ?_ GE423.1) | exact HB.1))))
                  have n4_ := aM (blk_below (g := gb423) (o := .cells #[.slice P0 q0.length n0, .slice P1 q1.length n1, .slice P2 q2.length n2, .slice P3 q3.length n3, .slice P4 q4.length n4, .slice P5 q5.length n5] 27 (0, 0)) (by (with_reducible repeat (first | refine bkN ?_ _ | refine bkD ?_ | refine bkA ?_ _)); exact BK423.1) hb)
                  have n5_ := aM (bSp (by repeat (first | (with_reducible first | exact HB.1 | apply bAl | apply pbN | apply bD1 | refine bSt ?_ GE423.1) | exact HB.1)) hb)
                  clear HO_7
                  clear HO460
                  clear HO466
                  clear BK423
                  clear HB
                  have HO_7 := n0_
                  have HO460 := n1_
                  have HO466 := n2_
                  have HO463 := n3_
                  have BK423 := n4_
                  have HB := n5_
                  clear n0_ n1_ n2_ n3_ n4_ n5_
                  clear hb ho85
                  refine hK.out _ _ (bk60 BK423.1) (fun hHeld => ?_)
                  clear hK K
                  refine norm_ (a' := ?_) ?_ ?_
                  rotate_left
                  ·show Act.put _ (some 62) _ = _
                   simp only [Act.put, sI, sZ, sS, i64_w, i32_w]
                   rfl
                  exact norm_ (by simp only [putAll, Act.put, sI, sZ, sS]) (hCont (v459, v462, v465) _ ⟨hHeld, (by (with_reducible repeat first | apply rA0 | apply rN0 | apply rD0); exact Kd.R_mono HO460.1 (fun _ hk => ⟨hk.2, ⟨hk.1.2, hk.1.1.2⟩⟩)), (by (with_reducible repeat first | apply rA0 | apply rN0 | apply rD0); exact Kd.R_mono HO463.1 (fun _ hk => ⟨hk.1.2, ⟨hk.2, hk.1.1.2⟩⟩)), (by (with_reducible repeat first | apply rA0 | apply rN0 | apply rD0); exact Kd.R_mono HO466.1 (fun _ hk => ⟨hk.1.2, ⟨hk.2, hk.1.1.2⟩⟩)), (by (with_reducible repeat first | apply rA0 | apply rN0 | apply rD0); exact Kd.R_mono HO_7.1 (fun _ hk => ⟨hk.1.1.2, ⟨hk.2, hk.1.2⟩⟩)), (by (with_reducible repeat (first | refine bkN ?_ _ | refine bkD ?_ | refine bkA ?_ _)); exact BK423.1), (by repeat (first | (with_reducible first | exact HB.1 | apply bAl | apply pbN | apply bD1 | refine bSt ?_ GE423.1) | exact HB.1))⟩)
                ·skip
                 refine Kd.R_lit_step (Kd.int .i64) _ 3 ?hg (N := 62) ?hd (xs := ([] : List Int)) (inner := []) (ok := fun _ => True) (okp := fun _ => True) ?hr ?hp (fun _ hk => hk) trivial (Below.refl _ _) (Nat.le_refl _) (by simp) ?_; (case hd => rfl); (case hg => rfl); (case hr => first | (go_simp; done) | (go_simp; rfl)); (case hp => exact (Reps.none _ _))
                 intro v462 w82 ho83 hb hg_ hnew_
                 clear hg_ hnew_
                 (first | rw [← Ny461.1] at ho83 | (simp only [Int.reduceToNat] at ho83; rw [← Ny461.1] at ho83))
                 have n0_ := aM (Kd.R_elder' (by (with_reducible repeat first | apply rA0 | apply rN0 | apply rD0); exact HO_7.1) (Kd.R_base ho83) hb)
                 have n1_ := aM (Kd.R_lower (Kd.R_new' ho83 (Kd.R_lt (by (with_reducible repeat first | apply rA0 | apply rN0 | apply rD0); exact HO_7.1))) (bSz (by repeat (first | (with_reducible first | exact HB.1 | apply bAl | apply pbN | apply bD1 | refine bSt ?_ GE423.1) | exact HB.1))))
                 have n2_ := aM (blk_below (g := gb423) (o := .cells #[.slice P0 q0.length n0, .slice P1 q1.length n1, .slice P2 q2.length n2, .slice P3 q3.length n3, .slice P4 q4.length n4, .slice P5 q5.length n5] 27 (0, 0)) (by (with_reducible repeat (first | refine bkN ?_ _ | refine bkD ?_ | refine bkA ?_ _)); exact BK423.1) hb)
                 have n3_ := aM (bSp (by repeat (first | (with_reducible first | exact HB.1 | apply bAl | apply pbN | apply bD1 | refine bSt ?_ GE423.1) | exact HB.1)) hb)
                 clear HO_7
                 clear BK423
                 clear HB
                 have HO_7 := n0_
                 have HO463 := n1_
                 have BK423 := n2_
                 have HB := n3_
                 clear n0_ n1_ n2_ n3_
                 clear hb ho83
                 refine hK.out _ _ (bk60 BK423.1) (fun hHeld => ?_)
                 clear hK K
                 refine norm_ (a' := ?_) ?_ ?_
                 rotate_left
                 ·show Act.put _ (some 62) _ = _
                  simp only [Act.put, sI, sZ, sS, i64_w, i32_w]
                  rfl
                 refine one_ (i := 2) (N := some 61) #[true, true, true, true, true, true, false, false, true, true, false, false, false, false, false, false, false] rfl rfl (one_of HT_.1 (by kernel_rfl)) (by decide) (fun K hK => ?_)
                 refine goes_ Try.func18 (by kernel_rfl) rfl #[.agg #[.slice P0 q0.length n0, .slice P1 q1.length n1, .slice P2 q2.length n2, .slice P3 q3.length n3, .slice P4 q4.length n4, .slice P5 q5.length n5], .slice Ao31 y433.length co31] (by rfl) rfl rfl (by (try simp only [List.map_toArray, List.map_cons, List.map_nil]); first | done | rfl | (simp only [List.length_drop, List.length_take]; rfl)) ?_
                 with_reducible refine (casemap_Lower.calls _ _ q0 _ _ q1 _ _ q2 _ _ q3 _ _ q4 _ _ q5 _ _ y433 t458 _ ?z1 ?z2 ?z3 ?z4 ?z5 ?z6 ?z7 ?z8 ?z9 ?z10 ?z11 ?z12 ?z13 ?z14 A57.1).mono ?_
                 (case z1 => repeat (first | exact cB0 R0.1 HB.1 | with_reducible first | refine cA0 ?_ _ | refine cN0 ?_ _ | refine cD0 ?_))
                 (case z2 => exact N0.1)
                 (case z3 => repeat (first | exact cB0 R1.1 HB.1 | with_reducible first | refine cA0 ?_ _ | refine cN0 ?_ _ | refine cD0 ?_))
                 (case z4 => exact N1.1)
                 (case z5 => repeat (first | exact cB0 R2.1 HB.1 | with_reducible first | refine cA0 ?_ _ | refine cN0 ?_ _ | refine cD0 ?_))
                 (case z6 => exact N2.1)
                 (case z7 => repeat (first | exact cB0 R3.1 HB.1 | with_reducible first | refine cA0 ?_ _ | refine cN0 ?_ _ | refine cD0 ?_))
                 (case z8 => exact N3.1)
                 (case z9 => repeat (first | exact cB0 R4.1 HB.1 | with_reducible first | refine cA0 ?_ _ | refine cN0 ?_ _ | refine cD0 ?_))
                 (case z10 => exact N4.1)
                 (case z11 => repeat (first | exact cB0 R5.1 HB.1 | with_reducible first | refine cA0 ?_ _ | refine cN0 ?_ _ | refine cD0 ?_))
                 (case z12 => exact N5.1)
                 (case z13 => repeat (first | exact (Kd.R_reads' HO_7.1).2.2 | (with_reducible refine Kd.C_alloc ?_ _) | (with_reducible refine Kd.C_drewN ?_ _) | (with_reducible refine Kd.C_drew ?_)))
                 (case z14 => exact (Kd.R_reads' HO_7.1).2.1)
                 rintro e w84 ⟨v459, rfl, ho0, hb⟩
                 refine ⟨_, rfl, ?_⟩
                 have n0_ := aM (Kd.R_elder' (by (with_reducible repeat first | apply rA0 | apply rN0 | apply rD0); exact HO_7.1) (Kd.R_base ho0) hb)
                 have n1_ := aM (Kd.R_elder' (by (with_reducible repeat first | apply rA0 | apply rN0 | apply rD0); exact HO463.1) (Kd.R_base ho0) hb)
                 have n2_ := aM (Kd.R_lower (Kd.R_new' (Kd.R_new' ho0 (Kd.R_lt (by (with_reducible repeat first | apply rA0 | apply rN0 | apply rD0); exact HO_7.1))) (Kd.R_lt (by (with_reducible repeat first | apply rA0 | apply rN0 | apply rD0); exact HO463.1))) (bSz (by repeat (first | (with_reducible first | exact HB.1 | apply bAl | apply pbN | apply bD1 | refine bSt ?_ GE423.1) | exact HB.1))))
                 have n3_ := aM (blk_below (g := gb423) (o := .cells #[.slice P0 q0.length n0, .slice P1 q1.length n1, .slice P2 q2.length n2, .slice P3 q3.length n3, .slice P4 q4.length n4, .slice P5 q5.length n5] 27 (0, 0)) (by (with_reducible repeat (first | refine bkN ?_ _ | refine bkD ?_ | refine bkA ?_ _)); exact BK423.1) hb)
                 have n4_ := aM (bSp (by repeat (first | (with_reducible first | exact HB.1 | apply bAl | apply pbN | apply bD1 | refine bSt ?_ GE423.1) | exact HB.1)) hb)
                 clear HO_7
                 clear HO463
                 clear BK423
                 clear HB
                 have HO_7 := n0_
                 have HO463 := n1_
                 have HO460 := n2_
                 have BK423 := n3_
                 have HB := n4_
                 clear n0_ n1_ n2_ n3_ n4_
                 (try clear hb)
                 (try clear hb2)
                 (try clear hk)
                 (try clear hi)
                 (try clear ho0)
                 refine hK.out _ _ (bk60 BK423.1) (fun hHeld => ?_)
                 clear hK K
                 refine norm_ (a' := ?_) ?_ ?_
                 rotate_left
                 ·show Act.put _ (some 61) _ = _
                  simp only [Act.put, sI, sZ, sS, i64_w, i32_w]
                  rfl
                 refine one_ (i := 6) (N := some 65) #[true, true, true, true, true, true, true, false, true, true, false, false, false, false, false, false, false] rfl rfl (one_of HT_.1 (by kernel_rfl)) (by decide) (fun K hK => ?_)
                 refine goes_ Try.func18 (by kernel_rfl) rfl #[.agg #[.slice P0 q0.length n0, .slice P1 q1.length n1, .slice P2 q2.length n2, .slice P3 q3.length n3, .slice P4 q4.length n4, .slice P5 q5.length n5], .slice A1 l1.length c1] (by rfl) rfl rfl (by (try simp only [List.map_toArray, List.map_cons, List.map_nil]); first | done | rfl | (simp only [List.length_drop, List.length_take]; rfl)) ?_
                 with_reducible refine (casemap_Lower.calls _ _ q0 _ _ q1 _ _ q2 _ _ q3 _ _ q4 _ _ q5 _ _ l1 t464 _ ?z1 ?z2 ?z3 ?z4 ?z5 ?z6 ?z7 ?z8 ?z9 ?z10 ?z11 ?z12 ?z13 ?z14 A58.1).mono ?_
                 (case z1 => repeat (first | exact cB0 R0.1 HB.1 | with_reducible first | refine cA0 ?_ _ | refine cN0 ?_ _ | refine cD0 ?_))
                 (case z2 => exact N0.1)
                 (case z3 => repeat (first | exact cB0 R1.1 HB.1 | with_reducible first | refine cA0 ?_ _ | refine cN0 ?_ _ | refine cD0 ?_))
                 (case z4 => exact N1.1)
                 (case z5 => repeat (first | exact cB0 R2.1 HB.1 | with_reducible first | refine cA0 ?_ _ | refine cN0 ?_ _ | refine cD0 ?_))
                 (case z6 => exact N2.1)
                 (case z7 => repeat (first | exact cB0 R3.1 HB.1 | with_reducible first | refine cA0 ?_ _ | refine cN0 ?_ _ | refine cD0 ?_))
                 (case z8 => exact N3.1)
                 (case z9 => repeat (first | exact cB0 R4.1 HB.1 | with_reducible first | refine cA0 ?_ _ | refine cN0 ?_ _ | refine cD0 ?_))
                 (case z10 => exact N4.1)
                 (case z11 => repeat (first | exact cB0 R5.1 HB.1 | with_reducible first | refine cA0 ?_ _ | refine cN0 ?_ _ | refine cD0 ?_))
                 (case z12 => exact N5.1)
                 (case z13 => repeat (first | exact cB0 HR1.1 HB.1 | with_reducible first | refine cA0 ?_ _ | refine cN0 ?_ _ | refine cD0 ?_))
                 (case z14 => exact HC1.1)
                 rintro e w85 ⟨v465, rfl, ho0, hb⟩
                 refine ⟨_, rfl, ?_⟩
                 have n0_ := aM (Kd.R_elder' (by (with_reducible repeat first | apply rA0 | apply rN0 | apply rD0); exact HO_7.1) (Kd.R_base ho0) hb)
                 have n1_ := aM (Kd.R_elder' (by (with_reducible repeat first | apply rA0 | apply rN0 | apply rD0); exact HO463.1) (Kd.R_base ho0) hb)
                 have n2_ := aM (Kd.R_elder' (by (with_reducible repeat first | apply rA0 | apply rN0 | apply rD0); exact HO460.1) (Kd.R_base ho0) hb)
                 have n3_ := aM (Kd.R_lower (Kd.R_new' (Kd.R_new' (Kd.R_new' ho0 (Kd.R_lt (by (with_reducible repeat first | apply rA0 | apply rN0 | apply rD0); exact HO_7.1))) (Kd.R_lt (by (with_reducible repeat first | apply rA0 | apply rN0 | apply rD0); exact HO463.1))) (Kd.R_lt (by (with_reducible repeat first | apply rA0 | apply rN0 | apply rD0); exact HO460.1))) (bSz (by repeat (first | (with_reducible first | exact HB.1 | apply bAl | apply pbN | apply bD1 | refine bSt ?_ GE423.1) | exact HB.1))))
                 have n4_ := aM (blk_below (g := gb423) (o := .cells #[.slice P0 q0.length n0, .slice P1 q1.length n1, .slice P2 q2.length n2, .slice P3 q3.length n3, .slice P4 q4.length n4, .slice P5 q5.length n5] 27 (0, 0)) (by (with_reducible repeat (first | refine bkN ?_ _ | refine bkD ?_ | refine bkA ?_ _)); exact BK423.1) hb)
                 have n5_ := aM (bSp (by repeat (first | (with_reducible first | exact HB.1 | apply bAl | apply pbN | apply bD1 | refine bSt ?_ GE423.1) | exact HB.1)) hb)
                 clear HO_7
                 clear HO463
                 clear HO460
                 clear BK423
                 clear HB
                 have HO_7 := n0_
                 have HO463 := n1_
                 have HO460 := n2_
                 have HO466 := n3_
                 have BK423 := n4_
                 have HB := n5_
                 clear n0_ n1_ n2_ n3_ n4_ n5_
                 (try clear hb)
                 (try clear hb2)
                 (try clear hk)
                 (try clear hi)
                 (try clear ho0)
                 refine hK.out _ _ (bk60 BK423.1) (fun hHeld => ?_)
                 clear hK K
                 refine norm_ (a' := ?_) ?_ ?_
                 rotate_left
                 ·show Act.put _ (some 65) _ = _
                  simp only [Act.put, sI, sZ, sS, i64_w, i32_w]
                  rfl
                 exact norm_ (by simp only [putAll, Act.put, sI, sZ, sS]) (hCont (v459, v462, v465) _ ⟨hHeld, (by (with_reducible repeat first | apply rA0 | apply rN0 | apply rD0); exact Kd.R_mono HO460.1 (fun _ hk => ⟨hk.1.2, ⟨hk.2, hk.1.1.2⟩⟩)), (by (with_reducible repeat first | apply rA0 | apply rN0 | apply rD0); exact Kd.R_mono HO463.1 (fun _ hk => ⟨hk.1.2, ⟨hk.2, hk.1.1.2⟩⟩)), (by (with_reducible repeat first | apply rA0 | apply rN0 | apply rD0); exact Kd.R_mono HO466.1 (fun _ hk => ⟨hk.2, ⟨hk.1.2, hk.1.1.2⟩⟩)), (by (with_reducible repeat first | apply rA0 | apply rN0 | apply rD0); exact Kd.R_mono HO_7.1 (fun _ hk => ⟨hk.1.2, ⟨hk.1.1.2, hk.2⟩⟩)), (by (with_reducible repeat (first | refine bkN ?_ _ | refine bkD ?_ | refine bkA ?_ _)); exact BK423.1), (by repeat (first | (with_reducible first | exact HB.1 | apply bAl | apply pbN | apply bD1 | refine bSt ?_ GE423.1) | exact HB.1))⟩)
               rintro ⟨v459, v462, v465⟩ w86 ⟨hS_, h0_, h1_, h2_, h3_, h4_, h5_⟩
               have n0_ : Aside0 (Kd.R (Kd.int .i64) 3 w86 w.heap.size (fun k_ => some k_ ≠ (v462 : Value).ownBlock ∧ some k_ ≠ (v465 : Value).ownBlock ∧ some k_ ≠ (.slice Ao31 y433.length co31 : Value).ownBlock) v459 t458) := ⟨h0_⟩
               have n1_ : Aside0 (Kd.R (Kd.int .i64) 3 w86 w.heap.size (fun k_ => some k_ ≠ (v459 : Value).ownBlock ∧ some k_ ≠ (v465 : Value).ownBlock ∧ some k_ ≠ (.slice Ao31 y433.length co31 : Value).ownBlock) v462 y461) := ⟨h1_⟩
               have n2_ : Aside0 (Kd.R (Kd.int .i64) 3 w86 w.heap.size (fun k_ => some k_ ≠ (v459 : Value).ownBlock ∧ some k_ ≠ (v462 : Value).ownBlock ∧ some k_ ≠ (.slice Ao31 y433.length co31 : Value).ownBlock) v465 t464) := ⟨h2_⟩
               have n3_ : Aside0 (Kd.R (Kd.int .i64) 3 w86 w.heap.size (fun k_ => some k_ ≠ (v459 : Value).ownBlock ∧ some k_ ≠ (v462 : Value).ownBlock ∧ some k_ ≠ (v465 : Value).ownBlock) (.slice Ao31 y433.length co31) y433) := ⟨h3_⟩
               have n4_ : Aside0 (w86.heap[gb423]? = some (.cells #[.slice P0 q0.length n0, .slice P1 q1.length n1, .slice P2 q2.length n2, .slice P3 q3.length n3, .slice P4 q4.length n4, .slice P5 q5.length n5] 27 (0, 0))) := ⟨h4_⟩
               have n5_ : Aside0 (Below w.heap.size w w86) := ⟨h5_⟩
               clear HO_7
               clear BK423
               clear HB
               clear h0_ h1_ h2_ h3_ h4_ h5_
               have HO460 := n0_
               have HO463 := n1_
               have HO466 := n2_
               have HO_7 := n3_
               have BK423 := n4_
               have HB := n5_
               clear n0_ n1_ n2_ n3_ n4_ n5_
               have hHeld : w86.cell? ⟨gb423, 0, none⟩ = some (.slice P0 q0.length n0) ∧ w86.cell? ⟨gb423, 1, none⟩ = some (.slice P1 q1.length n1) ∧ w86.cell? ⟨gb423, 2, none⟩ = some (.slice P2 q2.length n2) ∧ w86.cell? ⟨gb423, 3, none⟩ = some (.slice P3 q3.length n3) ∧ w86.cell? ⟨gb423, 4, none⟩ = some (.slice P4 q4.length n4) ∧ w86.cell? ⟨gb423, 5, none⟩ = some (.slice P5 q5.length n5) := hS_
               obtain ⟨Ao88, co88, eo88⟩ := Kd.R_slice HO466.1
               (first | subst eo88 | (injection eo88 with f1_ f2_ f3_; have f4_ := f1_.symm; have f5_ := f3_.symm; clear f1_ f2_ f3_; subst f4_; subst f5_))
               refine norm_ (a' := ?_) ?_ ?_
               rotate_left
               ·simp only [putAll, Act.put, sI, sZ, sS]
                rfl
               refine one_ (i := 7) (N := some 66) #[true, true, true, true, true, true, true, true, true, true, false, false, false, false, false, false, false] rfl rfl (one_of HT_.1 (by kernel_rfl)) (by decide) (fun K hK => ?_)
               refine Kd.R_append_rows_step (Kd.int .i64) (w0 := w) w.heap.size (by rfl) (.tmp 62) (.tmp 65) 28 3 (.int .i64 0) 8 rfl Try.underlying28 info3 rfl (by decide) (by omega) v462 y461 t464 _ _ _ (fun k_ => some k_ ≠ (.slice Ao31 y433.length co31 : Value).ownBlock ∧ some k_ ≠ (v459 : Value).ownBlock ∧ some k_ ≠ (.slice Ao88 t464.length co88 : Value).ownBlock) (fun _ => False) rfl rfl ?aO ?aR (fun _ _ h => h) (fun _ h => h.elim) ?aF ?aB ?aS ?aL ?_
               (case aR => repeat (first | exact (Kd.R_reads' HO466.1).2.2 | (with_reducible refine Kd.C_alloc ?_ _) | (with_reducible refine Kd.C_drewN ?_ _) | (with_reducible refine Kd.C_drew ?_)))
               (case aB => exact (by repeat (first | (with_reducible first | exact HB.1 | apply bAl | apply pbN | apply bD1 | refine bSt ?_ GE423.1) | exact HB.1)))
               (case aF => exact (fun k_ hk => ⟨Kd.fresh' (Kd.R_lt (by (with_reducible repeat first | apply rA0 | apply rN0 | apply rD0); exact HO_7.1)) k_ hk, Kd.fresh' (Kd.R_lt (by (with_reducible repeat first | apply rA0 | apply rN0 | apply rD0); exact HO460.1)) k_ hk, Kd.fresh' (Kd.R_lt (by (with_reducible repeat first | apply rA0 | apply rN0 | apply rD0); exact HO466.1)) k_ hk⟩))
               (case aO => exact (by (with_reducible repeat first | apply rA0 | apply rN0 | apply rD0); exact Kd.R_mono HO463.1 (fun _ hk => ⟨hk.2.2, ⟨hk.1, hk.2.1⟩⟩)))
               (case aS => exact (bSz (by repeat (first | (with_reducible first | exact HB.1 | apply bAl | apply pbN | apply bD1 | refine bSt ?_ GE423.1) | exact HB.1))))
               (case aL => have := LMc59.1; omega)
               intro v468 w87 ho hb hg hat
               rw [← Ny467.1] at ho
               have n0_ := aM (Kd.R_after (ok := (fun k_ => some k_ ≠ (v459 : Value).ownBlock ∧ some k_ ≠ (.slice Ao88 t464.length co88 : Value).ownBlock)) (by (with_reducible repeat first | apply rA0 | apply rN0 | apply rD0); exact Kd.R_mono HO_7.1 (fun _ hk => ⟨⟨hk.1, hk.2.2⟩, hk.2.1⟩)) hg hat)
               have n1_ := aM (blk_grown (g := gb423) (o := .cells #[.slice P0 q0.length n0, .slice P1 q1.length n1, .slice P2 q2.length n2, .slice P3 q3.length n3, .slice P4 q4.length n4, .slice P5 q5.length n5] 27 (0, 0)) (by (with_reducible repeat (first | refine bkN ?_ _ | refine bkD ?_ | refine bkA ?_ _)); exact BK423.1) hg (Kd.R_ne HO463.1 BK423.1 (by decide)))
               have n2_ := aM (Kd.R_after (ok := (fun k_ => some k_ ≠ (.slice Ao31 y433.length co31 : Value).ownBlock ∧ some k_ ≠ (.slice Ao88 t464.length co88 : Value).ownBlock)) (by (with_reducible repeat first | apply rA0 | apply rN0 | apply rD0); exact Kd.R_mono HO460.1 (fun _ hk => ⟨⟨hk.2.2, hk.2.1⟩, hk.1⟩)) hg hat)
               have n3_ := aM (Kd.R_after (ok := (fun k_ => some k_ ≠ (.slice Ao31 y433.length co31 : Value).ownBlock ∧ some k_ ≠ (v459 : Value).ownBlock)) (by (with_reducible repeat first | apply rA0 | apply rN0 | apply rD0); exact Kd.R_mono HO466.1 (fun _ hk => ⟨⟨hk.2.2, hk.1⟩, hk.2.1⟩)) hg hat)
               have n4_ := aM (hb)
               have n5_ := aM (ho)
               clear HO_7
               clear BK423
               clear HO460
               clear HO466
               clear HB
               clear HO463
               have HO_7 := n0_
               have BK423 := n1_
               have HO460 := n2_
               have HO466 := n3_
               have HB := n4_
               have HO469 := n5_
               clear n0_ n1_ n2_ n3_ n4_ n5_
               clear ho hb hg hat
               refine hK.out _ _ (bk60 BK423.1) (fun hHeld => ?_)
               clear hK K
               refine norm_ (a' := ?_) ?_ ?_
               rotate_left
               ·show Act.put _ (some 66) _ = _
                simp only [Act.put, sI, sZ, sS, i64_w, i32_w]
                rfl
               refine one_ (i := 10) (N := some 69) #[true, true, true, true, true, true, true, true, true, true, true, false, false, false, false, false, false] rfl rfl (one_of HT_.1 (by kernel_rfl)) (by decide) (fun K hK => ?_)
               refine goes_ Try.func18 (by kernel_rfl) rfl #[.agg #[.slice P0 q0.length n0, .slice P1 q1.length n1, .slice P2 q2.length n2, .slice P3 q3.length n3, .slice P4 q4.length n4, .slice P5 q5.length n5], .slice A2 l2.length c2] (by rfl) rfl rfl (by (try simp only [List.map_toArray, List.map_cons, List.map_nil]); first | done | rfl | (simp only [List.length_drop, List.length_take]; rfl)) ?_
               with_reducible refine (casemap_Lower.calls _ _ q0 _ _ q1 _ _ q2 _ _ q3 _ _ q4 _ _ q5 _ _ l2 t470 _ ?z1 ?z2 ?z3 ?z4 ?z5 ?z6 ?z7 ?z8 ?z9 ?z10 ?z11 ?z12 ?z13 ?z14 A60.1).mono ?_
               (case z1 => repeat (first | exact cB0 R0.1 HB.1 | with_reducible first | refine cA0 ?_ _ | refine cN0 ?_ _ | refine cD0 ?_))
               (case z2 => exact N0.1)
               (case z3 => repeat (first | exact cB0 R1.1 HB.1 | with_reducible first | refine cA0 ?_ _ | refine cN0 ?_ _ | refine cD0 ?_))
               (case z4 => exact N1.1)
               (case z5 => repeat (first | exact cB0 R2.1 HB.1 | with_reducible first | refine cA0 ?_ _ | refine cN0 ?_ _ | refine cD0 ?_))
               (case z6 => exact N2.1)
               (case z7 => repeat (first | exact cB0 R3.1 HB.1 | with_reducible first | refine cA0 ?_ _ | refine cN0 ?_ _ | refine cD0 ?_))
               (case z8 => exact N3.1)
               (case z9 => repeat (first | exact cB0 R4.1 HB.1 | with_reducible first | refine cA0 ?_ _ | refine cN0 ?_ _ | refine cD0 ?_))
               (case z10 => exact N4.1)
               (case z11 => repeat (first | exact cB0 R5.1 HB.1 | with_reducible first | refine cA0 ?_ _ | refine cN0 ?_ _ | refine cD0 ?_))
               (case z12 => exact N5.1)
               (case z13 => repeat (first | exact cB0 HR2.1 HB.1 | with_reducible first | refine cA0 ?_ _ | refine cN0 ?_ _ | refine cD0 ?_))
               (case z14 => exact HC2.1)
               rintro e w89 ⟨v471, rfl, ho0, hb⟩
               refine ⟨_, rfl, ?_⟩
               have n0_ := aM (Kd.R_elder' (by (with_reducible repeat first | apply rA0 | apply rN0 | apply rD0); exact HO_7.1) (Kd.R_base ho0) hb)
               have n1_ := aM (Kd.R_elder' (by (with_reducible repeat first | apply rA0 | apply rN0 | apply rD0); exact HO460.1) (Kd.R_base ho0) hb)
               have n2_ := aM (Kd.R_elder' (by (with_reducible repeat first | apply rA0 | apply rN0 | apply rD0); exact HO466.1) (Kd.R_base ho0) hb)
               have n3_ := aM (Kd.R_elder' (by (with_reducible repeat first | apply rA0 | apply rN0 | apply rD0); exact HO469.1) (Kd.R_base ho0) hb)
               have n4_ := aM (Kd.R_lower (Kd.R_new' (Kd.R_new' (Kd.R_new' (Kd.R_new' ho0 (Kd.R_lt (by (with_reducible repeat first | apply rA0 | apply rN0 | apply rD0); exact HO_7.1))) (Kd.R_lt (by (with_reducible repeat first | apply rA0 | apply rN0 | apply rD0); exact HO460.1))) (Kd.R_lt (by (with_reducible repeat first | apply rA0 | apply rN0 | apply rD0); exact HO466.1))) (Kd.R_lt (by (with_reducible repeat first | apply rA0 | apply rN0 | apply rD0); exact HO469.1))) (bSz (by repeat (first | (with_reducible first | exact HB.1 | apply bAl | apply pbN | apply bD1 | refine bSt ?_ GE423.1) | exact HB.1))))
               have n5_ := aM (blk_below (g := gb423) (o := .cells #[.slice P0 q0.length n0, .slice P1 q1.length n1, .slice P2 q2.length n2, .slice P3 q3.length n3, .slice P4 q4.length n4, .slice P5 q5.length n5] 27 (0, 0)) (by (with_reducible repeat (first | refine bkN ?_ _ | refine bkD ?_ | refine bkA ?_ _)); exact BK423.1) hb)
               have n6_ := aM (bSp (by repeat (first | (with_reducible first | exact HB.1 | apply bAl | apply pbN | apply bD1 | refine bSt ?_ GE423.1) | exact HB.1)) hb)
               clear HO_7
               clear HO460
               clear HO466
               clear HO469
               clear BK423
               clear HB
               have HO_7 := n0_
               have HO460 := n1_
               have HO466 := n2_
               have HO469 := n3_
               have HO472 := n4_
               have BK423 := n5_
               have HB := n6_
               clear n0_ n1_ n2_ n3_ n4_ n5_ n6_
               (try clear hb)
               (try clear hb2)
               (try clear hk)
               (try clear hi)
               (try clear ho0)
               obtain ⟨Ao91, co91, eo91⟩ := Kd.R_slice HO472.1
               (first | subst eo91 | (injection eo91 with f1_ f2_ f3_; have f4_ := f1_.symm; have f5_ := f3_.symm; clear f1_ f2_ f3_; subst f4_; subst f5_))
               refine hK.out _ _ (bk60 BK423.1) (fun hHeld => ?_)
               clear hK K
               refine norm_ (a' := ?_) ?_ ?_
               rotate_left
               ·show Act.put _ (some 69) _ = _
                simp only [Act.put, sI, sZ, sS, i64_w, i32_w]
                rfl
               refine one_ (i := 11) (N := some 70) #[true, true, true, true, true, true, true, true, true, true, true, true, false, false, false, false, false] rfl rfl (one_of HT_.1 (by kernel_rfl)) (by decide) (fun K hK => ?_)
               refine Kd.R_append_rows_step (Kd.int .i64) (w0 := w) w.heap.size (by rfl) (.tmp 66) (.tmp 69) 28 3 (.int .i64 0) 8 rfl Try.underlying28 info3 rfl (by decide) (by omega) v468 y467 t470 _ _ _ (fun k_ => some k_ ≠ (.slice Ao31 y433.length co31 : Value).ownBlock ∧ some k_ ≠ (v459 : Value).ownBlock ∧ some k_ ≠ (.slice Ao88 t464.length co88 : Value).ownBlock ∧ some k_ ≠ (.slice Ao91 t470.length co91 : Value).ownBlock) (fun _ => False) rfl rfl ?aO ?aR (fun _ _ h => h) (fun _ h => h.elim) ?aF ?aB ?aS ?aL ?_
               (case aR => repeat (first | exact (Kd.R_reads' HO472.1).2.2 | (with_reducible refine Kd.C_alloc ?_ _) | (with_reducible refine Kd.C_drewN ?_ _) | (with_reducible refine Kd.C_drew ?_)))
               (case aB => exact (by repeat (first | (with_reducible first | exact HB.1 | apply bAl | apply pbN | apply bD1 | refine bSt ?_ GE423.1) | exact HB.1)))
               (case aF => exact (fun k_ hk => ⟨Kd.fresh' (Kd.R_lt (by (with_reducible repeat first | apply rA0 | apply rN0 | apply rD0); exact HO_7.1)) k_ hk, Kd.fresh' (Kd.R_lt (by (with_reducible repeat first | apply rA0 | apply rN0 | apply rD0); exact HO460.1)) k_ hk, Kd.fresh' (Kd.R_lt (by (with_reducible repeat first | apply rA0 | apply rN0 | apply rD0); exact HO466.1)) k_ hk, Kd.fresh' (Kd.R_lt (by (with_reducible repeat first | apply rA0 | apply rN0 | apply rD0); exact HO472.1)) k_ hk⟩))
               (case aO => exact (by (with_reducible repeat first | apply rA0 | apply rN0 | apply rD0); exact Kd.R_mono HO469.1 (fun _ hk => ⟨hk.1.1, ⟨hk.1.2.1, ⟨hk.1.2.2, hk.2⟩⟩⟩)))
               (case aS => exact (bSz (by repeat (first | (with_reducible first | exact HB.1 | apply bAl | apply pbN | apply bD1 | refine bSt ?_ GE423.1) | exact HB.1))))
               (case aL => have := LMc61.1; omega)
               intro v474 w90 ho hb hg hat
               rw [← Ny473.1] at ho
               have n0_ := aM (Kd.R_after (ok := (fun k_ => some k_ ≠ (v459 : Value).ownBlock ∧ some k_ ≠ (.slice Ao88 t464.length co88 : Value).ownBlock ∧ some k_ ≠ (.slice Ao91 t470.length co91 : Value).ownBlock)) (by (with_reducible repeat first | apply rA0 | apply rN0 | apply rD0); exact Kd.R_mono HO_7.1 (fun _ hk => ⟨⟨hk.1.1.1, ⟨hk.1.1.2, hk.2⟩⟩, hk.1.2⟩)) hg hat)
               have n1_ := aM (blk_grown (g := gb423) (o := .cells #[.slice P0 q0.length n0, .slice P1 q1.length n1, .slice P2 q2.length n2, .slice P3 q3.length n3, .slice P4 q4.length n4, .slice P5 q5.length n5] 27 (0, 0)) (by (with_reducible repeat (first | refine bkN ?_ _ | refine bkD ?_ | refine bkA ?_ _)); exact BK423.1) hg (Kd.R_ne HO469.1 BK423.1 (by decide)))
               have n2_ := aM (Kd.R_after (ok := (fun k_ => some k_ ≠ (.slice Ao31 y433.length co31 : Value).ownBlock ∧ some k_ ≠ (.slice Ao88 t464.length co88 : Value).ownBlock ∧ some k_ ≠ (.slice Ao91 t470.length co91 : Value).ownBlock)) (by (with_reducible repeat first | apply rA0 | apply rN0 | apply rD0); exact Kd.R_mono HO460.1 (fun _ hk => ⟨⟨hk.1.1.1, ⟨hk.1.1.2, hk.2⟩⟩, hk.1.2⟩)) hg hat)
               have n3_ := aM (Kd.R_after (ok := (fun k_ => some k_ ≠ (.slice Ao31 y433.length co31 : Value).ownBlock ∧ some k_ ≠ (v459 : Value).ownBlock ∧ some k_ ≠ (.slice Ao91 t470.length co91 : Value).ownBlock)) (by (with_reducible repeat first | apply rA0 | apply rN0 | apply rD0); exact Kd.R_mono HO466.1 (fun _ hk => ⟨⟨hk.1.1.1, ⟨hk.1.1.2, hk.2⟩⟩, hk.1.2⟩)) hg hat)
               have n4_ := aM (Kd.R_after (ok := (fun k_ => some k_ ≠ (.slice Ao31 y433.length co31 : Value).ownBlock ∧ some k_ ≠ (v459 : Value).ownBlock ∧ some k_ ≠ (.slice Ao88 t464.length co88 : Value).ownBlock)) (by (with_reducible repeat first | apply rA0 | apply rN0 | apply rD0); exact Kd.R_mono HO472.1 (fun _ hk => ⟨⟨hk.1.1.1.2, ⟨hk.1.1.2, hk.1.2⟩⟩, hk.2⟩)) hg hat)
               have n5_ := aM (hb)
               have n6_ := aM (ho)
               clear HO_7
               clear BK423
               clear HO460
               clear HO466
               clear HO472
               clear HB
               clear HO469
               have HO_7 := n0_
               have BK423 := n1_
               have HO460 := n2_
               have HO466 := n3_
               have HO472 := n4_
               have HB := n5_
               have HO475 := n6_
               clear n0_ n1_ n2_ n3_ n4_ n5_ n6_
               clear ho hb hg hat
               obtain ⟨Ao92, co92, eo92⟩ := Kd.R_slice HO460.1
               (first | subst eo92 | (injection eo92 with f1_ f2_ f3_; have f4_ := f1_.symm; have f5_ := f3_.symm; clear f1_ f2_ f3_; subst f4_; subst f5_))
               obtain ⟨Ao93, co93, eo93⟩ := Kd.R_slice HO475.1
               (first | subst eo93 | (injection eo93 with f1_ f2_ f3_; have f4_ := f1_.symm; have f5_ := f3_.symm; clear f1_ f2_ f3_; subst f4_; subst f5_))
               refine hK.out _ _ (bk60 BK423.1) (fun hHeld => ?_)
               clear hK K
               refine norm_ (a' := ?_) ?_ ?_
               rotate_left
               ·show Act.put _ (some 70) _ = _
                simp only [Act.put, sI, sZ, sS, i64_w, i32_w]
                rfl
               refine one_ (i := 12) (N := some 71) #[true, true, true, true, true, true, true, true, true, true, true, true, true, false, false, false, false] rfl rfl (one_of HT_.1 (by kernel_rfl)) (by decide) (fun K hK => ?_)
               refine goes_ Try.func16 (by kernel_rfl) rfl #[.slice Ao92 t458.length co92, .slice Ao93 y473.length co93] (by rfl) rfl rfl (by (try simp only [List.map_toArray, List.map_cons, List.map_nil]); first | done | rfl | (simp only [List.length_drop, List.length_take]; rfl)) ?_
               with_reducible refine (r01_Equal.calls k2 _ _ t458 _ _ y473 false _ ?z1 ?z2 ?z3 ?z4 A62.1).mono ?_
               (case z1 => repeat (first | exact (Kd.R_reads' HO460.1).2.2 | (with_reducible refine Kd.C_alloc ?_ _) | (with_reducible refine Kd.C_drewN ?_ _) | (with_reducible refine Kd.C_drew ?_)))
               (case z2 => exact (Kd.R_reads' HO460.1).2.1)
               (case z3 => repeat (first | exact (Kd.R_reads' HO475.1).2.2 | (with_reducible refine Kd.C_alloc ?_ _) | (with_reducible refine Kd.C_drewN ?_ _) | (with_reducible refine Kd.C_drew ?_)))
               (case z4 => exact (Kd.R_reads' HO475.1).2.1)
               rintro e w' ⟨rfl, ⟨nd, rfl⟩⟩
               refine ⟨_, rfl, ?_⟩
               refine hK.out _ _ (bk60 BK423.1) (fun hHeld => ?_)
               clear hK K
               refine norm_ (a' := ?_) ?_ ?_
               rotate_left
               ·show Act.put _ (some 71) _ = _
                simp only [Act.put, sI, sZ, sS, i64_w, i32_w]
                rfl
               refine pure_ (i := 13) (N := some 72) (v := ?_) (a' := ?_) #[true, true, true, true, true, true, true, true, true, true, true, true, true, true, false, false, false] rfl rfl (any_of HT_.1 (by kernel_rfl)) (fun _ _ _ h => h) (Or.inl ⟨by rfl, ?_⟩) ?_ ?_
               rotate_left
               ·intro w'
                go_simp
                with_reducible rfl
               rotate_left
               ·simp only [Act.put, sI, sZ, sS, i64_w, i32_w]
                rfl
               refine pure_ (i := 14) (N := some 73) (v := undef) (a' := ?_) #[true, true, true, true, true, true, true, true, true, true, true, true, true, true, true, false, false] rfl rfl (any_of HT_.1 (by kernel_rfl)) (fun _ _ _ h => h) (Or.inr ⟨by rfl, rfl⟩) ?_ ?_
               rotate_left
               ·simp only [Act.put, sI, sZ, sS, i64_w, i32_w]
                rfl
               refine pure_ (i := 15) (N := some 74) (v := ?_) (a' := ?_) #[true, true, true, true, true, true, true, true, true, true, true, true, true, true, true, true, false] rfl rfl (any_of HT_.1 (by kernel_rfl)) (fun _ _ _ h => h) (Or.inl ⟨by rfl, ?_⟩) ?_ ?_
               rotate_left
               ·intro w'
                go_simp
                with_reducible rfl
               rotate_left
               ·simp only [Act.put, sI, sZ, sS, i64_w, i32_w]
                rfl
               refine pure_ (i := 16) (N := some 6) (v := ?_) (a' := ?_) #[true, true, true, true, true, true, true, true, true, true, true, true, true, true, true, true, true] rfl rfl (any_of HT_.1 (by kernel_rfl)) (fun _ _ _ h => h) (Or.inl ⟨by rfl, ?_⟩) ?_ ?_
               rotate_left
               ·intro w'
                go_simp
                with_reducible rfl
               rotate_left
               ·simp only [Act.put, sI, sZ, sS, i64_w, i32_w]
                rfl
               refine done_ (done_of HT_.1 (by kernel_rfl)) ?_
               try go_wp2
               go_ret
               exact ⟨by first | rfl | (simp [eN, eS] <;> rfl) | (simp [*, eN, eS] <;> rfl), by repeat (first | (with_reducible first | exact HB.1 | apply bAl | apply pbN | apply bD1 | refine bSt ?_ GE423.1) | exact HB.1)⟩
             ·rw [if_neg c61] at H
              exact absurd H (by simp)
            ·rw [if_neg c59] at H
             exact absurd H (by simp)
        ·replace c26 := Bool.eq_false_iff.mpr c26
         subst c26
         have H1 : (some false) = some r := by rw [if_neg (show ¬ (false = true) by decide)] at H; exact H
         clear H
         have H := H1
         clear H1
         obtain rfl := Option.some.inj H
         try go_wp2_with (first | ((with_reducible refine gate_dst (N := 20) rfl ?_); refine Kd.R_lit (Kd.int .i64) _ 3 ?hg (N := 20) ?hd (xs := ([] : List Int)) (inner := []) (ok := fun _ => True) (okp := fun _ => True) ?hr ?hp (fun _ hk => hk) trivial (Below.refl _ _) (Nat.le_refl _) (by simp) ?_; (case hd => rfl); (case hg => rfl); (case hr => first | (go_simp; done) | (go_simp; rfl)); (case hp => exact (Reps.none _ _)); intro v428 w94 ho95 hb hg_ hnew_; clear hg_ hnew_; (first | rw [← Ny427.1] at ho95 | (simp only [Int.reduceToNat] at ho95; rw [← Ny427.1] at ho95)); have n0_ := aM (Kd.R_lower ho95 (bSz (by repeat (first | (with_reducible first | exact HB.1 | apply bAl | apply pbN | apply bD1 | refine bSt ?_ GE423.1) | exact HB.1)))); have n1_ := aM (blk_below (g := gb423) (o := .cells #[.slice P0 q0.length n0, .slice P1 q1.length n1, .slice P2 q2.length n2, .slice P3 q3.length n3, .slice P4 q4.length n4, .slice P5 q5.length n5] 27 (0, 0)) (by (with_reducible repeat (first | refine bkN ?_ _ | refine bkD ?_ | refine bkA ?_ _)); exact BK423.1) hb); have n2_ := aM (bSp (by repeat (first | (with_reducible first | exact HB.1 | apply bAl | apply pbN | apply bD1 | refine bSt ?_ GE423.1) | exact HB.1)) hb); clear BK423; clear HB; have HO429 := n0_; have BK423 := n1_; have HB := n2_; clear n0_ n1_ n2_; clear hb ho95) | ((with_reducible refine gate_builtin (b := .append) (xs := #[.tmp 20, .tmp 21]) rfl ?_); at_builtin; refine Kd.R_append_rows (Kd.int .i64) (w0 := w) w.heap.size rfl (.tmp 20) (.tmp 21) 28 3 (.int .i64 0) 8 rfl Try.underlying28 info3 rfl (by decide) (by omega) v428 y427 l1 _ _ _ (fun _ => True) (fun _ => False) rfl rfl ?aO ?aR (fun _ _ h => h) (fun _ h => h.elim) ?aF ?aB ?aS ?aL ?_; (case aR => repeat (first | exact cB0 HR1.1 HB.1 | with_reducible first | refine cA0 ?_ _ | refine cN0 ?_ _ | refine cD0 ?_)); (case aB => exact (by repeat (first | (with_reducible first | exact HB.1 | apply bAl | apply pbN | apply bD1 | refine bSt ?_ GE423.1) | exact HB.1))); (case aF => exact (fun _ _ => trivial)); (case aO => exact (by (with_reducible repeat first | apply rA0 | apply rN0 | apply rD0); exact HO429.1)); (case aS => exact (bSz (by repeat (first | (with_reducible first | exact HB.1 | apply bAl | apply pbN | apply bD1 | refine bSt ?_ GE423.1) | exact HB.1)))); (case aL => have := LMc18.1; omega); intro v431 w96 ho hb hg hat; rw [← Ny430.1] at ho; have n0_ := aM (blk_grown (g := gb423) (o := .cells #[.slice P0 q0.length n0, .slice P1 q1.length n1, .slice P2 q2.length n2, .slice P3 q3.length n3, .slice P4 q4.length n4, .slice P5 q5.length n5] 27 (0, 0)) (by (with_reducible repeat (first | refine bkN ?_ _ | refine bkD ?_ | refine bkA ?_ _)); exact BK423.1) hg (Kd.R_ne HO429.1 BK423.1 (by decide))); have n1_ := aM (hb); have n2_ := aM (ho); clear BK423; clear HB; clear HO429; have BK423 := n0_; have HB := n1_; have HO432 := n2_; clear n0_ n1_ n2_; clear ho hb hg hat) | ((with_reducible refine gate_builtin (b := .append) (xs := #[.tmp 22, .tmp 23]) rfl ?_); at_builtin; refine Kd.R_append_rows (Kd.int .i64) (w0 := w) w.heap.size rfl (.tmp 22) (.tmp 23) 28 3 (.int .i64 0) 8 rfl Try.underlying28 info3 rfl (by decide) (by omega) v431 y430 l2 _ _ _ (fun _ => True) (fun _ => False) rfl rfl ?aO ?aR (fun _ _ h => h) (fun _ h => h.elim) ?aF ?aB ?aS ?aL ?_; (case aR => repeat (first | exact cB0 HR2.1 HB.1 | with_reducible first | refine cA0 ?_ _ | refine cN0 ?_ _ | refine cD0 ?_)); (case aB => exact (by repeat (first | (with_reducible first | exact HB.1 | apply bAl | apply pbN | apply bD1 | refine bSt ?_ GE423.1) | exact HB.1))); (case aF => exact (fun _ _ => trivial)); (case aO => exact (by (with_reducible repeat first | apply rA0 | apply rN0 | apply rD0); exact HO432.1)); (case aS => exact (bSz (by repeat (first | (with_reducible first | exact HB.1 | apply bAl | apply pbN | apply bD1 | refine bSt ?_ GE423.1) | exact HB.1)))); (case aL => have := LMc19.1; omega); intro v434 w97 ho hb hg hat; rw [← Ny433.1] at ho; have n0_ := aM (blk_grown (g := gb423) (o := .cells #[.slice P0 q0.length n0, .slice P1 q1.length n1, .slice P2 q2.length n2, .slice P3 q3.length n3, .slice P4 q4.length n4, .slice P5 q5.length n5] 27 (0, 0)) (by (with_reducible repeat (first | refine bkN ?_ _ | refine bkD ?_ | refine bkA ?_ _)); exact BK423.1) hg (Kd.R_ne HO432.1 BK423.1 (by decide))); have n1_ := aM (hb); have n2_ := aM (ho); clear BK423; clear HB; clear HO432; have BK423 := n0_; have HB := n1_; have HO435 := n2_; clear n0_ n1_ n2_; clear ho hb hg hat; obtain ⟨Ao98, co98, eo98⟩ := Kd.R_slice HO435.1; subst eo98))
         have n0_ := aM (Kd.R_drew HO435.1)
         have n1_ := aM (bkD BK423.1)
         have n2_ := aM (bD1 HB.1)
         clear HO435
         clear BK423
         clear HB
         have HO435 := n0_
         have BK423 := n1_
         have HB := n2_
         clear n0_ n1_ n2_
         refine start_ (n := 14) (S := fun w' => w'.cell? ⟨gb423, 0, none⟩ = some (.slice P0 q0.length n0) ∧ w'.cell? ⟨gb423, 1, none⟩ = some (.slice P1 q1.length n1) ∧ w'.cell? ⟨gb423, 2, none⟩ = some (.slice P2 q2.length n2) ∧ w'.cell? ⟨gb423, 3, none⟩ = some (.slice P3 q3.length n3) ∧ w'.cell? ⟨gb423, 4, none⟩ = some (.slice P4 q4.length n4) ∧ w'.cell? ⟨gb423, 5, none⟩ = some (.slice P5 q5.length n5)) (ds := []) #[false, false, false, false, false, false, false, false, false, false, false, false, false, false] (by kernel_rfl) rfl rfl (bk60 BK423.1) (fun hHeld => ?_); refine with_tabW w37_CasemapJoins.tab4 w37_CasemapJoins.bits4 (fun HT_ HW_ => ?_)
         generalize w97.drew = w99 at HO435 BK423 HB hHeld ⊢
         refine pure_ (i := 1) (N := some 26) (v := ?_) (a' := ?_) #[false, true, false, false, false, false, false, false, false, false, false, false, false, false] rfl rfl (any_of HT_.1 (by kernel_rfl)) (fun _ _ _ h => h) (Or.inl ⟨by rfl, ?_⟩) ?_ ?_
         rotate_left
         ·intro w'
          go_simp
          with_reducible rfl
         rotate_left
         ·simp only [Act.put, sI, sZ, sS, i64_w, i32_w]
          rfl
         refine pure_ (i := 5) (N := some 30) (v := ?_) (a' := ?_) #[false, true, false, false, false, true, false, false, false, false, false, false, false, false] rfl rfl (any_of HT_.1 (by kernel_rfl)) (fun _ _ _ h => h) (Or.inl ⟨by rfl, ?_⟩) ?_ ?_
         rotate_left
         ·intro w'
          go_simp
          with_reducible rfl
         rotate_left
         ·simp only [Act.put, sI, sZ, sS, i64_w, i32_w]
          rfl
         refine pure_ (i := 9) (N := some 34) (v := ?_) (a' := ?_) #[false, true, false, false, false, true, false, false, false, true, false, false, false, false] rfl rfl (any_of HT_.1 (by kernel_rfl)) (fun _ _ _ h => h) (Or.inl ⟨by rfl, ?_⟩) ?_ ?_
         rotate_left
         ·intro w'
          go_simp
          with_reducible rfl
         rotate_left
         ·simp only [Act.put, sI, sZ, sS, i64_w, i32_w]
          rfl
         refine take_ (i := 0) (N := some 25) (v := ?_) (a' := ?_) #[true, true, false, false, false, true, false, false, false, true, false, false, false, false] rfl rfl (take_ofW HT_.1 HW_.1 (by kernel_rfl)) (fun _ _ _ h => h) (Or.inl ⟨by rfl, ?_⟩) hHeld ?_ ?_
         rotate_left
         ·rintro w' ⟨s0, s1, s2, s3, s4, s5⟩
          go_simp
          with_reducible rfl
         rotate_left
         ·simp only [Act.put, sI, sZ, sS, i64_w, i32_w]
          rfl
         refine take_ (i := 4) (N := some 29) (v := ?_) (a' := ?_) #[true, true, false, false, true, true, false, false, false, true, false, false, false, false] rfl rfl (take_ofW HT_.1 HW_.1 (by kernel_rfl)) (fun _ _ _ h => h) (Or.inl ⟨by rfl, ?_⟩) hHeld ?_ ?_
         rotate_left
         ·rintro w' ⟨s0, s1, s2, s3, s4, s5⟩
          go_simp
          with_reducible rfl
         rotate_left
         ·simp only [Act.put, sI, sZ, sS, i64_w, i32_w]
          rfl
         refine take_ (i := 8) (N := some 33) (v := ?_) (a' := ?_) #[true, true, false, false, true, true, false, false, true, true, false, false, false, false] rfl rfl (take_ofW HT_.1 HW_.1 (by kernel_rfl)) (fun _ _ _ h => h) (Or.inl ⟨by rfl, ?_⟩) hHeld ?_ ?_
         rotate_left
         ·rintro w' ⟨s0, s1, s2, s3, s4, s5⟩
          go_simp
          with_reducible rfl
         rotate_left
         ·simp only [Act.put, sI, sZ, sS, i64_w, i32_w]
          rfl
         refine join_ (σ := Value × Value × Value) 5 #[true, true, true, true, true, true, true, false, true, true, false, false, false, false] (fun s_ => [(27, s_.1), (28, s_.2.1), (31, s_.2.2)]) (fun s_ w' => (w'.cell? ⟨gb423, 0, none⟩ = some (.slice P0 q0.length n0) ∧ w'.cell? ⟨gb423, 1, none⟩ = some (.slice P1 q1.length n1) ∧ w'.cell? ⟨gb423, 2, none⟩ = some (.slice P2 q2.length n2) ∧ w'.cell? ⟨gb423, 3, none⟩ = some (.slice P3 q3.length n3) ∧ w'.cell? ⟨gb423, 4, none⟩ = some (.slice P4 q4.length n4) ∧ w'.cell? ⟨gb423, 5, none⟩ = some (.slice P5 q5.length n5)) ∧ (Kd.R (Kd.int .i64) 3 w' w.heap.size (fun k_ => some k_ ≠ (s_.1 : Value).ownBlock ∧ some k_ ≠ (s_.2.1 : Value).ownBlock ∧ some k_ ≠ (s_.2.2 : Value).ownBlock) (.slice Ao98 y433.length co98) y433) ∧ (Kd.R (Kd.int .i64) 3 w' w.heap.size (fun k_ => some k_ ≠ (.slice Ao98 y433.length co98 : Value).ownBlock ∧ some k_ ≠ (s_.2.1 : Value).ownBlock ∧ some k_ ≠ (s_.2.2 : Value).ownBlock) s_.1 t436) ∧ (Kd.R (Kd.int .i64) 3 w' w.heap.size (fun k_ => some k_ ≠ (.slice Ao98 y433.length co98 : Value).ownBlock ∧ some k_ ≠ (s_.1 : Value).ownBlock ∧ some k_ ≠ (s_.2.2 : Value).ownBlock) s_.2.1 y439) ∧ (Kd.R (Kd.int .i64) 3 w' w.heap.size (fun k_ => some k_ ≠ (.slice Ao98 y433.length co98 : Value).ownBlock ∧ some k_ ≠ (s_.1 : Value).ownBlock ∧ some k_ ≠ (s_.2.1 : Value).ownBlock) s_.2.2 t442) ∧ (w'.heap[gb423]? = some (.cells #[.slice P0 q0.length n0, .slice P1 q1.length n1, .slice P2 q2.length n2, .slice P3 q3.length n3, .slice P4 q4.length n4, .slice P5 q5.length n5] 27 (0, 0))) ∧ (Below w.heap.size w w')) ?_ ?_
         rotate_left
         ·intro hCont
          refine two_ (i := 2) (j := 3) (Ni := some 27) (Nj := some 28) #[true, true, true, false, true, true, false, false, true, true, false, false, false, false] #[true, true, false, true, true, true, false, false, true, true, false, false, false, false] rfl rfl rfl rfl (two_of HT_.1 (by kernel_rfl)) (by decide) (by decide) (fun K hK => ?_) (fun K hK => ?_)
          ·skip
           refine goes_ Try.func19 (by kernel_rfl) rfl #[.agg #[.slice P0 q0.length n0, .slice P1 q1.length n1, .slice P2 q2.length n2, .slice P3 q3.length n3, .slice P4 q4.length n4, .slice P5 q5.length n5], .slice Ao98 y433.length co98] (by rfl) rfl rfl (by (try simp only [List.map_toArray, List.map_cons, List.map_nil]); first | done | rfl | (simp only [List.length_drop, List.length_take]; rfl)) ?_
           with_reducible refine (casemap_Upper.calls _ _ q0 _ _ q1 _ _ q2 _ _ q3 _ _ q4 _ _ q5 _ _ y433 t436 _ ?z1 ?z2 ?z3 ?z4 ?z5 ?z6 ?z7 ?z8 ?z9 ?z10 ?z11 ?z12 ?z13 ?z14 A20.1).mono ?_
           (case z1 => repeat (first | exact cB0 R0.1 HB.1 | with_reducible first | refine cA0 ?_ _ | refine cN0 ?_ _ | refine cD0 ?_))
           (case z2 => exact N0.1)
           (case z3 => repeat (first | exact cB0 R1.1 HB.1 | with_reducible first | refine cA0 ?_ _ | refine cN0 ?_ _ | refine cD0 ?_))
           (case z4 => exact N1.1)
           (case z5 => repeat (first | exact cB0 R2.1 HB.1 | with_reducible first | refine cA0 ?_ _ | refine cN0 ?_ _ | refine cD0 ?_))
           (case z6 => exact N2.1)
           (case z7 => repeat (first | exact cB0 R3.1 HB.1 | with_reducible first | refine cA0 ?_ _ | refine cN0 ?_ _ | refine cD0 ?_))
           (case z8 => exact N3.1)
           (case z9 => repeat (first | exact cB0 R4.1 HB.1 | with_reducible first | refine cA0 ?_ _ | refine cN0 ?_ _ | refine cD0 ?_))
           (case z10 => exact N4.1)
           (case z11 => repeat (first | exact cB0 R5.1 HB.1 | with_reducible first | refine cA0 ?_ _ | refine cN0 ?_ _ | refine cD0 ?_))
           (case z12 => exact N5.1)
           (case z13 => repeat (first | exact (Kd.R_reads' HO435.1).2.2 | (with_reducible refine Kd.C_alloc ?_ _) | (with_reducible refine Kd.C_drewN ?_ _) | (with_reducible refine Kd.C_drew ?_)))
           (case z14 => exact (Kd.R_reads' HO435.1).2.1)
           rintro e w100 ⟨v437, rfl, ho0, hb⟩
           refine ⟨_, rfl, ?_⟩
           have n0_ := aM (Kd.R_elder' (by (with_reducible repeat first | apply rA0 | apply rN0 | apply rD0); exact HO435.1) (Kd.R_base ho0) hb)
           have n1_ := aM (Kd.R_lower (Kd.R_new' ho0 (Kd.R_lt (by (with_reducible repeat first | apply rA0 | apply rN0 | apply rD0); exact HO435.1))) (bSz (by repeat (first | (with_reducible first | exact HB.1 | apply bAl | apply pbN | apply bD1 | refine bSt ?_ GE423.1) | exact HB.1))))
           have n2_ := aM (blk_below (g := gb423) (o := .cells #[.slice P0 q0.length n0, .slice P1 q1.length n1, .slice P2 q2.length n2, .slice P3 q3.length n3, .slice P4 q4.length n4, .slice P5 q5.length n5] 27 (0, 0)) (by (with_reducible repeat (first | refine bkN ?_ _ | refine bkD ?_ | refine bkA ?_ _)); exact BK423.1) hb)
           have n3_ := aM (bSp (by repeat (first | (with_reducible first | exact HB.1 | apply bAl | apply pbN | apply bD1 | refine bSt ?_ GE423.1) | exact HB.1)) hb)
           clear HO435
           clear BK423
           clear HB
           have HO435 := n0_
           have HO438 := n1_
           have BK423 := n2_
           have HB := n3_
           clear n0_ n1_ n2_ n3_
           (try clear hb)
           (try clear hb2)
           (try clear hk)
           (try clear hi)
           (try clear ho0)
           refine hK.out _ _ (bk60 BK423.1) (fun hHeld => ?_)
           clear hK K
           refine norm_ (a' := ?_) ?_ ?_
           rotate_left
           ·show Act.put _ (some 27) _ = _
            simp only [Act.put, sI, sZ, sS, i64_w, i32_w]
            rfl
           refine two_ (i := 3) (j := 6) (Ni := some 28) (Nj := some 31) #[true, true, true, true, true, true, false, false, true, true, false, false, false, false] #[true, true, true, false, true, true, true, false, true, true, false, false, false, false] rfl rfl rfl rfl (two_of HT_.1 (by kernel_rfl)) (by decide) (by decide) (fun K hK => ?_) (fun K hK => ?_)
           ·skip
            refine Kd.R_lit_step (Kd.int .i64) _ 3 ?hg (N := 28) ?hd (xs := ([] : List Int)) (inner := []) (ok := fun _ => True) (okp := fun _ => True) ?hr ?hp (fun _ hk => hk) trivial (Below.refl _ _) (Nat.le_refl _) (by simp) ?_; (case hd => rfl); (case hg => rfl); (case hr => first | (go_simp; done) | (go_simp; rfl)); (case hp => exact (Reps.none _ _))
            intro v440 w101 ho102 hb hg_ hnew_
            clear hg_ hnew_
            (first | rw [← Ny439.1] at ho102 | (simp only [Int.reduceToNat] at ho102; rw [← Ny439.1] at ho102))
            have n0_ := aM (Kd.R_elder' (by (with_reducible repeat first | apply rA0 | apply rN0 | apply rD0); exact HO435.1) (Kd.R_base ho102) hb)
            have n1_ := aM (Kd.R_elder' (by (with_reducible repeat first | apply rA0 | apply rN0 | apply rD0); exact HO438.1) (Kd.R_base ho102) hb)
            have n2_ := aM (Kd.R_lower (Kd.R_new' (Kd.R_new' ho102 (Kd.R_lt (by (with_reducible repeat first | apply rA0 | apply rN0 | apply rD0); exact HO435.1))) (Kd.R_lt (by (with_reducible repeat first | apply rA0 | apply rN0 | apply rD0); exact HO438.1))) (bSz (by repeat (first | (with_reducible first | exact HB.1 | apply bAl | apply pbN | apply bD1 | refine bSt ?_ GE423.1) | exact HB.1))))
            have n3_ := aM (blk_below (g := gb423) (o := .cells #[.slice P0 q0.length n0, .slice P1 q1.length n1, .slice P2 q2.length n2, .slice P3 q3.length n3, .slice P4 q4.length n4, .slice P5 q5.length n5] 27 (0, 0)) (by (with_reducible repeat (first | refine bkN ?_ _ | refine bkD ?_ | refine bkA ?_ _)); exact BK423.1) hb)
            have n4_ := aM (bSp (by repeat (first | (with_reducible first | exact HB.1 | apply bAl | apply pbN | apply bD1 | refine bSt ?_ GE423.1) | exact HB.1)) hb)
            clear HO435
            clear HO438
            clear BK423
            clear HB
            have HO435 := n0_
            have HO438 := n1_
            have HO441 := n2_
            have BK423 := n3_
            have HB := n4_
            clear n0_ n1_ n2_ n3_ n4_
            clear hb ho102
            refine hK.out _ _ (bk60 BK423.1) (fun hHeld => ?_)
            clear hK K
            refine norm_ (a' := ?_) ?_ ?_
            rotate_left
            ·show Act.put _ (some 28) _ = _
             simp only [Act.put, sI, sZ, sS, i64_w, i32_w]
             rfl
            refine one_ (i := 6) (N := some 31) #[true, true, true, true, true, true, true, false, true, true, false, false, false, false] rfl rfl (one_of HT_.1 (by kernel_rfl)) (by decide) (fun K hK => ?_)
            refine goes_ Try.func19 (by kernel_rfl) rfl #[.agg #[.slice P0 q0.length n0, .slice P1 q1.length n1, .slice P2 q2.length n2, .slice P3 q3.length n3, .slice P4 q4.length n4, .slice P5 q5.length n5], .slice A1 l1.length c1] (by rfl) rfl rfl (by (try simp only [List.map_toArray, List.map_cons, List.map_nil]); first | done | rfl | (simp only [List.length_drop, List.length_take]; rfl)) ?_
            with_reducible refine (casemap_Upper.calls _ _ q0 _ _ q1 _ _ q2 _ _ q3 _ _ q4 _ _ q5 _ _ l1 t442 _ ?z1 ?z2 ?z3 ?z4 ?z5 ?z6 ?z7 ?z8 ?z9 ?z10 ?z11 ?z12 ?z13 ?z14 A21.1).mono ?_
            (case z1 => repeat (first | exact cB0 R0.1 HB.1 | with_reducible first | refine cA0 ?_ _ | refine cN0 ?_ _ | refine cD0 ?_))
            (case z2 => exact N0.1)
            (case z3 => repeat (first | exact cB0 R1.1 HB.1 | with_reducible first | refine cA0 ?_ _ | refine cN0 ?_ _ | refine cD0 ?_))
            (case z4 => exact N1.1)
            (case z5 => repeat (first | exact cB0 R2.1 HB.1 | with_reducible first | refine cA0 ?_ _ | refine cN0 ?_ _ | refine cD0 ?_))
            (case z6 => exact N2.1)
            (case z7 => repeat (first | exact cB0 R3.1 HB.1 | with_reducible first | refine cA0 ?_ _ | refine cN0 ?_ _ | refine cD0 ?_))
            (case z8 => exact N3.1)
            (case z9 => repeat (first | exact cB0 R4.1 HB.1 | with_reducible first | refine cA0 ?_ _ | refine cN0 ?_ _ | refine cD0 ?_))
            (case z10 => exact N4.1)
            (case z11 => repeat (first | exact cB0 R5.1 HB.1 | with_reducible first | refine cA0 ?_ _ | refine cN0 ?_ _ | refine cD0 ?_))
            (case z12 => exact N5.1)
            (case z13 => repeat (first | exact cB0 HR1.1 HB.1 | with_reducible first | refine cA0 ?_ _ | refine cN0 ?_ _ | refine cD0 ?_))
            (case z14 => exact HC1.1)
            rintro e w103 ⟨v443, rfl, ho0, hb⟩
            refine ⟨_, rfl, ?_⟩
            have n0_ := aM (Kd.R_elder' (by (with_reducible repeat first | apply rA0 | apply rN0 | apply rD0); exact HO435.1) (Kd.R_base ho0) hb)
            have n1_ := aM (Kd.R_elder' (by (with_reducible repeat first | apply rA0 | apply rN0 | apply rD0); exact HO438.1) (Kd.R_base ho0) hb)
            have n2_ := aM (Kd.R_elder' (by (with_reducible repeat first | apply rA0 | apply rN0 | apply rD0); exact HO441.1) (Kd.R_base ho0) hb)
            have n3_ := aM (Kd.R_lower (Kd.R_new' (Kd.R_new' (Kd.R_new' ho0 (Kd.R_lt (by (with_reducible repeat first | apply rA0 | apply rN0 | apply rD0); exact HO435.1))) (Kd.R_lt (by (with_reducible repeat first | apply rA0 | apply rN0 | apply rD0); exact HO438.1))) (Kd.R_lt (by (with_reducible repeat first | apply rA0 | apply rN0 | apply rD0); exact HO441.1))) (bSz (by repeat (first | (with_reducible first | exact HB.1 | apply bAl | apply pbN | apply bD1 | refine bSt ?_ GE423.1) | exact HB.1))))
            have n4_ := aM (blk_below (g := gb423) (o := .cells #[.slice P0 q0.length n0, .slice P1 q1.length n1, .slice P2 q2.length n2, .slice P3 q3.length n3, .slice P4 q4.length n4, .slice P5 q5.length n5] 27 (0, 0)) (by (with_reducible repeat (first | refine bkN ?_ _ | refine bkD ?_ | refine bkA ?_ _)); exact BK423.1) hb)
            have n5_ := aM (bSp (by repeat (first | (with_reducible first | exact HB.1 | apply bAl | apply pbN | apply bD1 | refine bSt ?_ GE423.1) | exact HB.1)) hb)
            clear HO435
            clear HO438
            clear HO441
            clear BK423
            clear HB
            have HO435 := n0_
            have HO438 := n1_
            have HO441 := n2_
            have HO444 := n3_
            have BK423 := n4_
            have HB := n5_
            clear n0_ n1_ n2_ n3_ n4_ n5_
            (try clear hb)
            (try clear hb2)
            (try clear hk)
            (try clear hi)
            (try clear ho0)
            refine hK.out _ _ (bk60 BK423.1) (fun hHeld => ?_)
            clear hK K
            refine norm_ (a' := ?_) ?_ ?_
            rotate_left
            ·show Act.put _ (some 31) _ = _
             simp only [Act.put, sI, sZ, sS, i64_w, i32_w]
             rfl
            exact norm_ (by simp only [putAll, Act.put, sI, sZ, sS]) (hCont (v437, v440, v443) _ ⟨hHeld, (by (with_reducible repeat first | apply rA0 | apply rN0 | apply rD0); exact Kd.R_mono HO435.1 (fun _ hk => ⟨hk.1.1.2, ⟨hk.1.2, hk.2⟩⟩)), (by (with_reducible repeat first | apply rA0 | apply rN0 | apply rD0); exact Kd.R_mono HO438.1 (fun _ hk => ⟨hk.1.1.2, ⟨hk.1.2, hk.2⟩⟩)), (by (with_reducible repeat first | apply rA0 | apply rN0 | apply rD0); exact Kd.R_mono HO441.1 (fun _ hk => ⟨hk.1.1.2, ⟨hk.1.2, hk.2⟩⟩)), (by (with_reducible repeat first | apply rA0 | apply rN0 | apply rD0); exact Kd.R_mono HO444.1 (fun _ hk => ⟨hk.1.1.2, ⟨hk.1.2, hk.2⟩⟩)), (by (with_reducible repeat (first | refine bkN ?_ _ | refine bkD ?_ | refine bkA ?_ _)); exact BK423.1), (by repeat (first | (with_reducible first | exact HB.1 | apply bAl | apply pbN | apply bD1 | refine bSt ?_ GE423.1) | exact HB.1))⟩)
           ·skip
            refine goes_ Try.func19 (by kernel_rfl) rfl #[.agg #[.slice P0 q0.length n0, .slice P1 q1.length n1, .slice P2 q2.length n2, .slice P3 q3.length n3, .slice P4 q4.length n4, .slice P5 q5.length n5], .slice A1 l1.length c1] (by rfl) rfl rfl (by (try simp only [List.map_toArray, List.map_cons, List.map_nil]); first | done | rfl | (simp only [List.length_drop, List.length_take]; rfl)) ?_
            with_reducible refine (casemap_Upper.calls _ _ q0 _ _ q1 _ _ q2 _ _ q3 _ _ q4 _ _ q5 _ _ l1 t442 _ ?z1 ?z2 ?z3 ?z4 ?z5 ?z6 ?z7 ?z8 ?z9 ?z10 ?z11 ?z12 ?z13 ?z14 A21.1).mono ?_
            (case z1 => repeat (first | exact cB0 R0.1 HB.1 | with_reducible first | refine cA0 ?_ _ | refine cN0 ?_ _ | refine cD0 ?_))
            (case z2 => exact N0.1)
            (case z3 => repeat (first | exact cB0 R1.1 HB.1 | with_reducible first | refine cA0 ?_ _ | refine cN0 ?_ _ | refine cD0 ?_))
            (case z4 => exact N1.1)
            (case z5 => repeat (first | exact cB0 R2.1 HB.1 | with_reducible first | refine cA0 ?_ _ | refine cN0 ?_ _ | refine cD0 ?_))
            (case z6 => exact N2.1)
            (case z7 => repeat (first | exact cB0 R3.1 HB.1 | with_reducible first | refine cA0 ?_ _ | refine cN0 ?_ _ | refine cD0 ?_))
            (case z8 => exact N3.1)
            (case z9 => repeat (first | exact cB0 R4.1 HB.1 | with_reducible first | refine cA0 ?_ _ | refine cN0 ?_ _ | refine cD0 ?_))
            (case z10 => exact N4.1)
            (case z11 => repeat (first | exact cB0 R5.1 HB.1 | with_reducible first | refine cA0 ?_ _ | refine cN0 ?_ _ | refine cD0 ?_))
            (case z12 => exact N5.1)
            (case z13 => repeat (first | exact cB0 HR1.1 HB.1 | with_reducible first | refine cA0 ?_ _ | refine cN0 ?_ _ | refine cD0 ?_))
            (case z14 => exact HC1.1)
            rintro e w101 ⟨v443, rfl, ho0, hb⟩
            refine ⟨_, rfl, ?_⟩
            have n0_ := aM (Kd.R_elder' (by (with_reducible repeat first | apply rA0 | apply rN0 | apply rD0); exact HO435.1) (Kd.R_base ho0) hb)
            have n1_ := aM (Kd.R_elder' (by (with_reducible repeat first | apply rA0 | apply rN0 | apply rD0); exact HO438.1) (Kd.R_base ho0) hb)
            have n2_ := aM (Kd.R_lower (Kd.R_new' (Kd.R_new' ho0 (Kd.R_lt (by (with_reducible repeat first | apply rA0 | apply rN0 | apply rD0); exact HO435.1))) (Kd.R_lt (by (with_reducible repeat first | apply rA0 | apply rN0 | apply rD0); exact HO438.1))) (bSz (by repeat (first | (with_reducible first | exact HB.1 | apply bAl | apply pbN | apply bD1 | refine bSt ?_ GE423.1) | exact HB.1))))
            have n3_ := aM (blk_below (g := gb423) (o := .cells #[.slice P0 q0.length n0, .slice P1 q1.length n1, .slice P2 q2.length n2, .slice P3 q3.length n3, .slice P4 q4.length n4, .slice P5 q5.length n5] 27 (0, 0)) (by (with_reducible repeat (first | refine bkN ?_ _ | refine bkD ?_ | refine bkA ?_ _)); exact BK423.1) hb)
            have n4_ := aM (bSp (by repeat (first | (with_reducible first | exact HB.1 | apply bAl | apply pbN | apply bD1 | refine bSt ?_ GE423.1) | exact HB.1)) hb)
            clear HO435
            clear HO438
            clear BK423
            clear HB
            have HO435 := n0_
            have HO438 := n1_
            have HO444 := n2_
            have BK423 := n3_
            have HB := n4_
            clear n0_ n1_ n2_ n3_ n4_
            (try clear hb)
            (try clear hb2)
            (try clear hk)
            (try clear hi)
            (try clear ho0)
            refine hK.out _ _ (bk60 BK423.1) (fun hHeld => ?_)
            clear hK K
            refine norm_ (a' := ?_) ?_ ?_
            rotate_left
            ·show Act.put _ (some 31) _ = _
             simp only [Act.put, sI, sZ, sS, i64_w, i32_w]
             rfl
            refine one_ (i := 3) (N := some 28) #[true, true, true, true, true, true, true, false, true, true, false, false, false, false] rfl rfl (one_of HT_.1 (by kernel_rfl)) (by decide) (fun K hK => ?_)
            refine Kd.R_lit_step (Kd.int .i64) _ 3 ?hg (N := 28) ?hd (xs := ([] : List Int)) (inner := []) (ok := fun _ => True) (okp := fun _ => True) ?hr ?hp (fun _ hk => hk) trivial (Below.refl _ _) (Nat.le_refl _) (by simp) ?_; (case hd => rfl); (case hg => rfl); (case hr => first | (go_simp; done) | (go_simp; rfl)); (case hp => exact (Reps.none _ _))
            intro v440 w102 ho103 hb hg_ hnew_
            clear hg_ hnew_
            (first | rw [← Ny439.1] at ho103 | (simp only [Int.reduceToNat] at ho103; rw [← Ny439.1] at ho103))
            have n0_ := aM (Kd.R_elder' (by (with_reducible repeat first | apply rA0 | apply rN0 | apply rD0); exact HO435.1) (Kd.R_base ho103) hb)
            have n1_ := aM (Kd.R_elder' (by (with_reducible repeat first | apply rA0 | apply rN0 | apply rD0); exact HO438.1) (Kd.R_base ho103) hb)
            have n2_ := aM (Kd.R_elder' (by (with_reducible repeat first | apply rA0 | apply rN0 | apply rD0); exact HO444.1) (Kd.R_base ho103) hb)
            have n3_ := aM (Kd.R_lower (Kd.R_new' (Kd.R_new' (Kd.R_new' ho103 (Kd.R_lt (by (with_reducible repeat first | apply rA0 | apply rN0 | apply rD0); exact HO435.1))) (Kd.R_lt (by (with_reducible repeat first | apply rA0 | apply rN0 | apply rD0); exact HO438.1))) (Kd.R_lt (by (with_reducible repeat first | apply rA0 | apply rN0 | apply rD0); exact HO444.1))) (bSz (by repeat (first | (with_reducible first | exact HB.1 | apply bAl | apply pbN | apply bD1 | refine bSt ?_ GE423.1) | exact HB.1))))
            have n4_ := aM (blk_below (g := gb423) (o := .cells #[.slice P0 q0.length n0, .slice P1 q1.length n1, .slice P2 q2.length n2, .slice P3 q3.length n3, .slice P4 q4.length n4, .slice P5 q5.length n5] 27 (0, 0)) (by (with_reducible repeat (first | refine bkN ?_ _ | refine bkD ?_ | refine bkA ?_ _)); exact BK423.1) hb)
            have n5_ := aM (bSp (by repeat (first | (with_reducible first | exact HB.1 | apply bAl | apply pbN | apply bD1 | refine bSt ?_ GE423.1) | exact HB.1)) hb)
            clear HO435
            clear HO438
            clear HO444
            clear BK423
            clear HB
            have HO435 := n0_
            have HO438 := n1_
            have HO444 := n2_
            have HO441 := n3_
            have BK423 := n4_
            have HB := n5_
            clear n0_ n1_ n2_ n3_ n4_ n5_
            clear hb ho103
            refine hK.out _ _ (bk60 BK423.1) (fun hHeld => ?_)
            clear hK K
            refine norm_ (a' := ?_) ?_ ?_
            rotate_left
            ·show Act.put _ (some 28) _ = _
             simp only [Act.put, sI, sZ, sS, i64_w, i32_w]
             rfl
            exact norm_ (by simp only [putAll, Act.put, sI, sZ, sS]) (hCont (v437, v440, v443) _ ⟨hHeld, (by (with_reducible repeat first | apply rA0 | apply rN0 | apply rD0); exact Kd.R_mono HO435.1 (fun _ hk => ⟨hk.1.1.2, ⟨hk.2, hk.1.2⟩⟩)), (by (with_reducible repeat first | apply rA0 | apply rN0 | apply rD0); exact Kd.R_mono HO438.1 (fun _ hk => ⟨hk.1.1.2, ⟨hk.2, hk.1.2⟩⟩)), (by (with_reducible repeat first | apply rA0 | apply rN0 | apply rD0); exact Kd.R_mono HO441.1 (fun _ hk => ⟨hk.1.1.2, ⟨hk.1.2, hk.2⟩⟩)), (by (with_reducible repeat first | apply rA0 | apply rN0 | apply rD0); exact Kd.R_mono HO444.1 (fun _ hk => ⟨hk.1.1.2, ⟨hk.1.2, hk.2⟩⟩)), (by (with_reducible repeat (first | refine bkN ?_ _ | refine bkD ?_ | refine bkA ?_ _)); exact BK423.1), (by repeat (first | (with_reducible first | exact HB.1 | apply bAl | apply pbN | apply bD1 | refine bSt ?_ GE423.1) | exact HB.1))⟩)
          ·skip
           refine Kd.R_lit_step (Kd.int .i64) _ 3 ?hg (N := 28) ?hd (xs := ([] : List Int)) (inner := []) (ok := fun _ => True) (okp := fun _ => True) ?hr ?hp (fun _ hk => hk) trivial (Below.refl _ _) (Nat.le_refl _) (by simp) ?_; (case hd => rfl); (case hg => rfl); (case hr => first | (go_simp; done) | (go_simp; rfl)); (case hp => exact (Reps.none _ _))
           intro v440 w100 ho101 hb hg_ hnew_
           clear hg_ hnew_
           (first | rw [← Ny439.1] at ho101 | (simp only [Int.reduceToNat] at ho101; rw [← Ny439.1] at ho101))
           have n0_ := aM (Kd.R_elder' (by (with_reducible repeat first | apply rA0 | apply rN0 | apply rD0); exact HO435.1) (Kd.R_base ho101) hb)
           have n1_ := aM (Kd.R_lower (Kd.R_new' ho101 (Kd.R_lt (by (with_reducible repeat first | apply rA0 | apply rN0 | apply rD0); exact HO435.1))) (bSz (by repeat (first | (with_reducible first | exact HB.1 | apply bAl | apply pbN | apply bD1 | refine bSt ?_ GE423.1) | exact HB.1))))
           have n2_ := aM (blk_below (g := gb423) (o := .cells #[.slice P0 q0.length n0, .slice P1 q1.length n1, .slice P2 q2.length n2, .slice P3 q3.length n3, .slice P4 q4.length n4, .slice P5 q5.length n5] 27 (0, 0)) (by (with_reducible repeat (first | refine bkN ?_ _ | refine bkD ?_ | refine bkA ?_ _)); exact BK423.1) hb)
           have n3_ := aM (bSp (by repeat (first | (with_reducible first | exact HB.1 | apply bAl | apply pbN | apply bD1 | refine bSt ?_ GE423.1) | exact HB.1)) hb)
           clear HO435
           clear BK423
           clear HB
           have HO435 := n0_
           have HO441 := n1_
           have BK423 := n2_
           have HB := n3_
           clear n0_ n1_ n2_ n3_
           clear hb ho101
           refine hK.out _ _ (bk60 BK423.1) (fun hHeld => ?_)
           clear hK K
           refine norm_ (a' := ?_) ?_ ?_
           rotate_left
           ·show Act.put _ (some 28) _ = _
            simp only [Act.put, sI, sZ, sS, i64_w, i32_w]
            rfl
           refine one_ (i := 2) (N := some 27) #[true, true, true, true, true, true, false, false, true, true, false, false, false, false] rfl rfl (one_of HT_.1 (by kernel_rfl)) (by decide) (fun K hK => ?_)
           refine goes_ Try.func19 (by kernel_rfl) rfl #[.agg #[.slice P0 q0.length n0, .slice P1 q1.length n1, .slice P2 q2.length n2, .slice P3 q3.length n3, .slice P4 q4.length n4, .slice P5 q5.length n5], .slice Ao98 y433.length co98] (by rfl) rfl rfl (by (try simp only [List.map_toArray, List.map_cons, List.map_nil]); first | done | rfl | (simp only [List.length_drop, List.length_take]; rfl)) ?_
           with_reducible refine (casemap_Upper.calls _ _ q0 _ _ q1 _ _ q2 _ _ q3 _ _ q4 _ _ q5 _ _ y433 t436 _ ?z1 ?z2 ?z3 ?z4 ?z5 ?z6 ?z7 ?z8 ?z9 ?z10 ?z11 ?z12 ?z13 ?z14 A20.1).mono ?_
           (case z1 => repeat (first | exact cB0 R0.1 HB.1 | with_reducible first | refine cA0 ?_ _ | refine cN0 ?_ _ | refine cD0 ?_))
           (case z2 => exact N0.1)
           (case z3 => repeat (first | exact cB0 R1.1 HB.1 | with_reducible first | refine cA0 ?_ _ | refine cN0 ?_ _ | refine cD0 ?_))
           (case z4 => exact N1.1)
           (case z5 => repeat (first | exact cB0 R2.1 HB.1 | with_reducible first | refine cA0 ?_ _ | refine cN0 ?_ _ | refine cD0 ?_))
           (case z6 => exact N2.1)
           (case z7 => repeat (first | exact cB0 R3.1 HB.1 | with_reducible first | refine cA0 ?_ _ | refine cN0 ?_ _ | refine cD0 ?_))
           (case z8 => exact N3.1)
           (case z9 => repeat (first | exact cB0 R4.1 HB.1 | with_reducible first | refine cA0 ?_ _ | refine cN0 ?_ _ | refine cD0 ?_))
           (case z10 => exact N4.1)
           (case z11 => repeat (first | exact cB0 R5.1 HB.1 | with_reducible first | refine cA0 ?_ _ | refine cN0 ?_ _ | refine cD0 ?_))
           (case z12 => exact N5.1)
           (case z13 => repeat (first | exact (Kd.R_reads' HO435.1).2.2 | (with_reducible refine Kd.C_alloc ?_ _) | (with_reducible refine Kd.C_drewN ?_ _) | (with_reducible refine Kd.C_drew ?_)))
           (case z14 => exact (Kd.R_reads' HO435.1).2.1)
           rintro e w102 ⟨v437, rfl, ho0, hb⟩
           refine ⟨_, rfl, ?_⟩
           have n0_ := aM (Kd.R_elder' (by (with_reducible repeat first | apply rA0 | apply rN0 | apply rD0); exact HO435.1) (Kd.R_base ho0) hb)
           have n1_ := aM (Kd.R_elder' (by (with_reducible repeat first | apply rA0 | apply rN0 | apply rD0); exact HO441.1) (Kd.R_base ho0) hb)
           have n2_ := aM (Kd.R_lower (Kd.R_new' (Kd.R_new' ho0 (Kd.R_lt (by (with_reducible repeat first | apply rA0 | apply rN0 | apply rD0); exact HO435.1))) (Kd.R_lt (by (with_reducible repeat first | apply rA0 | apply rN0 | apply rD0); exact HO441.1))) (bSz (by repeat (first | (with_reducible first | exact HB.1 | apply bAl | apply pbN | apply bD1 | refine bSt ?_ GE423.1) | exact HB.1))))
           have n3_ := aM (blk_below (g := gb423) (o := .cells #[.slice P0 q0.length n0, .slice P1 q1.length n1, .slice P2 q2.length n2, .slice P3 q3.length n3, .slice P4 q4.length n4, .slice P5 q5.length n5] 27 (0, 0)) (by (with_reducible repeat (first | refine bkN ?_ _ | refine bkD ?_ | refine bkA ?_ _)); exact BK423.1) hb)
           have n4_ := aM (bSp (by repeat (first | (with_reducible first | exact HB.1 | apply bAl | apply pbN | apply bD1 | refine bSt ?_ GE423.1) | exact HB.1)) hb)
           clear HO435
           clear HO441
           clear BK423
           clear HB
           have HO435 := n0_
           have HO441 := n1_
           have HO438 := n2_
           have BK423 := n3_
           have HB := n4_
           clear n0_ n1_ n2_ n3_ n4_
           (try clear hb)
           (try clear hb2)
           (try clear hk)
           (try clear hi)
           (try clear ho0)
           refine hK.out _ _ (bk60 BK423.1) (fun hHeld => ?_)
           clear hK K
           refine norm_ (a' := ?_) ?_ ?_
           rotate_left
           ·show Act.put _ (some 27) _ = _
            simp only [Act.put, sI, sZ, sS, i64_w, i32_w]
            rfl
           refine one_ (i := 6) (N := some 31) #[true, true, true, true, true, true, true, false, true, true, false, false, false, false] rfl rfl (one_of HT_.1 (by kernel_rfl)) (by decide) (fun K hK => ?_)
           refine goes_ Try.func19 (by kernel_rfl) rfl #[.agg #[.slice P0 q0.length n0, .slice P1 q1.length n1, .slice P2 q2.length n2, .slice P3 q3.length n3, .slice P4 q4.length n4, .slice P5 q5.length n5], .slice A1 l1.length c1] (by rfl) rfl rfl (by (try simp only [List.map_toArray, List.map_cons, List.map_nil]); first | done | rfl | (simp only [List.length_drop, List.length_take]; rfl)) ?_
           with_reducible refine (casemap_Upper.calls _ _ q0 _ _ q1 _ _ q2 _ _ q3 _ _ q4 _ _ q5 _ _ l1 t442 _ ?z1 ?z2 ?z3 ?z4 ?z5 ?z6 ?z7 ?z8 ?z9 ?z10 ?z11 ?z12 ?z13 ?z14 A21.1).mono ?_
           (case z1 => repeat (first | exact cB0 R0.1 HB.1 | with_reducible first | refine cA0 ?_ _ | refine cN0 ?_ _ | refine cD0 ?_))
           (case z2 => exact N0.1)
           (case z3 => repeat (first | exact cB0 R1.1 HB.1 | with_reducible first | refine cA0 ?_ _ | refine cN0 ?_ _ | refine cD0 ?_))
           (case z4 => exact N1.1)
           (case z5 => repeat (first | exact cB0 R2.1 HB.1 | with_reducible first | refine cA0 ?_ _ | refine cN0 ?_ _ | refine cD0 ?_))
           (case z6 => exact N2.1)
           (case z7 => repeat (first | exact cB0 R3.1 HB.1 | with_reducible first | refine cA0 ?_ _ | refine cN0 ?_ _ | refine cD0 ?_))
           (case z8 => exact N3.1)
           (case z9 => repeat (first | exact cB0 R4.1 HB.1 | with_reducible first | refine cA0 ?_ _ | refine cN0 ?_ _ | refine cD0 ?_))
           (case z10 => exact N4.1)
           (case z11 => repeat (first | exact cB0 R5.1 HB.1 | with_reducible first | refine cA0 ?_ _ | refine cN0 ?_ _ | refine cD0 ?_))
           (case z12 => exact N5.1)
           (case z13 => repeat (first | exact cB0 HR1.1 HB.1 | with_reducible first | refine cA0 ?_ _ | refine cN0 ?_ _ | refine cD0 ?_))
           (case z14 => exact HC1.1)
           rintro e w103 ⟨v443, rfl, ho0, hb⟩
           refine ⟨_, rfl, ?_⟩
           have n0_ := aM (Kd.R_elder' (by (with_reducible repeat first | apply rA0 | apply rN0 | apply rD0); exact HO435.1) (Kd.R_base ho0) hb)
           have n1_ := aM (Kd.R_elder' (by (with_reducible repeat first | apply rA0 | apply rN0 | apply rD0); exact HO441.1) (Kd.R_base ho0) hb)
           have n2_ := aM (Kd.R_elder' (by (with_reducible repeat first | apply rA0 | apply rN0 | apply rD0); exact HO438.1) (Kd.R_base ho0) hb)
           have n3_ := aM (Kd.R_lower (Kd.R_new' (Kd.R_new' (Kd.R_new' ho0 (Kd.R_lt (by (with_reducible repeat first | apply rA0 | apply rN0 | apply rD0); exact HO435.1))) (Kd.R_lt (by (with_reducible repeat first | apply rA0 | apply rN0 | apply rD0); exact HO441.1))) (Kd.R_lt (by (with_reducible repeat first | apply rA0 | apply rN0 | apply rD0); exact HO438.1))) (bSz (by repeat (first | (with_reducible first | exact HB.1 | apply bAl | apply pbN | apply bD1 | refine bSt ?_ GE423.1) | exact HB.1))))
           have n4_ := aM (blk_below (g := gb423) (o := .cells #[.slice P0 q0.length n0, .slice P1 q1.length n1, .slice P2 q2.length n2, .slice P3 q3.length n3, .slice P4 q4.length n4, .slice P5 q5.length n5] 27 (0, 0)) (by (with_reducible repeat (first | refine bkN ?_ _ | refine bkD ?_ | refine bkA ?_ _)); exact BK423.1) hb)
           have n5_ := aM (bSp (by repeat (first | (with_reducible first | exact HB.1 | apply bAl | apply pbN | apply bD1 | refine bSt ?_ GE423.1) | exact HB.1)) hb)
           clear HO435
           clear HO441
           clear HO438
           clear BK423
           clear HB
           have HO435 := n0_
           have HO441 := n1_
           have HO438 := n2_
           have HO444 := n3_
           have BK423 := n4_
           have HB := n5_
           clear n0_ n1_ n2_ n3_ n4_ n5_
           (try clear hb)
           (try clear hb2)
           (try clear hk)
           (try clear hi)
           (try clear ho0)
           refine hK.out _ _ (bk60 BK423.1) (fun hHeld => ?_)
           clear hK K
           refine norm_ (a' := ?_) ?_ ?_
           rotate_left
           ·show Act.put _ (some 31) _ = _
            simp only [Act.put, sI, sZ, sS, i64_w, i32_w]
            rfl
           exact norm_ (by simp only [putAll, Act.put, sI, sZ, sS]) (hCont (v437, v440, v443) _ ⟨hHeld, (by (with_reducible repeat first | apply rA0 | apply rN0 | apply rD0); exact Kd.R_mono HO435.1 (fun _ hk => ⟨hk.1.2, ⟨hk.1.1.2, hk.2⟩⟩)), (by (with_reducible repeat first | apply rA0 | apply rN0 | apply rD0); exact Kd.R_mono HO438.1 (fun _ hk => ⟨hk.1.1.2, ⟨hk.1.2, hk.2⟩⟩)), (by (with_reducible repeat first | apply rA0 | apply rN0 | apply rD0); exact Kd.R_mono HO441.1 (fun _ hk => ⟨hk.1.1.2, ⟨hk.1.2, hk.2⟩⟩)), (by (with_reducible repeat first | apply rA0 | apply rN0 | apply rD0); exact Kd.R_mono HO444.1 (fun _ hk => ⟨hk.1.1.2, ⟨hk.2, hk.1.2⟩⟩)), (by (with_reducible repeat (first | refine bkN ?_ _ | refine bkD ?_ | refine bkA ?_ _)); exact BK423.1), (by repeat (first | (with_reducible first | exact HB.1 | apply bAl | apply pbN | apply bD1 | refine bSt ?_ GE423.1) | exact HB.1))⟩)
         rintro ⟨v437, v440, v443⟩ w104 ⟨hS_, h0_, h1_, h2_, h3_, h4_, h5_⟩
         have n0_ : Aside0 (Kd.R (Kd.int .i64) 3 w104 w.heap.size (fun k_ => some k_ ≠ (v437 : Value).ownBlock ∧ some k_ ≠ (v440 : Value).ownBlock ∧ some k_ ≠ (v443 : Value).ownBlock) (.slice Ao98 y433.length co98) y433) := ⟨h0_⟩
         have n1_ : Aside0 (Kd.R (Kd.int .i64) 3 w104 w.heap.size (fun k_ => some k_ ≠ (.slice Ao98 y433.length co98 : Value).ownBlock ∧ some k_ ≠ (v440 : Value).ownBlock ∧ some k_ ≠ (v443 : Value).ownBlock) v437 t436) := ⟨h1_⟩
         have n2_ : Aside0 (Kd.R (Kd.int .i64) 3 w104 w.heap.size (fun k_ => some k_ ≠ (.slice Ao98 y433.length co98 : Value).ownBlock ∧ some k_ ≠ (v437 : Value).ownBlock ∧ some k_ ≠ (v443 : Value).ownBlock) v440 y439) := ⟨h2_⟩
         have n3_ : Aside0 (Kd.R (Kd.int .i64) 3 w104 w.heap.size (fun k_ => some k_ ≠ (.slice Ao98 y433.length co98 : Value).ownBlock ∧ some k_ ≠ (v437 : Value).ownBlock ∧ some k_ ≠ (v440 : Value).ownBlock) v443 t442) := ⟨h3_⟩
         have n4_ : Aside0 (w104.heap[gb423]? = some (.cells #[.slice P0 q0.length n0, .slice P1 q1.length n1, .slice P2 q2.length n2, .slice P3 q3.length n3, .slice P4 q4.length n4, .slice P5 q5.length n5] 27 (0, 0))) := ⟨h4_⟩
         have n5_ : Aside0 (Below w.heap.size w w104) := ⟨h5_⟩
         clear HO435
         clear BK423
         clear HB
         clear h0_ h1_ h2_ h3_ h4_ h5_
         have HO435 := n0_
         have HO438 := n1_
         have HO441 := n2_
         have HO444 := n3_
         have BK423 := n4_
         have HB := n5_
         clear n0_ n1_ n2_ n3_ n4_ n5_
         have hHeld : w104.cell? ⟨gb423, 0, none⟩ = some (.slice P0 q0.length n0) ∧ w104.cell? ⟨gb423, 1, none⟩ = some (.slice P1 q1.length n1) ∧ w104.cell? ⟨gb423, 2, none⟩ = some (.slice P2 q2.length n2) ∧ w104.cell? ⟨gb423, 3, none⟩ = some (.slice P3 q3.length n3) ∧ w104.cell? ⟨gb423, 4, none⟩ = some (.slice P4 q4.length n4) ∧ w104.cell? ⟨gb423, 5, none⟩ = some (.slice P5 q5.length n5) := hS_
         obtain ⟨Ao106, co106, eo106⟩ := Kd.R_slice HO444.1
         (first | subst eo106 | (injection eo106 with f1_ f2_ f3_; have f4_ := f1_.symm; have f5_ := f3_.symm; clear f1_ f2_ f3_; subst f4_; subst f5_))
         refine norm_ (a' := ?_) ?_ ?_
         rotate_left
         ·simp only [putAll, Act.put, sI, sZ, sS]
          rfl
         refine one_ (i := 7) (N := some 32) #[true, true, true, true, true, true, true, true, true, true, false, false, false, false] rfl rfl (one_of HT_.1 (by kernel_rfl)) (by decide) (fun K hK => ?_)
         refine Kd.R_append_rows_step (Kd.int .i64) (w0 := w) w.heap.size (by rfl) (.tmp 28) (.tmp 31) 28 3 (.int .i64 0) 8 rfl Try.underlying28 info3 rfl (by decide) (by omega) v440 y439 t442 _ _ _ (fun k_ => some k_ ≠ (.slice Ao98 y433.length co98 : Value).ownBlock ∧ some k_ ≠ (v437 : Value).ownBlock ∧ some k_ ≠ (.slice Ao106 t442.length co106 : Value).ownBlock) (fun _ => False) rfl rfl ?aO ?aR (fun _ _ h => h) (fun _ h => h.elim) ?aF ?aB ?aS ?aL ?_
         (case aR => repeat (first | exact (Kd.R_reads' HO444.1).2.2 | (with_reducible refine Kd.C_alloc ?_ _) | (with_reducible refine Kd.C_drewN ?_ _) | (with_reducible refine Kd.C_drew ?_)))
         (case aB => exact (by repeat (first | (with_reducible first | exact HB.1 | apply bAl | apply pbN | apply bD1 | refine bSt ?_ GE423.1) | exact HB.1)))
         (case aF => exact (fun k_ hk => ⟨Kd.fresh' (Kd.R_lt (by (with_reducible repeat first | apply rA0 | apply rN0 | apply rD0); exact HO435.1)) k_ hk, Kd.fresh' (Kd.R_lt (by (with_reducible repeat first | apply rA0 | apply rN0 | apply rD0); exact HO438.1)) k_ hk, Kd.fresh' (Kd.R_lt (by (with_reducible repeat first | apply rA0 | apply rN0 | apply rD0); exact HO444.1)) k_ hk⟩))
         (case aO => exact (by (with_reducible repeat first | apply rA0 | apply rN0 | apply rD0); exact HO441.1))
         (case aS => exact (bSz (by repeat (first | (with_reducible first | exact HB.1 | apply bAl | apply pbN | apply bD1 | refine bSt ?_ GE423.1) | exact HB.1))))
         (case aL => have := LMc22.1; omega)
         intro v446 w105 ho hb hg hat
         rw [← Ny445.1] at ho
         have n0_ := aM (blk_grown (g := gb423) (o := .cells #[.slice P0 q0.length n0, .slice P1 q1.length n1, .slice P2 q2.length n2, .slice P3 q3.length n3, .slice P4 q4.length n4, .slice P5 q5.length n5] 27 (0, 0)) (by (with_reducible repeat (first | refine bkN ?_ _ | refine bkD ?_ | refine bkA ?_ _)); exact BK423.1) hg (Kd.R_ne HO441.1 BK423.1 (by decide)))
         have n1_ := aM (Kd.R_after (ok := (fun k_ => some k_ ≠ (v437 : Value).ownBlock ∧ some k_ ≠ (.slice Ao106 t442.length co106 : Value).ownBlock)) (by (with_reducible repeat first | apply rA0 | apply rN0 | apply rD0); exact Kd.R_mono HO435.1 (fun _ hk => ⟨⟨hk.1, hk.2.2⟩, hk.2.1⟩)) hg hat)
         have n2_ := aM (Kd.R_after (ok := (fun k_ => some k_ ≠ (.slice Ao98 y433.length co98 : Value).ownBlock ∧ some k_ ≠ (.slice Ao106 t442.length co106 : Value).ownBlock)) (by (with_reducible repeat first | apply rA0 | apply rN0 | apply rD0); exact Kd.R_mono HO438.1 (fun _ hk => ⟨⟨hk.1, hk.2.2⟩, hk.2.1⟩)) hg hat)
         have n3_ := aM (Kd.R_after (ok := (fun k_ => some k_ ≠ (.slice Ao98 y433.length co98 : Value).ownBlock ∧ some k_ ≠ (v437 : Value).ownBlock)) (by (with_reducible repeat first | apply rA0 | apply rN0 | apply rD0); exact Kd.R_mono HO444.1 (fun _ hk => ⟨⟨hk.1, hk.2.1⟩, hk.2.2⟩)) hg hat)
         have n4_ := aM (hb)
         have n5_ := aM (ho)
         clear BK423
         clear HO435
         clear HO438
         clear HO444
         clear HB
         clear HO441
         have BK423 := n0_
         have HO435 := n1_
         have HO438 := n2_
         have HO444 := n3_
         have HB := n4_
         have HO447 := n5_
         clear n0_ n1_ n2_ n3_ n4_ n5_
         clear ho hb hg hat
         refine hK.out _ _ (bk60 BK423.1) (fun hHeld => ?_)
         clear hK K
         refine norm_ (a' := ?_) ?_ ?_
         rotate_left
         ·show Act.put _ (some 32) _ = _
          simp only [Act.put, sI, sZ, sS, i64_w, i32_w]
          rfl
         refine one_ (i := 10) (N := some 35) #[true, true, true, true, true, true, true, true, true, true, true, false, false, false] rfl rfl (one_of HT_.1 (by kernel_rfl)) (by decide) (fun K hK => ?_)
         refine goes_ Try.func19 (by kernel_rfl) rfl #[.agg #[.slice P0 q0.length n0, .slice P1 q1.length n1, .slice P2 q2.length n2, .slice P3 q3.length n3, .slice P4 q4.length n4, .slice P5 q5.length n5], .slice A2 l2.length c2] (by rfl) rfl rfl (by (try simp only [List.map_toArray, List.map_cons, List.map_nil]); first | done | rfl | (simp only [List.length_drop, List.length_take]; rfl)) ?_
         with_reducible refine (casemap_Upper.calls _ _ q0 _ _ q1 _ _ q2 _ _ q3 _ _ q4 _ _ q5 _ _ l2 t448 _ ?z1 ?z2 ?z3 ?z4 ?z5 ?z6 ?z7 ?z8 ?z9 ?z10 ?z11 ?z12 ?z13 ?z14 A23.1).mono ?_
         (case z1 => repeat (first | exact cB0 R0.1 HB.1 | with_reducible first | refine cA0 ?_ _ | refine cN0 ?_ _ | refine cD0 ?_))
         (case z2 => exact N0.1)
         (case z3 => repeat (first | exact cB0 R1.1 HB.1 | with_reducible first | refine cA0 ?_ _ | refine cN0 ?_ _ | refine cD0 ?_))
         (case z4 => exact N1.1)
         (case z5 => repeat (first | exact cB0 R2.1 HB.1 | with_reducible first | refine cA0 ?_ _ | refine cN0 ?_ _ | refine cD0 ?_))
         (case z6 => exact N2.1)
         (case z7 => repeat (first | exact cB0 R3.1 HB.1 | with_reducible first | refine cA0 ?_ _ | refine cN0 ?_ _ | refine cD0 ?_))
         (case z8 => exact N3.1)
         (case z9 => repeat (first | exact cB0 R4.1 HB.1 | with_reducible first | refine cA0 ?_ _ | refine cN0 ?_ _ | refine cD0 ?_))
         (case z10 => exact N4.1)
         (case z11 => repeat (first | exact cB0 R5.1 HB.1 | with_reducible first | refine cA0 ?_ _ | refine cN0 ?_ _ | refine cD0 ?_))
         (case z12 => exact N5.1)
         (case z13 => repeat (first | exact cB0 HR2.1 HB.1 | with_reducible first | refine cA0 ?_ _ | refine cN0 ?_ _ | refine cD0 ?_))
         (case z14 => exact HC2.1)
         rintro e w107 ⟨v449, rfl, ho0, hb⟩
         refine ⟨_, rfl, ?_⟩
         have n0_ := aM (Kd.R_elder' (by (with_reducible repeat first | apply rA0 | apply rN0 | apply rD0); exact HO435.1) (Kd.R_base ho0) hb)
         have n1_ := aM (Kd.R_elder' (by (with_reducible repeat first | apply rA0 | apply rN0 | apply rD0); exact HO438.1) (Kd.R_base ho0) hb)
         have n2_ := aM (Kd.R_elder' (by (with_reducible repeat first | apply rA0 | apply rN0 | apply rD0); exact HO444.1) (Kd.R_base ho0) hb)
         have n3_ := aM (Kd.R_elder' (by (with_reducible repeat first | apply rA0 | apply rN0 | apply rD0); exact HO447.1) (Kd.R_base ho0) hb)
         have n4_ := aM (Kd.R_lower (Kd.R_new' (Kd.R_new' (Kd.R_new' (Kd.R_new' ho0 (Kd.R_lt (by (with_reducible repeat first | apply rA0 | apply rN0 | apply rD0); exact HO435.1))) (Kd.R_lt (by (with_reducible repeat first | apply rA0 | apply rN0 | apply rD0); exact HO438.1))) (Kd.R_lt (by (with_reducible repeat first | apply rA0 | apply rN0 | apply rD0); exact HO444.1))) (Kd.R_lt (by (with_reducible repeat first | apply rA0 | apply rN0 | apply rD0); exact HO447.1))) (bSz (by repeat (first | (with_reducible first | exact HB.1 | apply bAl | apply pbN | apply bD1 | refine bSt ?_ GE423.1) | exact HB.1))))
         have n5_ := aM (blk_below (g := gb423) (o := .cells #[.slice P0 q0.length n0, .slice P1 q1.length n1, .slice P2 q2.length n2, .slice P3 q3.length n3, .slice P4 q4.length n4, .slice P5 q5.length n5] 27 (0, 0)) (by (with_reducible repeat (first | refine bkN ?_ _ | refine bkD ?_ | refine bkA ?_ _)); exact BK423.1) hb)
         have n6_ := aM (bSp (by repeat (first | (with_reducible first | exact HB.1 | apply bAl | apply pbN | apply bD1 | refine bSt ?_ GE423.1) | exact HB.1)) hb)
         clear HO435
         clear HO438
         clear HO444
         clear HO447
         clear BK423
         clear HB
         have HO435 := n0_
         have HO438 := n1_
         have HO444 := n2_
         have HO447 := n3_
         have HO450 := n4_
         have BK423 := n5_
         have HB := n6_
         clear n0_ n1_ n2_ n3_ n4_ n5_ n6_
         (try clear hb)
         (try clear hb2)
         (try clear hk)
         (try clear hi)
         (try clear ho0)
         obtain ⟨Ao109, co109, eo109⟩ := Kd.R_slice HO450.1
         (first | subst eo109 | (injection eo109 with f1_ f2_ f3_; have f4_ := f1_.symm; have f5_ := f3_.symm; clear f1_ f2_ f3_; subst f4_; subst f5_))
         refine hK.out _ _ (bk60 BK423.1) (fun hHeld => ?_)
         clear hK K
         refine norm_ (a' := ?_) ?_ ?_
         rotate_left
         ·show Act.put _ (some 35) _ = _
          simp only [Act.put, sI, sZ, sS, i64_w, i32_w]
          rfl
         refine one_ (i := 11) (N := some 36) #[true, true, true, true, true, true, true, true, true, true, true, true, false, false] rfl rfl (one_of HT_.1 (by kernel_rfl)) (by decide) (fun K hK => ?_)
         refine Kd.R_append_rows_step (Kd.int .i64) (w0 := w) w.heap.size (by rfl) (.tmp 32) (.tmp 35) 28 3 (.int .i64 0) 8 rfl Try.underlying28 info3 rfl (by decide) (by omega) v446 y445 t448 _ _ _ (fun k_ => some k_ ≠ (.slice Ao98 y433.length co98 : Value).ownBlock ∧ some k_ ≠ (v437 : Value).ownBlock ∧ some k_ ≠ (.slice Ao106 t442.length co106 : Value).ownBlock ∧ some k_ ≠ (.slice Ao109 t448.length co109 : Value).ownBlock) (fun _ => False) rfl rfl ?aO ?aR (fun _ _ h => h) (fun _ h => h.elim) ?aF ?aB ?aS ?aL ?_
         (case aR => repeat (first | exact (Kd.R_reads' HO450.1).2.2 | (with_reducible refine Kd.C_alloc ?_ _) | (with_reducible refine Kd.C_drewN ?_ _) | (with_reducible refine Kd.C_drew ?_)))
         (case aB => exact (by repeat (first | (with_reducible first | exact HB.1 | apply bAl | apply pbN | apply bD1 | refine bSt ?_ GE423.1) | exact HB.1)))
         (case aF => exact (fun k_ hk => ⟨Kd.fresh' (Kd.R_lt (by (with_reducible repeat first | apply rA0 | apply rN0 | apply rD0); exact HO435.1)) k_ hk, Kd.fresh' (Kd.R_lt (by (with_reducible repeat first | apply rA0 | apply rN0 | apply rD0); exact HO438.1)) k_ hk, Kd.fresh' (Kd.R_lt (by (with_reducible repeat first | apply rA0 | apply rN0 | apply rD0); exact HO444.1)) k_ hk, Kd.fresh' (Kd.R_lt (by (with_reducible repeat first | apply rA0 | apply rN0 | apply rD0); exact HO450.1)) k_ hk⟩))
         (case aO => exact (by (with_reducible repeat first | apply rA0 | apply rN0 | apply rD0); exact Kd.R_mono HO447.1 (fun _ hk => ⟨hk.1.1, ⟨hk.1.2.1, ⟨hk.1.2.2, hk.2⟩⟩⟩)))
         (case aS => exact (bSz (by repeat (first | (with_reducible first | exact HB.1 | apply bAl | apply pbN | apply bD1 | refine bSt ?_ GE423.1) | exact HB.1))))
         (case aL => have := LMc24.1; omega)
         intro v452 w108 ho hb hg hat
         rw [← Ny451.1] at ho
         have n0_ := aM (blk_grown (g := gb423) (o := .cells #[.slice P0 q0.length n0, .slice P1 q1.length n1, .slice P2 q2.length n2, .slice P3 q3.length n3, .slice P4 q4.length n4, .slice P5 q5.length n5] 27 (0, 0)) (by (with_reducible repeat (first | refine bkN ?_ _ | refine bkD ?_ | refine bkA ?_ _)); exact BK423.1) hg (Kd.R_ne HO447.1 BK423.1 (by decide)))
         have n1_ := aM (Kd.R_after (ok := (fun k_ => some k_ ≠ (v437 : Value).ownBlock ∧ some k_ ≠ (.slice Ao106 t442.length co106 : Value).ownBlock ∧ some k_ ≠ (.slice Ao109 t448.length co109 : Value).ownBlock)) (by (with_reducible repeat first | apply rA0 | apply rN0 | apply rD0); exact Kd.R_mono HO435.1 (fun _ hk => ⟨⟨hk.1.1.1, ⟨hk.1.1.2, hk.2⟩⟩, hk.1.2⟩)) hg hat)
         have n2_ := aM (Kd.R_after (ok := (fun k_ => some k_ ≠ (.slice Ao98 y433.length co98 : Value).ownBlock ∧ some k_ ≠ (.slice Ao106 t442.length co106 : Value).ownBlock ∧ some k_ ≠ (.slice Ao109 t448.length co109 : Value).ownBlock)) (by (with_reducible repeat first | apply rA0 | apply rN0 | apply rD0); exact Kd.R_mono HO438.1 (fun _ hk => ⟨⟨hk.1.1.1, ⟨hk.1.1.2, hk.2⟩⟩, hk.1.2⟩)) hg hat)
         have n3_ := aM (Kd.R_after (ok := (fun k_ => some k_ ≠ (.slice Ao98 y433.length co98 : Value).ownBlock ∧ some k_ ≠ (v437 : Value).ownBlock ∧ some k_ ≠ (.slice Ao109 t448.length co109 : Value).ownBlock)) (by (with_reducible repeat first | apply rA0 | apply rN0 | apply rD0); exact Kd.R_mono HO444.1 (fun _ hk => ⟨⟨hk.1.1.1, ⟨hk.1.1.2, hk.2⟩⟩, hk.1.2⟩)) hg hat)
         have n4_ := aM (Kd.R_after (ok := (fun k_ => some k_ ≠ (.slice Ao98 y433.length co98 : Value).ownBlock ∧ some k_ ≠ (v437 : Value).ownBlock ∧ some k_ ≠ (.slice Ao106 t442.length co106 : Value).ownBlock)) (by (with_reducible repeat first | apply rA0 | apply rN0 | apply rD0); exact Kd.R_mono HO450.1 (fun _ hk => ⟨⟨hk.1.1.1.2, ⟨hk.1.1.2, hk.1.2⟩⟩, hk.2⟩)) hg hat)
         have n5_ := aM (hb)
         have n6_ := aM (ho)
         clear BK423
         clear HO435
         clear HO438
         clear HO444
         clear HO450
         clear HB
         clear HO447
         have BK423 := n0_
         have HO435 := n1_
         have HO438 := n2_
         have HO444 := n3_
         have HO450 := n4_
         have HB := n5_
         have HO453 := n6_
         clear n0_ n1_ n2_ n3_ n4_ n5_ n6_
         clear ho hb hg hat
         obtain ⟨Ao110, co110, eo110⟩ := Kd.R_slice HO438.1
         (first | subst eo110 | (injection eo110 with f1_ f2_ f3_; have f4_ := f1_.symm; have f5_ := f3_.symm; clear f1_ f2_ f3_; subst f4_; subst f5_))
         obtain ⟨Ao111, co111, eo111⟩ := Kd.R_slice HO453.1
         (first | subst eo111 | (injection eo111 with f1_ f2_ f3_; have f4_ := f1_.symm; have f5_ := f3_.symm; clear f1_ f2_ f3_; subst f4_; subst f5_))
         refine hK.out _ _ (bk60 BK423.1) (fun hHeld => ?_)
         clear hK K
         refine norm_ (a' := ?_) ?_ ?_
         rotate_left
         ·show Act.put _ (some 36) _ = _
          simp only [Act.put, sI, sZ, sS, i64_w, i32_w]
          rfl
         refine one_ (i := 12) (N := some 37) #[true, true, true, true, true, true, true, true, true, true, true, true, true, false] rfl rfl (one_of HT_.1 (by kernel_rfl)) (by decide) (fun K hK => ?_)
         refine goes_ Try.func16 (by kernel_rfl) rfl #[.slice Ao110 t436.length co110, .slice Ao111 y451.length co111] (by rfl) rfl rfl (by (try simp only [List.map_toArray, List.map_cons, List.map_nil]); first | done | rfl | (simp only [List.length_drop, List.length_take]; rfl)) ?_
         with_reducible refine (r01_Equal.calls kj3 _ _ t436 _ _ y451 false _ ?z1 ?z2 ?z3 ?z4 A25.1).mono ?_
         (case z1 => repeat (first | exact (Kd.R_reads' HO438.1).2.2 | (with_reducible refine Kd.C_alloc ?_ _) | (with_reducible refine Kd.C_drewN ?_ _) | (with_reducible refine Kd.C_drew ?_)))
         (case z2 => exact (Kd.R_reads' HO438.1).2.1)
         (case z3 => repeat (first | exact (Kd.R_reads' HO453.1).2.2 | (with_reducible refine Kd.C_alloc ?_ _) | (with_reducible refine Kd.C_drewN ?_ _) | (with_reducible refine Kd.C_drew ?_)))
         (case z4 => exact (Kd.R_reads' HO453.1).2.1)
         rintro e w' ⟨rfl, ⟨nd, rfl⟩⟩
         refine ⟨_, rfl, ?_⟩
         refine hK.out _ _ (bk60 BK423.1) (fun hHeld => ?_)
         clear hK K
         refine norm_ (a' := ?_) ?_ ?_
         rotate_left
         ·show Act.put _ (some 37) _ = _
          simp only [Act.put, sI, sZ, sS, i64_w, i32_w]
          rfl
         refine pure_ (i := 13) (N := some 38) (v := ?_) (a' := ?_) #[true, true, true, true, true, true, true, true, true, true, true, true, true, true] rfl rfl (any_of HT_.1 (by kernel_rfl)) (fun _ _ _ h => h) (Or.inl ⟨by rfl, ?_⟩) ?_ ?_
         rotate_left
         ·intro w'
          go_simp
          with_reducible rfl
         rotate_left
         ·simp only [Act.put, sI, sZ, sS, i64_w, i32_w]
          rfl
         refine done_ (done_of HT_.1 (by kernel_rfl)) ?_
         try go_wp2
         go_ret
         exact ⟨by first | rfl | (simp [eN, eS] <;> rfl) | (simp [*, eN, eS] <;> rfl), by repeat (first | (with_reducible first | exact HB.1 | apply bAl | apply pbN | apply bD1 | refine bSt ?_ GE423.1) | exact HB.1)⟩
       ·rw [if_neg c24] at H
        exact absurd H (by simp)
      ·rw [if_neg c22] at H
       exact absurd H (by simp)
     ·rw [if_neg c19] at H
      exact absurd H (by simp)
    ·rw [if_neg c18] at H
     exact absurd H (by simp)
end Go.Proofs.Ythnkmcfhpjmihaa.Q
end
