/- Lemmas, printed and written for this claim: part 8. -/
import Derived.WalkKit
import Derived.Test.YtcpicopaobhlcaaG2
import Derived.Test.YtcpicopaobhlcaaG5
import Derived.Test.YtcpicopaobhlcaaG3
import Derived.Test.YtcpicopaobhlcaaG4
import Derived.Test.YtcpicopaobhlcaaG7
import Derived.Test.YtcpicopaobhlcaaG6
section
namespace Go.Proofs.Ytcpicopaobhlcaa.Q
open Go.RowKit Go.Proofs.YtcpicopaobhlcaaW.PrintWords Go.Proofs.YtcpicopaobhlcaaW.PrintLast Go.Proofs.YtcpicopaobhlcaaW.PrintMore
set_option linter.unusedVariables false
def plFewS (l : List St) : Prop := l.length ≤ 20 ∧ ∀ s ∈ l, s.f0.length ≤ 12
def plFewU (x : Ru) : Prop := plFewS x.f0 ∧ plFewS x.f1 ∧ plFewS x.f2 ∧ x.f3.length ≤ 20
def plFewL (l : List Ru) : Prop := l.length ≤ 220 ∧ ∀ x ∈ l, plFewU x
theorem plRdP_mid (pre : List Pc) (x : Pc) (rest : List Pc) : rd_T59 (pre ++ x :: rest) (pre.length : Int) = x := by
  unfold rd_T59
  rw [Int.toNat_natCast, List.getD_eq_getElem?_getD, List.getElem?_append_right (Nat.le_refl _), Nat.sub_self]
  rfl
theorem plSame_go : ∀ (xs ys px py : List Rg) (k : Nat), px.length = py.length → xs.length = ys.length → (px ++ xs).length < 1000000000 → xs.length + 1 ≤ k →
    unicodetextref02_Same.l0 k (px.length : Int) (px ++ xs) (py ++ ys) = some (decide (xs.map toP = ys.map toP))
  | [], [], px, py, k, h1, h2, h3, h4 => by
    obtain ⟨k, rfl⟩ : ∃ j, k = j + 1 := ⟨k - 1, by omega⟩
    rw [unicodetextref02_Same.l0, if_neg (by simp)]
    rfl
  | x :: xs, y :: ys, px, py, k, h1, h2, h3, h4 => by
    obtain ⟨k, rfl⟩ : ∃ j, k = j + 1 := ⟨k - 1, by omega⟩
    have hp : px.length < 1000000000 := by simp at h3; omega
    have ih := plSame_go xs ys (px ++ [x]) (py ++ [y]) k (by simp [h1]) (by simpa using h2) (by simpa using h3) (by simp at h4; omega)
    have ex : (px ++ [x]) ++ xs = px ++ x :: xs := by simp
    have ey : (py ++ [y]) ++ ys = py ++ y :: ys := by simp
    have el : ((px ++ [x]).length : Int) = ((px.length + 1 : Nat) : Int) := by simp
    rw [ex, ey, el] at ih
    have e1 : rd_T69 (py ++ y :: ys) (px.length : Int) = y := by rw [h1]; exact rdG_mid _ _ _
    rw [unicodetextref02_Same.l0, if_pos (by simp; omega), if_pos (by omega), if_pos (by simp at h2 ⊢; omega), rdG_mid, e1, wrap_suc hp]
    rw [ih]
    by_cases ha : x.f0 = y.f0
    · by_cases hb : x.f1 = y.f1
      · rw [if_neg (by simp [ha, hb])]
        simp [toP, ha, hb]
      · rw [if_pos (by simp [hb])]
        simp [toP, hb]
    · rw [if_pos (by simp [ha])]
      simp [toP, ha]
  | [], _ :: _, _, _, _, _, h2, _, _ => by simp at h2
  | _ :: _, [], _, _, _, _, h2, _, _ => by simp at h2
theorem plComb_make (l : List Rg) : combS l [] 1 = CpM.make (l.map toP) := by
  rw [← CpM.rmake_eq]
  unfold combS CpM.rmake cutsAB
  congr 1
  funext c
  unfold keepAB keepsB CpM.hasB
  simp
theorem plValid_ok (s : St) (k : Nat) (h : s.f0.length ≤ 1000) (hk : s.f0.length + 1 ≤ k) : unicodetextref02_Valid.f k s.f0 = some (validS s) := by
  have hm : unicodetextref02_Make.f s.f0 = some (mkRS s.f0) := by
    unfold unicodetextref02_Make.f unicodetextref02_combine.f
    rw [if_pos (by simp; omega), plComb_make]
    rfl
  unfold unicodetextref02_Valid.f
  rw [hm]
  show (unicodetextref02_Same.f k s.f0 (mkRS s.f0)).bind _ = _
  unfold unicodetextref02_Same.f validS
  have e : (mkRS s.f0).map toP = CpM.make (s.f0.map toP) := toP_ofP _
  by_cases hl : s.f0.length = (mkRS s.f0).length
  · rw [if_pos (by omega)]
    have := plSame_go s.f0 (mkRS s.f0) [] [] k rfl hl (by simp; omega) hk
    rw [List.nil_append, List.nil_append, e] at this
    rw [show ((0 : Int)) = (([] : List Rg).length : Int) from rfl, this]
    rfl
  · rw [if_neg (by omega), decide_eq_false]
    · rfl
    · intro hh
      rw [← e] at hh
      exact hl (by simpa using congrArg List.length hh)
def plBad (s : St) : Bool := !validS s || decide (s.f0.length = 0)
theorem plRight_go : ∀ (rest pre : List St) (k : Nat), (∀ s ∈ rest, s.f0.length ≤ 12) → (pre ++ rest).length < 1000000000 → rest.length + 15 ≤ k →
    unicodetextref50_right.l0 k (pre ++ rest) (pre.length : Int) = some (!(rest.any plBad))
  | [], pre, k, h0, h1, h2 => by
    obtain ⟨k, rfl⟩ : ∃ j, k = j + 1 := ⟨k - 1, by omega⟩
    rw [unicodetextref50_right.l0, if_neg (by simp)]
    rfl
  | s :: rest, pre, k, h0, h1, h2 => by
    obtain ⟨k, rfl⟩ : ∃ j, k = j + 1 := ⟨k - 1, by omega⟩
    have hp : pre.length < 1000000000 := by simp at h1; omega
    have ih := plRight_go rest (pre ++ [s]) k (fun y hy => h0 y (List.mem_cons_of_mem _ hy)) (by simpa using h1) (by simp at h2; omega)
    have ex : (pre ++ [s]) ++ rest = pre ++ s :: rest := by simp
    have el : ((pre ++ [s]).length : Int) = ((pre.length + 1 : Nat) : Int) := by simp
    rw [ex, el] at ih
    have hs := h0 s List.mem_cons_self
    rw [unicodetextref50_right.l0, if_pos (by simp; omega), if_pos (by omega), rdS_mid, wrap_suc hp, ih, plValid_ok s k (by omega) (by simp at h2; omega), List.any_cons]
    show (if validS s = true then _ else _) = _
    unfold plBad
    cases hv : validS s with
    | false => rfl
    | true =>
      rw [if_pos rfl]
      by_cases hl : s.f0.length = 0
      · rw [if_pos (by omega), decide_eq_true hl]; rfl
      · rw [if_neg (by omega), decide_eq_false hl]; rfl
theorem plRight_ok (l : List St) (k : Nat) (h : plFewS l) (hk : 40 ≤ k) : unicodetextref50_right.f k l = some (!(l.any plBad)) :=
  plRight_go l [] k h.2 (by have := h.1; simp; omega) (by have := h.1; omega)
theorem plPieces_go (m0 m1 m2 : List St) (hm : m1.length < 1000000000) : ∀ (rest pre : List Pc) (k : Nat), (pre ++ rest).length < 1000000000 → rest.length + 1 ≤ k →
    unicodetextref50_one.l0 k (pre.length : Int) m0 m1 m2 (pre ++ rest) = some (if rest.any (pieceBad m1.length) then 1 else 0)
  | [], pre, k, h1, h2 => by
    obtain ⟨k, rfl⟩ : ∃ j, k = j + 1 := ⟨k - 1, by omega⟩
    rw [unicodetextref50_one.l0, if_neg (by simp)]
    rfl
  | p :: rest, pre, k, h1, h2 => by
    obtain ⟨k, rfl⟩ : ∃ j, k = j + 1 := ⟨k - 1, by omega⟩
    have hp : pre.length < 1000000000 := by simp at h1; omega
    have ih := plPieces_go m0 m1 m2 hm rest (pre ++ [p]) k (by simpa using h1) (by simp at h2; omega)
    have ex : (pre ++ [p]) ++ rest = pre ++ p :: rest := by simp
    have el : ((pre ++ [p]).length : Int) = ((pre.length + 1 : Nat) : Int) := by simp
    rw [ex, el] at ih
    rw [unicodetextref50_one.l0, if_pos (by simp; omega), if_pos (by omega), plRdP_mid, wrap_suc hp, ih, List.any_cons, valid_eq]
    generalize (rest.any (pieceBad m1.length)) = b
    have hd : ∀ P : Prop, [Decidable P] → (decide P = true) = P := fun P _ => by simp
    unfold pieceBad
    simp only [Option.bind_some, hd]
    by_cases h1 : p.f1 = 0
    · rw [if_pos h1]
      by_cases h0 : 0 ≤ p.f0 ∧ p.f0 ≤ 1114111
      · have e : (!((decide (p.f0 = 0) && (decide (1 ≤ p.f1) && decide (p.f1 ≤ (m1.length : Int)))) || (decide (p.f1 = 0) && (decide (0 ≤ p.f0) && decide (p.f0 ≤ 1114111))))) = false := by
          simp only [Bool.not_eq_false', Bool.or_eq_true, Bool.and_eq_true, decide_eq_true_eq]; right; exact ⟨h1, h0⟩
        rw [e, Bool.false_or]
        by_cases h00 : p.f0 = 0
        · rw [if_pos h00, if_neg (by omega), if_pos h0]
        · rw [if_neg h00, if_pos h0]
      · have e : (!((decide (p.f0 = 0) && (decide (1 ≤ p.f1) && decide (p.f1 ≤ (m1.length : Int)))) || (decide (p.f1 = 0) && (decide (0 ≤ p.f0) && decide (p.f0 ≤ 1114111))))) = true := by
          simp only [Bool.not_eq_true', Bool.or_eq_false_iff, Bool.and_eq_false_iff, decide_eq_false_iff_not]; omega
        rw [e, Bool.true_or, if_neg (by omega), if_neg h0]
        rfl
    · rw [if_neg h1]
      by_cases h00 : p.f0 = 0
      · rw [if_pos h00]
        by_cases h3 : p.f1 ≥ 1
        · rw [if_pos h3]
          by_cases h4 : p.f1 ≤ (m1.length : Int)
          · have e : (!((decide (p.f0 = 0) && (decide (1 ≤ p.f1) && decide (p.f1 ≤ (m1.length : Int)))) || (decide (p.f1 = 0) && (decide (0 ≤ p.f0) && decide (p.f0 ≤ 1114111))))) = false := by
              simp only [Bool.not_eq_false', Bool.or_eq_true, Bool.and_eq_true, decide_eq_true_eq]; left; exact ⟨h00, h3, h4⟩
            rw [e, Bool.false_or, if_pos h4]
          · have e : (!((decide (p.f0 = 0) && (decide (1 ≤ p.f1) && decide (p.f1 ≤ (m1.length : Int)))) || (decide (p.f1 = 0) && (decide (0 ≤ p.f0) && decide (p.f0 ≤ 1114111))))) = true := by
              simp only [Bool.not_eq_true', Bool.or_eq_false_iff, Bool.and_eq_false_iff, decide_eq_false_iff_not]; omega
            rw [e, Bool.true_or, if_neg h4]
            rfl
        · have e : (!((decide (p.f0 = 0) && (decide (1 ≤ p.f1) && decide (p.f1 ≤ (m1.length : Int)))) || (decide (p.f1 = 0) && (decide (0 ≤ p.f0) && decide (p.f0 ≤ 1114111))))) = true := by
            simp only [Bool.not_eq_true', Bool.or_eq_false_iff, Bool.and_eq_false_iff, decide_eq_false_iff_not]; omega
          rw [e, Bool.true_or, if_neg h3]
          rfl
      · have e : (!((decide (p.f0 = 0) && (decide (1 ≤ p.f1) && decide (p.f1 ≤ (m1.length : Int)))) || (decide (p.f1 = 0) && (decide (0 ≤ p.f0) && decide (p.f0 ≤ 1114111))))) = true := by
          simp only [Bool.not_eq_true', Bool.or_eq_false_iff, Bool.and_eq_false_iff, decide_eq_false_iff_not]; omega
        rw [e, Bool.true_or, if_neg h00]
        rfl
theorem plOne_ok (x : Ru) (k : Nat) (h : plFewU x) (hk : 43 ≤ k) : unicodetextref50_one.f k x.f0 x.f1 x.f2 x.f3 = some (oneS x) := by
  obtain ⟨h0, h1, h2, h3⟩ := h
  obtain ⟨k, rfl⟩ : ∃ j, k = j + 2 := ⟨k - 2, by omega⟩
  have hr0 := plRight_ok x.f0 (k + 1) h0 (by omega)
  have hr1 := plRight_ok x.f1 (k + 1) h1 (by omega)
  have hr2 := plRight_ok x.f2 (k + 1) h2 (by omega)
  have hp := plPieces_go x.f0 x.f1 x.f2 (by have := h1.1; omega) x.f3 [] k (by simp; omega) (by omega)
  have hj1 : ∀ b, unicodetextref50_one.j1 (k + 1) b x.f0 x.f1 x.f2 x.f3 = some (if b = true then 11 else if x.f3.any (pieceBad x.f1.length) then 1 else 0) := by
    intro b
    rw [unicodetextref50_one.j1]
    cases b with
    | true => rfl
    | false => rw [if_neg (by decide), if_neg (by decide)]; exact hp
  have hfin : unicodetextref50_one.j0 (k + 2) false x.f0 x.f1 x.f2 x.f3 = some (if (x.f0 ++ x.f1 ++ x.f2).any plBad then 11 else if x.f3.any (pieceBad x.f1.length) then 1 else 0) := by
    rw [unicodetextref50_one.j0, if_neg (by decide), hr0, hr1, hr2]
    simp only [Option.bind_some, hj1, List.any_append]
    cases x.f0.any plBad <;> cases x.f1.any plBad <;> cases x.f2.any plBad <;> rfl
  unfold unicodetextref50_one.f oneS
  have ht : unicodetextref50_one.j0 (k + 2) true x.f0 x.f1 x.f2 x.f3 = some 2 := by rw [unicodetextref50_one.j0, if_pos rfl]
  rw [ht]
  by_cases c1 : x.f1.length < 1
  · rw [if_pos (by omega), if_pos (by omega)]
  · rw [if_neg (by omega)]
    by_cases c2 : 8 < x.f1.length
    · rw [if_pos (by omega), if_pos (by omega)]
    · rw [if_neg (by omega)]
      by_cases c3 : 8 < x.f0.length
      · rw [if_pos (by omega), if_pos (by omega)]
      · rw [if_neg (by omega)]
        by_cases c4 : 8 < x.f2.length
        · rw [if_pos (by omega), if_pos (by omega)]
        · rw [if_neg (by omega)]
          by_cases c5 : 16 < x.f3.length
          · rw [decide_eq_true (by omega), ht, if_pos (by omega)]
          · rw [decide_eq_false (by omega), hfin, if_neg (show ¬ (x.f1.length < 1 ∨ 8 < x.f1.length ∨ 8 < x.f0.length ∨ 8 < x.f2.length ∨ 16 < x.f3.length) by omega)]
            rfl
theorem plCheck_go : ∀ (rest pre : List Ru) (k : Nat), (∀ x ∈ rest, plFewU x) → (pre ++ rest).length < 1000000000 → rest.length + 44 ≤ k →
    unicodetextref50_Check.l0 k (pre ++ rest) (pre.length : Int) = some (firstErr rest)
  | [], pre, k, h0, h1, h2 => by
    obtain ⟨k, rfl⟩ : ∃ j, k = j + 1 := ⟨k - 1, by omega⟩
    rw [unicodetextref50_Check.l0, if_neg (by simp)]
    rfl
  | x :: rest, pre, k, h0, h1, h2 => by
    obtain ⟨k, rfl⟩ : ∃ j, k = j + 1 := ⟨k - 1, by omega⟩
    have hp : pre.length < 1000000000 := by simp at h1; omega
    have ih := plCheck_go rest (pre ++ [x]) k (fun y hy => h0 y (List.mem_cons_of_mem _ hy)) (by simpa using h1) (by simp at h2; omega)
    have ex : (pre ++ [x]) ++ rest = pre ++ x :: rest := by simp
    have el : ((pre ++ [x]).length : Int) = ((pre.length + 1 : Nat) : Int) := by simp
    rw [ex, el] at ih
    rw [unicodetextref50_Check.l0, if_pos (by simp; omega), if_pos (by omega), rdU_mid, wrap_suc hp, plOne_ok x k (h0 x List.mem_cons_self) (by simp at h2; omega)]
    show (if oneS x = 0 then _ else _) = _
    rw [ih, firstErr]
    split <;> rfl
theorem plCheck_ok (l : List Ru) (k : Nat) (h : plFewL l) (hk : 270 ≤ k) : unicodetextref50_Check.f k l = some (checkS l) := by
  have hl := h.1
  unfold unicodetextref50_Check.f checkS
  by_cases h2 : 200 < l.length
  · rw [if_pos (by omega), if_pos h2]
  · rw [if_neg (by omega), if_neg h2]
    exact plCheck_go l [] k h.2 (by simp; omega) (by omega)
theorem plData_ok (l : List Ru) (k : Nat) (h : plFewL l) (hk : 270 ≤ k) : unicodetextref51_Data.f k l = some (dataS l) := by
  unfold unicodetextref51_Data.f dataS
  rw [plCheck_ok l k h hk]
  show (if checkS l = 0 then _ else _) = _
  split <;> rfl
theorem plData_few (l : List Ru) (h : plFewL l) : plFewL (dataS l) := by
  unfold dataS
  split
  · exact h
  · exact ⟨Nat.zero_le _, fun x hx => by cases hx⟩
end Go.Proofs.Ytcpicopaobhlcaa.Q
end
section
namespace Go.Proofs.Ytcpicopaobhlcaa.Q
open Go.RowKit Go.Proofs.YtcpicopaobhlcaaW.PrintWords Go.Proofs.YtcpicopaobhlcaaW.PrintLast Go.Proofs.YtcpicopaobhlcaaW.PrintMore
attribute [local go_sem] max2_int min2_int max_two min_two max_three min_three max_four min_four   -- for this text's walks alone
set_option linter.unusedVariables false
set_option linter.unusedSimpArgs false
mutual
def unicodetextref51_inside.j0 : Nat → List (S45) → List Int → Int → Bool → Option (Bool)
  | 0, _, _, _, _ => none
  | k + 1, x0, x1, x2, x18 => if x18 = true then (some false) else (unicodetextref51_inside.l0 k x0 x1 x2 0)
def unicodetextref51_inside.l0 : Nat → List (S45) → List Int → Int → Int → Option (Bool)
  | 0, _, _, _, _ => none
  | k + 1, x0, x1, x2, x7 => if x7 < (x0.length : Int) then (if 0 ≤ x7 then (if 0 ≤ (wrap64 (x2 + x7)) then (if (wrap64 (x2 + x7)) < (x1.length : Int) then ((unicodetextref02_Has.f k ((rd_T45 x0 x7).f0) (rd x1 (wrap64 (x2 + x7)))).bind fun t205 => (if t205 = true then (unicodetextref51_inside.l0 k x0 x1 x2 (wrap64 (x7 + 1))) else (some false))) else (none)) else (none)) else (none)) else (some true)
end
def unicodetextref51_inside.f (k : Nat) (l0 : List (S45)) (l1 : List Int) (a2 : Int) : Option (Bool) := if a2 < 0 then (unicodetextref51_inside.j0 k l0 l1 a2 true) else (unicodetextref51_inside.j0 k l0 l1 a2 (decide ((wrap64 (a2 + (l0.length : Int))) > (l1.length : Int))))
def unicodetextref51_inside.T6 : Bool × List (List Nat × List Nat) := (true, [([], []), ([], []), ([0, 1], [0, 1]), ([2], [2]), ([], []), ([], []), ([], []), ([5, 6], [5, 6]), ([4, 7], [4, 7]), ([8], [8]), ([3, 9], [3, 9]), ([10], [10])])
def unicodetextref51_inside.B6 : List Nat := [0, 0, 3, 7, 0, 0, 0, 96, 240, 496, 1023, 2047]
theorem unicodetextref51_inside.tab6 : rtab .any (opsOf Try.f56 6) = unicodetextref51_inside.T6 := by kernel_rfl
theorem unicodetextref51_inside.bits6 : waitsOk unicodetextref51_inside.T6.2 unicodetextref51_inside.B6 = true := by kernel_rfl
set_option maxHeartbeats 8000000 in
set_option maxRecDepth 100000 in
theorem unicodetextref51_inside.calls (k : Nat) (A0 : Option Addr) (c0 : Nat) (l0 : List (S45)) (A1 : Option Addr) (c1 : Nat) (l1 : List Int) (a2 : Int) (r : Bool) (w : World) (hr0 : Kd.C k45 w A0 l0.length l0) (hc0 : l0.length ≤ c0) (hr1 : Kd.C (Kd.int .i64) w A1 l1.length l1) (hc1 : l1.length ≤ c1) (h : unicodetextref51_inside.f k l0 l1 a2 = some r) :
    Calls Try.prog 56 #[.slice A0 l0.length c0, .slice A1 l1.length c1, .int .i64 a2] w fun e w' => e = .returned (.bool r) ∧ Below w.heap.size w w' := by
  have hu45 := Try.underlying45
  have HR0 := Aside0.mk hr0
  have HC0 := Aside0.mk hc0
  clear hr0 hc0
  have HR1 := Aside0.mk hr1
  have HC1 := Aside0.mk hc1
  clear hr1 hc1
  have HB := Aside0.mk (Below.refl w.heap.size w)
  have H : (if a2 < 0 then (unicodetextref51_inside.j0 k l0 l1 a2 true) else (unicodetextref51_inside.j0 k l0 l1 a2 (decide ((wrap64 (a2 + (l0.length : Int))) > (l1.length : Int))))) = some r := h
  clear h
  have HC4 := Aside0.mk H
  clear H
  go_enter Try.func56, Try.ntmps56
  go_upto_region 1 with (fail)
  go_cut [18] (fun v18 wc => ∃ (kq : Nat) (x18_3 : Bool), v18 = .bool x18_3 ∧ Aside0 (unicodetextref51_inside.j0 kq l0 l1 a2 x18_3 = some r) ∧ Aside0 (kq ≤ k) ∧ Aside0 (Below w.heap.size w wc))
  case first =>
    have H := HC4.out
    clear HC4
    by_cases c5 : a2 < 0
    · rw [if_pos c5] at H
      have c5b0 : decide (a2 < 0) = true := decide_eq_true c5
      clear c5
      (first | rw [c5b0] | (simp only [i64_w, i32_w]; rw [c5b0]) | skip)
      have H' := Aside0.mk H
      clear H
      go_wp2
      go_meet
      case rel => exact ⟨_, (true), (by first | rfl | (simp; done) | (simp [*]; done)), H', ⟨by first | omega | exact Nat.le_refl _⟩, ⟨by repeat (first | (with_reducible first | exact HB.out | apply below_alloc | apply pw_below_drewN | apply below_drew1) | exact HB.out)⟩⟩
    · rw [if_neg c5] at H
      have c5b0 : decide (a2 < 0) = false := decide_eq_false c5
      clear c5
      (first | rw [c5b0] | (simp only [i64_w, i32_w]; rw [c5b0]) | skip)
      have H' := Aside0.mk H
      clear H
      go_wp2
      go_meet
      case rel => exact ⟨_, (decide ((wrap64 (a2 + (l0.length : Int))) > (l1.length : Int))), (by first | rfl | (simp; done) | (simp [*]; done)), H', ⟨by first | omega | exact Nat.le_refl _⟩, ⟨by repeat (first | (with_reducible first | exact HB.out | apply below_alloc | apply pw_below_drewN | apply below_drew1) | exact HB.out)⟩⟩
  case rest =>
    clear HC4
    try clear c1
    try clear p2
    try clear c5
    try clear c5b0
    obtain ⟨kq, x18_3, rfl, HA, HJ3, HB⟩ := hcut
    cases kq with
    | zero => exact absurd HA.out (by simp [unicodetextref51_inside.j0])
    | succ kj3 =>
      have H := HA.out
      clear HA
      simp only [unicodetextref51_inside.j0] at H
      by_cases c6 : x18_3 = true
      · subst c6
        have H1 : (some false) = some r := by rw [if_pos rfl] at H; exact H
        clear H
        have H := H1
        clear H1
        obtain rfl := Option.some.inj H
        go_wp2
        go_ret
        exact ⟨by first | rfl | (simp [errW_none, errW_some] <;> rfl) | (simp [*, errW_none, errW_some] <;> rfl), by repeat (first | (with_reducible first | exact HB.out | apply below_alloc | apply pw_below_drewN | apply below_drew1) | exact HB.out)⟩
      · replace c6 := Bool.eq_false_iff.mpr c6
        subst c6
        have H1 : (unicodetextref51_inside.l0 kj3 l0 l1 a2 0) = some r := by rw [if_neg (show ¬ (false = true) by decide)] at H; exact H
        clear H
        have H := H1
        clear H1
        have H' := Aside0.mk H
        clear H
        go_wp2
        go_loopg [7] kj3 (fun kq v7 w' => ∃ (x7_2 : Int), v7 = .int .i64 x7_2 ∧ Aside0 (unicodetextref51_inside.l0 kq l0 l1 a2 x7_2 = some r) ∧ Aside0 (kq ≤ kj3) ∧ Aside0 (Below w.heap.size w w'))
        case atStart => exact ⟨(0), (by first | rfl | (simp; done) | (simp [*]; done)), H', ⟨Nat.le_refl _⟩, ⟨by repeat (first | (with_reducible first | exact HB.out | apply below_alloc | apply pw_below_drewN | apply below_drew1) | exact HB.out)⟩⟩
        case round =>
          clear H'
          try clear c1
          try clear p2
          try clear c5
          try clear c5b0
          try clear c6
          try clear p6
          try clear p2
          obtain ⟨x7_2, rfl, HA, HK2, HB⟩ := hrel
          cases gk with
          | zero => exact absurd HA.out (by simp [unicodetextref51_inside.l0])
          | succ k2 =>
            have H := HA.out
            clear HA
            simp only [unicodetextref51_inside.l0] at H
            by_cases c7 : x7_2 < (l0.length : Int)
            · rw [if_pos c7] at H
              have c7b0 : decide (x7_2 < (l0.length : Int)) = true := decide_eq_true c7
              clear c7
              by_cases c8 : 0 ≤ x7_2
              · rw [if_pos c8] at H
                have c8b0 : decide (0 ≤ x7_2) = true := decide_eq_true c8
                clear c8
                obtain ⟨ji9, hji9⟩ : ∃ j_ : Int, (wrap64 (a2 + x7_2)) = j_ := ⟨_, rfl⟩
                replace H : (if 0 ≤ (ji9) then (if (ji9) < (l1.length : Int) then ((unicodetextref02_Has.f k2 ((rd_T45 l0 x7_2).f0) (rd l1 (ji9))).bind fun t205 => (if t205 = true then (unicodetextref51_inside.l0 k2 l0 l1 a2 (wrap64 (x7_2 + 1))) else (some false))) else (none)) else (none)) = some r := by first | (rw [hji9] at H; exact H) | (simp only [hji9] at H ⊢; exact H)
                have hji9w : (IntKind.i64.wrap (a2 + x7_2)) = ji9 := (i64_w _).trans hji9
                by_cases c10 : 0 ≤ (ji9)
                · rw [if_pos c10] at H
                  have c10b0 : decide (0 ≤ (ji9)) = true := decide_eq_true c10
                  clear c10
                  by_cases c11 : (ji9) < (l1.length : Int)
                  · rw [if_pos c11] at H
                    have c11b0 : decide ((ji9) < (l1.length : Int)) = true := decide_eq_true c11
                    clear c11
                    replace H := Option.bind_eq_some_iff.mp H
                    obtain ⟨t205, A120, H⟩ := H
                    replace H : (if t205 = true then (unicodetextref51_inside.l0 k2 l0 l1 a2 (wrap64 (x7_2 + 1))) else (some false)) = some r := H
                    have A12 := Aside0.mk A120
                    clear A120
                    by_cases c13 : t205 = true
                    · subst c13
                      have H1 : (unicodetextref51_inside.l0 k2 l0 l1 a2 (wrap64 (x7_2 + 1))) = some r := by rw [if_pos rfl] at H; exact H
                      clear H
                      have H := H1
                      clear H1
                      have H' := Aside0.mk H
                      clear H
                      try go_wp2
                      have n0_ := Aside0.mk (below_drew1 HB.out)
                      clear HB
                      have HB := n0_
                      clear n0_
                      have p203 : 0 ≤ (x7_2 : Int) := of_decide_eq_true (by first | (with_reducible assumption) | assumption)
                      have q203 : x7_2 < (l0.length : Int) := of_decide_eq_true (by first | (with_reducible assumption) | assumption)
                      obtain ⟨ad203, A203_0, c203_0, e203, hx203_0, hl203_0, hi203_0⟩ := at_T45 HR0.out x7_2 p203 q203
                      have hw203_0 := hx203_0
                      cases e203
                      replace hx203_0 := (HB.out.cell (World.block_lt_of_cell? w _ hx203_0)).trans hx203_0
                      have HR203_0 := Aside0.mk hi203_0
                      have HC203_0 := Aside0.mk hl203_0
                      clear hi203_0 hl203_0
                      replace p203 := eq_true p203
                      replace q203 := eq_true q203
                      have p204 : 0 ≤ ((ji9) : Int) := of_decide_eq_true (by first | (with_reducible assumption) | assumption)
                      have q204 : (ji9) < (l1.length : Int) := of_decide_eq_true (by first | (with_reducible assumption) | assumption)
                      obtain ⟨ad204, e204, hx204_0⟩ := Kd.at_int HR1.out (ji9) p204 q204
                      have hw204_0 := hx204_0
                      cases e204
                      replace hx204_0 := (HB.out.cell (World.block_lt_of_cell? w _ hx204_0)).trans hx204_0
                      replace p204 := eq_true p204
                      replace q204 := eq_true q204
                      refine start_ (n := 12) (S := fun w' => w'.cell? (ad203.add (x7_2).toNat) = some (.slice A203_0 ((rd_T45 l0 x7_2).f0).length c203_0) ∧ w'.cell? (ad204.add ((ji9)).toNat) = some (.int .i64 (rd l1 (ji9)))) (ds := []) #[false, false, false, false, false, false, false, false, false, false, false, false] (by kernel_rfl) rfl rfl ⟨((HB.out.cell (World.block_lt_of_cell? w _ hw203_0)).trans hw203_0), ((HB.out.cell (World.block_lt_of_cell? w _ hw204_0)).trans hw204_0)⟩ (fun hHeld => ?_); refine with_tabW unicodetextref51_inside.tab6 unicodetextref51_inside.bits6 (fun HT_ HW_ => ?_)
                      generalize wr.drew = w14 at HB HR203_0 hx203_0 hx204_0 hHeld ⊢
                      refine pure_ (i := 0) (N := some 25) (v := ?_) (a' := ?_) #[true, false, false, false, false, false, false, false, false, false, false, false] rfl rfl (any_of HT_.out (by kernel_rfl)) (fun _ _ _ h => h) (Or.inl ⟨by rfl, ?_⟩) ?_ ?_
                      rotate_left
                      · intro w'
                        go_simp
                        with_reducible rfl
                      rotate_left
                      · simp only [Act.put, List.setIfInBounds_toArray, List.set_cons_zero, List.set_cons_succ, i64_w, i32_w]
                        rfl
                      refine pure_ (i := 1) (N := some 26) (v := ?_) (a' := ?_) #[true, true, false, false, false, false, false, false, false, false, false, false] rfl rfl (any_of HT_.out (by kernel_rfl)) (fun _ _ _ h => h) (Or.inl ⟨by rfl, ?_⟩) ?_ ?_
                      rotate_left
                      · intro w'
                        go_simp
                        with_reducible rfl
                      rotate_left
                      · simp only [Act.put, List.setIfInBounds_toArray, List.set_cons_zero, List.set_cons_succ, i64_w, i32_w]
                        rfl
                      refine pure_ (i := 2) (N := some 27) (v := ?_) (a' := ?_) #[true, true, true, false, false, false, false, false, false, false, false, false] rfl rfl (any_of HT_.out (by kernel_rfl)) (fun _ _ _ h => h) (Or.inl ⟨by rfl, ?_⟩) ?_ ?_
                      rotate_left
                      · intro w'
                        go_simp
                        with_reducible rfl
                      rotate_left
                      · simp only [Act.put, List.setIfInBounds_toArray, List.set_cons_zero, List.set_cons_succ, i64_w, i32_w]
                        rfl
                      refine pure_ (i := 4) (N := some 29) (v := ?_) (a' := ?_) #[true, true, true, false, true, false, false, false, false, false, false, false] rfl rfl (any_of HT_.out (by kernel_rfl)) (fun _ _ _ h => h) (Or.inl ⟨by rfl, ?_⟩) ?_ ?_
                      rotate_left
                      · intro w'
                        go_simp
                        with_reducible rfl
                      rotate_left
                      · simp only [Act.put, List.setIfInBounds_toArray, List.set_cons_zero, List.set_cons_succ, i64_w, i32_w]
                        rfl
                      refine pure_ (i := 5) (N := some 30) (v := ?_) (a' := ?_) #[true, true, true, false, true, true, false, false, false, false, false, false] rfl rfl (any_of HT_.out (by kernel_rfl)) (fun _ _ _ h => h) (Or.inl ⟨by rfl, ?_⟩) ?_ ?_
                      rotate_left
                      · intro w'
                        go_simp
                        with_reducible rfl
                      rotate_left
                      · simp only [Act.put, List.setIfInBounds_toArray, List.set_cons_zero, List.set_cons_succ, i64_w, i32_w]
                        rfl
                      refine pure_ (i := 6) (N := some 31) (v := ?_) (a' := ?_) #[true, true, true, false, true, true, true, false, false, false, false, false] rfl rfl (any_of HT_.out (by kernel_rfl)) (fun _ _ _ h => h) (Or.inl ⟨by rfl, ?_⟩) ?_ ?_
                      rotate_left
                      · intro w'
                        go_simp
                        with_reducible rfl
                      rotate_left
                      · simp only [Act.put, List.setIfInBounds_toArray, List.set_cons_zero, List.set_cons_succ, i64_w, i32_w]
                        rfl
                      refine pure_ (i := 7) (N := some 32) (v := ?_) (a' := ?_) #[true, true, true, false, true, true, true, true, false, false, false, false] rfl rfl (any_of HT_.out (by kernel_rfl)) (fun _ _ _ h => h) (Or.inl ⟨by rfl, ?_⟩) ?_ ?_
                      rotate_left
                      · intro w'
                        go_simp
                        with_reducible rfl
                      rotate_left
                      · simp only [Act.put, List.setIfInBounds_toArray, List.set_cons_zero, List.set_cons_succ, i64_w, i32_w]
                        rfl
                      refine pure_ (i := 8) (N := some 33) (v := ?_) (a' := ?_) #[true, true, true, false, true, true, true, true, true, false, false, false] rfl rfl (any_of HT_.out (by kernel_rfl)) (fun _ _ _ h => h) (Or.inl ⟨by rfl, ?_⟩) ?_ ?_
                      rotate_left
                      · intro w'
                        go_simp
                        with_reducible rfl
                      rotate_left
                      · simp only [Act.put, List.setIfInBounds_toArray, List.set_cons_zero, List.set_cons_succ, i64_w, i32_w]
                        rfl
                      refine take_ (i := 3) (N := some 28) (v := ?_) (a' := ?_) #[true, true, true, true, true, true, true, true, true, false, false, false] rfl rfl (take_ofW HT_.out HW_.out (by kernel_rfl)) (fun _ _ _ h => h) (Or.inl ⟨by rfl, ?_⟩) hHeld ?_ ?_
                      rotate_left
                      · rintro w' ⟨s0, s1⟩
                        go_simp
                        with_reducible rfl
                      rotate_left
                      · simp only [Act.put, List.setIfInBounds_toArray, List.set_cons_zero, List.set_cons_succ, i64_w, i32_w]
                        rfl
                      refine take_ (i := 9) (N := some 34) (v := ?_) (a' := ?_) #[true, true, true, true, true, true, true, true, true, true, false, false] rfl rfl (take_ofW HT_.out HW_.out (by kernel_rfl)) (fun _ _ _ h => h) (Or.inl ⟨by rfl, ?_⟩) hHeld ?_ ?_
                      rotate_left
                      · rintro w' ⟨s0, s1⟩
                        go_simp
                        with_reducible rfl
                      rotate_left
                      · simp only [Act.put, List.setIfInBounds_toArray, List.set_cons_zero, List.set_cons_succ, i64_w, i32_w]
                        rfl
                      refine one_ (i := 10) (N := some 35) #[true, true, true, true, true, true, true, true, true, true, true, false] rfl rfl (one_of HT_.out (by kernel_rfl)) (by decide) (fun K hK => ?_)
                      refine goes_ Try.func18 (by kernel_rfl) rfl #[.agg #[.slice A203_0 ((rd_T45 l0 x7_2).f0).length c203_0], .int .i64 (rd l1 (ji9))] (by rfl) rfl rfl (by (try simp only [List.map_toArray, List.map_cons, List.map_nil]); first | done | (simp only [hji9]; rfl) | rfl | (simp only [List.length_drop, List.length_take]; rfl)) ?_
                      with_reducible refine (unicodetextref02_Has.calls k2 _ _ ((rd_T45 l0 x7_2).f0) (rd l1 (ji9)) true _ ?side1 ?side2 A12.out).mono ?_
                      (case side1 => repeat (first | exact (Kd.C_below HR203_0.out HB.out) | (with_reducible refine Kd.C_alloc ?_ _) | (with_reducible refine Kd.C_drewN ?_ _) | (with_reducible refine Kd.C_drew ?_)))
                      (case side2 => exact HC203_0.out)
                      rintro e w15 ⟨rfl, hb⟩
                      refine ⟨_, rfl, ?_⟩
                      have n0_ := Aside0.mk (below_step (by repeat (first | (with_reducible first | exact HB.out | apply below_alloc | apply pw_below_drewN | apply below_drew1) | exact HB.out)) hb)
                      clear HB
                      have HB := n0_
                      clear n0_
                      (try clear hb)
                      (try clear hb2)
                      (try clear hk)
                      (try clear hi)
                      refine hK.out _ _ ⟨((HB.out.cell (World.block_lt_of_cell? w _ hw203_0)).trans hw203_0), ((HB.out.cell (World.block_lt_of_cell? w _ hw204_0)).trans hw204_0)⟩ (fun hHeld => ?_)
                      clear hK K
                      refine norm_ (a' := ?_) ?_ ?_
                      rotate_left
                      · show Act.put _ (some 35) _ = _
                        simp only [Act.put, List.setIfInBounds_toArray, List.set_cons_zero, List.set_cons_succ, i64_w, i32_w]
                        rfl
                      refine pure_ (i := 11) (N := some 36) (v := ?_) (a' := ?_) #[true, true, true, true, true, true, true, true, true, true, true, true] rfl rfl (any_of HT_.out (by kernel_rfl)) (fun _ _ _ h => h) (Or.inl ⟨by rfl, ?_⟩) ?_ ?_
                      rotate_left
                      · intro w'
                        go_simp
                        with_reducible rfl
                      rotate_left
                      · simp only [Act.put, List.setIfInBounds_toArray, List.set_cons_zero, List.set_cons_succ, i64_w, i32_w]
                        rfl
                      refine done_ (done_of HT_.out (by kernel_rfl)) ?_
                      try go_wp2
                      go_roundg k2
                      case measure => have := HJ3.out; have := HK2.out; omega
                      case rel => exact ⟨(wrap64 (x7_2 + 1)), (by first | rfl | (simp; done) | (simp [*]; done)), H', ⟨by have := HJ3.out; have := HK2.out; omega⟩, ⟨by repeat (first | (with_reducible first | exact HB.out | apply below_alloc | apply pw_below_drewN | apply below_drew1) | exact HB.out)⟩⟩
                    · replace c13 := Bool.eq_false_iff.mpr c13
                      subst c13
                      have H1 : (some false) = some r := by rw [if_neg (show ¬ (false = true) by decide)] at H; exact H
                      clear H
                      have H := H1
                      clear H1
                      obtain rfl := Option.some.inj H
                      try go_wp2
                      have n0_ := Aside0.mk (below_drew1 HB.out)
                      clear HB
                      have HB := n0_
                      clear n0_
                      have p203 : 0 ≤ (x7_2 : Int) := of_decide_eq_true (by first | (with_reducible assumption) | assumption)
                      have q203 : x7_2 < (l0.length : Int) := of_decide_eq_true (by first | (with_reducible assumption) | assumption)
                      obtain ⟨ad203, A203_0, c203_0, e203, hx203_0, hl203_0, hi203_0⟩ := at_T45 HR0.out x7_2 p203 q203
                      have hw203_0 := hx203_0
                      cases e203
                      replace hx203_0 := (HB.out.cell (World.block_lt_of_cell? w _ hx203_0)).trans hx203_0
                      have HR203_0 := Aside0.mk hi203_0
                      have HC203_0 := Aside0.mk hl203_0
                      clear hi203_0 hl203_0
                      replace p203 := eq_true p203
                      replace q203 := eq_true q203
                      have p204 : 0 ≤ ((ji9) : Int) := of_decide_eq_true (by first | (with_reducible assumption) | assumption)
                      have q204 : (ji9) < (l1.length : Int) := of_decide_eq_true (by first | (with_reducible assumption) | assumption)
                      obtain ⟨ad204, e204, hx204_0⟩ := Kd.at_int HR1.out (ji9) p204 q204
                      have hw204_0 := hx204_0
                      cases e204
                      replace hx204_0 := (HB.out.cell (World.block_lt_of_cell? w _ hx204_0)).trans hx204_0
                      replace p204 := eq_true p204
                      replace q204 := eq_true q204
                      refine start_ (n := 12) (S := fun w' => w'.cell? (ad203.add (x7_2).toNat) = some (.slice A203_0 ((rd_T45 l0 x7_2).f0).length c203_0) ∧ w'.cell? (ad204.add ((ji9)).toNat) = some (.int .i64 (rd l1 (ji9)))) (ds := []) #[false, false, false, false, false, false, false, false, false, false, false, false] (by kernel_rfl) rfl rfl ⟨((HB.out.cell (World.block_lt_of_cell? w _ hw203_0)).trans hw203_0), ((HB.out.cell (World.block_lt_of_cell? w _ hw204_0)).trans hw204_0)⟩ (fun hHeld => ?_); refine with_tabW unicodetextref51_inside.tab6 unicodetextref51_inside.bits6 (fun HT_ HW_ => ?_)
                      generalize wr.drew = w16 at HB HR203_0 hx203_0 hx204_0 hHeld ⊢
                      refine pure_ (i := 0) (N := some 25) (v := ?_) (a' := ?_) #[true, false, false, false, false, false, false, false, false, false, false, false] rfl rfl (any_of HT_.out (by kernel_rfl)) (fun _ _ _ h => h) (Or.inl ⟨by rfl, ?_⟩) ?_ ?_
                      rotate_left
                      · intro w'
                        go_simp
                        with_reducible rfl
                      rotate_left
                      · simp only [Act.put, List.setIfInBounds_toArray, List.set_cons_zero, List.set_cons_succ, i64_w, i32_w]
                        rfl
                      refine pure_ (i := 1) (N := some 26) (v := ?_) (a' := ?_) #[true, true, false, false, false, false, false, false, false, false, false, false] rfl rfl (any_of HT_.out (by kernel_rfl)) (fun _ _ _ h => h) (Or.inl ⟨by rfl, ?_⟩) ?_ ?_
                      rotate_left
                      · intro w'
                        go_simp
                        with_reducible rfl
                      rotate_left
                      · simp only [Act.put, List.setIfInBounds_toArray, List.set_cons_zero, List.set_cons_succ, i64_w, i32_w]
                        rfl
                      refine pure_ (i := 2) (N := some 27) (v := ?_) (a' := ?_) #[true, true, true, false, false, false, false, false, false, false, false, false] rfl rfl (any_of HT_.out (by kernel_rfl)) (fun _ _ _ h => h) (Or.inl ⟨by rfl, ?_⟩) ?_ ?_
                      rotate_left
                      · intro w'
                        go_simp
                        with_reducible rfl
                      rotate_left
                      · simp only [Act.put, List.setIfInBounds_toArray, List.set_cons_zero, List.set_cons_succ, i64_w, i32_w]
                        rfl
                      refine pure_ (i := 4) (N := some 29) (v := ?_) (a' := ?_) #[true, true, true, false, true, false, false, false, false, false, false, false] rfl rfl (any_of HT_.out (by kernel_rfl)) (fun _ _ _ h => h) (Or.inl ⟨by rfl, ?_⟩) ?_ ?_
                      rotate_left
                      · intro w'
                        go_simp
                        with_reducible rfl
                      rotate_left
                      · simp only [Act.put, List.setIfInBounds_toArray, List.set_cons_zero, List.set_cons_succ, i64_w, i32_w]
                        rfl
                      refine pure_ (i := 5) (N := some 30) (v := ?_) (a' := ?_) #[true, true, true, false, true, true, false, false, false, false, false, false] rfl rfl (any_of HT_.out (by kernel_rfl)) (fun _ _ _ h => h) (Or.inl ⟨by rfl, ?_⟩) ?_ ?_
                      rotate_left
                      · intro w'
                        go_simp
                        with_reducible rfl
                      rotate_left
                      · simp only [Act.put, List.setIfInBounds_toArray, List.set_cons_zero, List.set_cons_succ, i64_w, i32_w]
                        rfl
                      refine pure_ (i := 6) (N := some 31) (v := ?_) (a' := ?_) #[true, true, true, false, true, true, true, false, false, false, false, false] rfl rfl (any_of HT_.out (by kernel_rfl)) (fun _ _ _ h => h) (Or.inl ⟨by rfl, ?_⟩) ?_ ?_
                      rotate_left
                      · intro w'
                        go_simp
                        with_reducible rfl
                      rotate_left
                      · simp only [Act.put, List.setIfInBounds_toArray, List.set_cons_zero, List.set_cons_succ, i64_w, i32_w]
                        rfl
                      refine pure_ (i := 7) (N := some 32) (v := ?_) (a' := ?_) #[true, true, true, false, true, true, true, true, false, false, false, false] rfl rfl (any_of HT_.out (by kernel_rfl)) (fun _ _ _ h => h) (Or.inl ⟨by rfl, ?_⟩) ?_ ?_
                      rotate_left
                      · intro w'
                        go_simp
                        with_reducible rfl
                      rotate_left
                      · simp only [Act.put, List.setIfInBounds_toArray, List.set_cons_zero, List.set_cons_succ, i64_w, i32_w]
                        rfl
                      refine pure_ (i := 8) (N := some 33) (v := ?_) (a' := ?_) #[true, true, true, false, true, true, true, true, true, false, false, false] rfl rfl (any_of HT_.out (by kernel_rfl)) (fun _ _ _ h => h) (Or.inl ⟨by rfl, ?_⟩) ?_ ?_
                      rotate_left
                      · intro w'
                        go_simp
                        with_reducible rfl
                      rotate_left
                      · simp only [Act.put, List.setIfInBounds_toArray, List.set_cons_zero, List.set_cons_succ, i64_w, i32_w]
                        rfl
                      refine take_ (i := 3) (N := some 28) (v := ?_) (a' := ?_) #[true, true, true, true, true, true, true, true, true, false, false, false] rfl rfl (take_ofW HT_.out HW_.out (by kernel_rfl)) (fun _ _ _ h => h) (Or.inl ⟨by rfl, ?_⟩) hHeld ?_ ?_
                      rotate_left
                      · rintro w' ⟨s0, s1⟩
                        go_simp
                        with_reducible rfl
                      rotate_left
                      · simp only [Act.put, List.setIfInBounds_toArray, List.set_cons_zero, List.set_cons_succ, i64_w, i32_w]
                        rfl
                      refine take_ (i := 9) (N := some 34) (v := ?_) (a' := ?_) #[true, true, true, true, true, true, true, true, true, true, false, false] rfl rfl (take_ofW HT_.out HW_.out (by kernel_rfl)) (fun _ _ _ h => h) (Or.inl ⟨by rfl, ?_⟩) hHeld ?_ ?_
                      rotate_left
                      · rintro w' ⟨s0, s1⟩
                        go_simp
                        with_reducible rfl
                      rotate_left
                      · simp only [Act.put, List.setIfInBounds_toArray, List.set_cons_zero, List.set_cons_succ, i64_w, i32_w]
                        rfl
                      refine one_ (i := 10) (N := some 35) #[true, true, true, true, true, true, true, true, true, true, true, false] rfl rfl (one_of HT_.out (by kernel_rfl)) (by decide) (fun K hK => ?_)
                      refine goes_ Try.func18 (by kernel_rfl) rfl #[.agg #[.slice A203_0 ((rd_T45 l0 x7_2).f0).length c203_0], .int .i64 (rd l1 (ji9))] (by rfl) rfl rfl (by (try simp only [List.map_toArray, List.map_cons, List.map_nil]); first | done | (simp only [hji9]; rfl) | rfl | (simp only [List.length_drop, List.length_take]; rfl)) ?_
                      with_reducible refine (unicodetextref02_Has.calls k2 _ _ ((rd_T45 l0 x7_2).f0) (rd l1 (ji9)) false _ ?side1 ?side2 A12.out).mono ?_
                      (case side1 => repeat (first | exact (Kd.C_below HR203_0.out HB.out) | (with_reducible refine Kd.C_alloc ?_ _) | (with_reducible refine Kd.C_drewN ?_ _) | (with_reducible refine Kd.C_drew ?_)))
                      (case side2 => exact HC203_0.out)
                      rintro e w17 ⟨rfl, hb⟩
                      refine ⟨_, rfl, ?_⟩
                      have n0_ := Aside0.mk (below_step (by repeat (first | (with_reducible first | exact HB.out | apply below_alloc | apply pw_below_drewN | apply below_drew1) | exact HB.out)) hb)
                      clear HB
                      have HB := n0_
                      clear n0_
                      (try clear hb)
                      (try clear hb2)
                      (try clear hk)
                      (try clear hi)
                      refine hK.out _ _ ⟨((HB.out.cell (World.block_lt_of_cell? w _ hw203_0)).trans hw203_0), ((HB.out.cell (World.block_lt_of_cell? w _ hw204_0)).trans hw204_0)⟩ (fun hHeld => ?_)
                      clear hK K
                      refine norm_ (a' := ?_) ?_ ?_
                      rotate_left
                      · show Act.put _ (some 35) _ = _
                        simp only [Act.put, List.setIfInBounds_toArray, List.set_cons_zero, List.set_cons_succ, i64_w, i32_w]
                        rfl
                      refine pure_ (i := 11) (N := some 36) (v := ?_) (a' := ?_) #[true, true, true, true, true, true, true, true, true, true, true, true] rfl rfl (any_of HT_.out (by kernel_rfl)) (fun _ _ _ h => h) (Or.inl ⟨by rfl, ?_⟩) ?_ ?_
                      rotate_left
                      · intro w'
                        go_simp
                        with_reducible rfl
                      rotate_left
                      · simp only [Act.put, List.setIfInBounds_toArray, List.set_cons_zero, List.set_cons_succ, i64_w, i32_w]
                        rfl
                      refine done_ (done_of HT_.out (by kernel_rfl)) ?_
                      try go_wp2
                      go_ret
                      exact ⟨by first | rfl | (simp [errW_none, errW_some] <;> rfl) | (simp only [← hji9]; first | rfl | (simp [errW_none, errW_some] <;> rfl)) | (simp [*, errW_none, errW_some] <;> rfl), by repeat (first | (with_reducible first | exact HB.out | apply below_alloc | apply pw_below_drewN | apply below_drew1) | exact HB.out)⟩
                  · rw [if_neg c11] at H
                    exact absurd H (by simp)
                · rw [if_neg c10] at H
                  exact absurd H (by simp)
              · rw [if_neg c8] at H
                exact absurd H (by simp)
            · rw [if_neg c7] at H
              have c7b0 : decide (x7_2 < (l0.length : Int)) = false := decide_eq_false c7
              clear c7
              obtain rfl := Option.some.inj H
              go_wp2
              go_ret
              exact ⟨by first | rfl | (simp [errW_none, errW_some] <;> rfl) | (simp [*, errW_none, errW_some] <;> rfl), by repeat (first | (with_reducible first | exact HB.out | apply below_alloc | apply pw_below_drewN | apply below_drew1) | exact HB.out)⟩
end Go.Proofs.Ytcpicopaobhlcaa.Q
end
section
namespace Go.Proofs.Ytcpicopaobhlcaa.Q
open Go.RowKit Go.Proofs.YtcpicopaobhlcaaW.PrintWords Go.Proofs.YtcpicopaobhlcaaW.PrintLast Go.Proofs.YtcpicopaobhlcaaW.PrintMore
attribute [local go_sem] max2_int min2_int max_two min_two max_three min_three max_four min_four   -- for this text's walks alone
set_option linter.unusedVariables false
set_option linter.unusedSimpArgs false
def unicodetextref51_applies.f (k : Nat) (l0_0 : List (S45)) (l0_1 : List (S45)) (l0_2 : List (S45)) (l0_3 : List (S59)) (l1 : List Int) (a2 : Int) : Option (Bool) := (unicodetextref51_inside.f k l0_1 l1 a2).bind fun t207 => (if t207 = true then ((unicodetextref51_inside.f k l0_2 l1 (wrap64 (a2 + (l0_1.length : Int)))).bind fun t208 => (if t208 = true then ((unicodetextref51_inside.f k l0_0 l1 (wrap64 (a2 - (l0_0.length : Int)))).bind fun t209 => (some t209)) else (some false))) else (some false))
set_option maxHeartbeats 8000000 in
set_option maxRecDepth 100000 in
theorem unicodetextref51_applies.calls (k : Nat) (A0_0 : Option Addr) (c0_0 : Nat) (l0_0 : List (S45)) (A0_1 : Option Addr) (c0_1 : Nat) (l0_1 : List (S45)) (A0_2 : Option Addr) (c0_2 : Nat) (l0_2 : List (S45)) (A0_3 : Option Addr) (c0_3 : Nat) (l0_3 : List (S59)) (A1 : Option Addr) (c1 : Nat) (l1 : List Int) (a2 : Int) (r : Bool) (w : World) (hr0_0 : Kd.C k45 w A0_0 l0_0.length l0_0) (hc0_0 : l0_0.length ≤ c0_0) (hr0_1 : Kd.C k45 w A0_1 l0_1.length l0_1) (hc0_1 : l0_1.length ≤ c0_1) (hr0_2 : Kd.C k45 w A0_2 l0_2.length l0_2) (hc0_2 : l0_2.length ≤ c0_2) (hr0_3 : Kd.C k59 w A0_3 l0_3.length l0_3) (hc0_3 : l0_3.length ≤ c0_3) (hr1 : Kd.C (Kd.int .i64) w A1 l1.length l1) (hc1 : l1.length ≤ c1) (h : unicodetextref51_applies.f k l0_0 l0_1 l0_2 l0_3 l1 a2 = some r) :
    Calls Try.prog 48 #[.agg #[.slice A0_0 l0_0.length c0_0, .slice A0_1 l0_1.length c0_1, .slice A0_2 l0_2.length c0_2, .slice A0_3 l0_3.length c0_3], .slice A1 l1.length c1, .int .i64 a2] w fun e w' => e = .returned (.bool r) ∧ Below w.heap.size w w' := by
  have hu41 := Try.underlying41
  have HR0_0 := Aside0.mk hr0_0
  have HC0_0 := Aside0.mk hc0_0
  clear hr0_0 hc0_0
  have HR0_1 := Aside0.mk hr0_1
  have HC0_1 := Aside0.mk hc0_1
  clear hr0_1 hc0_1
  have HR0_2 := Aside0.mk hr0_2
  have HC0_2 := Aside0.mk hc0_2
  clear hr0_2 hc0_2
  have HR0_3 := Aside0.mk hr0_3
  have HC0_3 := Aside0.mk hc0_3
  clear hr0_3 hc0_3
  have HR1 := Aside0.mk hr1
  have HC1 := Aside0.mk hc1
  clear hr1 hc1
  have HB := Aside0.mk (Below.refl w.heap.size w)
  have H : ((unicodetextref51_inside.f k l0_1 l1 a2).bind fun t207 => (if t207 = true then ((unicodetextref51_inside.f k l0_2 l1 (wrap64 (a2 + (l0_1.length : Int)))).bind fun t208 => (if t208 = true then ((unicodetextref51_inside.f k l0_0 l1 (wrap64 (a2 - (l0_0.length : Int)))).bind fun t209 => (some t209)) else (some false))) else (some false))) = some r := h
  clear h
  replace H := Option.bind_eq_some_iff.mp H
  obtain ⟨t207, A40, H⟩ := H
  replace H : (if t207 = true then ((unicodetextref51_inside.f k l0_2 l1 (wrap64 (a2 + (l0_1.length : Int)))).bind fun t208 => (if t208 = true then ((unicodetextref51_inside.f k l0_0 l1 (wrap64 (a2 - (l0_0.length : Int)))).bind fun t209 => (some t209)) else (some false))) else (some false)) = some r := H
  have A4 := Aside0.mk A40
  clear A40
  by_cases c5 : t207 = true
  · subst c5
    have H1 : ((unicodetextref51_inside.f k l0_2 l1 (wrap64 (a2 + (l0_1.length : Int)))).bind fun t208 => (if t208 = true then ((unicodetextref51_inside.f k l0_0 l1 (wrap64 (a2 - (l0_0.length : Int)))).bind fun t209 => (some t209)) else (some false))) = some r := by rw [if_pos rfl] at H; exact H
    clear H
    have H := H1
    clear H1
    replace H := Option.bind_eq_some_iff.mp H
    obtain ⟨t208, A60, H⟩ := H
    replace H : (if t208 = true then ((unicodetextref51_inside.f k l0_0 l1 (wrap64 (a2 - (l0_0.length : Int)))).bind fun t209 => (some t209)) else (some false)) = some r := H
    have A6 := Aside0.mk A60
    clear A60
    by_cases c7 : t208 = true
    · subst c7
      have H1 : ((unicodetextref51_inside.f k l0_0 l1 (wrap64 (a2 - (l0_0.length : Int)))).bind fun t209 => (some t209)) = some r := by rw [if_pos rfl] at H; exact H
      clear H
      have H := H1
      clear H1
      replace H := Option.bind_eq_some_iff.mp H
      obtain ⟨t209, A80, H⟩ := H
      replace H : (some t209) = some r := H
      have A8 := Aside0.mk A80
      clear A80
      obtain rfl := Option.some.inj H
      go_enter Try.func48, Try.ntmps48
      go_wp2_with (first | ((with_reducible refine gate_dst (N := 3) rfl ?_); (try (refine gate_guard (by rfl) ?_; dsimp only)); refine box_event ?hg (N := 3) ?hd (cs := #[.slice A0_0 l0_0.length c0_0, .slice A0_1 l0_1.length c0_1, .slice A0_2 l0_2.length c0_2, .slice A0_3 l0_3.length c0_3]) (t := 41) ?hr ?_; (case hd => rfl); (case hg => rfl); (case hr => first | (go_simp; done) | (go_simp; rfl)); intro gb206 hg w9 hbox hb; have n0_ := Aside0.mk (below_step (by repeat (first | (with_reducible first | exact HB.out | apply below_alloc | apply pw_below_drewN | apply below_drew1) | exact HB.out)) hb); have n1_ := Aside0.mk (hbox); have n2_ := Aside0.mk ((by rw [hg]; exact (below_size (by repeat (first | (with_reducible first | exact HB.out | apply below_alloc | apply pw_below_drewN | apply below_drew1) | exact HB.out))) : w.heap.size ≤ gb206)); have n3_ := Aside0.mk ((by rw [hg]; exact (below_size (by repeat (first | (with_reducible first | exact HB.out | apply below_alloc | apply pw_below_drewN | apply below_drew1) | exact HB.out))) : w.heap.size ≤ gb206)); clear HB; have HB := n0_; have BK206 := n1_; have GW206 := n2_; have GE206 := n3_; clear n0_ n1_ n2_ n3_; clear hb hbox hg; have hcz10_0 : w9.cell? ⟨gb206, 0, none⟩ = some (.slice A0_0 l0_0.length c0_0) := (blk_cell BK206.out 0).trans rfl; have hcz10_1 : w9.cell? ⟨gb206, 1, none⟩ = some (.slice A0_1 l0_1.length c0_1) := (blk_cell BK206.out 1).trans rfl; have hcz10_2 : w9.cell? ⟨gb206, 2, none⟩ = some (.slice A0_2 l0_2.length c0_2) := (blk_cell BK206.out 2).trans rfl; have hcz10_3 : w9.cell? ⟨gb206, 3, none⟩ = some (.slice A0_3 l0_3.length c0_3) := (blk_cell BK206.out 3).trans rfl; have hfz10_0 := blk_frozen BK206.out 0; have hfz10_1 := blk_frozen BK206.out 1; have hfz10_2 := blk_frozen BK206.out 2; have hfz10_3 := blk_frozen BK206.out 3) | ((with_reducible refine gate_callee (f := 56) rfl ?_); refine goesL_ (some 11) rfl rfl Try.func56 (by kernel_rfl) rfl #[.slice A0_1 l0_1.length c0_1, .slice A1 l1.length c1, .int .i64 a2] rfl (by (try simp only [List.map_toArray, List.map_cons, List.map_nil]); first | done | rfl | (simp only [List.length_drop, List.length_take]; rfl)) ?_; (with_reducible refine (unicodetextref51_inside.calls k _ _ l0_1 _ _ l1 a2 true _ ?side1 ?side2 ?side3 ?side4 A4.out).mono ?_); (case side1 => repeat (first | exact (Kd.C_below HR0_1.out HB.out) | (with_reducible refine Kd.C_alloc ?_ _) | (with_reducible refine Kd.C_drewN ?_ _) | (with_reducible refine Kd.C_drew ?_))); (case side2 => exact HC0_1.out); (case side3 => repeat (first | exact (Kd.C_below HR1.out HB.out) | (with_reducible refine Kd.C_alloc ?_ _) | (with_reducible refine Kd.C_drewN ?_ _) | (with_reducible refine Kd.C_drew ?_))); (case side4 => exact HC1.out); rintro e w11 ⟨rfl, hb⟩; refine ⟨_, rfl, ?_⟩; have n0_ := Aside0.mk (blk_below (g := gb206) (o := .cells #[.slice A0_0 l0_0.length c0_0, .slice A0_1 l0_1.length c0_1, .slice A0_2 l0_2.length c0_2, .slice A0_3 l0_3.length c0_3] 41 (0, 0)) (by (with_reducible repeat (first | refine blk_drewN ?_ _ | refine blk_drew ?_ | refine blk_alloc ?_ _)); exact BK206.out) hb); have n1_ := Aside0.mk (below_step (by repeat (first | (with_reducible first | exact HB.out | apply below_alloc | apply pw_below_drewN | apply below_drew1 | refine below_set ?_ GE206.out) | exact HB.out)) hb); clear BK206; clear HB; have BK206 := n0_; have HB := n1_; clear n0_ n1_; (try clear hb); (try clear hb2); (try clear hk); (try clear hi); have hcz12_0 : w11.cell? ⟨gb206, 0, none⟩ = some (.slice A0_0 l0_0.length c0_0) := (blk_cell BK206.out 0).trans rfl; have hcz12_1 : w11.cell? ⟨gb206, 1, none⟩ = some (.slice A0_1 l0_1.length c0_1) := (blk_cell BK206.out 1).trans rfl; have hcz12_2 : w11.cell? ⟨gb206, 2, none⟩ = some (.slice A0_2 l0_2.length c0_2) := (blk_cell BK206.out 2).trans rfl; have hcz12_3 : w11.cell? ⟨gb206, 3, none⟩ = some (.slice A0_3 l0_3.length c0_3) := (blk_cell BK206.out 3).trans rfl; have hfz12_0 := blk_frozen BK206.out 0; have hfz12_1 := blk_frozen BK206.out 1; have hfz12_2 := blk_frozen BK206.out 2; have hfz12_3 := blk_frozen BK206.out 3) | (go_at_call 56; (with_reducible refine (unicodetextref51_inside.calls k _ _ l0_2 _ _ l1 (wrap64 (a2 + (l0_1.length : Int))) true _ ?side1 ?side2 ?side3 ?side4 A6.out).mono ?_); (case side1 => repeat (first | exact (Kd.C_below HR0_2.out HB.out) | (with_reducible refine Kd.C_alloc ?_ _) | (with_reducible refine Kd.C_drewN ?_ _) | (with_reducible refine Kd.C_drew ?_))); (case side2 => exact HC0_2.out); (case side3 => repeat (first | exact (Kd.C_below HR1.out HB.out) | (with_reducible refine Kd.C_alloc ?_ _) | (with_reducible refine Kd.C_drewN ?_ _) | (with_reducible refine Kd.C_drew ?_))); (case side4 => exact HC1.out); rintro e w13 ⟨rfl, hb⟩; have n0_ := Aside0.mk (blk_below (g := gb206) (o := .cells #[.slice A0_0 l0_0.length c0_0, .slice A0_1 l0_1.length c0_1, .slice A0_2 l0_2.length c0_2, .slice A0_3 l0_3.length c0_3] 41 (0, 0)) (by (with_reducible repeat (first | refine blk_drewN ?_ _ | refine blk_drew ?_ | refine blk_alloc ?_ _)); exact BK206.out) hb); have n1_ := Aside0.mk (below_step (by repeat (first | (with_reducible first | exact HB.out | apply below_alloc | apply pw_below_drewN | apply below_drew1 | refine below_set ?_ GE206.out) | exact HB.out)) hb); clear BK206; clear HB; have BK206 := n0_; have HB := n1_; clear n0_ n1_; (try clear hb); (try clear hb2); (try clear hk); (try clear hi); have hcz14_0 : w13.cell? ⟨gb206, 0, none⟩ = some (.slice A0_0 l0_0.length c0_0) := (blk_cell BK206.out 0).trans rfl; have hcz14_1 : w13.cell? ⟨gb206, 1, none⟩ = some (.slice A0_1 l0_1.length c0_1) := (blk_cell BK206.out 1).trans rfl; have hcz14_2 : w13.cell? ⟨gb206, 2, none⟩ = some (.slice A0_2 l0_2.length c0_2) := (blk_cell BK206.out 2).trans rfl; have hcz14_3 : w13.cell? ⟨gb206, 3, none⟩ = some (.slice A0_3 l0_3.length c0_3) := (blk_cell BK206.out 3).trans rfl; have hfz14_0 := blk_frozen BK206.out 0; have hfz14_1 := blk_frozen BK206.out 1; have hfz14_2 := blk_frozen BK206.out 2; have hfz14_3 := blk_frozen BK206.out 3) | (go_at_call 56; (with_reducible refine (unicodetextref51_inside.calls k _ _ l0_0 _ _ l1 (wrap64 (a2 - (l0_0.length : Int))) t209 _ ?side1 ?side2 ?side3 ?side4 A8.out).mono ?_); (case side1 => repeat (first | exact (Kd.C_below HR0_0.out HB.out) | (with_reducible refine Kd.C_alloc ?_ _) | (with_reducible refine Kd.C_drewN ?_ _) | (with_reducible refine Kd.C_drew ?_))); (case side2 => exact HC0_0.out); (case side3 => repeat (first | exact (Kd.C_below HR1.out HB.out) | (with_reducible refine Kd.C_alloc ?_ _) | (with_reducible refine Kd.C_drewN ?_ _) | (with_reducible refine Kd.C_drew ?_))); (case side4 => exact HC1.out); rintro e w15 ⟨rfl, hb⟩; have n0_ := Aside0.mk (blk_below (g := gb206) (o := .cells #[.slice A0_0 l0_0.length c0_0, .slice A0_1 l0_1.length c0_1, .slice A0_2 l0_2.length c0_2, .slice A0_3 l0_3.length c0_3] 41 (0, 0)) (by (with_reducible repeat (first | refine blk_drewN ?_ _ | refine blk_drew ?_ | refine blk_alloc ?_ _)); exact BK206.out) hb); have n1_ := Aside0.mk (below_step (by repeat (first | (with_reducible first | exact HB.out | apply below_alloc | apply pw_below_drewN | apply below_drew1 | refine below_set ?_ GE206.out) | exact HB.out)) hb); clear BK206; clear HB; have BK206 := n0_; have HB := n1_; clear n0_ n1_; (try clear hb); (try clear hb2); (try clear hk); (try clear hi)))
      go_ret
      exact ⟨by first | rfl | (simp [errW_none, errW_some] <;> rfl) | (simp [*, errW_none, errW_some] <;> rfl), by repeat (first | (with_reducible first | exact HB.out | apply below_alloc | apply pw_below_drewN | apply below_drew1 | refine below_set ?_ GE206.out) | exact HB.out)⟩
    · replace c7 := Bool.eq_false_iff.mpr c7
      subst c7
      have H1 : (some false) = some r := by rw [if_neg (show ¬ (false = true) by decide)] at H; exact H
      clear H
      have H := H1
      clear H1
      obtain rfl := Option.some.inj H
      go_enter Try.func48, Try.ntmps48
      go_wp2_with (first | ((with_reducible refine gate_dst (N := 3) rfl ?_); (try (refine gate_guard (by rfl) ?_; dsimp only)); refine box_event ?hg (N := 3) ?hd (cs := #[.slice A0_0 l0_0.length c0_0, .slice A0_1 l0_1.length c0_1, .slice A0_2 l0_2.length c0_2, .slice A0_3 l0_3.length c0_3]) (t := 41) ?hr ?_; (case hd => rfl); (case hg => rfl); (case hr => first | (go_simp; done) | (go_simp; rfl)); intro gb206 hg w16 hbox hb; have n0_ := Aside0.mk (below_step (by repeat (first | (with_reducible first | exact HB.out | apply below_alloc | apply pw_below_drewN | apply below_drew1) | exact HB.out)) hb); have n1_ := Aside0.mk (hbox); have n2_ := Aside0.mk ((by rw [hg]; exact (below_size (by repeat (first | (with_reducible first | exact HB.out | apply below_alloc | apply pw_below_drewN | apply below_drew1) | exact HB.out))) : w.heap.size ≤ gb206)); have n3_ := Aside0.mk ((by rw [hg]; exact (below_size (by repeat (first | (with_reducible first | exact HB.out | apply below_alloc | apply pw_below_drewN | apply below_drew1) | exact HB.out))) : w.heap.size ≤ gb206)); clear HB; have HB := n0_; have BK206 := n1_; have GW206 := n2_; have GE206 := n3_; clear n0_ n1_ n2_ n3_; clear hb hbox hg; have hcz17_0 : w16.cell? ⟨gb206, 0, none⟩ = some (.slice A0_0 l0_0.length c0_0) := (blk_cell BK206.out 0).trans rfl; have hcz17_1 : w16.cell? ⟨gb206, 1, none⟩ = some (.slice A0_1 l0_1.length c0_1) := (blk_cell BK206.out 1).trans rfl; have hcz17_2 : w16.cell? ⟨gb206, 2, none⟩ = some (.slice A0_2 l0_2.length c0_2) := (blk_cell BK206.out 2).trans rfl; have hcz17_3 : w16.cell? ⟨gb206, 3, none⟩ = some (.slice A0_3 l0_3.length c0_3) := (blk_cell BK206.out 3).trans rfl; have hfz17_0 := blk_frozen BK206.out 0; have hfz17_1 := blk_frozen BK206.out 1; have hfz17_2 := blk_frozen BK206.out 2; have hfz17_3 := blk_frozen BK206.out 3) | ((with_reducible refine gate_callee (f := 56) rfl ?_); refine goesL_ (some 11) rfl rfl Try.func56 (by kernel_rfl) rfl #[.slice A0_1 l0_1.length c0_1, .slice A1 l1.length c1, .int .i64 a2] rfl (by (try simp only [List.map_toArray, List.map_cons, List.map_nil]); first | done | rfl | (simp only [List.length_drop, List.length_take]; rfl)) ?_; (with_reducible refine (unicodetextref51_inside.calls k _ _ l0_1 _ _ l1 a2 true _ ?side1 ?side2 ?side3 ?side4 A4.out).mono ?_); (case side1 => repeat (first | exact (Kd.C_below HR0_1.out HB.out) | (with_reducible refine Kd.C_alloc ?_ _) | (with_reducible refine Kd.C_drewN ?_ _) | (with_reducible refine Kd.C_drew ?_))); (case side2 => exact HC0_1.out); (case side3 => repeat (first | exact (Kd.C_below HR1.out HB.out) | (with_reducible refine Kd.C_alloc ?_ _) | (with_reducible refine Kd.C_drewN ?_ _) | (with_reducible refine Kd.C_drew ?_))); (case side4 => exact HC1.out); rintro e w18 ⟨rfl, hb⟩; refine ⟨_, rfl, ?_⟩; have n0_ := Aside0.mk (blk_below (g := gb206) (o := .cells #[.slice A0_0 l0_0.length c0_0, .slice A0_1 l0_1.length c0_1, .slice A0_2 l0_2.length c0_2, .slice A0_3 l0_3.length c0_3] 41 (0, 0)) (by (with_reducible repeat (first | refine blk_drewN ?_ _ | refine blk_drew ?_ | refine blk_alloc ?_ _)); exact BK206.out) hb); have n1_ := Aside0.mk (below_step (by repeat (first | (with_reducible first | exact HB.out | apply below_alloc | apply pw_below_drewN | apply below_drew1 | refine below_set ?_ GE206.out) | exact HB.out)) hb); clear BK206; clear HB; have BK206 := n0_; have HB := n1_; clear n0_ n1_; (try clear hb); (try clear hb2); (try clear hk); (try clear hi); have hcz19_0 : w18.cell? ⟨gb206, 0, none⟩ = some (.slice A0_0 l0_0.length c0_0) := (blk_cell BK206.out 0).trans rfl; have hcz19_1 : w18.cell? ⟨gb206, 1, none⟩ = some (.slice A0_1 l0_1.length c0_1) := (blk_cell BK206.out 1).trans rfl; have hcz19_2 : w18.cell? ⟨gb206, 2, none⟩ = some (.slice A0_2 l0_2.length c0_2) := (blk_cell BK206.out 2).trans rfl; have hcz19_3 : w18.cell? ⟨gb206, 3, none⟩ = some (.slice A0_3 l0_3.length c0_3) := (blk_cell BK206.out 3).trans rfl; have hfz19_0 := blk_frozen BK206.out 0; have hfz19_1 := blk_frozen BK206.out 1; have hfz19_2 := blk_frozen BK206.out 2; have hfz19_3 := blk_frozen BK206.out 3) | (go_at_call 56; (with_reducible refine (unicodetextref51_inside.calls k _ _ l0_2 _ _ l1 (wrap64 (a2 + (l0_1.length : Int))) false _ ?side1 ?side2 ?side3 ?side4 A6.out).mono ?_); (case side1 => repeat (first | exact (Kd.C_below HR0_2.out HB.out) | (with_reducible refine Kd.C_alloc ?_ _) | (with_reducible refine Kd.C_drewN ?_ _) | (with_reducible refine Kd.C_drew ?_))); (case side2 => exact HC0_2.out); (case side3 => repeat (first | exact (Kd.C_below HR1.out HB.out) | (with_reducible refine Kd.C_alloc ?_ _) | (with_reducible refine Kd.C_drewN ?_ _) | (with_reducible refine Kd.C_drew ?_))); (case side4 => exact HC1.out); rintro e w20 ⟨rfl, hb⟩; have n0_ := Aside0.mk (blk_below (g := gb206) (o := .cells #[.slice A0_0 l0_0.length c0_0, .slice A0_1 l0_1.length c0_1, .slice A0_2 l0_2.length c0_2, .slice A0_3 l0_3.length c0_3] 41 (0, 0)) (by (with_reducible repeat (first | refine blk_drewN ?_ _ | refine blk_drew ?_ | refine blk_alloc ?_ _)); exact BK206.out) hb); have n1_ := Aside0.mk (below_step (by repeat (first | (with_reducible first | exact HB.out | apply below_alloc | apply pw_below_drewN | apply below_drew1 | refine below_set ?_ GE206.out) | exact HB.out)) hb); clear BK206; clear HB; have BK206 := n0_; have HB := n1_; clear n0_ n1_; (try clear hb); (try clear hb2); (try clear hk); (try clear hi)))
      go_ret
      exact ⟨by first | rfl | (simp [errW_none, errW_some] <;> rfl) | (simp [*, errW_none, errW_some] <;> rfl), by repeat (first | (with_reducible first | exact HB.out | apply below_alloc | apply pw_below_drewN | apply below_drew1 | refine below_set ?_ GE206.out) | exact HB.out)⟩
  · replace c5 := Bool.eq_false_iff.mpr c5
    subst c5
    have H1 : (some false) = some r := by rw [if_neg (show ¬ (false = true) by decide)] at H; exact H
    clear H
    have H := H1
    clear H1
    obtain rfl := Option.some.inj H
    go_enter Try.func48, Try.ntmps48
    go_wp2_with (first | ((with_reducible refine gate_dst (N := 3) rfl ?_); (try (refine gate_guard (by rfl) ?_; dsimp only)); refine box_event ?hg (N := 3) ?hd (cs := #[.slice A0_0 l0_0.length c0_0, .slice A0_1 l0_1.length c0_1, .slice A0_2 l0_2.length c0_2, .slice A0_3 l0_3.length c0_3]) (t := 41) ?hr ?_; (case hd => rfl); (case hg => rfl); (case hr => first | (go_simp; done) | (go_simp; rfl)); intro gb206 hg w21 hbox hb; have n0_ := Aside0.mk (below_step (by repeat (first | (with_reducible first | exact HB.out | apply below_alloc | apply pw_below_drewN | apply below_drew1) | exact HB.out)) hb); have n1_ := Aside0.mk (hbox); have n2_ := Aside0.mk ((by rw [hg]; exact (below_size (by repeat (first | (with_reducible first | exact HB.out | apply below_alloc | apply pw_below_drewN | apply below_drew1) | exact HB.out))) : w.heap.size ≤ gb206)); have n3_ := Aside0.mk ((by rw [hg]; exact (below_size (by repeat (first | (with_reducible first | exact HB.out | apply below_alloc | apply pw_below_drewN | apply below_drew1) | exact HB.out))) : w.heap.size ≤ gb206)); clear HB; have HB := n0_; have BK206 := n1_; have GW206 := n2_; have GE206 := n3_; clear n0_ n1_ n2_ n3_; clear hb hbox hg; have hcz22_0 : w21.cell? ⟨gb206, 0, none⟩ = some (.slice A0_0 l0_0.length c0_0) := (blk_cell BK206.out 0).trans rfl; have hcz22_1 : w21.cell? ⟨gb206, 1, none⟩ = some (.slice A0_1 l0_1.length c0_1) := (blk_cell BK206.out 1).trans rfl; have hcz22_2 : w21.cell? ⟨gb206, 2, none⟩ = some (.slice A0_2 l0_2.length c0_2) := (blk_cell BK206.out 2).trans rfl; have hcz22_3 : w21.cell? ⟨gb206, 3, none⟩ = some (.slice A0_3 l0_3.length c0_3) := (blk_cell BK206.out 3).trans rfl; have hfz22_0 := blk_frozen BK206.out 0; have hfz22_1 := blk_frozen BK206.out 1; have hfz22_2 := blk_frozen BK206.out 2; have hfz22_3 := blk_frozen BK206.out 3) | ((with_reducible refine gate_callee (f := 56) rfl ?_); refine goesL_ (some 11) rfl rfl Try.func56 (by kernel_rfl) rfl #[.slice A0_1 l0_1.length c0_1, .slice A1 l1.length c1, .int .i64 a2] rfl (by (try simp only [List.map_toArray, List.map_cons, List.map_nil]); first | done | rfl | (simp only [List.length_drop, List.length_take]; rfl)) ?_; (with_reducible refine (unicodetextref51_inside.calls k _ _ l0_1 _ _ l1 a2 false _ ?side1 ?side2 ?side3 ?side4 A4.out).mono ?_); (case side1 => repeat (first | exact (Kd.C_below HR0_1.out HB.out) | (with_reducible refine Kd.C_alloc ?_ _) | (with_reducible refine Kd.C_drewN ?_ _) | (with_reducible refine Kd.C_drew ?_))); (case side2 => exact HC0_1.out); (case side3 => repeat (first | exact (Kd.C_below HR1.out HB.out) | (with_reducible refine Kd.C_alloc ?_ _) | (with_reducible refine Kd.C_drewN ?_ _) | (with_reducible refine Kd.C_drew ?_))); (case side4 => exact HC1.out); rintro e w23 ⟨rfl, hb⟩; refine ⟨_, rfl, ?_⟩; have n0_ := Aside0.mk (blk_below (g := gb206) (o := .cells #[.slice A0_0 l0_0.length c0_0, .slice A0_1 l0_1.length c0_1, .slice A0_2 l0_2.length c0_2, .slice A0_3 l0_3.length c0_3] 41 (0, 0)) (by (with_reducible repeat (first | refine blk_drewN ?_ _ | refine blk_drew ?_ | refine blk_alloc ?_ _)); exact BK206.out) hb); have n1_ := Aside0.mk (below_step (by repeat (first | (with_reducible first | exact HB.out | apply below_alloc | apply pw_below_drewN | apply below_drew1 | refine below_set ?_ GE206.out) | exact HB.out)) hb); clear BK206; clear HB; have BK206 := n0_; have HB := n1_; clear n0_ n1_; (try clear hb); (try clear hb2); (try clear hk); (try clear hi)))
    go_ret
    exact ⟨by first | rfl | (simp [errW_none, errW_some] <;> rfl) | (simp [*, errW_none, errW_some] <;> rfl), by repeat (first | (with_reducible first | exact HB.out | apply below_alloc | apply pw_below_drewN | apply below_drew1 | refine below_set ?_ GE206.out) | exact HB.out)⟩
mutual
def unicodetextref51_step.j0 : Nat → List (S41) → List Int → Int → Bool → Option (Int × Int)
  | 0, _, _, _, _ => none
  | k + 1, x0, x1, x2, x16 => if x16 = true then (some ((-1), 0)) else (unicodetextref51_step.l0 k x0 x1 x2 0)
def unicodetextref51_step.l0 : Nat → List (S41) → List Int → Int → Int → Option (Int × Int)
  | 0, _, _, _, _ => none
  | k + 1, x0, x1, x2, x8 => if x8 < (x0.length : Int) then (if 0 ≤ x8 then ((unicodetextref51_applies.f k ((rd_T41 x0 x8).f0) ((rd_T41 x0 x8).f1) ((rd_T41 x0 x8).f2) ((rd_T41 x0 x8).f3) x1 x2).bind fun t211 => (if t211 = true then (some (x8, (((rd_T41 x0 x8).f1).length : Int))) else (unicodetextref51_step.l0 k x0 x1 x2 (wrap64 (x8 + 1))))) else (none)) else (some ((-1), 1))
end
def unicodetextref51_step.f (k : Nat) (l0 : List (S41)) (l1 : List Int) (a2 : Int) : Option (Int × Int) := if a2 < 0 then (unicodetextref51_step.j0 k l0 l1 a2 true) else (unicodetextref51_step.j0 k l0 l1 a2 (decide (a2 ≥ (l1.length : Int))))
set_option maxHeartbeats 8000000 in
set_option maxRecDepth 100000 in
theorem unicodetextref51_step.calls (k : Nat) (A0 : Option Addr) (c0 : Nat) (l0 : List (S41)) (A1 : Option Addr) (c1 : Nat) (l1 : List Int) (a2 : Int) (r1 : Int) (r2 : Int) (w : World) (hr0 : Kd.C k41 w A0 l0.length l0) (hc0 : l0.length ≤ c0) (hr1 : Kd.C (Kd.int .i64) w A1 l1.length l1) (hc1 : l1.length ≤ c1) (h : unicodetextref51_step.f k l0 l1 a2 = some (r1, r2)) :
    Calls Try.prog 35 #[.slice A0 l0.length c0, .slice A1 l1.length c1, .int .i64 a2] w fun e w' => e = .returned (.tuple #[.int .i64 r1, .int .i64 r2]) ∧ Below w.heap.size w w' := by
  have hu41 := Try.underlying41
  have HR0 := Aside0.mk hr0
  have HC0 := Aside0.mk hc0
  clear hr0 hc0
  have HR1 := Aside0.mk hr1
  have HC1 := Aside0.mk hc1
  clear hr1 hc1
  have HB := Aside0.mk (Below.refl w.heap.size w)
  have H : (if a2 < 0 then (unicodetextref51_step.j0 k l0 l1 a2 true) else (unicodetextref51_step.j0 k l0 l1 a2 (decide (a2 ≥ (l1.length : Int))))) = some (r1, r2) := h
  clear h
  have HC4 := Aside0.mk H
  clear H
  go_enter Try.func35, Try.ntmps35
  go_upto_region 1 with (fail)
  repeat (go_quiet (fail); go_upto_region 1 with (fail))
  go_cut [16] (fun v16 wc => ∃ (kq : Nat) (x16_3 : Bool), v16 = .bool x16_3 ∧ Aside0 (unicodetextref51_step.j0 kq l0 l1 a2 x16_3 = some (r1, r2)) ∧ Aside0 (kq ≤ k) ∧ Aside0 (Below w.heap.size w wc))
  case first =>
    have H := HC4.out
    clear HC4
    by_cases c5 : a2 < 0
    · rw [if_pos c5] at H
      have c5b0 : decide (a2 < 0) = true := decide_eq_true c5
      clear c5
      (first | rw [c5b0] | (simp only [i64_w, i32_w]; rw [c5b0]) | skip)
      have H' := Aside0.mk H
      clear H
      go_wp2
      repeat (go_quiet (fail); try go_wp2)
      go_meet
      case rel => exact ⟨_, (true), (by first | rfl | (simp; done) | (simp [*]; done)), H', ⟨by first | omega | exact Nat.le_refl _⟩, ⟨by repeat (first | (with_reducible first | exact HB.out | apply below_alloc | apply pw_below_drewN | apply below_drew1) | exact HB.out)⟩⟩
    · rw [if_neg c5] at H
      have c5b0 : decide (a2 < 0) = false := decide_eq_false c5
      clear c5
      (first | rw [c5b0] | (simp only [i64_w, i32_w]; rw [c5b0]) | skip)
      have H' := Aside0.mk H
      clear H
      go_wp2
      repeat (go_quiet (fail); try go_wp2)
      go_meet
      case rel => exact ⟨_, (decide (a2 ≥ (l1.length : Int))), (by first | rfl | (simp; done) | (simp [*]; done)), H', ⟨by first | omega | exact Nat.le_refl _⟩, ⟨by repeat (first | (with_reducible first | exact HB.out | apply below_alloc | apply pw_below_drewN | apply below_drew1) | exact HB.out)⟩⟩
  case rest =>
    clear HC4
    try clear c1
    try clear p2
    try clear c3
    try clear c5
    try clear c5b0
    obtain ⟨kq, x16_3, rfl, HA, HJ3, HB⟩ := hcut
    cases kq with
    | zero => exact absurd HA.out (by simp [unicodetextref51_step.j0])
    | succ kj3 =>
      have H := HA.out
      clear HA
      simp only [unicodetextref51_step.j0] at H
      by_cases c6 : x16_3 = true
      · subst c6
        have H1 : (some ((-1), 0)) = some (r1, r2) := by rw [if_pos rfl] at H; exact H
        clear H
        have H := H1
        clear H1
        simp only [Option.some.injEq, Prod.mk.injEq] at H
        obtain ⟨rfl, rfl⟩ := H
        go_wp2
        repeat (go_quiet (fail); try go_wp2)
        go_ret2
        exact ⟨by first | rfl | (simp [errW_none, errW_some] <;> rfl) | (simp [*, errW_none, errW_some] <;> rfl), by repeat (first | (with_reducible first | exact HB.out | apply below_alloc | apply pw_below_drewN | apply below_drew1) | exact HB.out)⟩
      · replace c6 := Bool.eq_false_iff.mpr c6
        subst c6
        have H1 : (unicodetextref51_step.l0 kj3 l0 l1 a2 0) = some (r1, r2) := by rw [if_neg (show ¬ (false = true) by decide)] at H; exact H
        clear H
        have H := H1
        clear H1
        have H' := Aside0.mk H
        clear H
        go_wp2
        repeat (go_quiet (fail); try go_wp2)
        go_loopg [8] kj3 (fun kq v8 w' => ∃ (x8_2 : Int), v8 = .int .i64 x8_2 ∧ Aside0 (unicodetextref51_step.l0 kq l0 l1 a2 x8_2 = some (r1, r2)) ∧ Aside0 (kq ≤ kj3) ∧ Aside0 (Below w.heap.size w w'))
        case atStart => exact ⟨(0), (by first | rfl | (simp; done) | (simp [*]; done)), H', ⟨Nat.le_refl _⟩, ⟨by repeat (first | (with_reducible first | exact HB.out | apply below_alloc | apply pw_below_drewN | apply below_drew1) | exact HB.out)⟩⟩
        case round =>
          clear H'
          try clear c1
          try clear p2
          try clear c3
          try clear c5
          try clear c5b0
          try clear c6
          try clear p2
          obtain ⟨x8_2, rfl, HA, HK2, HB⟩ := hrel
          cases gk with
          | zero => exact absurd HA.out (by simp [unicodetextref51_step.l0])
          | succ k2 =>
            have H := HA.out
            clear HA
            simp only [unicodetextref51_step.l0] at H
            by_cases c7 : x8_2 < (l0.length : Int)
            · rw [if_pos c7] at H
              have c7b0 : decide (x8_2 < (l0.length : Int)) = true := decide_eq_true c7
              clear c7
              by_cases c8 : 0 ≤ x8_2
              · rw [if_pos c8] at H
                have c8b0 : decide (0 ≤ x8_2) = true := decide_eq_true c8
                clear c8
                replace H := Option.bind_eq_some_iff.mp H
                obtain ⟨t211, A90, H⟩ := H
                replace H : (if t211 = true then (some (x8_2, (((rd_T41 l0 x8_2).f1).length : Int))) else (unicodetextref51_step.l0 k2 l0 l1 a2 (wrap64 (x8_2 + 1)))) = some (r1, r2) := H
                have A9 := Aside0.mk A90
                clear A90
                by_cases c10 : t211 = true
                · subst c10
                  have H1 : (some (x8_2, (((rd_T41 l0 x8_2).f1).length : Int))) = some (r1, r2) := by rw [if_pos rfl] at H; exact H
                  clear H
                  have H := H1
                  clear H1
                  simp only [Option.some.injEq, Prod.mk.injEq] at H
                  obtain ⟨rfl, rfl⟩ := H
                  have p210 : 0 ≤ (x8_2 : Int) := of_decide_eq_true (by first | (with_reducible assumption) | assumption)
                  have q210 : x8_2 < (l0.length : Int) := of_decide_eq_true (by first | (with_reducible assumption) | assumption)
                  obtain ⟨ad210, A210_0, c210_0, A210_1, c210_1, A210_2, c210_2, A210_3, c210_3, e210, hx210_0, hx210_1, hx210_2, hx210_3, hl210_0, hi210_0, hl210_1, hi210_1, hl210_2, hi210_2, hl210_3, hi210_3⟩ := at_T41 HR0.out x8_2 p210 q210
                  cases e210
                  replace hx210_0 := (HB.out.cell (World.block_lt_of_cell? w _ hx210_0)).trans hx210_0
                  replace hx210_1 := (HB.out.cell (World.block_lt_of_cell? w _ hx210_1)).trans hx210_1
                  replace hx210_2 := (HB.out.cell (World.block_lt_of_cell? w _ hx210_2)).trans hx210_2
                  replace hx210_3 := (HB.out.cell (World.block_lt_of_cell? w _ hx210_3)).trans hx210_3
                  have HR210_0 := Aside0.mk hi210_0
                  have HC210_0 := Aside0.mk hl210_0
                  clear hi210_0 hl210_0
                  have HR210_1 := Aside0.mk hi210_1
                  have HC210_1 := Aside0.mk hl210_1
                  clear hi210_1 hl210_1
                  have HR210_2 := Aside0.mk hi210_2
                  have HC210_2 := Aside0.mk hl210_2
                  clear hi210_2 hl210_2
                  have HR210_3 := Aside0.mk hi210_3
                  have HC210_3 := Aside0.mk hl210_3
                  clear hi210_3 hl210_3
                  replace p210 := eq_true p210
                  replace q210 := eq_true q210
                  go_wp2_with (first | (go_at_call 48; (with_reducible refine (unicodetextref51_applies.calls k2 _ _ ((rd_T41 l0 x8_2).f0) _ _ ((rd_T41 l0 x8_2).f1) _ _ ((rd_T41 l0 x8_2).f2) _ _ ((rd_T41 l0 x8_2).f3) _ _ l1 a2 true _ ?side1 ?side2 ?side3 ?side4 ?side5 ?side6 ?side7 ?side8 ?side9 ?side10 A9.out).mono ?_); (case side1 => repeat (first | exact (Kd.C_below HR210_0.out HB.out) | (with_reducible refine Kd.C_alloc ?_ _) | (with_reducible refine Kd.C_drewN ?_ _) | (with_reducible refine Kd.C_drew ?_))); (case side2 => exact HC210_0.out); (case side3 => repeat (first | exact (Kd.C_below HR210_1.out HB.out) | (with_reducible refine Kd.C_alloc ?_ _) | (with_reducible refine Kd.C_drewN ?_ _) | (with_reducible refine Kd.C_drew ?_))); (case side4 => exact HC210_1.out); (case side5 => repeat (first | exact (Kd.C_below HR210_2.out HB.out) | (with_reducible refine Kd.C_alloc ?_ _) | (with_reducible refine Kd.C_drewN ?_ _) | (with_reducible refine Kd.C_drew ?_))); (case side6 => exact HC210_2.out); (case side7 => repeat (first | exact (Kd.C_below HR210_3.out HB.out) | (with_reducible refine Kd.C_alloc ?_ _) | (with_reducible refine Kd.C_drewN ?_ _) | (with_reducible refine Kd.C_drew ?_))); (case side8 => exact HC210_3.out); (case side9 => repeat (first | exact (Kd.C_below HR1.out HB.out) | (with_reducible refine Kd.C_alloc ?_ _) | (with_reducible refine Kd.C_drewN ?_ _) | (with_reducible refine Kd.C_drew ?_))); (case side10 => exact HC1.out); rintro e w11 ⟨rfl, hb⟩; have n0_ := Aside0.mk (below_step (by repeat (first | (with_reducible first | exact HB.out | apply below_alloc | apply pw_below_drewN | apply below_drew1) | exact HB.out)) hb); clear HB; have HB := n0_; clear n0_; (try clear hb); (try clear hb2); (try clear hk); (try clear hi); have p212 : 0 ≤ (x8_2 : Int) := of_decide_eq_true (by first | (with_reducible assumption) | assumption); have q212 : x8_2 < (l0.length : Int) := of_decide_eq_true (by first | (with_reducible assumption) | assumption); obtain ⟨ad212, A212_0, c212_0, A212_1, c212_1, A212_2, c212_2, A212_3, c212_3, e212, hx212_0, hx212_1, hx212_2, hx212_3, hl212_0, hi212_0, hl212_1, hi212_1, hl212_2, hi212_2, hl212_3, hi212_3⟩ := at_T41 HR0.out x8_2 p212 q212; obtain rfl : ad210 = ad212 := (by injection e212); replace hx212_0 := (HB.out.cell (World.block_lt_of_cell? w _ hx212_0)).trans hx212_0; replace hx212_1 := (HB.out.cell (World.block_lt_of_cell? w _ hx212_1)).trans hx212_1; replace hx212_2 := (HB.out.cell (World.block_lt_of_cell? w _ hx212_2)).trans hx212_2; replace hx212_3 := (HB.out.cell (World.block_lt_of_cell? w _ hx212_3)).trans hx212_3; have HR212_0 := Aside0.mk hi212_0; have HC212_0 := Aside0.mk hl212_0; clear hi212_0 hl212_0; have HR212_1 := Aside0.mk hi212_1; have HC212_1 := Aside0.mk hl212_1; clear hi212_1 hl212_1; have HR212_2 := Aside0.mk hi212_2; have HC212_2 := Aside0.mk hl212_2; clear hi212_2 hl212_2; have HR212_3 := Aside0.mk hi212_3; have HC212_3 := Aside0.mk hl212_3; clear hi212_3 hl212_3; replace p212 := eq_true p212; replace q212 := eq_true q212))
                  repeat (go_quiet (first | (go_at_call 48; (with_reducible refine (unicodetextref51_applies.calls k2 _ _ ((rd_T41 l0 x8_2).f0) _ _ ((rd_T41 l0 x8_2).f1) _ _ ((rd_T41 l0 x8_2).f2) _ _ ((rd_T41 l0 x8_2).f3) _ _ l1 a2 true _ ?side1 ?side2 ?side3 ?side4 ?side5 ?side6 ?side7 ?side8 ?side9 ?side10 A9.out).mono ?_); (case side1 => repeat (first | exact (Kd.C_below HR210_0.out HB.out) | (with_reducible refine Kd.C_alloc ?_ _) | (with_reducible refine Kd.C_drewN ?_ _) | (with_reducible refine Kd.C_drew ?_))); (case side2 => exact HC210_0.out); (case side3 => repeat (first | exact (Kd.C_below HR210_1.out HB.out) | (with_reducible refine Kd.C_alloc ?_ _) | (with_reducible refine Kd.C_drewN ?_ _) | (with_reducible refine Kd.C_drew ?_))); (case side4 => exact HC210_1.out); (case side5 => repeat (first | exact (Kd.C_below HR210_2.out HB.out) | (with_reducible refine Kd.C_alloc ?_ _) | (with_reducible refine Kd.C_drewN ?_ _) | (with_reducible refine Kd.C_drew ?_))); (case side6 => exact HC210_2.out); (case side7 => repeat (first | exact (Kd.C_below HR210_3.out HB.out) | (with_reducible refine Kd.C_alloc ?_ _) | (with_reducible refine Kd.C_drewN ?_ _) | (with_reducible refine Kd.C_drew ?_))); (case side8 => exact HC210_3.out); (case side9 => repeat (first | exact (Kd.C_below HR1.out HB.out) | (with_reducible refine Kd.C_alloc ?_ _) | (with_reducible refine Kd.C_drewN ?_ _) | (with_reducible refine Kd.C_drew ?_))); (case side10 => exact HC1.out); rintro e w11 ⟨rfl, hb⟩; have n0_ := Aside0.mk (below_step (by repeat (first | (with_reducible first | exact HB.out | apply below_alloc | apply pw_below_drewN | apply below_drew1) | exact HB.out)) hb); clear HB; have HB := n0_; clear n0_; (try clear hb); (try clear hb2); (try clear hk); (try clear hi); have p212 : 0 ≤ (x8_2 : Int) := of_decide_eq_true (by first | (with_reducible assumption) | assumption); have q212 : x8_2 < (l0.length : Int) := of_decide_eq_true (by first | (with_reducible assumption) | assumption); obtain ⟨ad212, A212_0, c212_0, A212_1, c212_1, A212_2, c212_2, A212_3, c212_3, e212, hx212_0, hx212_1, hx212_2, hx212_3, hl212_0, hi212_0, hl212_1, hi212_1, hl212_2, hi212_2, hl212_3, hi212_3⟩ := at_T41 HR0.out x8_2 p212 q212; obtain rfl : ad210 = ad212 := (by injection e212); replace hx212_0 := (HB.out.cell (World.block_lt_of_cell? w _ hx212_0)).trans hx212_0; replace hx212_1 := (HB.out.cell (World.block_lt_of_cell? w _ hx212_1)).trans hx212_1; replace hx212_2 := (HB.out.cell (World.block_lt_of_cell? w _ hx212_2)).trans hx212_2; replace hx212_3 := (HB.out.cell (World.block_lt_of_cell? w _ hx212_3)).trans hx212_3; have HR212_0 := Aside0.mk hi212_0; have HC212_0 := Aside0.mk hl212_0; clear hi212_0 hl212_0; have HR212_1 := Aside0.mk hi212_1; have HC212_1 := Aside0.mk hl212_1; clear hi212_1 hl212_1; have HR212_2 := Aside0.mk hi212_2; have HC212_2 := Aside0.mk hl212_2; clear hi212_2 hl212_2; have HR212_3 := Aside0.mk hi212_3; have HC212_3 := Aside0.mk hl212_3; clear hi212_3 hl212_3; replace p212 := eq_true p212; replace q212 := eq_true q212)); try go_wp2_with (first | (go_at_call 48; (with_reducible refine (unicodetextref51_applies.calls k2 _ _ ((rd_T41 l0 x8_2).f0) _ _ ((rd_T41 l0 x8_2).f1) _ _ ((rd_T41 l0 x8_2).f2) _ _ ((rd_T41 l0 x8_2).f3) _ _ l1 a2 true _ ?side1 ?side2 ?side3 ?side4 ?side5 ?side6 ?side7 ?side8 ?side9 ?side10 A9.out).mono ?_); (case side1 => repeat (first | exact (Kd.C_below HR210_0.out HB.out) | (with_reducible refine Kd.C_alloc ?_ _) | (with_reducible refine Kd.C_drewN ?_ _) | (with_reducible refine Kd.C_drew ?_))); (case side2 => exact HC210_0.out); (case side3 => repeat (first | exact (Kd.C_below HR210_1.out HB.out) | (with_reducible refine Kd.C_alloc ?_ _) | (with_reducible refine Kd.C_drewN ?_ _) | (with_reducible refine Kd.C_drew ?_))); (case side4 => exact HC210_1.out); (case side5 => repeat (first | exact (Kd.C_below HR210_2.out HB.out) | (with_reducible refine Kd.C_alloc ?_ _) | (with_reducible refine Kd.C_drewN ?_ _) | (with_reducible refine Kd.C_drew ?_))); (case side6 => exact HC210_2.out); (case side7 => repeat (first | exact (Kd.C_below HR210_3.out HB.out) | (with_reducible refine Kd.C_alloc ?_ _) | (with_reducible refine Kd.C_drewN ?_ _) | (with_reducible refine Kd.C_drew ?_))); (case side8 => exact HC210_3.out); (case side9 => repeat (first | exact (Kd.C_below HR1.out HB.out) | (with_reducible refine Kd.C_alloc ?_ _) | (with_reducible refine Kd.C_drewN ?_ _) | (with_reducible refine Kd.C_drew ?_))); (case side10 => exact HC1.out); rintro e w11 ⟨rfl, hb⟩; have n0_ := Aside0.mk (below_step (by repeat (first | (with_reducible first | exact HB.out | apply below_alloc | apply pw_below_drewN | apply below_drew1) | exact HB.out)) hb); clear HB; have HB := n0_; clear n0_; (try clear hb); (try clear hb2); (try clear hk); (try clear hi); have p212 : 0 ≤ (x8_2 : Int) := of_decide_eq_true (by first | (with_reducible assumption) | assumption); have q212 : x8_2 < (l0.length : Int) := of_decide_eq_true (by first | (with_reducible assumption) | assumption); obtain ⟨ad212, A212_0, c212_0, A212_1, c212_1, A212_2, c212_2, A212_3, c212_3, e212, hx212_0, hx212_1, hx212_2, hx212_3, hl212_0, hi212_0, hl212_1, hi212_1, hl212_2, hi212_2, hl212_3, hi212_3⟩ := at_T41 HR0.out x8_2 p212 q212; obtain rfl : ad210 = ad212 := (by injection e212); replace hx212_0 := (HB.out.cell (World.block_lt_of_cell? w _ hx212_0)).trans hx212_0; replace hx212_1 := (HB.out.cell (World.block_lt_of_cell? w _ hx212_1)).trans hx212_1; replace hx212_2 := (HB.out.cell (World.block_lt_of_cell? w _ hx212_2)).trans hx212_2; replace hx212_3 := (HB.out.cell (World.block_lt_of_cell? w _ hx212_3)).trans hx212_3; have HR212_0 := Aside0.mk hi212_0; have HC212_0 := Aside0.mk hl212_0; clear hi212_0 hl212_0; have HR212_1 := Aside0.mk hi212_1; have HC212_1 := Aside0.mk hl212_1; clear hi212_1 hl212_1; have HR212_2 := Aside0.mk hi212_2; have HC212_2 := Aside0.mk hl212_2; clear hi212_2 hl212_2; have HR212_3 := Aside0.mk hi212_3; have HC212_3 := Aside0.mk hl212_3; clear hi212_3 hl212_3; replace p212 := eq_true p212; replace q212 := eq_true q212)))
                  go_ret2
                  exact ⟨by first | rfl | (simp [errW_none, errW_some] <;> rfl) | (simp [*, errW_none, errW_some] <;> rfl), by repeat (first | (with_reducible first | exact HB.out | apply below_alloc | apply pw_below_drewN | apply below_drew1) | exact HB.out)⟩
                · replace c10 := Bool.eq_false_iff.mpr c10
                  subst c10
                  have H1 : (unicodetextref51_step.l0 k2 l0 l1 a2 (wrap64 (x8_2 + 1))) = some (r1, r2) := by rw [if_neg (show ¬ (false = true) by decide)] at H; exact H
                  clear H
                  have H := H1
                  clear H1
                  have H' := Aside0.mk H
                  clear H
                  have p210 : 0 ≤ (x8_2 : Int) := of_decide_eq_true (by first | (with_reducible assumption) | assumption)
                  have q210 : x8_2 < (l0.length : Int) := of_decide_eq_true (by first | (with_reducible assumption) | assumption)
                  obtain ⟨ad210, A210_0, c210_0, A210_1, c210_1, A210_2, c210_2, A210_3, c210_3, e210, hx210_0, hx210_1, hx210_2, hx210_3, hl210_0, hi210_0, hl210_1, hi210_1, hl210_2, hi210_2, hl210_3, hi210_3⟩ := at_T41 HR0.out x8_2 p210 q210
                  cases e210
                  replace hx210_0 := (HB.out.cell (World.block_lt_of_cell? w _ hx210_0)).trans hx210_0
                  replace hx210_1 := (HB.out.cell (World.block_lt_of_cell? w _ hx210_1)).trans hx210_1
                  replace hx210_2 := (HB.out.cell (World.block_lt_of_cell? w _ hx210_2)).trans hx210_2
                  replace hx210_3 := (HB.out.cell (World.block_lt_of_cell? w _ hx210_3)).trans hx210_3
                  have HR210_0 := Aside0.mk hi210_0
                  have HC210_0 := Aside0.mk hl210_0
                  clear hi210_0 hl210_0
                  have HR210_1 := Aside0.mk hi210_1
                  have HC210_1 := Aside0.mk hl210_1
                  clear hi210_1 hl210_1
                  have HR210_2 := Aside0.mk hi210_2
                  have HC210_2 := Aside0.mk hl210_2
                  clear hi210_2 hl210_2
                  have HR210_3 := Aside0.mk hi210_3
                  have HC210_3 := Aside0.mk hl210_3
                  clear hi210_3 hl210_3
                  replace p210 := eq_true p210
                  replace q210 := eq_true q210
                  go_wp2_with (first | (go_at_call 48; (with_reducible refine (unicodetextref51_applies.calls k2 _ _ ((rd_T41 l0 x8_2).f0) _ _ ((rd_T41 l0 x8_2).f1) _ _ ((rd_T41 l0 x8_2).f2) _ _ ((rd_T41 l0 x8_2).f3) _ _ l1 a2 false _ ?side1 ?side2 ?side3 ?side4 ?side5 ?side6 ?side7 ?side8 ?side9 ?side10 A9.out).mono ?_); (case side1 => repeat (first | exact (Kd.C_below HR210_0.out HB.out) | (with_reducible refine Kd.C_alloc ?_ _) | (with_reducible refine Kd.C_drewN ?_ _) | (with_reducible refine Kd.C_drew ?_))); (case side2 => exact HC210_0.out); (case side3 => repeat (first | exact (Kd.C_below HR210_1.out HB.out) | (with_reducible refine Kd.C_alloc ?_ _) | (with_reducible refine Kd.C_drewN ?_ _) | (with_reducible refine Kd.C_drew ?_))); (case side4 => exact HC210_1.out); (case side5 => repeat (first | exact (Kd.C_below HR210_2.out HB.out) | (with_reducible refine Kd.C_alloc ?_ _) | (with_reducible refine Kd.C_drewN ?_ _) | (with_reducible refine Kd.C_drew ?_))); (case side6 => exact HC210_2.out); (case side7 => repeat (first | exact (Kd.C_below HR210_3.out HB.out) | (with_reducible refine Kd.C_alloc ?_ _) | (with_reducible refine Kd.C_drewN ?_ _) | (with_reducible refine Kd.C_drew ?_))); (case side8 => exact HC210_3.out); (case side9 => repeat (first | exact (Kd.C_below HR1.out HB.out) | (with_reducible refine Kd.C_alloc ?_ _) | (with_reducible refine Kd.C_drewN ?_ _) | (with_reducible refine Kd.C_drew ?_))); (case side10 => exact HC1.out); rintro e w12 ⟨rfl, hb⟩; have n0_ := Aside0.mk (below_step (by repeat (first | (with_reducible first | exact HB.out | apply below_alloc | apply pw_below_drewN | apply below_drew1) | exact HB.out)) hb); clear HB; have HB := n0_; clear n0_; (try clear hb); (try clear hb2); (try clear hk); (try clear hi)))
                  repeat (go_quiet (first | (go_at_call 48; (with_reducible refine (unicodetextref51_applies.calls k2 _ _ ((rd_T41 l0 x8_2).f0) _ _ ((rd_T41 l0 x8_2).f1) _ _ ((rd_T41 l0 x8_2).f2) _ _ ((rd_T41 l0 x8_2).f3) _ _ l1 a2 false _ ?side1 ?side2 ?side3 ?side4 ?side5 ?side6 ?side7 ?side8 ?side9 ?side10 A9.out).mono ?_); (case side1 => repeat (first | exact (Kd.C_below HR210_0.out HB.out) | (with_reducible refine Kd.C_alloc ?_ _) | (with_reducible refine Kd.C_drewN ?_ _) | (with_reducible refine Kd.C_drew ?_))); (case side2 => exact HC210_0.out); (case side3 => repeat (first | exact (Kd.C_below HR210_1.out HB.out) | (with_reducible refine Kd.C_alloc ?_ _) | (with_reducible refine Kd.C_drewN ?_ _) | (with_reducible refine Kd.C_drew ?_))); (case side4 => exact HC210_1.out); (case side5 => repeat (first | exact (Kd.C_below HR210_2.out HB.out) | (with_reducible refine Kd.C_alloc ?_ _) | (with_reducible refine Kd.C_drewN ?_ _) | (with_reducible refine Kd.C_drew ?_))); (case side6 => exact HC210_2.out); (case side7 => repeat (first | exact (Kd.C_below HR210_3.out HB.out) | (with_reducible refine Kd.C_alloc ?_ _) | (with_reducible refine Kd.C_drewN ?_ _) | (with_reducible refine Kd.C_drew ?_))); (case side8 => exact HC210_3.out); (case side9 => repeat (first | exact (Kd.C_below HR1.out HB.out) | (with_reducible refine Kd.C_alloc ?_ _) | (with_reducible refine Kd.C_drewN ?_ _) | (with_reducible refine Kd.C_drew ?_))); (case side10 => exact HC1.out); rintro e w12 ⟨rfl, hb⟩; have n0_ := Aside0.mk (below_step (by repeat (first | (with_reducible first | exact HB.out | apply below_alloc | apply pw_below_drewN | apply below_drew1) | exact HB.out)) hb); clear HB; have HB := n0_; clear n0_; (try clear hb); (try clear hb2); (try clear hk); (try clear hi))); try go_wp2_with (first | (go_at_call 48; (with_reducible refine (unicodetextref51_applies.calls k2 _ _ ((rd_T41 l0 x8_2).f0) _ _ ((rd_T41 l0 x8_2).f1) _ _ ((rd_T41 l0 x8_2).f2) _ _ ((rd_T41 l0 x8_2).f3) _ _ l1 a2 false _ ?side1 ?side2 ?side3 ?side4 ?side5 ?side6 ?side7 ?side8 ?side9 ?side10 A9.out).mono ?_); (case side1 => repeat (first | exact (Kd.C_below HR210_0.out HB.out) | (with_reducible refine Kd.C_alloc ?_ _) | (with_reducible refine Kd.C_drewN ?_ _) | (with_reducible refine Kd.C_drew ?_))); (case side2 => exact HC210_0.out); (case side3 => repeat (first | exact (Kd.C_below HR210_1.out HB.out) | (with_reducible refine Kd.C_alloc ?_ _) | (with_reducible refine Kd.C_drewN ?_ _) | (with_reducible refine Kd.C_drew ?_))); (case side4 => exact HC210_1.out); (case side5 => repeat (first | exact (Kd.C_below HR210_2.out HB.out) | (with_reducible refine Kd.C_alloc ?_ _) | (with_reducible refine Kd.C_drewN ?_ _) | (with_reducible refine Kd.C_drew ?_))); (case side6 => exact HC210_2.out); (case side7 => repeat (first | exact (Kd.C_below HR210_3.out HB.out) | (with_reducible refine Kd.C_alloc ?_ _) | (with_reducible refine Kd.C_drewN ?_ _) | (with_reducible refine Kd.C_drew ?_))); (case side8 => exact HC210_3.out); (case side9 => repeat (first | exact (Kd.C_below HR1.out HB.out) | (with_reducible refine Kd.C_alloc ?_ _) | (with_reducible refine Kd.C_drewN ?_ _) | (with_reducible refine Kd.C_drew ?_))); (case side10 => exact HC1.out); rintro e w12 ⟨rfl, hb⟩; have n0_ := Aside0.mk (below_step (by repeat (first | (with_reducible first | exact HB.out | apply below_alloc | apply pw_below_drewN | apply below_drew1) | exact HB.out)) hb); clear HB; have HB := n0_; clear n0_; (try clear hb); (try clear hb2); (try clear hk); (try clear hi))))
                  go_roundg k2
                  case measure => have := HJ3.out; have := HK2.out; omega
                  case rel => exact ⟨(wrap64 (x8_2 + 1)), (by first | rfl | (simp; done) | (simp [*]; done)), H', ⟨by have := HJ3.out; have := HK2.out; omega⟩, ⟨by repeat (first | (with_reducible first | exact HB.out | apply below_alloc | apply pw_below_drewN | apply below_drew1) | exact HB.out)⟩⟩
              · rw [if_neg c8] at H
                exact absurd H (by simp)
            · rw [if_neg c7] at H
              have c7b0 : decide (x8_2 < (l0.length : Int)) = false := decide_eq_false c7
              clear c7
              simp only [Option.some.injEq, Prod.mk.injEq] at H
              obtain ⟨rfl, rfl⟩ := H
              go_wp2
              repeat (go_quiet (fail); try go_wp2)
              go_ret2
              exact ⟨by first | rfl | (simp [errW_none, errW_some] <;> rfl) | (simp [*, errW_none, errW_some] <;> rfl), by repeat (first | (with_reducible first | exact HB.out | apply below_alloc | apply pw_below_drewN | apply below_drew1) | exact HB.out)⟩
def unicodetextref51_Step.f (k : Nat) (l0 : List (S41)) (l1 : List Int) (a2 : Int) : Option (Int × Int) := (unicodetextref51_Data.f k l0).bind fun t213 => ((unicodetextref51_step.f k t213 l1 a2).bind fun bt216 => (some (bt216.1, bt216.2)))
set_option maxHeartbeats 8000000 in
set_option maxRecDepth 100000 in
theorem unicodetextref51_Step.calls (k : Nat) (A0 : Option Addr) (c0 : Nat) (l0 : List (S41)) (A1 : Option Addr) (c1 : Nat) (l1 : List Int) (a2 : Int) (r1 : Int) (r2 : Int) (w : World) (hr0 : Kd.C k41 w A0 l0.length l0) (hc0 : l0.length ≤ c0) (hr1 : Kd.C (Kd.int .i64) w A1 l1.length l1) (hc1 : l1.length ≤ c1) (h : unicodetextref51_Step.f k l0 l1 a2 = some (r1, r2)) :
    Calls Try.prog 50 #[.slice A0 l0.length c0, .slice A1 l1.length c1, .int .i64 a2] w fun e w' => e = .returned (.tuple #[.int .i64 r1, .int .i64 r2]) ∧ Below w.heap.size w w' := by
  have HR0 := Aside0.mk hr0
  have HC0 := Aside0.mk hc0
  clear hr0 hc0
  have HR1 := Aside0.mk hr1
  have HC1 := Aside0.mk hc1
  clear hr1 hc1
  have HB := Aside0.mk (Below.refl w.heap.size w)
  have H : ((unicodetextref51_Data.f k l0).bind fun t213 => ((unicodetextref51_step.f k t213 l1 a2).bind fun bt216 => (some (bt216.1, bt216.2)))) = some (r1, r2) := h
  clear h
  replace H := Option.bind_eq_some_iff.mp H
  obtain ⟨t213, A40, H⟩ := H
  replace H : ((unicodetextref51_step.f k t213 l1 a2).bind fun bt216 => (some (bt216.1, bt216.2))) = some (r1, r2) := H
  have A4 := Aside0.mk A40
  clear A40
  replace H := Option.bind_eq_some_iff.mp H
  obtain ⟨⟨t216, t217⟩, A50, H⟩ := H
  replace H : (some (t216, t217)) = some (r1, r2) := H
  have A5 := Aside0.mk A50
  clear A50
  simp only [Option.some.injEq, Prod.mk.injEq] at H
  obtain ⟨rfl, rfl⟩ := H
  go_enter Try.func50, Try.ntmps50
  go_wp2_with (first | ((with_reducible refine gate_callee (f := 34) rfl ?_); refine goesL_ (some 9) rfl rfl Try.func34 (by kernel_rfl) rfl #[.slice A0 l0.length c0] rfl (by (try simp only [List.map_toArray, List.map_cons, List.map_nil]); first | done | rfl | (simp only [List.length_drop, List.length_take]; rfl)) ?_; (with_reducible refine (unicodetextref51_Data.calls k (fun k_ => k_ < w.heap.size) _ _ l0 t213 _ ?side1 A4.out).mono ?_); (case side1 => exact Kd.V_mk HC0.out (Kd.F_below (Kd.C_F k41_heap HR0.out) (by repeat (first | (with_reducible first | exact HB.out | apply below_alloc | apply pw_below_drewN | apply below_drew1) | exact HB.out)))); rintro e w6 ⟨v214, rfl, ho0, hb⟩; refine ⟨_, rfl, ?_⟩; have n0_ := Aside0.mk (Kd.V_lower (Kd.V_mono (ok' := fun k_ => True) ho0 (fun k_ hk_ => trivial)) (below_size (by repeat (first | (with_reducible first | exact HB.out | apply below_alloc | apply pw_below_drewN | apply below_drew1) | exact HB.out)))); have n1_ := Aside0.mk (below_step (by repeat (first | (with_reducible first | exact HB.out | apply below_alloc | apply pw_below_drewN | apply below_drew1) | exact HB.out)) hb); clear HB; have HO215 := n0_; have HB := n1_; clear n0_ n1_; (try clear hb); (try clear hb2); (try clear hk); (try clear hi); (try clear ho0); obtain ⟨Ao7, co7, eo7⟩ := Kd.V_slice HO215.out; subst eo7) | ((with_reducible refine gate_callee (f := 35) rfl ?_); refine goesL_ (some 12) rfl rfl Try.func35 (by kernel_rfl) rfl #[.slice Ao7 t213.length co7, .slice A1 l1.length c1, .int .i64 a2] rfl (by (try simp only [List.map_toArray, List.map_cons, List.map_nil]); first | done | rfl | (simp only [List.length_drop, List.length_take]; rfl)) ?_; (with_reducible refine (unicodetextref51_step.calls k _ _ t213 _ _ l1 a2 t216 t217 _ ?side1 ?side2 ?side3 ?side4 A5.out).mono ?_); (case side1 => repeat (first | exact (Kd.V_reads' HO215.out).2.2 | (with_reducible refine Kd.C_alloc ?_ _) | (with_reducible refine Kd.C_drewN ?_ _) | (with_reducible refine Kd.C_drew ?_))); (case side2 => exact (Kd.V_reads' HO215.out).2.1); (case side3 => repeat (first | exact (Kd.C_below HR1.out HB.out) | (with_reducible refine Kd.C_alloc ?_ _) | (with_reducible refine Kd.C_drewN ?_ _) | (with_reducible refine Kd.C_drew ?_))); (case side4 => exact HC1.out); rintro e w8 ⟨rfl, hb⟩; refine ⟨_, rfl, ?_⟩; have n0_ := Aside0.mk (Kd.V_below (by (with_reducible repeat (first | apply Kd.V_alloc | apply Kd.V_drewN | apply Kd.V_drew)); exact HO215.out) hb); have n1_ := Aside0.mk (below_step (by repeat (first | (with_reducible first | exact HB.out | apply below_alloc | apply pw_below_drewN | apply below_drew1) | exact HB.out)) hb); clear HO215; clear HB; have HO215 := n0_; have HB := n1_; clear n0_ n1_; (try clear hb); (try clear hb2); (try clear hk); (try clear hi)))
  go_ret2
  exact ⟨by first | rfl | (simp [errW_none, errW_some] <;> rfl) | (simp [*, errW_none, errW_some] <;> rfl), by repeat (first | (with_reducible first | exact HB.out | apply below_alloc | apply pw_below_drewN | apply below_drew1) | exact HB.out)⟩
end Go.Proofs.Ytcpicopaobhlcaa.Q
end
section
namespace Go.Proofs.Ytcpicopaobhlcaa.Q
open Go.RowKit Go.Proofs.YtcpicopaobhlcaaW.PrintWords Go.Proofs.YtcpicopaobhlcaaW.PrintLast Go.Proofs.YtcpicopaobhlcaaW.PrintMore
set_option linter.unusedVariables false
theorem plOkSets {l : List St} (h : plFewS l) : l.all okSet = true := List.all_eq_true.2 fun s hs => decide_eq_true (h.2 s hs)
theorem plOkRules {l : List Ru} (h : plFewL l) : okRules l = true := by
  unfold okRules
  rw [Bool.and_eq_true, decide_eq_true_eq, List.all_eq_true]
  refine ⟨by have := h.1; omega, fun x hx => ?_⟩
  obtain ⟨h0, h1, h2, h3⟩ := h.2 x hx
  unfold okRule
  rw [plOkSets h0, plOkSets h1, plOkSets h2, decide_eq_true (by have := h0.1; omega), decide_eq_true (by have := h1.1; omega), decide_eq_true (by have := h2.1; omega), decide_eq_true (by omega)]
  rfl
theorem plInside_go (text : List Int) (a : Nat) (hT : text.length < 1000000000) : ∀ (rest pre : List St) (k : Nat), (∀ s ∈ rest, s.f0.length ≤ 12) → a + (pre ++ rest).length ≤ text.length → rest.length + 15 ≤ k →
    unicodetextref51_inside.l0 k (pre ++ rest) text (a : Int) (pre.length : Int) = some (insideS rest (text.drop (a + pre.length)))
  | [], pre, k, h0, h1, h2 => by
    obtain ⟨k, rfl⟩ : ∃ j, k = j + 1 := ⟨k - 1, by omega⟩
    rw [unicodetextref51_inside.l0, if_neg (by simp)]
    rfl
  | s :: rest, pre, k, h0, h1, h2 => by
    obtain ⟨k, rfl⟩ : ∃ j, k = j + 1 := ⟨k - 1, by omega⟩
    have hp : a + pre.length < text.length := by simp at h1; omega
    have ih := plInside_go text a hT rest (pre ++ [s]) k (fun y hy => h0 y (List.mem_cons_of_mem _ hy)) (by simpa using h1) (by simp at h2; omega)
    have ex : (pre ++ [s]) ++ rest = pre ++ s :: rest := by simp
    have el : ((pre ++ [s]).length : Int) = ((pre.length + 1 : Nat) : Int) := by simp
    have en : (pre ++ [s]).length = pre.length + 1 := by simp
    rw [ex, el, en] at ih
    have hw : wrap64 ((a : Int) + (pre.length : Int)) = ((a + pre.length : Nat) : Int) := by unfold wrap64; omega
    have h12 := h0 s List.mem_cons_self
    have hs : unicodetextref02_Has.f k s.f0 (rd text ((a + pre.length : Nat) : Int)) = some (hasS s (rd text ((a + pre.length : Nat) : Int))) :=
      has_go s.f0 [] _ k (by simp; omega) (by simp at h2; omega)
    rw [unicodetextref51_inside.l0, if_pos (by simp; omega), if_pos (by omega), rdS_mid, hw, if_pos (by omega), if_pos (by omega), hs, wrap_suc (by omega : pre.length < 1000000000), drop_rdI _ _ hp]
    show (if hasS s _ = true then _ else _) = _
    rw [ih, insideS]
    cases hasS s (rd text ((a + pre.length : Nat) : Int)) <;> rfl
theorem plInside_ok (sets : List St) (text : List Int) (i : Int) (k : Nat) (h : plFewS sets) (hT : text.length < 1000000000) (hi : -1000000000000 < i ∧ i < 1000000000000) (hk : 36 ≤ k) :
    unicodetextref51_inside.f k sets text i = some (coversS sets text i) := by
  have hS := h.1
  obtain ⟨k, rfl⟩ : ∃ j, k = j + 1 := ⟨k - 1, by omega⟩
  unfold unicodetextref51_inside.f coversS
  by_cases hn : i < 0
  · rw [if_pos hn, unicodetextref51_inside.j0, if_pos rfl, decide_eq_false (by omega)]
    rfl
  · have hw : wrap64 (i + (sets.length : Int)) = i + (sets.length : Int) := by unfold wrap64; omega
    rw [if_neg hn, hw, unicodetextref51_inside.j0, decide_eq_true (by omega : 0 ≤ i)]
    by_cases hl : i + (sets.length : Int) ≤ (text.length : Int)
    · rw [if_neg (by simp; omega), decide_eq_true hl]
      obtain ⟨a, rfl⟩ : ∃ a : Nat, i = (a : Int) := ⟨i.toNat, by omega⟩
      have := plInside_go text a hT sets [] k h.2 (by simpa using by omega) (by omega)
      rw [Int.toNat_natCast]
      exact this
    · rw [if_pos (by simp; omega), decide_eq_false hl]
      rfl
theorem plApplies_ok (x : Ru) (text : List Int) (i : Int) (k : Nat) (h : plFewU x) (hT : text.length < 1000000000) (hi : 0 ≤ i ∧ i < 1000000000) (hk : 36 ≤ k) :
    unicodetextref51_applies.f k x.f0 x.f1 x.f2 x.f3 text i = some (appliesS x text i) := by
  obtain ⟨h0, h1, h2, h3⟩ := h
  have l0 := h0.1
  have l1 := h1.1
  have l2 := h2.1
  have hw1 : wrap64 (i + (x.f1.length : Int)) = i + (x.f1.length : Int) := by unfold wrap64; omega
  have hw0 : wrap64 (i - (x.f0.length : Int)) = i - (x.f0.length : Int) := by unfold wrap64; omega
  unfold unicodetextref51_applies.f appliesS
  rw [hw1, hw0, plInside_ok x.f1 text i k h1 hT (by omega) hk, plInside_ok x.f2 text _ k h2 hT (by omega) hk, plInside_ok x.f0 text _ k h0 hT (by omega) hk]
  simp only [Option.bind_some]
  cases coversS x.f1 text i <;> cases coversS x.f2 text (i + (x.f1.length : Int)) <;> rfl
theorem plStep_go (text : List Int) (i : Int) (hT : text.length < 1000000000) (hi : 0 ≤ i ∧ i < 1000000000) : ∀ (rest pre : List Ru) (k : Nat), (∀ x ∈ rest, plFewU x) → (pre ++ rest).length < 1000000000 → rest.length + 37 ≤ k →
    unicodetextref51_step.l0 k (pre ++ rest) text i (pre.length : Int) = some (match rest.findIdx? (fun x => appliesS x text i) with | some j => (((pre.length + j : Nat) : Int), ((rest.getD j z41).f1.length : Int)) | none => (-1, 1))
  | [], pre, k, h0, h1, h2 => by
    obtain ⟨k, rfl⟩ : ∃ j, k = j + 1 := ⟨k - 1, by omega⟩
    rw [unicodetextref51_step.l0, if_neg (by simp)]
    rfl
  | x :: rest, pre, k, h0, h1, h2 => by
    obtain ⟨k, rfl⟩ : ∃ j, k = j + 1 := ⟨k - 1, by omega⟩
    have hp : pre.length < 1000000000 := by simp at h1; omega
    have ih := plStep_go text i hT hi rest (pre ++ [x]) k (fun y hy => h0 y (List.mem_cons_of_mem _ hy)) (by simpa using h1) (by simp at h2; omega)
    have ex : (pre ++ [x]) ++ rest = pre ++ x :: rest := by simp
    have el : ((pre ++ [x]).length : Int) = ((pre.length + 1 : Nat) : Int) := by simp
    have en : (pre ++ [x]).length = pre.length + 1 := by simp
    rw [ex, el, en] at ih
    rw [unicodetextref51_step.l0, if_pos (by simp; omega), if_pos (by omega), rdU_mid, wrap_suc hp, plApplies_ok x text i k (h0 x List.mem_cons_self) hT hi (by simp at h2; omega), List.findIdx?_cons]
    show (if appliesS x text i = true then _ else _) = _
    rw [ih]
    cases appliesS x text i with
    | true => rfl
    | false =>
      rw [if_neg (by decide)]
      cases rest.findIdx? (fun x => appliesS x text i) with
      | none => rfl
      | some j =>
        show some (((pre.length + 1 + j : Nat) : Int), _) = some (((pre.length + (j + 1) : Nat) : Int), _)
        rw [show pre.length + 1 + j = pre.length + (j + 1) by omega]
        rfl
theorem plStep_ok (l : List Ru) (text : List Int) (i : Int) (k : Nat) (h : plFewL l) (hT : text.length < 1000000000) (hk : 260 ≤ k) : unicodetextref51_step.f k l text i = some (stepS l text i) := by
  obtain ⟨k, rfl⟩ : ∃ j, k = j + 1 := ⟨k - 1, by omega⟩
  have hl := h.1
  unfold unicodetextref51_step.f stepS
  by_cases h0 : i < 0
  · rw [if_pos h0, if_pos (.inl h0), unicodetextref51_step.j0, if_pos rfl]
  · rw [if_neg h0]
    by_cases h1 : (text.length : Int) ≤ i
    · rw [decide_eq_true h1, if_pos (.inr h1), unicodetextref51_step.j0, if_pos rfl]
    · rw [decide_eq_false h1, if_neg (by omega), unicodetextref51_step.j0, if_neg (by decide)]
      have := plStep_go text i hT (by omega) l [] k h.2 (by simp; omega) (by omega)
      refine Eq.trans this ?_
      cases l.findIdx? (fun x => appliesS x text i) with
      | none => rfl
      | some j => show some (((0 + j : Nat) : Int), _) = _; rw [Nat.zero_add]
theorem plRefStep_ok (l : List Ru) (text : List Int) (i : Int) (k : Nat) (h : plFewL l) (hT : text.length < 1000000000) (hk : 270 ≤ k) : unicodetextref51_Step.f k l text i = some (stepS (dataS l) text i) := by
  unfold unicodetextref51_Step.f
  rw [plData_ok l k h hk]
  show (unicodetextref51_step.f k (dataS l) text i).bind _ = _
  rw [plStep_ok (dataS l) text i k (plData_few l h) hT (by omega)]
  rfl
theorem plCmp_go : ∀ (xs ys px py : List Int) (k : Nat), px.length = py.length → (px ++ xs).length < 1000000000 → 2 * xs.length + 2 ≤ k →
    ∃ c, unicodetextref01_Compare.l0 k (px ++ xs) (py ++ ys) (px.length : Int) = some c ∧ (c = 0 ↔ xs = ys)
  | [], [], px, py, k, h1, h2, h3 => by
    obtain ⟨k, rfl⟩ : ∃ j, k = j + 2 := ⟨k - 2, by omega⟩
    rw [unicodetextref01_Compare.l0, if_neg (by simp), unicodetextref01_Compare.j1, if_neg (by decide), if_neg (by simp [h1]), if_neg (by simp [h1])]
    exact ⟨0, rfl, by simp⟩
  | [], y :: ys, px, py, k, h1, h2, h3 => by
    obtain ⟨k, rfl⟩ : ∃ j, k = j + 2 := ⟨k - 2, by omega⟩
    rw [unicodetextref01_Compare.l0, if_neg (by simp), unicodetextref01_Compare.j1, if_neg (by decide), if_pos (by simp [h1]; omega)]
    exact ⟨-1, rfl, by simp⟩
  | x :: xs, [], px, py, k, h1, h2, h3 => by
    obtain ⟨k, rfl⟩ : ∃ j, k = j + 2 := ⟨k - 2, by omega⟩
    rw [unicodetextref01_Compare.l0, if_pos (by simp; omega), decide_eq_false (by simp [h1]), unicodetextref01_Compare.j1, if_neg (by decide), if_neg (by simp [h1]; omega), if_pos (by simp [h1]; omega)]
    exact ⟨1, rfl, by simp⟩
  | x :: xs, y :: ys, px, py, k, h1, h2, h3 => by
    obtain ⟨k, rfl⟩ : ∃ j, k = j + 2 := ⟨k - 2, by omega⟩
    have hp : px.length < 1000000000 := by simp at h2; omega
    obtain ⟨c, ih, hc⟩ := plCmp_go xs ys (px ++ [x]) (py ++ [y]) k (by simp [h1]) (by simpa using h2) (by simp at h3; omega)
    have ex : (px ++ [x]) ++ xs = px ++ x :: xs := by simp
    have ey : (py ++ [y]) ++ ys = py ++ y :: ys := by simp
    have el : ((px ++ [x]).length : Int) = ((px.length + 1 : Nat) : Int) := by simp
    rw [ex, ey, el] at ih
    have e1 : rd (py ++ y :: ys) (px.length : Int) = y := by rw [h1]; exact rd_mid _ _ _
    rw [unicodetextref01_Compare.l0, if_pos (by simp; omega), decide_eq_true (by simp [h1]; omega), unicodetextref01_Compare.j1, if_pos rfl, if_pos (by omega), if_pos (by simp; omega), if_pos (by simp [h1]; omega), rd_mid, e1, wrap_suc hp, ih]
    by_cases a : x < y
    · rw [if_pos a]
      exact ⟨-1, rfl, ⟨fun h => absurd h (by decide), fun h => by injection h with h; omega⟩⟩
    · rw [if_neg a]
      by_cases b : x > y
      · rw [if_pos b]
        exact ⟨1, rfl, ⟨fun h => absurd h (by decide), fun h => by injection h with h; omega⟩⟩
      · rw [if_neg b]
        obtain rfl : x = y := by omega
        exact ⟨c, rfl, by rw [hc]; simp⟩
theorem plEqual_ok (a b : List Int) (k : Nat) (h : a.length < 1000000000) (hk : 2 * a.length + 2 ≤ k) : unicodetextref01_Equal.f k a b = some (decide (a = b)) := by
  obtain ⟨c, e, hc⟩ := plCmp_go a b [] [] k rfl (by simpa using h) hk
  unfold unicodetextref01_Equal.f unicodetextref01_Compare.f
  refine (congrArg (fun o => Option.bind o _) e).trans ?_
  show some (c == 0) = _
  congr 1
  rw [Bool.eq_iff_iff]
  simp [hc]
end Go.Proofs.Ytcpicopaobhlcaa.Q
end
