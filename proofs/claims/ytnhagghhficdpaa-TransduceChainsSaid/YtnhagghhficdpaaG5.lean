/- Lemmas, printed and written for this claim: part 5. -/
import Derived.Test.YtnhagghhficdpaaG1
import Derived.Test.YtnhagghhficdpaaG4
import Derived.WalkKit
import Derived.Test.YtnhagghhficdpaaG3
import Derived.Test.YtnhagghhficdpaaG2
section
namespace Go.Proofs.Ytnhagghhficdpaa.Q
open Go.RowKit Go.Proofs.YtnhagghhficdpaaW.PrintWords Go.Proofs.YtnhagghhficdpaaW.PrintLast Go.Proofs.YtnhagghhficdpaaW.PrintMore
attribute [local go_sem] max2_int min2_int max_two min_two max_three min_three max_four min_four   -- for this text's walks alone
set_option linter.unusedVariables false
set_option linter.unusedSimpArgs false
mutual
def unicodetextref50_one.j0 : Nat → Bool → List (S38) → List (S38) → List (S38) → List (S51) → Option (Int)
  | 0, _, _, _, _, _ => none
  | k + 1, x34, x219000, x219001, x219002, x219003 => if x34 = true then (some 2) else ((unicodetextref50_right.f k x219000).bind fun t219 => (if t219 = true then ((unicodetextref50_right.f k x219001).bind fun t220 => (if t220 = true then ((unicodetextref50_right.f k x219002).bind fun t221 => (unicodetextref50_one.j1 k (!t221) x219000 x219001 x219002 x219003)) else (unicodetextref50_one.j1 k true x219000 x219001 x219002 x219003))) else (unicodetextref50_one.j1 k true x219000 x219001 x219002 x219003)))
def unicodetextref50_one.j1 : Nat → Bool → List (S38) → List (S38) → List (S38) → List (S51) → Option (Int)
  | 0, _, _, _, _, _ => none
  | k + 1, x50, x219000, x219001, x219002, x219003 => if x50 = true then (some 11) else (unicodetextref50_one.l0 k 0 x219000 x219001 x219002 x219003)
def unicodetextref50_one.l0 : Nat → Int → List (S38) → List (S38) → List (S38) → List (S51) → Option (Int)
  | 0, _, _, _, _, _ => none
  | k + 1, x3, x219000, x219001, x219002, x219003 => if x3 < (x219003.length : Int) then (if 0 ≤ x3 then (if ((rd_T51 x219003 x3).f1) = 0 then ((unicodetextref01_Valid.f ((rd_T51 x219003 x3).f0)).bind fun t224 => (if ((rd_T51 x219003 x3).f0) = 0 then (if ((rd_T51 x219003 x3).f1) ≥ 1 then (if t224 = true then (unicodetextref50_one.l0 k (wrap64 (x3 + 1)) x219000 x219001 x219002 x219003) else (if (((rd_T51 x219003 x3).f1) ≤ (x219001.length : Int)) then (unicodetextref50_one.l0 k (wrap64 (x3 + 1)) x219000 x219001 x219002 x219003) else (some 1))) else (if t224 = true then (unicodetextref50_one.l0 k (wrap64 (x3 + 1)) x219000 x219001 x219002 x219003) else (some 1))) else (if t224 = true then (unicodetextref50_one.l0 k (wrap64 (x3 + 1)) x219000 x219001 x219002 x219003) else (some 1)))) else (if ((rd_T51 x219003 x3).f0) = 0 then (if ((rd_T51 x219003 x3).f1) ≥ 1 then (if (((rd_T51 x219003 x3).f1) ≤ (x219001.length : Int)) then (unicodetextref50_one.l0 k (wrap64 (x3 + 1)) x219000 x219001 x219002 x219003) else (some 1)) else (some 1)) else (some 1))) else (none)) else (some 0)
end
def unicodetextref50_one.f (k : Nat) (l0_0 : List (S38)) (l0_1 : List (S38)) (l0_2 : List (S38)) (l0_3 : List (S51)) : Option (Int) := if (l0_1.length : Int) < 1 then (unicodetextref50_one.j0 k true l0_0 l0_1 l0_2 l0_3) else (if (l0_1.length : Int) > 8 then (unicodetextref50_one.j0 k true l0_0 l0_1 l0_2 l0_3) else (if (l0_0.length : Int) > 8 then (unicodetextref50_one.j0 k true l0_0 l0_1 l0_2 l0_3) else (if (l0_2.length : Int) > 8 then (unicodetextref50_one.j0 k true l0_0 l0_1 l0_2 l0_3) else (unicodetextref50_one.j0 k (decide ((l0_3.length : Int) > 16)) l0_0 l0_1 l0_2 l0_3))))
end Go.Proofs.Ytnhagghhficdpaa.Q
end
section
namespace Go.Proofs.Ytnhagghhficdpaa.Q
open Go.RowKit Go.Proofs.YtnhagghhficdpaaW.PrintWords Go.Proofs.YtnhagghhficdpaaW.PrintLast Go.Proofs.YtnhagghhficdpaaW.PrintMore
attribute [local go_sem] max2_int min2_int max_two min_two max_three min_three max_four min_four   -- for this text's walks alone
set_option linter.unusedVariables false
set_option linter.unusedSimpArgs false
def unicodetextref50_Check.l0 : Nat → List (S34) → Int → Option (Int)
  | 0, _, _ => none
  | k + 1, x0, x3 => if x3 < (x0.length : Int) then (if 0 ≤ x3 then ((unicodetextref50_one.f k ((rd_T34 x0 x3).f0) ((rd_T34 x0 x3).f1) ((rd_T34 x0 x3).f2) ((rd_T34 x0 x3).f3)).bind fun t226 => (if t226 = 0 then (unicodetextref50_Check.l0 k x0 (wrap64 (x3 + 1))) else (some t226))) else (none)) else (some 0)
def unicodetextref50_Check.f (k : Nat) (l0 : List (S34)) : Option (Int) := if (l0.length : Int) > 200 then (some 2) else (unicodetextref50_Check.l0 k l0 0)
end Go.Proofs.Ytnhagghhficdpaa.Q
end
section
namespace Go.Proofs.Ytnhagghhficdpaa.Q
open Go.RowKit Go.Proofs.YtnhagghhficdpaaW.PrintWords Go.Proofs.YtnhagghhficdpaaW.PrintLast Go.Proofs.YtnhagghhficdpaaW.PrintMore
set_option linter.unusedVariables false
def unicodetextref51_Data.f (k : Nat) (l0 : List S34) : Option (List S34) := (unicodetextref50_Check.f k l0).bind fun t => if t = 0 then some l0 else some []
end Go.Proofs.Ytnhagghhficdpaa.Q
end
section
namespace Go.Proofs.Ytnhagghhficdpaa.Q
open Go.RowKit Go.Proofs.YtnhagghhficdpaaW.PrintWords Go.Proofs.YtnhagghhficdpaaW.PrintLast Go.Proofs.YtnhagghhficdpaaW.PrintMore
set_option linter.unusedVariables false
def plFewS (l : List St) : Prop := l.length ≤ 10 ∧ ∀ s ∈ l, s.f0.length ≤ 12
def plFewU (x : Ru) : Prop := plFewS x.f0 ∧ plFewS x.f1 ∧ plFewS x.f2 ∧ x.f3.length ≤ 20
def plFewL (l : List Ru) : Prop := l.length ≤ 6 ∧ ∀ x ∈ l, plFewU x
def plBad (s : St) : Bool := !validS s || decide (s.f0.length = 0)
end Go.Proofs.Ytnhagghhficdpaa.Q
end
section
namespace Go.Proofs.Ytnhagghhficdpaa.Q
open Go.RowKit Go.Proofs.YtnhagghhficdpaaW.PrintWords Go.Proofs.YtnhagghhficdpaaW.PrintLast Go.Proofs.YtnhagghhficdpaaW.PrintMore
attribute [local go_sem] max2_int min2_int max_two min_two max_three min_three max_four min_four   -- for this text's walks alone
set_option linter.unusedVariables false
set_option linter.unusedSimpArgs false
mutual
def unicodetextref51_inside.j0 : Nat → List (S38) → List Int → Int → Bool → Option (Bool)
  | 0, _, _, _, _ => none
  | k + 1, x0, x1, x2, x18 => if x18 = true then (some false) else (unicodetextref51_inside.l0 k x0 x1 x2 0)
def unicodetextref51_inside.l0 : Nat → List (S38) → List Int → Int → Int → Option (Bool)
  | 0, _, _, _, _ => none
  | k + 1, x0, x1, x2, x7 => if x7 < (x0.length : Int) then (if 0 ≤ x7 then (if 0 ≤ (wrap64 (x2 + x7)) then (if (wrap64 (x2 + x7)) < (x1.length : Int) then ((unicodetextref02_Has.f k ((rd_T38 x0 x7).f0) (rd x1 (wrap64 (x2 + x7)))).bind fun t229 => (if t229 = true then (unicodetextref51_inside.l0 k x0 x1 x2 (wrap64 (x7 + 1))) else (some false))) else (none)) else (none)) else (none)) else (some true)
end
def unicodetextref51_inside.f (k : Nat) (l0 : List (S38)) (l1 : List Int) (a2 : Int) : Option (Bool) := if a2 < 0 then (unicodetextref51_inside.j0 k l0 l1 a2 true) else (unicodetextref51_inside.j0 k l0 l1 a2 (decide ((wrap64 (a2 + (l0.length : Int))) > (l1.length : Int))))
def unicodetextref51_inside.T6 : Bool × List (List Nat × List Nat) := (true, [([], []), ([], []), ([0, 1], [0, 1]), ([2], [2]), ([], []), ([], []), ([], []), ([5, 6], [5, 6]), ([4, 7], [4, 7]), ([8], [8]), ([3, 9], [3, 9]), ([10], [10])])
def unicodetextref51_inside.B6 : List Nat := [0, 0, 3, 7, 0, 0, 0, 96, 240, 496, 1023, 2047]
end Go.Proofs.Ytnhagghhficdpaa.Q
end
section
namespace Go.Proofs.Ytnhagghhficdpaa.Q
open Go.RowKit Go.Proofs.YtnhagghhficdpaaW.PrintWords Go.Proofs.YtnhagghhficdpaaW.PrintLast Go.Proofs.YtnhagghhficdpaaW.PrintMore
attribute [local go_sem] max2_int min2_int max_two min_two max_three min_three max_four min_four   -- for this text's walks alone
set_option linter.unusedVariables false
set_option linter.unusedSimpArgs false
def unicodetextref51_applies.f (k : Nat) (l0_0 : List (S38)) (l0_1 : List (S38)) (l0_2 : List (S38)) (l0_3 : List (S51)) (l1 : List Int) (a2 : Int) : Option (Bool) := (unicodetextref51_inside.f k l0_1 l1 a2).bind fun t231 => (if t231 = true then ((unicodetextref51_inside.f k l0_2 l1 (wrap64 (a2 + (l0_1.length : Int)))).bind fun t232 => (if t232 = true then ((unicodetextref51_inside.f k l0_0 l1 (wrap64 (a2 - (l0_0.length : Int)))).bind fun t233 => (some t233)) else (some false))) else (some false))
mutual
def unicodetextref51_step.j0 : Nat → List (S34) → List Int → Int → Bool → Option (Int × Int)
  | 0, _, _, _, _ => none
  | k + 1, x0, x1, x2, x16 => if x16 = true then (some ((-1), 0)) else (unicodetextref51_step.l0 k x0 x1 x2 0)
def unicodetextref51_step.l0 : Nat → List (S34) → List Int → Int → Int → Option (Int × Int)
  | 0, _, _, _, _ => none
  | k + 1, x0, x1, x2, x8 => if x8 < (x0.length : Int) then (if 0 ≤ x8 then ((unicodetextref51_applies.f k ((rd_T34 x0 x8).f0) ((rd_T34 x0 x8).f1) ((rd_T34 x0 x8).f2) ((rd_T34 x0 x8).f3) x1 x2).bind fun t235 => (if t235 = true then (some (x8, (((rd_T34 x0 x8).f1).length : Int))) else (unicodetextref51_step.l0 k x0 x1 x2 (wrap64 (x8 + 1))))) else (none)) else (some ((-1), 1))
end
def unicodetextref51_step.f (k : Nat) (l0 : List (S34)) (l1 : List Int) (a2 : Int) : Option (Int × Int) := if a2 < 0 then (unicodetextref51_step.j0 k l0 l1 a2 true) else (unicodetextref51_step.j0 k l0 l1 a2 (decide (a2 ≥ (l1.length : Int))))
def unicodetextref51_Step.f (k : Nat) (l0 : List (S34)) (l1 : List Int) (a2 : Int) : Option (Int × Int) := (unicodetextref51_Data.f k l0).bind fun t237 => ((unicodetextref51_step.f k t237 l1 a2).bind fun bt240 => (some (bt240.1, bt240.2)))
end Go.Proofs.Ytnhagghhficdpaa.Q
end
section
namespace Go.Proofs.Ytnhagghhficdpaa.Q
open Go.RowKit Go.Proofs.YtnhagghhficdpaaW.PrintWords Go.Proofs.YtnhagghhficdpaaW.PrintLast Go.Proofs.YtnhagghhficdpaaW.PrintMore
set_option linter.unusedVariables false
theorem plSets_go : ∀ (d : Nat) (rest pre : List St) (k : Nat), pre.length + d = 20 → 2 * d + 2 ≤ k →
    ∃ b, unicodetextref50_sets.l0 k (pre ++ rest) (pre.length : Int) = some b ∧ (b = true → (pre ++ rest).length ≤ 10 ∧ ∀ s ∈ rest, s.f0.length ≤ 12)
  | d, [], pre, k, h1, h2 => by
    obtain ⟨k, rfl⟩ : ∃ j, k = j + 2 := ⟨k - 2, by omega⟩
    rw [unicodetextref50_sets.l0, if_neg (by simp), unicodetextref50_sets.j1, if_neg (by decide)]
    refine ⟨_, rfl, fun h => ⟨?_, fun s hs => by cases hs⟩⟩
    have := of_decide_eq_true h
    omega
  | 0, s :: rest, pre, k, h1, h2 => by
    obtain ⟨k, rfl⟩ : ∃ j, k = j + 2 := ⟨k - 2, by omega⟩
    rw [unicodetextref50_sets.l0, if_pos (by simp; omega), decide_eq_false (by omega), unicodetextref50_sets.j1, if_neg (by decide)]
    refine ⟨_, rfl, fun h => ?_⟩
    have := of_decide_eq_true h
    simp at this
    omega
  | d + 1, s :: rest, pre, k, h1, h2 => by
    obtain ⟨k, rfl⟩ : ∃ j, k = j + 2 := ⟨k - 2, by omega⟩
    obtain ⟨b, ih, hb⟩ := plSets_go d rest (pre ++ [s]) k (by simp; omega) (by omega)
    have ex : (pre ++ [s]) ++ rest = pre ++ s :: rest := by simp
    have el : ((pre ++ [s]).length : Int) = ((pre.length + 1 : Nat) : Int) := by simp
    rw [ex, el] at ih
    rw [ex] at hb
    rw [unicodetextref50_sets.l0, if_pos (by simp; omega), decide_eq_true (by omega), unicodetextref50_sets.j1, if_pos rfl, if_pos (by omega), if_pos (by simp; omega), rdS_mid, wrap_suc (by omega : pre.length < 1000000000), ih]
    show ∃ b_, (if decide ((s.f0.length : Int) ≤ 12) = true then _ else _) = _ ∧ _
    by_cases hs : s.f0.length ≤ 12
    · rw [decide_eq_true (by omega), if_pos rfl]
      exact ⟨b, rfl, fun h => ⟨(hb h).1, fun x hx => by
        rcases List.mem_cons.1 hx with rfl | hx
        · exact hs
        · exact (hb h).2 x hx⟩⟩
    · rw [decide_eq_false (by omega), if_neg (by decide)]
      exact ⟨false, rfl, fun h => by cases h⟩
theorem plSets_ok (l : List St) (k : Nat) (hk : 42 ≤ k) : ∃ b, unicodetextref50_sets.f k l = some b ∧ (b = true → plFewS l) := plSets_go 20 l [] k rfl (by omega)
theorem plSmall_go : ∀ (d : Nat) (rest pre : List Ru) (k : Nat), pre.length + d = 10 → 2 * d + 44 ≤ k →
    ∃ b, unicodetextref50_Small.l0 k (pre ++ rest) (pre.length : Int) = some b ∧ (b = true → (pre ++ rest).length ≤ 6 ∧ ∀ s ∈ rest, plFewU s)
  | d, [], pre, k, h1, h2 => by
    obtain ⟨k, rfl⟩ : ∃ j, k = j + 2 := ⟨k - 2, by omega⟩
    rw [unicodetextref50_Small.l0, if_neg (by simp), unicodetextref50_Small.j1, if_neg (by decide)]
    refine ⟨_, rfl, fun h => ⟨?_, fun s hs => by cases hs⟩⟩
    have := of_decide_eq_true h
    omega
  | 0, s :: rest, pre, k, h1, h2 => by
    obtain ⟨k, rfl⟩ : ∃ j, k = j + 2 := ⟨k - 2, by omega⟩
    rw [unicodetextref50_Small.l0, if_pos (by simp; omega), decide_eq_false (by omega), unicodetextref50_Small.j1, if_neg (by decide)]
    refine ⟨_, rfl, fun h => ?_⟩
    have := of_decide_eq_true h
    simp at this
    omega
  | d + 1, s :: rest, pre, k, h1, h2 => by
    obtain ⟨k, rfl⟩ : ∃ j, k = j + 2 := ⟨k - 2, by omega⟩
    obtain ⟨b, ih, hb⟩ := plSmall_go d rest (pre ++ [s]) k (by simp; omega) (by omega)
    have ex : (pre ++ [s]) ++ rest = pre ++ s :: rest := by simp
    have el : ((pre ++ [s]).length : Int) = ((pre.length + 1 : Nat) : Int) := by simp
    rw [ex, el] at ih
    rw [ex] at hb
    obtain ⟨b0, e0, g0⟩ := plSets_ok s.f0 k (by omega)
    obtain ⟨b1, e1, g1⟩ := plSets_ok s.f1 k (by omega)
    obtain ⟨b2, e2, g2⟩ := plSets_ok s.f2 k (by omega)
    rw [unicodetextref50_Small.l0, if_pos (by simp; omega), decide_eq_true (by omega), unicodetextref50_Small.j1, if_pos rfl, if_pos (by omega), if_pos (by simp; omega), rdU_mid, wrap_suc (by omega : pre.length < 1000000000), ih, e0, e1, e2]
    simp only [Option.bind_some]
    cases b0 with
    | false => exact ⟨false, rfl, fun h => by cases h⟩
    | true => cases b1 with
      | false => exact ⟨false, rfl, fun h => by cases h⟩
      | true => cases b2 with
        | false => exact ⟨false, rfl, fun h => by cases h⟩
        | true =>
          simp only [if_true]
          by_cases hs : (s.f3.length : Int) > 20
          · rw [if_pos hs]
            exact ⟨false, rfl, fun h => by cases h⟩
          · rw [if_neg hs]
            exact ⟨b, rfl, fun h => ⟨(hb h).1, fun x hx => by
              rcases List.mem_cons.1 hx with rfl | hx
              · exact ⟨g0 rfl, g1 rfl, g2 rfl, by omega⟩
              · exact (hb h).2 x hx⟩⟩
theorem plSmall_ok (l : List Ru) (k : Nat) (hk : 64 ≤ k) : ∃ b, unicodetextref50_Small.f k l = some b ∧ (b = true → plFewL l) := plSmall_go 10 l [] k rfl (by omega)
theorem plOkSets {l : List St} (h : plFewS l) : l.all okSet = true := List.all_eq_true.2 fun s hs => decide_eq_true (h.2 s hs)
theorem plOkRules {l : List Ru} (h : plFewL l) : okRules l = true := by
  unfold okRules
  rw [Bool.and_eq_true, decide_eq_true_eq, List.all_eq_true]
  refine ⟨by have := h.1; omega, fun x hx => ?_⟩
  obtain ⟨h0, h1, h2, h3⟩ := h.2 x hx
  unfold okRule
  rw [plOkSets h0, plOkSets h1, plOkSets h2, decide_eq_true (by have := h0.1; omega), decide_eq_true (by have := h1.1; omega), decide_eq_true (by have := h2.1; omega), decide_eq_true (by omega)]
  rfl
theorem plCmp_go : ∀ (xs ys px py : List Int) (k : Nat), px.length = py.length → (px ++ xs).length < 1000000000 → 2 * xs.length + 2 ≤ k →
    ∃ c, unicodetextref01_Compare.l0 k (px ++ xs) (py ++ ys) (px.length : Int) = some c ∧ (c = 0 ↔ xs = ys)
  | [], [], px, py, k, h1, h2, h3 => by
    obtain ⟨k, rfl⟩ : ∃ j, k = j + 2 := ⟨k - 2, by omega⟩
    rw [unicodetextref01_Compare.l0, if_neg (by simp), unicodetextref01_Compare.j1, if_neg (by decide), if_neg (by simp [h1]), if_neg (by simp [h1])]
    exact ⟨0, rfl, by simp⟩
  | [], y :: ys, px, py, k, h1, h2, h3 => by
    obtain ⟨k, rfl⟩ : ∃ j, k = j + 2 := ⟨k - 2, by omega⟩
    rw [unicodetextref01_Compare.l0, if_neg (by simp), unicodetextref01_Compare.j1, if_neg (by decide), if_pos (by simp [h1]; omega)]
    exact ⟨-1, rfl, by simp⟩
  | x :: xs, [], px, py, k, h1, h2, h3 => by
    obtain ⟨k, rfl⟩ : ∃ j, k = j + 2 := ⟨k - 2, by omega⟩
    rw [unicodetextref01_Compare.l0, if_pos (by simp; omega), decide_eq_false (by simp [h1]), unicodetextref01_Compare.j1, if_neg (by decide), if_neg (by simp [h1]; omega), if_pos (by simp [h1]; omega)]
    exact ⟨1, rfl, by simp⟩
  | x :: xs, y :: ys, px, py, k, h1, h2, h3 => by
    obtain ⟨k, rfl⟩ : ∃ j, k = j + 2 := ⟨k - 2, by omega⟩
    have hp : px.length < 1000000000 := by simp at h2; omega
    obtain ⟨c, ih, hc⟩ := plCmp_go xs ys (px ++ [x]) (py ++ [y]) k (by simp [h1]) (by simpa using h2) (by simp at h3; omega)
    have ex : (px ++ [x]) ++ xs = px ++ x :: xs := by simp
    have ey : (py ++ [y]) ++ ys = py ++ y :: ys := by simp
    have el : ((px ++ [x]).length : Int) = ((px.length + 1 : Nat) : Int) := by simp
    rw [ex, ey, el] at ih
    have e1 : rd (py ++ y :: ys) (px.length : Int) = y := by rw [h1]; exact rd_mid _ _ _
    rw [unicodetextref01_Compare.l0, if_pos (by simp; omega), decide_eq_true (by simp [h1]; omega), unicodetextref01_Compare.j1, if_pos rfl, if_pos (by omega), if_pos (by simp; omega), if_pos (by simp [h1]; omega), rd_mid, e1, wrap_suc hp, ih]
    by_cases a : x < y
    · rw [if_pos a]
      exact ⟨-1, rfl, ⟨fun h => absurd h (by decide), fun h => by injection h with h; omega⟩⟩
    · rw [if_neg a]
      by_cases b : x > y
      · rw [if_pos b]
        exact ⟨1, rfl, ⟨fun h => absurd h (by decide), fun h => by injection h with h; omega⟩⟩
      · rw [if_neg b]
        obtain rfl : x = y := by omega
        exact ⟨c, rfl, by rw [hc]; simp⟩
theorem plEqual_ok (a b : List Int) (k : Nat) (h : a.length < 1000000000) (hk : 2 * a.length + 2 ≤ k) : unicodetextref01_Equal.f k a b = some (decide (a = b)) := by
  obtain ⟨c, e, hc⟩ := plCmp_go a b [] [] k rfl (by simpa using h) hk
  unfold unicodetextref01_Equal.f unicodetextref01_Compare.f
  refine (congrArg (fun o => Option.bind o _) e).trans ?_
  show some (c == 0) = _
  congr 1
  rw [Bool.eq_iff_iff]
  simp [hc]
def plRules : List Ru := [⟨[], [⟨[⟨97, 97⟩]⟩, ⟨[⟨98, 98⟩]⟩], [], [⟨120, 0⟩]⟩, ⟨[], [⟨[⟨97, 97⟩]⟩], [], [⟨121, 0⟩]⟩]
theorem plAlive_step : transduce_Step.f plRules [97, 97, 98] 1 = some (0, 2) := by kernel_rfl
theorem plAlive_apply : transduce_Apply.f plRules [97, 97, 98] = some [121, 120] := by kernel_rfl
theorem plAlive_ok (k : Nat) (hk : 20 ≤ k) : unicodetextlaw51_alive.f k = some true := by
  obtain ⟨k, rfl⟩ : ∃ j, k = j + 20 := ⟨k - 20, by omega⟩
  show (transduce_Step.f plRules [97, 97, 98] 1).bind (fun bt166 => (transduce_Apply.f plRules [97, 97, 98]).bind fun t171 => (unicodetextref01_Equal.f (k + 20) t171 [121, 120]).bind fun t177 => if t177 = true then (if bt166.1 = 0 then (some (bt166.2 == 2)) else (some false)) else (some false)) = some true
  rw [plAlive_step, plAlive_apply]
  simp only [Option.bind_some]
  rw [plEqual_ok _ _ _ (by decide) (by simp)]
  rfl
end Go.Proofs.Ytnhagghhficdpaa.Q
end
section
namespace Go.Proofs.Ytnhagghhficdpaa.Q
open Go.RowKit Go.Proofs.YtnhagghhficdpaaW.PrintWords Go.Proofs.YtnhagghhficdpaaW.PrintLast Go.Proofs.YtnhagghhficdpaaW.PrintMore
attribute [local go_sem] max2_int min2_int max_two min_two max_three min_three max_four min_four   -- for this text's walks alone
set_option linter.unusedVariables false
set_option linter.unusedSimpArgs false
def unicodetextlaw51_TransduceSteps.f (k : Nat) (l0 : List (S34)) (l1 : List Int) (a2 : Int) : Option (Bool) := (unicodetextlaw51_few.f k l0 l1).bind fun t242 => (if t242 = true then ((transduce_Step.f l0 l1 a2).bind fun bt243 => ((unicodetextref51_Step.f k l0 l1 a2).bind fun bt245 => (if bt243.1 = bt245.1 then (if bt243.2 = bt245.2 then ((unicodetextlaw51_alive.f k).bind fun t247 => (some t247)) else (some false)) else (some false)))) else ((unicodetextlaw51_alive.f k).bind fun t248 => (some t248)))
end Go.Proofs.Ytnhagghhficdpaa.Q
end
section
namespace Go.Proofs.Ytnhagghhficdpaa.Q
open Go.RowKit Go.Proofs.YtnhagghhficdpaaW.PrintWords Go.Proofs.YtnhagghhficdpaaW.PrintLast Go.Proofs.YtnhagghhficdpaaW.PrintMore
set_option linter.unusedVariables false
end Go.Proofs.Ytnhagghhficdpaa.Q
end
section
namespace Go.Proofs.Ytnhagghhficdpaa.Q
open Go.RowKit Go.Proofs.YtnhagghhficdpaaW.PrintWords Go.Proofs.YtnhagghhficdpaaW.PrintLast Go.Proofs.YtnhagghhficdpaaW.PrintMore
attribute [local go_sem] max2_int min2_int max_two min_two max_three min_three max_four min_four   -- for this text's walks alone
set_option linter.unusedVariables false
set_option linter.unusedSimpArgs false
def unicodetextref51_Written.l0 : Nat → List (S34) → List Int → Int → Int → List Int → Int → Option (List Int)
  | 0, _, _, _, _, _, _ => none
  | k + 1, x0, x1, x2, x3, x9, x10 => if 0 ≤ x3 then (if x3 < (x0.length : Int) then (if x10 < (((rd_T34 x0 x3).f3).length : Int) then (if 0 ≤ x10 then (if ((rd_T51 ((rd_T34 x0 x3).f3) x10).f1) > 0 then (if 0 ≤ (wrap64 ((wrap64 (x2 + ((rd_T51 ((rd_T34 x0 x3).f3) x10).f1))) - 1)) then (if (wrap64 ((wrap64 (x2 + ((rd_T51 ((rd_T34 x0 x3).f3) x10).f1))) - 1)) < (x1.length : Int) then (if x9.length < 17592186044416 then (unicodetextref51_Written.l0 k x0 x1 x2 x3 (x9 ++ [rd x1 (wrap64 ((wrap64 (x2 + ((rd_T51 ((rd_T34 x0 x3).f3) x10).f1))) - 1))]) (wrap64 (x10 + 1))) else (none)) else (none)) else (none)) else (if x9.length < 17592186044416 then (unicodetextref51_Written.l0 k x0 x1 x2 x3 (x9 ++ [(rd_T51 ((rd_T34 x0 x3).f3) x10).f0]) (wrap64 (x10 + 1))) else (none))) else (none)) else (some x9)) else (none)) else (none)
def unicodetextref51_Written.f (k : Nat) (l0 : List (S34)) (l1 : List Int) (a2 : Int) (a3 : Int) : Option (List Int) := if a3 < 0 then (if 0 ≤ a2 then (if a2 < (l1.length : Int) then (some (([rd l1 a2] : List Int))) else (none)) else (none)) else (unicodetextref51_Written.l0 k l0 l1 a2 a3 ([] : List Int) 0)
end Go.Proofs.Ytnhagghhficdpaa.Q
end
section
namespace Go.Proofs.Ytnhagghhficdpaa.Q
open Go.RowKit Go.Proofs.YtnhagghhficdpaaW.PrintWords Go.Proofs.YtnhagghhficdpaaW.PrintLast Go.Proofs.YtnhagghhficdpaaW.PrintMore
attribute [local go_sem] max2_int min2_int max_two min_two max_three min_three max_four min_four   -- for this text's walks alone
set_option linter.unusedVariables false
set_option linter.unusedSimpArgs false
def unicodetextref51_Apply.l0 : Nat → List Int → List (S34) → List Int → Int → Option (List Int)
  | 0, _, _, _, _ => none
  | k + 1, x1, x5, x6, x7 => if x7 < (x1.length : Int) then ((unicodetextref51_step.f k x5 x1 x7).bind fun bt267 => ((unicodetextref51_Written.f k x5 x1 x7 bt267.1).bind fun t269 => (if x6.length + t269.length < 17592186044416 then (unicodetextref51_Apply.l0 k x1 x5 (x6 ++ t269) (wrap64 (x7 + bt267.2))) else (none)))) else (some x6)
def unicodetextref51_Apply.f (k : Nat) (l0 : List (S34)) (l1 : List Int) : Option (List Int) := (unicodetextref51_Data.f k l0).bind fun t264 => (unicodetextref51_Apply.l0 k l1 t264 ([] : List Int) 0)
def unicodetextlaw51_TransduceApplies.f (k : Nat) (l0 : List (S34)) (l1 : List Int) : Option (Bool) := (unicodetextlaw51_few.f k l0 l1).bind fun t275 => (if t275 = true then ((transduce_Apply.f l0 l1).bind fun t276 => ((unicodetextref51_Apply.f k l0 l1).bind fun t279 => ((unicodetextref01_Equal.f k t276 t279).bind fun t282 => (if t282 = true then ((unicodetextlaw51_alive.f k).bind fun t283 => (some t283)) else (some false))))) else ((unicodetextlaw51_alive.f k).bind fun t284 => (some t284)))
end Go.Proofs.Ytnhagghhficdpaa.Q
end
section
namespace Go.Proofs.Ytnhagghhficdpaa.Q
open Go.RowKit Go.Proofs.YtnhagghhficdpaaW.PrintWords Go.Proofs.YtnhagghhficdpaaW.PrintLast Go.Proofs.YtnhagghhficdpaaW.PrintMore
attribute [local go_sem] max2_int min2_int max_two min_two max_three min_three max_four min_four   -- for this text's walks alone
set_option linter.unusedVariables false
set_option linter.unusedSimpArgs false
mutual
def unicodetextlaw51_TransduceKeeps.l0 : Nat → List (S34) → List Int → Int → Option (Bool)
  | 0, _, _, _ => none
  | k + 1, x0, x1, x5 => if x5 < (x0.length : Int) then (unicodetextlaw51_TransduceKeeps.l1 k x0 x1 x5 0) else ((transduce_Apply.f x0 x1).bind fun t287 => ((unicodetextref01_Equal.f k t287 x1).bind fun t290 => (if t290 = true then ((unicodetextlaw51_alive.f k).bind fun t291 => (some t291)) else (some false))))
def unicodetextlaw51_TransduceKeeps.l1 : Nat → List (S34) → List Int → Int → Int → Option (Bool)
  | 0, _, _, _, _ => none
  | k + 1, x0, x1, x5, x6 => if 0 ≤ x5 then (if x5 < (x0.length : Int) then (if x6 < (((rd_T34 x0 x5).f1).length : Int) then (unicodetextlaw51_TransduceKeeps.l2 k x0 x1 x5 x6 0) else (unicodetextlaw51_TransduceKeeps.l0 k x0 x1 (wrap64 (x5 + 1)))) else (none)) else (none)
def unicodetextlaw51_TransduceKeeps.l2 : Nat → List (S34) → List Int → Int → Int → Int → Option (Bool)
  | 0, _, _, _, _, _ => none
  | k + 1, x0, x1, x5, x6, x7 => if x7 < (x1.length : Int) then (if 0 ≤ x5 then (if x5 < (x0.length : Int) then (if 0 ≤ x6 then (if x6 < (((rd_T34 x0 x5).f1).length : Int) then (if 0 ≤ x7 then ((unicodetextref02_Has.f k ((rd_T38 ((rd_T34 x0 x5).f1) x6).f0) (rd x1 x7)).bind fun t296 => (if t296 = true then ((unicodetextlaw51_alive.f k).bind fun t297 => (some t297)) else (unicodetextlaw51_TransduceKeeps.l2 k x0 x1 x5 x6 (wrap64 (x7 + 1))))) else (none)) else (none)) else (none)) else (none)) else (none)) else (unicodetextlaw51_TransduceKeeps.l1 k x0 x1 x5 (wrap64 (x6 + 1)))
end
def unicodetextlaw51_TransduceKeeps.f (k : Nat) (l0 : List (S34)) (l1 : List Int) : Option (Bool) := (unicodetextlaw51_few.f k l0 l1).bind fun t285 => (if t285 = true then (unicodetextlaw51_TransduceKeeps.l0 k l0 l1 0) else ((unicodetextlaw51_alive.f k).bind fun t286 => (some t286)))
def unicodetextlaw51_TransduceKeeps.T12 : Bool × List (List Nat × List Nat) := (true, [([], []), ([], []), ([0, 1], [0, 1]), ([2], [2]), ([3], [3]), ([], []), ([4, 5], [4, 5]), ([6], [6]), ([], []), ([], []), ([8, 9], [8, 9]), ([10], [10]), ([7, 11], [7, 11])])
def unicodetextlaw51_TransduceKeeps.B12 : List Nat := [0, 0, 3, 7, 15, 0, 63, 127, 0, 0, 768, 1792, 4095]
end Go.Proofs.Ytnhagghhficdpaa.Q
end
section
namespace Go.Proofs.Ytnhagghhficdpaa.Q
open Go.RowKit Go.Proofs.YtnhagghhficdpaaW.PrintWords Go.Proofs.YtnhagghhficdpaaW.PrintLast Go.Proofs.YtnhagghhficdpaaW.PrintMore
set_option linter.unusedVariables false
theorem plApplyT (l : List Ru) (text : List Int) (h : plFewL l) (ht : okText text = true) : transduce_Apply.f l text = some (applyS (dataS l) text text.length 0) := by
  unfold transduce_Apply.f
  rw [if_pos ⟨plOkRules h, ht⟩]
def plNoHas (text : List Int) (s : St) : Prop := ∀ c ∈ text, hasS s c = false
end Go.Proofs.Ytnhagghhficdpaa.Q
end
section
namespace Go.Proofs.Ytnhagghhficdpaa.Q
open Go.RowKit Go.Proofs.YtnhagghhficdpaaW.PrintWords Go.Proofs.YtnhagghhficdpaaW.PrintLast Go.Proofs.YtnhagghhficdpaaW.PrintMore
set_option linter.unusedVariables false
theorem plGetD_wf (text : List Int) (i : Nat) (h : ∀ c ∈ text, W64 c) : W64 (text.getD i 0) := by
  rw [List.getD_eq_getElem?_getD]
  cases he : text[i]? with
  | none => exact (by decide : (Lit.int .i64 0).wf = true)
  | some v => exact h v (List.mem_of_getElem? he)
theorem plWritten_wf (l : List Ru) (text : List Int) (i r : Int) (hl : ∀ x ∈ l, ∀ p ∈ x.f3, W64 p.f0) (h : ∀ c ∈ text, W64 c) : ∀ c ∈ writtenS l text i r, W64 c := by
  unfold writtenS
  split
  · intro c hc
    rw [List.mem_singleton.1 hc]
    exact plGetD_wf text _ h
  · intro c hc
    obtain ⟨p, hp, rfl⟩ := List.mem_map.1 hc
    split
    · exact plGetD_wf text _ h
    · rw [List.getD_eq_getElem?_getD] at hp
      cases he : l[r.toNat]? with
      | none => rw [he] at hp; cases hp
      | some x => rw [he] at hp; exact hl x (List.mem_of_getElem? he) p hp
theorem plApplyS_wf (l : List Ru) (text : List Int) (hl : ∀ x ∈ l, ∀ p ∈ x.f3, W64 p.f0) (h : ∀ c ∈ text, W64 c) : ∀ (n : Nat) (i : Int), ∀ c ∈ applyS l text n i, W64 c
  | 0, i, c, hc => by rw [applyS] at hc; cases hc
  | n + 1, i, c, hc => by
    rw [applyS] at hc
    split at hc
    · rcases List.mem_append.1 hc with hc | hc
      · exact plWritten_wf l text i _ hl h c hc
      · exact plApplyS_wf l text hl h n _ c hc
    · cases hc
theorem plData_mem (l : List Ru) (x : Ru) (h : x ∈ dataS l) : x ∈ l := by
  unfold dataS at h
  split at h
  · exact h
  · cases h
theorem plRd_L9 (l : List (List Ru)) (i : Nat) (x : List Ru) (h : l[i]? = some x) : rd_L9 l (i : Int) = x := by
  unfold rd_L9
  rw [Int.toNat_natCast, List.getD_eq_getElem?_getD, h]
  rfl
theorem plChain_go (l0 : List (List Ru)) (text : List Int) (h0 : wfLL l0) (hn : l0.length ≤ 4) (hT : text.length ≤ 12) : ∀ (rest pre : List (List Ru)) (t : List Int) (k : Nat), pre ++ rest = l0 → t.length ≤ 2000 → (∀ c ∈ t, W64 c) →
    (∀ k, transduce_Chain.l0 (k + pre.length) text l0 (l0.length : Int) 0 = transduce_Chain.l0 k t l0 (l0.length : Int) (pre.length : Int)) → 5000 + rest.length ≤ k →
    unicodetextlaw51_TransduceChains.l0 k l0 text t (pre.length : Int) = some true
  | [], pre, t, k, e, ht, hw, H, hk => by
    obtain ⟨k, rfl⟩ : ∃ j, k = j + 1 := ⟨k - 1, by omega⟩
    rw [List.append_nil] at e
    have hc : transduce_Chain.f k l0 text = some t := by
      unfold transduce_Chain.f slices_Clone_int_int.f
      rw [if_pos (by omega)]
      simp only [Option.bind_some]
      obtain ⟨q, rfl⟩ : ∃ q, k = (q + 1) + pre.length := ⟨k - 1 - pre.length, by rw [e]; omega⟩
      rw [H, transduce_Chain.l0, if_neg (by rw [e]; omega)]
    rw [unicodetextlaw51_TransduceChains.l0, if_neg (by rw [e]; omega), hc]
    simp only [Option.bind_some]
    rw [plEqual_ok t t k (by omega) (by omega), plAlive_ok k (by omega)]
    simp
  | x :: rest, pre, t, k, e, ht, hw, H, hk => by
    obtain ⟨k, rfl⟩ : ∃ j, k = j + 1 := ⟨k - 1, by omega⟩
    have hl : l0.length = pre.length + (rest.length + 1) := by rw [← e]; simp
    have hi : l0[pre.length]? = some x := by rw [← e]; simp
    have hx := h0.2 x (List.mem_of_getElem? hi)
    obtain ⟨b, eb, hb⟩ := plSmall_ok x k (by omega)
    rw [unicodetextlaw51_TransduceChains.l0, if_pos (by omega), if_pos (by omega), plRd_L9 l0 _ x hi, eb]
    simp only [Option.bind_some]
    cases b with
    | false => rw [if_neg (by decide), plAlive_ok k (by omega)]; rfl
    | true =>
      have hf := hb rfl
      have hok : okText t = true := by
        unfold okText
        rw [Bool.and_eq_true, decide_eq_true_eq, List.all_eq_true]
        exact ⟨by omega, hw⟩
      have hap := plApplyT x t hf hok
      rw [if_pos rfl, hap]
      simp only [Option.bind_some]
      have hw2 : ∀ c ∈ applyS (dataS x) t t.length 0, W64 c := plApplyS_wf (dataS x) t (fun y hy p hp => ((hx.2 y (plData_mem x y hy)).2.2.2.2 p hp).1) hw _ _
      by_cases hg : ((applyS (dataS x) t t.length 0).length : Int) > 2000
      · rw [if_pos hg, plAlive_ok k (by omega)]; rfl
      · rw [if_neg hg, wrap_suc (by omega : pre.length < 1000000000)]
        have ih := plChain_go l0 text h0 hn hT rest (pre ++ [x]) (applyS (dataS x) t t.length 0) k (by simpa using e) (by omega) hw2 (fun k' => by
          rw [show k' + (pre ++ [x]).length = (k' + 1) + pre.length by simp; omega, H, transduce_Chain.l0, if_pos (by omega), if_pos (by omega), if_pos (by omega), plRd_L9 l0 _ x hi, hap, wrap_suc (by omega : pre.length < 1000000000), show ((pre ++ [x]).length : Int) = ((pre.length + 1 : Nat) : Int) by simp]
          rfl) (by simp at hk; omega)
        rw [show ((pre ++ [x]).length : Int) = ((pre.length + 1 : Nat) : Int) by simp] at ih
        exact ih
theorem transduceChains_pure (l0 : List (List Ru)) (l1 : List Int) (h0 : wfLL l0) (h1 : wfT l1) : ∃ k, unicodetextlaw51_TransduceChains.f k l0 l1 = some true := by
  refine ⟨6000, ?_⟩
  have hal : unicodetextlaw51_TransduceChains.j0 6000 l0 l1 true = some true := by
    rw [unicodetextlaw51_TransduceChains.j0, if_pos rfl, plAlive_ok 5999 (by decide)]
    rfl
  unfold unicodetextlaw51_TransduceChains.f
  by_cases c0 : (l0.length : Int) > 4
  · rw [if_pos c0]; exact hal
  · rw [if_neg c0]
    by_cases c1 : (l1.length : Int) > 12
    · rw [decide_eq_true c1]; exact hal
    · rw [decide_eq_false c1, unicodetextlaw51_TransduceChains.j0, if_neg (by decide)]
      exact plChain_go l0 l1 h0 (by omega) (by omega) l0 [] l1 5999 rfl (by omega) h1.2 (fun k => rfl) (by omega)
end Go.Proofs.Ytnhagghhficdpaa.Q
end
