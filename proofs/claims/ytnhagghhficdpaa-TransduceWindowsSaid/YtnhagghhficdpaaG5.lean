/- Lemmas, printed and written for this claim: part 5. -/
import Derived.Test.YtnhagghhficdpaaG1
import Derived.Test.YtnhagghhficdpaaG4
import Derived.WalkKit
import Derived.Test.YtnhagghhficdpaaG3
import Derived.Test.YtnhagghhficdpaaG2
section
namespace Go.Proofs.Ytnhagghhficdpaa.Q
open Go.RowKit Go.Proofs.YtnhagghhficdpaaW.PrintWords Go.Proofs.YtnhagghhficdpaaW.PrintLast Go.Proofs.YtnhagghhficdpaaW.PrintMore
attribute [local go_sem] max2_int min2_int max_two min_two max_three min_three max_four min_four   -- for this text's walks alone
set_option linter.unusedVariables false
set_option linter.unusedSimpArgs false
mutual
def unicodetextref50_one.j0 : Nat → Bool → List (S38) → List (S38) → List (S38) → List (S51) → Option (Int)
  | 0, _, _, _, _, _ => none
  | k + 1, x34, x219000, x219001, x219002, x219003 => if x34 = true then (some 2) else ((unicodetextref50_right.f k x219000).bind fun t219 => (if t219 = true then ((unicodetextref50_right.f k x219001).bind fun t220 => (if t220 = true then ((unicodetextref50_right.f k x219002).bind fun t221 => (unicodetextref50_one.j1 k (!t221) x219000 x219001 x219002 x219003)) else (unicodetextref50_one.j1 k true x219000 x219001 x219002 x219003))) else (unicodetextref50_one.j1 k true x219000 x219001 x219002 x219003)))
def unicodetextref50_one.j1 : Nat → Bool → List (S38) → List (S38) → List (S38) → List (S51) → Option (Int)
  | 0, _, _, _, _, _ => none
  | k + 1, x50, x219000, x219001, x219002, x219003 => if x50 = true then (some 11) else (unicodetextref50_one.l0 k 0 x219000 x219001 x219002 x219003)
def unicodetextref50_one.l0 : Nat → Int → List (S38) → List (S38) → List (S38) → List (S51) → Option (Int)
  | 0, _, _, _, _, _ => none
  | k + 1, x3, x219000, x219001, x219002, x219003 => if x3 < (x219003.length : Int) then (if 0 ≤ x3 then (if ((rd_T51 x219003 x3).f1) = 0 then ((unicodetextref01_Valid.f ((rd_T51 x219003 x3).f0)).bind fun t224 => (if ((rd_T51 x219003 x3).f0) = 0 then (if ((rd_T51 x219003 x3).f1) ≥ 1 then (if t224 = true then (unicodetextref50_one.l0 k (wrap64 (x3 + 1)) x219000 x219001 x219002 x219003) else (if (((rd_T51 x219003 x3).f1) ≤ (x219001.length : Int)) then (unicodetextref50_one.l0 k (wrap64 (x3 + 1)) x219000 x219001 x219002 x219003) else (some 1))) else (if t224 = true then (unicodetextref50_one.l0 k (wrap64 (x3 + 1)) x219000 x219001 x219002 x219003) else (some 1))) else (if t224 = true then (unicodetextref50_one.l0 k (wrap64 (x3 + 1)) x219000 x219001 x219002 x219003) else (some 1)))) else (if ((rd_T51 x219003 x3).f0) = 0 then (if ((rd_T51 x219003 x3).f1) ≥ 1 then (if (((rd_T51 x219003 x3).f1) ≤ (x219001.length : Int)) then (unicodetextref50_one.l0 k (wrap64 (x3 + 1)) x219000 x219001 x219002 x219003) else (some 1)) else (some 1)) else (some 1))) else (none)) else (some 0)
end
def unicodetextref50_one.f (k : Nat) (l0_0 : List (S38)) (l0_1 : List (S38)) (l0_2 : List (S38)) (l0_3 : List (S51)) : Option (Int) := if (l0_1.length : Int) < 1 then (unicodetextref50_one.j0 k true l0_0 l0_1 l0_2 l0_3) else (if (l0_1.length : Int) > 8 then (unicodetextref50_one.j0 k true l0_0 l0_1 l0_2 l0_3) else (if (l0_0.length : Int) > 8 then (unicodetextref50_one.j0 k true l0_0 l0_1 l0_2 l0_3) else (if (l0_2.length : Int) > 8 then (unicodetextref50_one.j0 k true l0_0 l0_1 l0_2 l0_3) else (unicodetextref50_one.j0 k (decide ((l0_3.length : Int) > 16)) l0_0 l0_1 l0_2 l0_3))))
end Go.Proofs.Ytnhagghhficdpaa.Q
end
section
namespace Go.Proofs.Ytnhagghhficdpaa.Q
open Go.RowKit Go.Proofs.YtnhagghhficdpaaW.PrintWords Go.Proofs.YtnhagghhficdpaaW.PrintLast Go.Proofs.YtnhagghhficdpaaW.PrintMore
attribute [local go_sem] max2_int min2_int max_two min_two max_three min_three max_four min_four   -- for this text's walks alone
set_option linter.unusedVariables false
set_option linter.unusedSimpArgs false
def unicodetextref50_Check.l0 : Nat → List (S34) → Int → Option (Int)
  | 0, _, _ => none
  | k + 1, x0, x3 => if x3 < (x0.length : Int) then (if 0 ≤ x3 then ((unicodetextref50_one.f k ((rd_T34 x0 x3).f0) ((rd_T34 x0 x3).f1) ((rd_T34 x0 x3).f2) ((rd_T34 x0 x3).f3)).bind fun t226 => (if t226 = 0 then (unicodetextref50_Check.l0 k x0 (wrap64 (x3 + 1))) else (some t226))) else (none)) else (some 0)
def unicodetextref50_Check.f (k : Nat) (l0 : List (S34)) : Option (Int) := if (l0.length : Int) > 200 then (some 2) else (unicodetextref50_Check.l0 k l0 0)
end Go.Proofs.Ytnhagghhficdpaa.Q
end
section
namespace Go.Proofs.Ytnhagghhficdpaa.Q
open Go.RowKit Go.Proofs.YtnhagghhficdpaaW.PrintWords Go.Proofs.YtnhagghhficdpaaW.PrintLast Go.Proofs.YtnhagghhficdpaaW.PrintMore
set_option linter.unusedVariables false
def unicodetextref51_Data.f (k : Nat) (l0 : List S34) : Option (List S34) := (unicodetextref50_Check.f k l0).bind fun t => if t = 0 then some l0 else some []
end Go.Proofs.Ytnhagghhficdpaa.Q
end
section
namespace Go.Proofs.Ytnhagghhficdpaa.Q
open Go.RowKit Go.Proofs.YtnhagghhficdpaaW.PrintWords Go.Proofs.YtnhagghhficdpaaW.PrintLast Go.Proofs.YtnhagghhficdpaaW.PrintMore
set_option linter.unusedVariables false
def plFewS (l : List St) : Prop := l.length ≤ 10 ∧ ∀ s ∈ l, s.f0.length ≤ 12
def plFewU (x : Ru) : Prop := plFewS x.f0 ∧ plFewS x.f1 ∧ plFewS x.f2 ∧ x.f3.length ≤ 20
def plFewL (l : List Ru) : Prop := l.length ≤ 6 ∧ ∀ x ∈ l, plFewU x
def plBad (s : St) : Bool := !validS s || decide (s.f0.length = 0)
theorem plData_few (l : List Ru) (h : plFewL l) : plFewL (dataS l) := by
  unfold dataS
  split
  · exact h
  · exact ⟨Nat.zero_le _, fun x hx => by cases hx⟩
end Go.Proofs.Ytnhagghhficdpaa.Q
end
section
namespace Go.Proofs.Ytnhagghhficdpaa.Q
open Go.RowKit Go.Proofs.YtnhagghhficdpaaW.PrintWords Go.Proofs.YtnhagghhficdpaaW.PrintLast Go.Proofs.YtnhagghhficdpaaW.PrintMore
attribute [local go_sem] max2_int min2_int max_two min_two max_three min_three max_four min_four   -- for this text's walks alone
set_option linter.unusedVariables false
set_option linter.unusedSimpArgs false
mutual
def unicodetextref51_inside.j0 : Nat → List (S38) → List Int → Int → Bool → Option (Bool)
  | 0, _, _, _, _ => none
  | k + 1, x0, x1, x2, x18 => if x18 = true then (some false) else (unicodetextref51_inside.l0 k x0 x1 x2 0)
def unicodetextref51_inside.l0 : Nat → List (S38) → List Int → Int → Int → Option (Bool)
  | 0, _, _, _, _ => none
  | k + 1, x0, x1, x2, x7 => if x7 < (x0.length : Int) then (if 0 ≤ x7 then (if 0 ≤ (wrap64 (x2 + x7)) then (if (wrap64 (x2 + x7)) < (x1.length : Int) then ((unicodetextref02_Has.f k ((rd_T38 x0 x7).f0) (rd x1 (wrap64 (x2 + x7)))).bind fun t229 => (if t229 = true then (unicodetextref51_inside.l0 k x0 x1 x2 (wrap64 (x7 + 1))) else (some false))) else (none)) else (none)) else (none)) else (some true)
end
def unicodetextref51_inside.f (k : Nat) (l0 : List (S38)) (l1 : List Int) (a2 : Int) : Option (Bool) := if a2 < 0 then (unicodetextref51_inside.j0 k l0 l1 a2 true) else (unicodetextref51_inside.j0 k l0 l1 a2 (decide ((wrap64 (a2 + (l0.length : Int))) > (l1.length : Int))))
def unicodetextref51_inside.T6 : Bool × List (List Nat × List Nat) := (true, [([], []), ([], []), ([0, 1], [0, 1]), ([2], [2]), ([], []), ([], []), ([], []), ([5, 6], [5, 6]), ([4, 7], [4, 7]), ([8], [8]), ([3, 9], [3, 9]), ([10], [10])])
def unicodetextref51_inside.B6 : List Nat := [0, 0, 3, 7, 0, 0, 0, 96, 240, 496, 1023, 2047]
end Go.Proofs.Ytnhagghhficdpaa.Q
end
section
namespace Go.Proofs.Ytnhagghhficdpaa.Q
open Go.RowKit Go.Proofs.YtnhagghhficdpaaW.PrintWords Go.Proofs.YtnhagghhficdpaaW.PrintLast Go.Proofs.YtnhagghhficdpaaW.PrintMore
attribute [local go_sem] max2_int min2_int max_two min_two max_three min_three max_four min_four   -- for this text's walks alone
set_option linter.unusedVariables false
set_option linter.unusedSimpArgs false
def unicodetextref51_applies.f (k : Nat) (l0_0 : List (S38)) (l0_1 : List (S38)) (l0_2 : List (S38)) (l0_3 : List (S51)) (l1 : List Int) (a2 : Int) : Option (Bool) := (unicodetextref51_inside.f k l0_1 l1 a2).bind fun t231 => (if t231 = true then ((unicodetextref51_inside.f k l0_2 l1 (wrap64 (a2 + (l0_1.length : Int)))).bind fun t232 => (if t232 = true then ((unicodetextref51_inside.f k l0_0 l1 (wrap64 (a2 - (l0_0.length : Int)))).bind fun t233 => (some t233)) else (some false))) else (some false))
mutual
def unicodetextref51_step.j0 : Nat → List (S34) → List Int → Int → Bool → Option (Int × Int)
  | 0, _, _, _, _ => none
  | k + 1, x0, x1, x2, x16 => if x16 = true then (some ((-1), 0)) else (unicodetextref51_step.l0 k x0 x1 x2 0)
def unicodetextref51_step.l0 : Nat → List (S34) → List Int → Int → Int → Option (Int × Int)
  | 0, _, _, _, _ => none
  | k + 1, x0, x1, x2, x8 => if x8 < (x0.length : Int) then (if 0 ≤ x8 then ((unicodetextref51_applies.f k ((rd_T34 x0 x8).f0) ((rd_T34 x0 x8).f1) ((rd_T34 x0 x8).f2) ((rd_T34 x0 x8).f3) x1 x2).bind fun t235 => (if t235 = true then (some (x8, (((rd_T34 x0 x8).f1).length : Int))) else (unicodetextref51_step.l0 k x0 x1 x2 (wrap64 (x8 + 1))))) else (none)) else (some ((-1), 1))
end
def unicodetextref51_step.f (k : Nat) (l0 : List (S34)) (l1 : List Int) (a2 : Int) : Option (Int × Int) := if a2 < 0 then (unicodetextref51_step.j0 k l0 l1 a2 true) else (unicodetextref51_step.j0 k l0 l1 a2 (decide (a2 ≥ (l1.length : Int))))
def unicodetextref51_Step.f (k : Nat) (l0 : List (S34)) (l1 : List Int) (a2 : Int) : Option (Int × Int) := (unicodetextref51_Data.f k l0).bind fun t237 => ((unicodetextref51_step.f k t237 l1 a2).bind fun bt240 => (some (bt240.1, bt240.2)))
end Go.Proofs.Ytnhagghhficdpaa.Q
end
section
namespace Go.Proofs.Ytnhagghhficdpaa.Q
open Go.RowKit Go.Proofs.YtnhagghhficdpaaW.PrintWords Go.Proofs.YtnhagghhficdpaaW.PrintLast Go.Proofs.YtnhagghhficdpaaW.PrintMore
set_option linter.unusedVariables false
theorem plSets_go : ∀ (d : Nat) (rest pre : List St) (k : Nat), pre.length + d = 20 → 2 * d + 2 ≤ k →
    ∃ b, unicodetextref50_sets.l0 k (pre ++ rest) (pre.length : Int) = some b ∧ (b = true → (pre ++ rest).length ≤ 10 ∧ ∀ s ∈ rest, s.f0.length ≤ 12)
  | d, [], pre, k, h1, h2 => by
    obtain ⟨k, rfl⟩ : ∃ j, k = j + 2 := ⟨k - 2, by omega⟩
    rw [unicodetextref50_sets.l0, if_neg (by simp), unicodetextref50_sets.j1, if_neg (by decide)]
    refine ⟨_, rfl, fun h => ⟨?_, fun s hs => by cases hs⟩⟩
    have := of_decide_eq_true h
    omega
  | 0, s :: rest, pre, k, h1, h2 => by
    obtain ⟨k, rfl⟩ : ∃ j, k = j + 2 := ⟨k - 2, by omega⟩
    rw [unicodetextref50_sets.l0, if_pos (by simp; omega), decide_eq_false (by omega), unicodetextref50_sets.j1, if_neg (by decide)]
    refine ⟨_, rfl, fun h => ?_⟩
    have := of_decide_eq_true h
    simp at this
    omega
  | d + 1, s :: rest, pre, k, h1, h2 => by
    obtain ⟨k, rfl⟩ : ∃ j, k = j + 2 := ⟨k - 2, by omega⟩
    obtain ⟨b, ih, hb⟩ := plSets_go d rest (pre ++ [s]) k (by simp; omega) (by omega)
    have ex : (pre ++ [s]) ++ rest = pre ++ s :: rest := by simp
    have el : ((pre ++ [s]).length : Int) = ((pre.length + 1 : Nat) : Int) := by simp
    rw [ex, el] at ih
    rw [ex] at hb
    rw [unicodetextref50_sets.l0, if_pos (by simp; omega), decide_eq_true (by omega), unicodetextref50_sets.j1, if_pos rfl, if_pos (by omega), if_pos (by simp; omega), rdS_mid, wrap_suc (by omega : pre.length < 1000000000), ih]
    show ∃ b_, (if decide ((s.f0.length : Int) ≤ 12) = true then _ else _) = _ ∧ _
    by_cases hs : s.f0.length ≤ 12
    · rw [decide_eq_true (by omega), if_pos rfl]
      exact ⟨b, rfl, fun h => ⟨(hb h).1, fun x hx => by
        rcases List.mem_cons.1 hx with rfl | hx
        · exact hs
        · exact (hb h).2 x hx⟩⟩
    · rw [decide_eq_false (by omega), if_neg (by decide)]
      exact ⟨false, rfl, fun h => by cases h⟩
theorem plSets_ok (l : List St) (k : Nat) (hk : 42 ≤ k) : ∃ b, unicodetextref50_sets.f k l = some b ∧ (b = true → plFewS l) := plSets_go 20 l [] k rfl (by omega)
theorem plSmall_go : ∀ (d : Nat) (rest pre : List Ru) (k : Nat), pre.length + d = 10 → 2 * d + 44 ≤ k →
    ∃ b, unicodetextref50_Small.l0 k (pre ++ rest) (pre.length : Int) = some b ∧ (b = true → (pre ++ rest).length ≤ 6 ∧ ∀ s ∈ rest, plFewU s)
  | d, [], pre, k, h1, h2 => by
    obtain ⟨k, rfl⟩ : ∃ j, k = j + 2 := ⟨k - 2, by omega⟩
    rw [unicodetextref50_Small.l0, if_neg (by simp), unicodetextref50_Small.j1, if_neg (by decide)]
    refine ⟨_, rfl, fun h => ⟨?_, fun s hs => by cases hs⟩⟩
    have := of_decide_eq_true h
    omega
  | 0, s :: rest, pre, k, h1, h2 => by
    obtain ⟨k, rfl⟩ : ∃ j, k = j + 2 := ⟨k - 2, by omega⟩
    rw [unicodetextref50_Small.l0, if_pos (by simp; omega), decide_eq_false (by omega), unicodetextref50_Small.j1, if_neg (by decide)]
    refine ⟨_, rfl, fun h => ?_⟩
    have := of_decide_eq_true h
    simp at this
    omega
  | d + 1, s :: rest, pre, k, h1, h2 => by
    obtain ⟨k, rfl⟩ : ∃ j, k = j + 2 := ⟨k - 2, by omega⟩
    obtain ⟨b, ih, hb⟩ := plSmall_go d rest (pre ++ [s]) k (by simp; omega) (by omega)
    have ex : (pre ++ [s]) ++ rest = pre ++ s :: rest := by simp
    have el : ((pre ++ [s]).length : Int) = ((pre.length + 1 : Nat) : Int) := by simp
    rw [ex, el] at ih
    rw [ex] at hb
    obtain ⟨b0, e0, g0⟩ := plSets_ok s.f0 k (by omega)
    obtain ⟨b1, e1, g1⟩ := plSets_ok s.f1 k (by omega)
    obtain ⟨b2, e2, g2⟩ := plSets_ok s.f2 k (by omega)
    rw [unicodetextref50_Small.l0, if_pos (by simp; omega), decide_eq_true (by omega), unicodetextref50_Small.j1, if_pos rfl, if_pos (by omega), if_pos (by simp; omega), rdU_mid, wrap_suc (by omega : pre.length < 1000000000), ih, e0, e1, e2]
    simp only [Option.bind_some]
    cases b0 with
    | false => exact ⟨false, rfl, fun h => by cases h⟩
    | true => cases b1 with
      | false => exact ⟨false, rfl, fun h => by cases h⟩
      | true => cases b2 with
        | false => exact ⟨false, rfl, fun h => by cases h⟩
        | true =>
          simp only [if_true]
          by_cases hs : (s.f3.length : Int) > 20
          · rw [if_pos hs]
            exact ⟨false, rfl, fun h => by cases h⟩
          · rw [if_neg hs]
            exact ⟨b, rfl, fun h => ⟨(hb h).1, fun x hx => by
              rcases List.mem_cons.1 hx with rfl | hx
              · exact ⟨g0 rfl, g1 rfl, g2 rfl, by omega⟩
              · exact (hb h).2 x hx⟩⟩
theorem plSmall_ok (l : List Ru) (k : Nat) (hk : 64 ≤ k) : ∃ b, unicodetextref50_Small.f k l = some b ∧ (b = true → plFewL l) := plSmall_go 10 l [] k rfl (by omega)
theorem plFew_ok (l : List Ru) (text : List Int) (k : Nat) (hk : 64 ≤ k) : ∃ b, unicodetextlaw51_few.f k l text = some b ∧ (b = true → plFewL l ∧ text.length ≤ 40) := by
  obtain ⟨b, e, h⟩ := plSmall_ok l k hk
  unfold unicodetextlaw51_few.f
  rw [e]
  cases b with
  | false => exact ⟨false, rfl, fun h => by cases h⟩
  | true => exact ⟨_, rfl, fun h2 => ⟨h rfl, by have := of_decide_eq_true h2; omega⟩⟩
theorem plOkSets {l : List St} (h : plFewS l) : l.all okSet = true := List.all_eq_true.2 fun s hs => decide_eq_true (h.2 s hs)
theorem plOkRules {l : List Ru} (h : plFewL l) : okRules l = true := by
  unfold okRules
  rw [Bool.and_eq_true, decide_eq_true_eq, List.all_eq_true]
  refine ⟨by have := h.1; omega, fun x hx => ?_⟩
  obtain ⟨h0, h1, h2, h3⟩ := h.2 x hx
  unfold okRule
  rw [plOkSets h0, plOkSets h1, plOkSets h2, decide_eq_true (by have := h0.1; omega), decide_eq_true (by have := h1.1; omega), decide_eq_true (by have := h2.1; omega), decide_eq_true (by omega)]
  rfl
theorem plCmp_go : ∀ (xs ys px py : List Int) (k : Nat), px.length = py.length → (px ++ xs).length < 1000000000 → 2 * xs.length + 2 ≤ k →
    ∃ c, unicodetextref01_Compare.l0 k (px ++ xs) (py ++ ys) (px.length : Int) = some c ∧ (c = 0 ↔ xs = ys)
  | [], [], px, py, k, h1, h2, h3 => by
    obtain ⟨k, rfl⟩ : ∃ j, k = j + 2 := ⟨k - 2, by omega⟩
    rw [unicodetextref01_Compare.l0, if_neg (by simp), unicodetextref01_Compare.j1, if_neg (by decide), if_neg (by simp [h1]), if_neg (by simp [h1])]
    exact ⟨0, rfl, by simp⟩
  | [], y :: ys, px, py, k, h1, h2, h3 => by
    obtain ⟨k, rfl⟩ : ∃ j, k = j + 2 := ⟨k - 2, by omega⟩
    rw [unicodetextref01_Compare.l0, if_neg (by simp), unicodetextref01_Compare.j1, if_neg (by decide), if_pos (by simp [h1]; omega)]
    exact ⟨-1, rfl, by simp⟩
  | x :: xs, [], px, py, k, h1, h2, h3 => by
    obtain ⟨k, rfl⟩ : ∃ j, k = j + 2 := ⟨k - 2, by omega⟩
    rw [unicodetextref01_Compare.l0, if_pos (by simp; omega), decide_eq_false (by simp [h1]), unicodetextref01_Compare.j1, if_neg (by decide), if_neg (by simp [h1]; omega), if_pos (by simp [h1]; omega)]
    exact ⟨1, rfl, by simp⟩
  | x :: xs, y :: ys, px, py, k, h1, h2, h3 => by
    obtain ⟨k, rfl⟩ : ∃ j, k = j + 2 := ⟨k - 2, by omega⟩
    have hp : px.length < 1000000000 := by simp at h2; omega
    obtain ⟨c, ih, hc⟩ := plCmp_go xs ys (px ++ [x]) (py ++ [y]) k (by simp [h1]) (by simpa using h2) (by simp at h3; omega)
    have ex : (px ++ [x]) ++ xs = px ++ x :: xs := by simp
    have ey : (py ++ [y]) ++ ys = py ++ y :: ys := by simp
    have el : ((px ++ [x]).length : Int) = ((px.length + 1 : Nat) : Int) := by simp
    rw [ex, ey, el] at ih
    have e1 : rd (py ++ y :: ys) (px.length : Int) = y := by rw [h1]; exact rd_mid _ _ _
    rw [unicodetextref01_Compare.l0, if_pos (by simp; omega), decide_eq_true (by simp [h1]; omega), unicodetextref01_Compare.j1, if_pos rfl, if_pos (by omega), if_pos (by simp; omega), if_pos (by simp [h1]; omega), rd_mid, e1, wrap_suc hp, ih]
    by_cases a : x < y
    · rw [if_pos a]
      exact ⟨-1, rfl, ⟨fun h => absurd h (by decide), fun h => by injection h with h; omega⟩⟩
    · rw [if_neg a]
      by_cases b : x > y
      · rw [if_pos b]
        exact ⟨1, rfl, ⟨fun h => absurd h (by decide), fun h => by injection h with h; omega⟩⟩
      · rw [if_neg b]
        obtain rfl : x = y := by omega
        exact ⟨c, rfl, by rw [hc]; simp⟩
theorem plEqual_ok (a b : List Int) (k : Nat) (h : a.length < 1000000000) (hk : 2 * a.length + 2 ≤ k) : unicodetextref01_Equal.f k a b = some (decide (a = b)) := by
  obtain ⟨c, e, hc⟩ := plCmp_go a b [] [] k rfl (by simpa using h) hk
  unfold unicodetextref01_Equal.f unicodetextref01_Compare.f
  refine (congrArg (fun o => Option.bind o _) e).trans ?_
  show some (c == 0) = _
  congr 1
  rw [Bool.eq_iff_iff]
  simp [hc]
def plRules : List Ru := [⟨[], [⟨[⟨97, 97⟩]⟩, ⟨[⟨98, 98⟩]⟩], [], [⟨120, 0⟩]⟩, ⟨[], [⟨[⟨97, 97⟩]⟩], [], [⟨121, 0⟩]⟩]
theorem plAlive_step : transduce_Step.f plRules [97, 97, 98] 1 = some (0, 2) := by kernel_rfl
theorem plAlive_apply : transduce_Apply.f plRules [97, 97, 98] = some [121, 120] := by kernel_rfl
theorem plAlive_ok (k : Nat) (hk : 20 ≤ k) : unicodetextlaw51_alive.f k = some true := by
  obtain ⟨k, rfl⟩ : ∃ j, k = j + 20 := ⟨k - 20, by omega⟩
  show (transduce_Step.f plRules [97, 97, 98] 1).bind (fun bt166 => (transduce_Apply.f plRules [97, 97, 98]).bind fun t171 => (unicodetextref01_Equal.f (k + 20) t171 [121, 120]).bind fun t177 => if t177 = true then (if bt166.1 = 0 then (some (bt166.2 == 2)) else (some false)) else (some false)) = some true
  rw [plAlive_step, plAlive_apply]
  simp only [Option.bind_some]
  rw [plEqual_ok _ _ _ (by decide) (by simp)]
  rfl
end Go.Proofs.Ytnhagghhficdpaa.Q
end
section
namespace Go.Proofs.Ytnhagghhficdpaa.Q
open Go.RowKit Go.Proofs.YtnhagghhficdpaaW.PrintWords Go.Proofs.YtnhagghhficdpaaW.PrintLast Go.Proofs.YtnhagghhficdpaaW.PrintMore
attribute [local go_sem] max2_int min2_int max_two min_two max_three min_three max_four min_four   -- for this text's walks alone
set_option linter.unusedVariables false
set_option linter.unusedSimpArgs false
def unicodetextlaw51_TransduceSteps.f (k : Nat) (l0 : List (S34)) (l1 : List Int) (a2 : Int) : Option (Bool) := (unicodetextlaw51_few.f k l0 l1).bind fun t242 => (if t242 = true then ((transduce_Step.f l0 l1 a2).bind fun bt243 => ((unicodetextref51_Step.f k l0 l1 a2).bind fun bt245 => (if bt243.1 = bt245.1 then (if bt243.2 = bt245.2 then ((unicodetextlaw51_alive.f k).bind fun t247 => (some t247)) else (some false)) else (some false)))) else ((unicodetextlaw51_alive.f k).bind fun t248 => (some t248)))
end Go.Proofs.Ytnhagghhficdpaa.Q
end
section
namespace Go.Proofs.Ytnhagghhficdpaa.Q
open Go.RowKit Go.Proofs.YtnhagghhficdpaaW.PrintWords Go.Proofs.YtnhagghhficdpaaW.PrintLast Go.Proofs.YtnhagghhficdpaaW.PrintMore
set_option linter.unusedVariables false
theorem plOkText {l : List Int} (h : wfT l) (hl : l.length < 100000000) : okText l = true := by
  unfold okText
  rw [Bool.and_eq_true, decide_eq_true_eq, List.all_eq_true]
  exact ⟨hl, h.2⟩
end Go.Proofs.Ytnhagghhficdpaa.Q
end
section
namespace Go.Proofs.Ytnhagghhficdpaa.Q
open Go.RowKit Go.Proofs.YtnhagghhficdpaaW.PrintWords Go.Proofs.YtnhagghhficdpaaW.PrintLast Go.Proofs.YtnhagghhficdpaaW.PrintMore
attribute [local go_sem] max2_int min2_int max_two min_two max_three min_three max_four min_four   -- for this text's walks alone
set_option linter.unusedVariables false
set_option linter.unusedSimpArgs false
def unicodetextref51_Reach.l0 : Nat → List (S34) → Int → Int → Int → Option (Int × Int)
  | 0, _, _, _, _ => none
  | k + 1, x4, x5, x6, x7 => if x7 < (x4.length : Int) then (if 0 ≤ x7 then (unicodetextref51_Reach.l0 k x4 (mx x5 (((rd_T34 x4 x7).f0).length : Int)) (mx x6 (wrap64 ((((rd_T34 x4 x7).f1).length : Int) + (((rd_T34 x4 x7).f2).length : Int)))) (wrap64 (x7 + 1))) else (none)) else (some (x5, x6))
def unicodetextref51_Reach.f (k : Nat) (l0 : List (S34)) : Option (Int × Int) := (unicodetextref51_Data.f k l0).bind fun t298 => (unicodetextref51_Reach.l0 k t298 0 0 0)
def unicodetextlaw51_TransduceReaches.f (k : Nat) (l0 : List (S34)) : Option (Bool) := (unicodetextref50_Small.f k l0).bind fun t304 => (if t304 = true then ((transduce_Reach.f l0).bind fun bt305 => ((unicodetextref51_Reach.f k l0).bind fun bt307 => (if bt305.1 = bt307.1 then (if bt305.2 = bt307.2 then ((unicodetextlaw51_alive.f k).bind fun t309 => (some t309)) else (some false)) else (some false)))) else ((unicodetextlaw51_alive.f k).bind fun t310 => (some t310)))
end Go.Proofs.Ytnhagghhficdpaa.Q
end
section
namespace Go.Proofs.Ytnhagghhficdpaa.Q
open Go.RowKit Go.Proofs.YtnhagghhficdpaaW.PrintWords Go.Proofs.YtnhagghhficdpaaW.PrintLast Go.Proofs.YtnhagghhficdpaaW.PrintMore
set_option linter.unusedVariables false
theorem plMx (a b : Int) : mx a b = max a b := by unfold mx; omega
theorem plMn (a b : Int) : mn a b = min a b := by unfold mn; omega
theorem plReachT (l : List Ru) (h : plFewL l) : transduce_Reach.f l = some (reachS (dataS l)) := by
  unfold transduce_Reach.f
  rw [if_pos (plOkRules h)]
theorem plInside_take : ∀ (l : List St) (t : List Int) (n : Nat), l.length ≤ n → insideS l t = insideS l (t.take n)
  | [], t, n, h => rfl
  | s :: l, [], n, h => by rw [List.take_nil]
  | s :: l, c :: t, 0, h => by simp at h
  | s :: l, c :: t, n + 1, h => by
    rw [List.take_succ_cons, insideS, insideS, plInside_take l t n (by simpa using h)]
theorem plCovers_win (l : List St) (text : List Int) (lo hi : Nat) (i : Int) (h : hi ≤ text.length) (h0 : lo ≤ hi) (h1 : (0 ≤ i ↔ (lo : Int) ≤ i)) (h2 : (i + l.length ≤ (text.length : Int) ↔ i + l.length ≤ (hi : Int))) :
    coversS l ((text.take hi).drop lo) (i - lo) = coversS l text i := by
  have hlen : ((text.take hi).drop lo).length = hi - lo := by rw [List.length_drop, List.length_take]; omega
  unfold coversS
  rw [hlen]
  by_cases ha : 0 ≤ i
  · have ha' := h1.1 ha
    rw [decide_eq_true ha, decide_eq_true (by omega : 0 ≤ i - (lo : Int))]
    by_cases hb : i + l.length ≤ (text.length : Int)
    · have hb' := h2.1 hb
      rw [decide_eq_true hb, decide_eq_true (by omega : i - (lo : Int) + l.length ≤ ((hi - lo : Nat) : Int))]
      simp only [Bool.true_and]
      obtain ⟨a, rfl⟩ : ∃ a : Nat, i = (a : Int) := ⟨i.toNat, by omega⟩
      rw [show (a : Int) - (lo : Int) = ((a - lo : Nat) : Int) by omega, Int.toNat_natCast, Int.toNat_natCast, List.drop_drop, show lo + (a - lo) = a by omega]
      rw [plInside_take l (text.drop a) l.length (Nat.le_refl _), plInside_take l ((text.take hi).drop a) l.length (Nat.le_refl _)]
      congr 1
      rw [List.drop_take, List.take_take, Nat.min_eq_left (by omega)]
    · rw [decide_eq_false hb, decide_eq_false (by omega : ¬ i - (lo : Int) + l.length ≤ ((hi - lo : Nat) : Int))]
      simp
  · rw [decide_eq_false ha, decide_eq_false (by omega : ¬ 0 ≤ i - (lo : Int))]
    simp
theorem plFindIdx_congr {p q : Ru → Bool} : ∀ (l : List Ru), (∀ x ∈ l, p x = q x) → l.findIdx? p = l.findIdx? q
  | [], h => rfl
  | x :: l, h => by
    rw [List.findIdx?_cons, List.findIdx?_cons, h x List.mem_cons_self, plFindIdx_congr l (fun y hy => h y (List.mem_cons_of_mem _ hy))]
theorem plFold_ge (f : Ru → Int) : ∀ (l : List Ru) (a : Int), a ≤ l.foldl (fun m x => max m (f x)) a ∧ ∀ x ∈ l, f x ≤ l.foldl (fun m x => max m (f x)) a
  | [], a => ⟨Int.le_refl _, fun x hx => by cases hx⟩
  | y :: l, a => by
    obtain ⟨h1, h2⟩ := plFold_ge f l (max a (f y))
    rw [List.foldl_cons]
    refine ⟨by omega, fun x hx => ?_⟩
    rcases List.mem_cons.1 hx with rfl | hx
    · omega
    · exact h2 x hx
theorem plFold_le (f : Ru → Int) (B : Int) : ∀ (l : List Ru) (a : Int), a ≤ B → (∀ x ∈ l, f x ≤ B) → l.foldl (fun m x => max m (f x)) a ≤ B
  | [], a, h, _ => h
  | y :: l, a, h, h2 => by
    rw [List.foldl_cons]
    have := h2 y List.mem_cons_self
    exact plFold_le f B l _ (by omega) (fun x hx => h2 x (List.mem_cons_of_mem _ hx))
theorem plReach_bounds (l : List Ru) (h : plFewL l) : (0 ≤ (reachS l).1 ∧ (reachS l).1 ≤ 1000) ∧ (0 ≤ (reachS l).2 ∧ (reachS l).2 ≤ 1000) ∧ ∀ x ∈ l, (x.f0.length : Int) ≤ (reachS l).1 ∧ (x.f1.length : Int) + x.f2.length ≤ (reachS l).2 := by
  have a := plFold_ge (fun x => (x.f0.length : Int)) l 0
  have b := plFold_ge (fun x => (x.f1.length : Int) + x.f2.length) l 0
  have c := plFold_le (fun x => (x.f0.length : Int)) 1000 l 0 (by decide) (fun x hx => by have := (h.2 x hx).1.1; omega)
  have d := plFold_le (fun x => (x.f1.length : Int) + x.f2.length) 1000 l 0 (by decide) (fun x hx => by have := (h.2 x hx).2.1.1; have := (h.2 x hx).2.2.1.1; omega)
  exact ⟨⟨a.1, c⟩, ⟨b.1, d⟩, fun x hx => ⟨a.2 x hx, b.2 x hx⟩⟩
theorem plWindow (l : List Ru) (text : List Int) (a lo hi : Nat) (b f : Int) (hb : 0 ≤ b) (hr : ∀ x ∈ l, (x.f0.length : Int) ≤ b ∧ (x.f1.length : Int) + x.f2.length ≤ f) (ha : a < text.length)
    (hlo : (lo : Int) = max 0 ((a : Int) - b)) (hhi : (hi : Int) = min (text.length : Int) ((a : Int) + max 1 f)) : stepS l ((text.take hi).drop lo) ((a : Int) - lo) = stepS l text a := by
  have hlen : ((text.take hi).drop lo).length = hi - lo := by rw [List.length_drop, List.length_take]; omega
  have hx : l.findIdx? (fun x => appliesS x ((text.take hi).drop lo) ((a : Int) - lo)) = l.findIdx? (fun x => appliesS x text a) := by
    refine plFindIdx_congr l fun x hx => ?_
    obtain ⟨r1, r2⟩ := hr x hx
    unfold appliesS
    rw [plCovers_win x.f1 text lo hi a (by omega) (by omega) (by omega) (by omega)]
    rw [show (a : Int) - lo + x.f1.length = ((a : Int) + x.f1.length) - lo by omega, plCovers_win x.f2 text lo hi _ (by omega) (by omega) (by omega) (by omega)]
    rw [show (a : Int) - lo - x.f0.length = ((a : Int) - x.f0.length) - lo by omega, plCovers_win x.f0 text lo hi _ (by omega) (by omega) (by omega) (by omega)]
  unfold stepS
  rw [hlen, if_neg (by omega), if_neg (by omega), hx]
theorem transduceWindows_pure (l0 : List Ru) (l1 : List Int) (a2 : Int) (h0 : wfL l0) (h1 : wfT l1) (h2 : W64 a2) : ∃ k, unicodetextlaw51_TransduceWindows.f k l0 l1 a2 = some true := by
  refine ⟨100, ?_⟩
  obtain ⟨b, e, hb⟩ := plFew_ok l0 l1 100 (by decide)
  unfold unicodetextlaw51_TransduceWindows.f
  rw [e]
  have hal : unicodetextlaw51_TransduceWindows.j0 100 l0 l1 a2 true = some true := by
    rw [unicodetextlaw51_TransduceWindows.j0, if_pos rfl, plAlive_ok 99 (by decide)]
    rfl
  cases b with
  | false => exact hal
  | true =>
    obtain ⟨hl, ht⟩ := hb rfl
    simp only [Option.bind_some, if_true]
    by_cases c0 : a2 < 0
    · rw [if_pos c0]; exact hal
    · rw [if_neg c0]
      by_cases c1 : a2 ≥ (l1.length : Int)
      · rw [decide_eq_true c1]; exact hal
      · rw [decide_eq_false c1, unicodetextlaw51_TransduceWindows.j0, if_neg (by decide), plReachT l0 hl]
        simp only [Option.bind_some]
        obtain ⟨⟨b1, b2⟩, ⟨f1, f2⟩, hr⟩ := plReach_bounds (dataS l0) (plData_few l0 hl)
        generalize (reachS (dataS l0)).1 = before at *
        generalize (reachS (dataS l0)).2 = ahead at *
        rw [if_neg (by omega), if_neg (by omega), if_neg (by omega), decide_eq_false (by omega), unicodetextlaw51_TransduceWindows.j1, if_neg (by decide)]
        obtain ⟨a, rfl⟩ : ∃ a : Nat, a2 = (a : Int) := ⟨a2.toNat, by omega⟩
        have hw1 : wrap64 ((a : Int) - before) = (a : Int) - before := by unfold wrap64; omega
        have hw2 : wrap64 ((a : Int) + mx 1 ahead) = (a : Int) + max 1 ahead := by rw [plMx]; unfold wrap64; omega
        obtain ⟨lo, hlo⟩ : ∃ lo : Nat, (lo : Int) = max 0 ((a : Int) - before) := ⟨(max 0 ((a : Int) - before)).toNat, by omega⟩
        obtain ⟨hi, hhi⟩ : ∃ hi : Nat, (hi : Int) = min (l1.length : Int) ((a : Int) + max 1 ahead) := ⟨(min (l1.length : Int) ((a : Int) + max 1 ahead)).toNat, by omega⟩
        rw [hw1, hw2, plMx, plMn, ← hlo, ← hhi, Int.toNat_natCast, Int.toNat_natCast]
        have hw3 : wrap64 ((a : Int) - (lo : Int)) = (a : Int) - lo := by unfold wrap64; omega
        rw [hw3]
        have hs : transduce_Step.f l0 l1 (a : Int) = some (stepS (dataS l0) l1 a) := by
          unfold transduce_Step.f
          rw [if_pos ⟨plOkRules hl, plOkText h1 (by omega)⟩]
        have hwf : okText ((l1.take hi).drop lo) = true := by
          unfold okText
          rw [Bool.and_eq_true, decide_eq_true_eq, List.all_eq_true]
          refine ⟨by rw [List.length_drop, List.length_take]; omega, fun c hc => h1.2 c (List.mem_of_mem_take (List.mem_of_mem_drop hc))⟩
        have hs2 : transduce_Step.f l0 ((l1.take hi).drop lo) ((a : Int) - lo) = some (stepS (dataS l0) l1 a) := by
          unfold transduce_Step.f
          rw [if_pos ⟨plOkRules hl, hwf⟩, plWindow (dataS l0) l1 a lo hi before ahead b1 hr (by omega) hlo hhi]
        rw [hs]
        simp only [Option.bind_some]
        rw [if_pos (by omega), if_pos (by omega), if_pos (by omega), hs2]
        simp only [Option.bind_some, if_true]
        rw [plAlive_ok 98 (by decide)]
        rfl
end Go.Proofs.Ytnhagghhficdpaa.Q
end
