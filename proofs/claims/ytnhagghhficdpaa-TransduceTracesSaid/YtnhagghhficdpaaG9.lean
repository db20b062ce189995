/- Lemmas, printed and written for this claim: part 9. -/
import Derived.WalkKit
import Derived.Test.YtnhagghhficdpaaG2
import Derived.Test.YtnhagghhficdpaaG7
import Derived.Test.YtnhagghhficdpaaG8
import Derived.Test.YtnhagghhficdpaaG5
import Derived.Test.YtnhagghhficdpaaG6
import Derived.Test.YtnhagghhficdpaaG4
import Derived.Test.YtnhagghhficdpaaG3
import Derived.ChangeKeysEq
import Derived.Laws.StructEq
section
namespace Go.Proofs.Ytnhagghhficdpaa.Q
open Go.RowKit Go.Proofs.YtnhagghhficdpaaW.PrintWords Go.Proofs.YtnhagghhficdpaaW.PrintLast Go.Proofs.YtnhagghhficdpaaW.PrintMore
set_option linter.unusedVariables false
theorem plSets_go : ∀ (d : Nat) (rest pre : List St) (k : Nat), pre.length + d = 20 → 2 * d + 2 ≤ k →
    ∃ b, unicodetextref50_sets.l0 k (pre ++ rest) (pre.length : Int) = some b ∧ (b = true → (pre ++ rest).length ≤ 10 ∧ ∀ s ∈ rest, s.f0.length ≤ 12)
  | d, [], pre, k, h1, h2 => by
    obtain ⟨k, rfl⟩ : ∃ j, k = j + 2 := ⟨k - 2, by omega⟩
    rw [unicodetextref50_sets.l0, if_neg (by simp), unicodetextref50_sets.j1, if_neg (by decide)]
    refine ⟨_, rfl, fun h => ⟨?_, fun s hs => by cases hs⟩⟩
    have := of_decide_eq_true h
    omega
  | 0, s :: rest, pre, k, h1, h2 => by
    obtain ⟨k, rfl⟩ : ∃ j, k = j + 2 := ⟨k - 2, by omega⟩
    rw [unicodetextref50_sets.l0, if_pos (by simp; omega), decide_eq_false (by omega), unicodetextref50_sets.j1, if_neg (by decide)]
    refine ⟨_, rfl, fun h => ?_⟩
    have := of_decide_eq_true h
    simp at this
    omega
  | d + 1, s :: rest, pre, k, h1, h2 => by
    obtain ⟨k, rfl⟩ : ∃ j, k = j + 2 := ⟨k - 2, by omega⟩
    obtain ⟨b, ih, hb⟩ := plSets_go d rest (pre ++ [s]) k (by simp; omega) (by omega)
    have ex : (pre ++ [s]) ++ rest = pre ++ s :: rest := by simp
    have el : ((pre ++ [s]).length : Int) = ((pre.length + 1 : Nat) : Int) := by simp
    rw [ex, el] at ih
    rw [ex] at hb
    rw [unicodetextref50_sets.l0, if_pos (by simp; omega), decide_eq_true (by omega), unicodetextref50_sets.j1, if_pos rfl, if_pos (by omega), if_pos (by simp; omega), rdS_mid, wrap_suc (by omega : pre.length < 1000000000), ih]
    show ∃ b_, (if decide ((s.f0.length : Int) ≤ 12) = true then _ else _) = _ ∧ _
    by_cases hs : s.f0.length ≤ 12
    · rw [decide_eq_true (by omega), if_pos rfl]
      exact ⟨b, rfl, fun h => ⟨(hb h).1, fun x hx => by
        rcases List.mem_cons.1 hx with rfl | hx
        · exact hs
        · exact (hb h).2 x hx⟩⟩
    · rw [decide_eq_false (by omega), if_neg (by decide)]
      exact ⟨false, rfl, fun h => by cases h⟩
theorem plSets_ok (l : List St) (k : Nat) (hk : 42 ≤ k) : ∃ b, unicodetextref50_sets.f k l = some b ∧ (b = true → plFewS l) := plSets_go 20 l [] k rfl (by omega)
theorem plSmall_go : ∀ (d : Nat) (rest pre : List Ru) (k : Nat), pre.length + d = 10 → 2 * d + 44 ≤ k →
    ∃ b, unicodetextref50_Small.l0 k (pre ++ rest) (pre.length : Int) = some b ∧ (b = true → (pre ++ rest).length ≤ 6 ∧ ∀ s ∈ rest, plFewU s)
  | d, [], pre, k, h1, h2 => by
    obtain ⟨k, rfl⟩ : ∃ j, k = j + 2 := ⟨k - 2, by omega⟩
    rw [unicodetextref50_Small.l0, if_neg (by simp), unicodetextref50_Small.j1, if_neg (by decide)]
    refine ⟨_, rfl, fun h => ⟨?_, fun s hs => by cases hs⟩⟩
    have := of_decide_eq_true h
    omega
  | 0, s :: rest, pre, k, h1, h2 => by
    obtain ⟨k, rfl⟩ : ∃ j, k = j + 2 := ⟨k - 2, by omega⟩
    rw [unicodetextref50_Small.l0, if_pos (by simp; omega), decide_eq_false (by omega), unicodetextref50_Small.j1, if_neg (by decide)]
    refine ⟨_, rfl, fun h => ?_⟩
    have := of_decide_eq_true h
    simp at this
    omega
  | d + 1, s :: rest, pre, k, h1, h2 => by
    obtain ⟨k, rfl⟩ : ∃ j, k = j + 2 := ⟨k - 2, by omega⟩
    obtain ⟨b, ih, hb⟩ := plSmall_go d rest (pre ++ [s]) k (by simp; omega) (by omega)
    have ex : (pre ++ [s]) ++ rest = pre ++ s :: rest := by simp
    have el : ((pre ++ [s]).length : Int) = ((pre.length + 1 : Nat) : Int) := by simp
    rw [ex, el] at ih
    rw [ex] at hb
    obtain ⟨b0, e0, g0⟩ := plSets_ok s.f0 k (by omega)
    obtain ⟨b1, e1, g1⟩ := plSets_ok s.f1 k (by omega)
    obtain ⟨b2, e2, g2⟩ := plSets_ok s.f2 k (by omega)
    rw [unicodetextref50_Small.l0, if_pos (by simp; omega), decide_eq_true (by omega), unicodetextref50_Small.j1, if_pos rfl, if_pos (by omega), if_pos (by simp; omega), rdU_mid, wrap_suc (by omega : pre.length < 1000000000), ih, e0, e1, e2]
    simp only [Option.bind_some]
    cases b0 with
    | false => exact ⟨false, rfl, fun h => by cases h⟩
    | true => cases b1 with
      | false => exact ⟨false, rfl, fun h => by cases h⟩
      | true => cases b2 with
        | false => exact ⟨false, rfl, fun h => by cases h⟩
        | true =>
          simp only [if_true]
          by_cases hs : (s.f3.length : Int) > 20
          · rw [if_pos hs]
            exact ⟨false, rfl, fun h => by cases h⟩
          · rw [if_neg hs]
            exact ⟨b, rfl, fun h => ⟨(hb h).1, fun x hx => by
              rcases List.mem_cons.1 hx with rfl | hx
              · exact ⟨g0 rfl, g1 rfl, g2 rfl, by omega⟩
              · exact (hb h).2 x hx⟩⟩
theorem plSmall_ok (l : List Ru) (k : Nat) (hk : 64 ≤ k) : ∃ b, unicodetextref50_Small.f k l = some b ∧ (b = true → plFewL l) := plSmall_go 10 l [] k rfl (by omega)
theorem plFew_ok (l : List Ru) (text : List Int) (k : Nat) (hk : 64 ≤ k) : ∃ b, unicodetextlaw51_few.f k l text = some b ∧ (b = true → plFewL l ∧ text.length ≤ 40) := by
  obtain ⟨b, e, h⟩ := plSmall_ok l k hk
  unfold unicodetextlaw51_few.f
  rw [e]
  cases b with
  | false => exact ⟨false, rfl, fun h => by cases h⟩
  | true => exact ⟨_, rfl, fun h2 => ⟨h rfl, by have := of_decide_eq_true h2; omega⟩⟩
theorem plOkSets {l : List St} (h : plFewS l) : l.all okSet = true := List.all_eq_true.2 fun s hs => decide_eq_true (h.2 s hs)
theorem plOkRules {l : List Ru} (h : plFewL l) : okRules l = true := by
  unfold okRules
  rw [Bool.and_eq_true, decide_eq_true_eq, List.all_eq_true]
  refine ⟨by have := h.1; omega, fun x hx => ?_⟩
  obtain ⟨h0, h1, h2, h3⟩ := h.2 x hx
  unfold okRule
  rw [plOkSets h0, plOkSets h1, plOkSets h2, decide_eq_true (by have := h0.1; omega), decide_eq_true (by have := h1.1; omega), decide_eq_true (by have := h2.1; omega), decide_eq_true (by omega)]
  rfl
theorem plInside_go (text : List Int) (a : Nat) (hT : text.length < 1000000000) : ∀ (rest pre : List St) (k : Nat), (∀ s ∈ rest, s.f0.length ≤ 12) → a + (pre ++ rest).length ≤ text.length → rest.length + 15 ≤ k →
    unicodetextref51_inside.l0 k (pre ++ rest) text (a : Int) (pre.length : Int) = some (insideS rest (text.drop (a + pre.length)))
  | [], pre, k, h0, h1, h2 => by
    obtain ⟨k, rfl⟩ : ∃ j, k = j + 1 := ⟨k - 1, by omega⟩
    rw [unicodetextref51_inside.l0, if_neg (by simp)]
    rfl
  | s :: rest, pre, k, h0, h1, h2 => by
    obtain ⟨k, rfl⟩ : ∃ j, k = j + 1 := ⟨k - 1, by omega⟩
    have hp : a + pre.length < text.length := by simp at h1; omega
    have ih := plInside_go text a hT rest (pre ++ [s]) k (fun y hy => h0 y (List.mem_cons_of_mem _ hy)) (by simpa using h1) (by simp at h2; omega)
    have ex : (pre ++ [s]) ++ rest = pre ++ s :: rest := by simp
    have el : ((pre ++ [s]).length : Int) = ((pre.length + 1 : Nat) : Int) := by simp
    have en : (pre ++ [s]).length = pre.length + 1 := by simp
    rw [ex, el, en] at ih
    have hw : wrap64 ((a : Int) + (pre.length : Int)) = ((a + pre.length : Nat) : Int) := by unfold wrap64; omega
    have h12 := h0 s List.mem_cons_self
    have hs : unicodetextref02_Has.f k s.f0 (rd text ((a + pre.length : Nat) : Int)) = some (hasS s (rd text ((a + pre.length : Nat) : Int))) :=
      has_go s.f0 [] _ k (by simp; omega) (by simp at h2; omega)
    rw [unicodetextref51_inside.l0, if_pos (by simp; omega), if_pos (by omega), rdS_mid, hw, if_pos (by omega), if_pos (by omega), hs, wrap_suc (by omega : pre.length < 1000000000), drop_rdI _ _ hp]
    show (if hasS s _ = true then _ else _) = _
    rw [ih, insideS]
    cases hasS s (rd text ((a + pre.length : Nat) : Int)) <;> rfl
theorem plInside_ok (sets : List St) (text : List Int) (i : Int) (k : Nat) (h : plFewS sets) (hT : text.length < 1000000000) (hi : -1000000000000 < i ∧ i < 1000000000000) (hk : 26 ≤ k) :
    unicodetextref51_inside.f k sets text i = some (coversS sets text i) := by
  have hS := h.1
  obtain ⟨k, rfl⟩ : ∃ j, k = j + 1 := ⟨k - 1, by omega⟩
  unfold unicodetextref51_inside.f coversS
  by_cases hn : i < 0
  · rw [if_pos hn, unicodetextref51_inside.j0, if_pos rfl, decide_eq_false (by omega)]
    rfl
  · have hw : wrap64 (i + (sets.length : Int)) = i + (sets.length : Int) := by unfold wrap64; omega
    rw [if_neg hn, hw, unicodetextref51_inside.j0, decide_eq_true (by omega : 0 ≤ i)]
    by_cases hl : i + (sets.length : Int) ≤ (text.length : Int)
    · rw [if_neg (by simp; omega), decide_eq_true hl]
      obtain ⟨a, rfl⟩ : ∃ a : Nat, i = (a : Int) := ⟨i.toNat, by omega⟩
      have := plInside_go text a hT sets [] k h.2 (by simpa using by omega) (by omega)
      rw [Int.toNat_natCast]
      exact this
    · rw [if_pos (by simp; omega), decide_eq_false hl]
      rfl
theorem plApplies_ok (x : Ru) (text : List Int) (i : Int) (k : Nat) (h : plFewU x) (hT : text.length < 1000000000) (hi : 0 ≤ i ∧ i < 1000000000) (hk : 26 ≤ k) :
    unicodetextref51_applies.f k x.f0 x.f1 x.f2 x.f3 text i = some (appliesS x text i) := by
  obtain ⟨h0, h1, h2, h3⟩ := h
  have l0 := h0.1
  have l1 := h1.1
  have l2 := h2.1
  have hw1 : wrap64 (i + (x.f1.length : Int)) = i + (x.f1.length : Int) := by unfold wrap64; omega
  have hw0 : wrap64 (i - (x.f0.length : Int)) = i - (x.f0.length : Int) := by unfold wrap64; omega
  unfold unicodetextref51_applies.f appliesS
  rw [hw1, hw0, plInside_ok x.f1 text i k h1 hT (by omega) hk, plInside_ok x.f2 text _ k h2 hT (by omega) hk, plInside_ok x.f0 text _ k h0 hT (by omega) hk]
  simp only [Option.bind_some]
  cases coversS x.f1 text i <;> cases coversS x.f2 text (i + (x.f1.length : Int)) <;> rfl
theorem plStep_go (text : List Int) (i : Int) (hT : text.length < 1000000000) (hi : 0 ≤ i ∧ i < 1000000000) : ∀ (rest pre : List Ru) (k : Nat), (∀ x ∈ rest, plFewU x) → (pre ++ rest).length < 1000000000 → rest.length + 27 ≤ k →
    unicodetextref51_step.l0 k (pre ++ rest) text i (pre.length : Int) = some (match rest.findIdx? (fun x => appliesS x text i) with | some j => (((pre.length + j : Nat) : Int), ((rest.getD j z34).f1.length : Int)) | none => (-1, 1))
  | [], pre, k, h0, h1, h2 => by
    obtain ⟨k, rfl⟩ : ∃ j, k = j + 1 := ⟨k - 1, by omega⟩
    rw [unicodetextref51_step.l0, if_neg (by simp)]
    rfl
  | x :: rest, pre, k, h0, h1, h2 => by
    obtain ⟨k, rfl⟩ : ∃ j, k = j + 1 := ⟨k - 1, by omega⟩
    have hp : pre.length < 1000000000 := by simp at h1; omega
    have ih := plStep_go text i hT hi rest (pre ++ [x]) k (fun y hy => h0 y (List.mem_cons_of_mem _ hy)) (by simpa using h1) (by simp at h2; omega)
    have ex : (pre ++ [x]) ++ rest = pre ++ x :: rest := by simp
    have el : ((pre ++ [x]).length : Int) = ((pre.length + 1 : Nat) : Int) := by simp
    have en : (pre ++ [x]).length = pre.length + 1 := by simp
    rw [ex, el, en] at ih
    rw [unicodetextref51_step.l0, if_pos (by simp; omega), if_pos (by omega), rdU_mid, wrap_suc hp, plApplies_ok x text i k (h0 x List.mem_cons_self) hT hi (by simp at h2; omega), List.findIdx?_cons]
    show (if appliesS x text i = true then _ else _) = _
    rw [ih]
    cases appliesS x text i with
    | true => rfl
    | false =>
      rw [if_neg (by decide)]
      cases rest.findIdx? (fun x => appliesS x text i) with
      | none => rfl
      | some j =>
        show some (((pre.length + 1 + j : Nat) : Int), _) = some (((pre.length + (j + 1) : Nat) : Int), _)
        rw [show pre.length + 1 + j = pre.length + (j + 1) by omega]
        rfl
theorem plStep_ok (l : List Ru) (text : List Int) (i : Int) (k : Nat) (h : plFewL l) (hT : text.length < 1000000000) (hk : 34 ≤ k) : unicodetextref51_step.f k l text i = some (stepS l text i) := by
  obtain ⟨k, rfl⟩ : ∃ j, k = j + 1 := ⟨k - 1, by omega⟩
  have hl := h.1
  unfold unicodetextref51_step.f stepS
  by_cases h0 : i < 0
  · rw [if_pos h0, if_pos (.inl h0), unicodetextref51_step.j0, if_pos rfl]
  · rw [if_neg h0]
    by_cases h1 : (text.length : Int) ≤ i
    · rw [decide_eq_true h1, if_pos (.inr h1), unicodetextref51_step.j0, if_pos rfl]
    · rw [decide_eq_false h1, if_neg (by omega), unicodetextref51_step.j0, if_neg (by decide)]
      have := plStep_go text i hT (by omega) l [] k h.2 (by simp; omega) (by omega)
      refine Eq.trans this ?_
      cases l.findIdx? (fun x => appliesS x text i) with
      | none => rfl
      | some j => show some (((0 + j : Nat) : Int), _) = _; rw [Nat.zero_add]
theorem plCmp_go : ∀ (xs ys px py : List Int) (k : Nat), px.length = py.length → (px ++ xs).length < 1000000000 → 2 * xs.length + 2 ≤ k →
    ∃ c, unicodetextref01_Compare.l0 k (px ++ xs) (py ++ ys) (px.length : Int) = some c ∧ (c = 0 ↔ xs = ys)
  | [], [], px, py, k, h1, h2, h3 => by
    obtain ⟨k, rfl⟩ : ∃ j, k = j + 2 := ⟨k - 2, by omega⟩
    rw [unicodetextref01_Compare.l0, if_neg (by simp), unicodetextref01_Compare.j1, if_neg (by decide), if_neg (by simp [h1]), if_neg (by simp [h1])]
    exact ⟨0, rfl, by simp⟩
  | [], y :: ys, px, py, k, h1, h2, h3 => by
    obtain ⟨k, rfl⟩ : ∃ j, k = j + 2 := ⟨k - 2, by omega⟩
    rw [unicodetextref01_Compare.l0, if_neg (by simp), unicodetextref01_Compare.j1, if_neg (by decide), if_pos (by simp [h1]; omega)]
    exact ⟨-1, rfl, by simp⟩
  | x :: xs, [], px, py, k, h1, h2, h3 => by
    obtain ⟨k, rfl⟩ : ∃ j, k = j + 2 := ⟨k - 2, by omega⟩
    rw [unicodetextref01_Compare.l0, if_pos (by simp; omega), decide_eq_false (by simp [h1]), unicodetextref01_Compare.j1, if_neg (by decide), if_neg (by simp [h1]; omega), if_pos (by simp [h1]; omega)]
    exact ⟨1, rfl, by simp⟩
  | x :: xs, y :: ys, px, py, k, h1, h2, h3 => by
    obtain ⟨k, rfl⟩ : ∃ j, k = j + 2 := ⟨k - 2, by omega⟩
    have hp : px.length < 1000000000 := by simp at h2; omega
    obtain ⟨c, ih, hc⟩ := plCmp_go xs ys (px ++ [x]) (py ++ [y]) k (by simp [h1]) (by simpa using h2) (by simp at h3; omega)
    have ex : (px ++ [x]) ++ xs = px ++ x :: xs := by simp
    have ey : (py ++ [y]) ++ ys = py ++ y :: ys := by simp
    have el : ((px ++ [x]).length : Int) = ((px.length + 1 : Nat) : Int) := by simp
    rw [ex, ey, el] at ih
    have e1 : rd (py ++ y :: ys) (px.length : Int) = y := by rw [h1]; exact rd_mid _ _ _
    rw [unicodetextref01_Compare.l0, if_pos (by simp; omega), decide_eq_true (by simp [h1]; omega), unicodetextref01_Compare.j1, if_pos rfl, if_pos (by omega), if_pos (by simp; omega), if_pos (by simp [h1]; omega), rd_mid, e1, wrap_suc hp, ih]
    by_cases a : x < y
    · rw [if_pos a]
      exact ⟨-1, rfl, ⟨fun h => absurd h (by decide), fun h => by injection h with h; omega⟩⟩
    · rw [if_neg a]
      by_cases b : x > y
      · rw [if_pos b]
        exact ⟨1, rfl, ⟨fun h => absurd h (by decide), fun h => by injection h with h; omega⟩⟩
      · rw [if_neg b]
        obtain rfl : x = y := by omega
        exact ⟨c, rfl, by rw [hc]; simp⟩
theorem plEqual_ok (a b : List Int) (k : Nat) (h : a.length < 1000000000) (hk : 2 * a.length + 2 ≤ k) : unicodetextref01_Equal.f k a b = some (decide (a = b)) := by
  obtain ⟨c, e, hc⟩ := plCmp_go a b [] [] k rfl (by simpa using h) hk
  unfold unicodetextref01_Equal.f unicodetextref01_Compare.f
  refine (congrArg (fun o => Option.bind o _) e).trans ?_
  show some (c == 0) = _
  congr 1
  rw [Bool.eq_iff_iff]
  simp [hc]
def plRules : List Ru := [⟨[], [⟨[⟨97, 97⟩]⟩, ⟨[⟨98, 98⟩]⟩], [], [⟨120, 0⟩]⟩, ⟨[], [⟨[⟨97, 97⟩]⟩], [], [⟨121, 0⟩]⟩]
theorem plAlive_step : transduce_Step.f plRules [97, 97, 98] 1 = some (0, 2) := by kernel_rfl
theorem plAlive_apply : transduce_Apply.f plRules [97, 97, 98] = some [121, 120] := by kernel_rfl
theorem plAlive_ok (k : Nat) (hk : 20 ≤ k) : unicodetextlaw51_alive.f k = some true := by
  obtain ⟨k, rfl⟩ : ∃ j, k = j + 20 := ⟨k - 20, by omega⟩
  show (transduce_Step.f plRules [97, 97, 98] 1).bind (fun bt166 => (transduce_Apply.f plRules [97, 97, 98]).bind fun t171 => (unicodetextref01_Equal.f (k + 20) t171 [121, 120]).bind fun t177 => if t177 = true then (if bt166.1 = 0 then (some (bt166.2 == 2)) else (some false)) else (some false)) = some true
  rw [plAlive_step, plAlive_apply]
  simp only [Option.bind_some]
  rw [plEqual_ok _ _ _ (by decide) (by simp)]
  rfl
end Go.Proofs.Ytnhagghhficdpaa.Q
end
section
namespace Go.Proofs.Ytnhagghhficdpaa.Q
open Go.RowKit Go.Proofs.YtnhagghhficdpaaW.PrintWords Go.Proofs.YtnhagghhficdpaaW.PrintLast Go.Proofs.YtnhagghhficdpaaW.PrintMore
attribute [local go_sem] max2_int min2_int max_two min_two max_three min_three max_four min_four   -- for this text's walks alone
set_option linter.unusedVariables false
set_option linter.unusedSimpArgs false
def unicodetextlaw51_TransduceSteps.f (k : Nat) (l0 : List (S34)) (l1 : List Int) (a2 : Int) : Option (Bool) := (unicodetextlaw51_few.f k l0 l1).bind fun t242 => (if t242 = true then ((transduce_Step.f l0 l1 a2).bind fun bt243 => ((unicodetextref51_Step.f k l0 l1 a2).bind fun bt245 => (if bt243.1 = bt245.1 then (if bt243.2 = bt245.2 then ((unicodetextlaw51_alive.f k).bind fun t247 => (some t247)) else (some false)) else (some false)))) else ((unicodetextlaw51_alive.f k).bind fun t248 => (some t248)))
end Go.Proofs.Ytnhagghhficdpaa.Q
end
section
namespace Go.Proofs.Ytnhagghhficdpaa.Q
open Go.RowKit Go.Proofs.YtnhagghhficdpaaW.PrintWords Go.Proofs.YtnhagghhficdpaaW.PrintLast Go.Proofs.YtnhagghhficdpaaW.PrintMore
set_option linter.unusedVariables false
end Go.Proofs.Ytnhagghhficdpaa.Q
end
section
namespace Go.Proofs.Ytnhagghhficdpaa.Q
open Go.RowKit Go.Proofs.YtnhagghhficdpaaW.PrintWords Go.Proofs.YtnhagghhficdpaaW.PrintLast Go.Proofs.YtnhagghhficdpaaW.PrintMore
attribute [local go_sem] max2_int min2_int max_two min_two max_three min_three max_four min_four   -- for this text's walks alone
set_option linter.unusedVariables false
set_option linter.unusedSimpArgs false
def unicodetextref51_Written.l0 : Nat → List (S34) → List Int → Int → Int → List Int → Int → Option (List Int)
  | 0, _, _, _, _, _, _ => none
  | k + 1, x0, x1, x2, x3, x9, x10 => if 0 ≤ x3 then (if x3 < (x0.length : Int) then (if x10 < (((rd_T34 x0 x3).f3).length : Int) then (if 0 ≤ x10 then (if ((rd_T51 ((rd_T34 x0 x3).f3) x10).f1) > 0 then (if 0 ≤ (wrap64 ((wrap64 (x2 + ((rd_T51 ((rd_T34 x0 x3).f3) x10).f1))) - 1)) then (if (wrap64 ((wrap64 (x2 + ((rd_T51 ((rd_T34 x0 x3).f3) x10).f1))) - 1)) < (x1.length : Int) then (if x9.length < 17592186044416 then (unicodetextref51_Written.l0 k x0 x1 x2 x3 (x9 ++ [rd x1 (wrap64 ((wrap64 (x2 + ((rd_T51 ((rd_T34 x0 x3).f3) x10).f1))) - 1))]) (wrap64 (x10 + 1))) else (none)) else (none)) else (none)) else (if x9.length < 17592186044416 then (unicodetextref51_Written.l0 k x0 x1 x2 x3 (x9 ++ [(rd_T51 ((rd_T34 x0 x3).f3) x10).f0]) (wrap64 (x10 + 1))) else (none))) else (none)) else (some x9)) else (none)) else (none)
def unicodetextref51_Written.f (k : Nat) (l0 : List (S34)) (l1 : List Int) (a2 : Int) (a3 : Int) : Option (List Int) := if a3 < 0 then (if 0 ≤ a2 then (if a2 < (l1.length : Int) then (some (([rd l1 a2] : List Int))) else (none)) else (none)) else (unicodetextref51_Written.l0 k l0 l1 a2 a3 ([] : List Int) 0)
end Go.Proofs.Ytnhagghhficdpaa.Q
end
section
namespace Go.Proofs.Ytnhagghhficdpaa.Q
open Go.RowKit Go.Proofs.YtnhagghhficdpaaW.PrintWords Go.Proofs.YtnhagghhficdpaaW.PrintLast Go.Proofs.YtnhagghhficdpaaW.PrintMore
attribute [local go_sem] max2_int min2_int max_two min_two max_three min_three max_four min_four   -- for this text's walks alone
set_option linter.unusedVariables false
set_option linter.unusedSimpArgs false
def unicodetextref51_Apply.l0 : Nat → List Int → List (S34) → List Int → Int → Option (List Int)
  | 0, _, _, _, _ => none
  | k + 1, x1, x5, x6, x7 => if x7 < (x1.length : Int) then ((unicodetextref51_step.f k x5 x1 x7).bind fun bt267 => ((unicodetextref51_Written.f k x5 x1 x7 bt267.1).bind fun t269 => (if x6.length + t269.length < 17592186044416 then (unicodetextref51_Apply.l0 k x1 x5 (x6 ++ t269) (wrap64 (x7 + bt267.2))) else (none)))) else (some x6)
def unicodetextref51_Apply.f (k : Nat) (l0 : List (S34)) (l1 : List Int) : Option (List Int) := (unicodetextref51_Data.f k l0).bind fun t264 => (unicodetextref51_Apply.l0 k l1 t264 ([] : List Int) 0)
def unicodetextlaw51_TransduceApplies.f (k : Nat) (l0 : List (S34)) (l1 : List Int) : Option (Bool) := (unicodetextlaw51_few.f k l0 l1).bind fun t275 => (if t275 = true then ((transduce_Apply.f l0 l1).bind fun t276 => ((unicodetextref51_Apply.f k l0 l1).bind fun t279 => ((unicodetextref01_Equal.f k t276 t279).bind fun t282 => (if t282 = true then ((unicodetextlaw51_alive.f k).bind fun t283 => (some t283)) else (some false))))) else ((unicodetextlaw51_alive.f k).bind fun t284 => (some t284)))
end Go.Proofs.Ytnhagghhficdpaa.Q
end
section
namespace Go.Proofs.Ytnhagghhficdpaa.Q
open Go.RowKit Go.Proofs.YtnhagghhficdpaaW.PrintWords Go.Proofs.YtnhagghhficdpaaW.PrintLast Go.Proofs.YtnhagghhficdpaaW.PrintMore
attribute [local go_sem] max2_int min2_int max_two min_two max_three min_three max_four min_four   -- for this text's walks alone
set_option linter.unusedVariables false
set_option linter.unusedSimpArgs false
mutual
def unicodetextlaw51_TransduceKeeps.l0 : Nat → List (S34) → List Int → Int → Option (Bool)
  | 0, _, _, _ => none
  | k + 1, x0, x1, x5 => if x5 < (x0.length : Int) then (unicodetextlaw51_TransduceKeeps.l1 k x0 x1 x5 0) else ((transduce_Apply.f x0 x1).bind fun t287 => ((unicodetextref01_Equal.f k t287 x1).bind fun t290 => (if t290 = true then ((unicodetextlaw51_alive.f k).bind fun t291 => (some t291)) else (some false))))
def unicodetextlaw51_TransduceKeeps.l1 : Nat → List (S34) → List Int → Int → Int → Option (Bool)
  | 0, _, _, _, _ => none
  | k + 1, x0, x1, x5, x6 => if 0 ≤ x5 then (if x5 < (x0.length : Int) then (if x6 < (((rd_T34 x0 x5).f1).length : Int) then (unicodetextlaw51_TransduceKeeps.l2 k x0 x1 x5 x6 0) else (unicodetextlaw51_TransduceKeeps.l0 k x0 x1 (wrap64 (x5 + 1)))) else (none)) else (none)
def unicodetextlaw51_TransduceKeeps.l2 : Nat → List (S34) → List Int → Int → Int → Int → Option (Bool)
  | 0, _, _, _, _, _ => none
  | k + 1, x0, x1, x5, x6, x7 => if x7 < (x1.length : Int) then (if 0 ≤ x5 then (if x5 < (x0.length : Int) then (if 0 ≤ x6 then (if x6 < (((rd_T34 x0 x5).f1).length : Int) then (if 0 ≤ x7 then ((unicodetextref02_Has.f k ((rd_T38 ((rd_T34 x0 x5).f1) x6).f0) (rd x1 x7)).bind fun t296 => (if t296 = true then ((unicodetextlaw51_alive.f k).bind fun t297 => (some t297)) else (unicodetextlaw51_TransduceKeeps.l2 k x0 x1 x5 x6 (wrap64 (x7 + 1))))) else (none)) else (none)) else (none)) else (none)) else (none)) else (unicodetextlaw51_TransduceKeeps.l1 k x0 x1 x5 (wrap64 (x6 + 1)))
end
def unicodetextlaw51_TransduceKeeps.f (k : Nat) (l0 : List (S34)) (l1 : List Int) : Option (Bool) := (unicodetextlaw51_few.f k l0 l1).bind fun t285 => (if t285 = true then (unicodetextlaw51_TransduceKeeps.l0 k l0 l1 0) else ((unicodetextlaw51_alive.f k).bind fun t286 => (some t286)))
def unicodetextlaw51_TransduceKeeps.T12 : Bool × List (List Nat × List Nat) := (true, [([], []), ([], []), ([0, 1], [0, 1]), ([2], [2]), ([3], [3]), ([], []), ([4, 5], [4, 5]), ([6], [6]), ([], []), ([], []), ([8, 9], [8, 9]), ([10], [10]), ([7, 11], [7, 11])])
def unicodetextlaw51_TransduceKeeps.B12 : List Nat := [0, 0, 3, 7, 15, 0, 63, 127, 0, 0, 768, 1792, 4095]
end Go.Proofs.Ytnhagghhficdpaa.Q
end
section
namespace Go.Proofs.Ytnhagghhficdpaa.Q
open Go.RowKit Go.Proofs.YtnhagghhficdpaaW.PrintWords Go.Proofs.YtnhagghhficdpaaW.PrintLast Go.Proofs.YtnhagghhficdpaaW.PrintMore
set_option linter.unusedVariables false
theorem plData1 (l : List Ru) : ∀ x ∈ dataS l, 1 ≤ x.f1.length := fun x hx => (oneS_ok x (data_one l x hx)).1
def plNoHas (text : List Int) (s : St) : Prop := ∀ c ∈ text, hasS s c = false
end Go.Proofs.Ytnhagghhficdpaa.Q
end
section
namespace Go.Proofs.Ytnhagghhficdpaa.Q
open Go.RowKit Go.Proofs.YtnhagghhficdpaaW.PrintWords Go.Proofs.YtnhagghhficdpaaW.PrintLast Go.Proofs.YtnhagghhficdpaaW.PrintMore
set_option linter.unusedVariables false
abbrev Tr3 := Int × Int × Int
def kTr : Kd Tr3 := Kd.pair (Kd.int .i64) (Kd.pair (Kd.int .i64) (Kd.int .i64))
theorem kTr_mk (w : World) (base : Nat) (ok : Nat → Prop) (x : Tr3) : kTr.M w base ok x [.int .i64 x.1, .int .i64 x.2.1, .int .i64 x.2.2] := ⟨[.int .i64 x.1], [.int .i64 x.2.1, .int .i64 x.2.2], rfl, rfl, ⟨[.int .i64 x.2.1], [.int .i64 x.2.2], rfl, rfl, rfl⟩⟩
theorem kTr_open {w : World} {x : Tr3} {cs : List Value} (h : kTr.K w x cs) : cs = [.int .i64 x.1, .int .i64 x.2.1, .int .i64 x.2.2] := by
  obtain ⟨_, _, rfl, rfl, ⟨_, _, rfl, rfl, rfl⟩⟩ := h
  rfl
theorem info43 : (Try.prog.info? 43).map (fun i => (i.zero, i.size, i.bytes)) = some (some (.agg #[.int .i64 0, .int .i64 0, .int .i64 0]), 3, 24) := by kernel_rfl
def traceS (l : List Ru) (text : List Int) : Nat → Int → List Tr3
  | 0, _ => []
  | n + 1, i => if i < text.length then (i, stepS l text i) :: traceS l text n (i + (stepS l text i).2) else []
theorem traceS_step (l : List Ru) (text : List Int) (n a : Nat) (h : a < text.length) (hn : 0 < n) : traceS l text n (a : Int) = ((a : Int), stepS l text (a : Int)) :: traceS l text (n - 1) ((a : Int) + (stepS l text (a : Int)).2) := by
  obtain ⟨n, rfl⟩ : ∃ m, n = m + 1 := ⟨n - 1, by omega⟩
  rw [traceS, if_pos (by omega)]
  rfl
theorem traceS_more (l : List Ru) (text : List Int) (h1 : ∀ x ∈ l, 1 ≤ x.f1.length) : ∀ (n a m : Nat), text.length ≤ a + n → n ≤ m → traceS l text n (a : Int) = traceS l text m (a : Int)
  | 0, a, m, h, hm => by
    cases m with
    | zero => rfl
    | succ m => rw [traceS, traceS, if_neg (by omega)]
  | n + 1, a, m, h, hm => by
    obtain ⟨m, rfl⟩ : ∃ q, m = q + 1 := ⟨m - 1, by omega⟩
    rw [traceS, traceS]
    by_cases ha : (a : Int) < text.length
    · rw [if_pos ha, if_pos ha]
      obtain ⟨s, hs, hs1, hs2, _⟩ := stepS_bounds l text a (by omega) h1
      rw [hs, show (a : Int) + (s : Int) = ((a + s : Nat) : Int) by omega, traceS_more l text h1 n (a + s) m (by omega) (by omega)]
    · rw [if_neg ha, if_neg ha]
set_option maxHeartbeats 4000000 in
set_option maxRecDepth 100000 in
theorem trace_calls (A0 : Option Addr) (c0 : Nat) (l0 : List Ru) (A1 : Option Addr) (c1 : Nat) (l1 : List Int) (w : World) (hok : okRules l0 = true) (htx : l1.length < 100000000 ∧ ∀ c ∈ l1, (Lit.int .i64 c).wf = true) (hr0 : Kd.C k34 w A0 l0.length l0) (hc0 : l0.length ≤ c0) (hr1 : Kd.C (Kd.int .i64) w A1 l1.length l1) (hc1 : l1.length ≤ c1)
    (hd : (dataS l0).length < 100000000 ∧ ∀ x ∈ dataS l0, 1 ≤ x.f1.length ∧ (∀ s ∈ x.f0, s.f0.length < 1000) ∧ (∀ s ∈ x.f1, s.f0.length < 1000) ∧ (∀ s ∈ x.f2, s.f0.length < 1000) ∧ x.f0.length < 100000000 ∧ x.f1.length < 100000000 ∧ x.f2.length < 100000000) :
    Calls Try.prog 22 #[.slice A0 l0.length c0, .slice A1 l1.length c1] w fun e w' => ∃ v0_ : Value, e = .returned (v0_) ∧ Kd.R kTr 43 w' w.heap.size (fun _ => True) v0_ (traceS (dataS l0) l1 l1.length 0) ∧ Below w.heap.size w w' := by
  have HOK := Aside0.mk hok
  have HTX := Aside0.mk htx
  have HDO := Aside0.mk hd
  have HR := Aside0.mk hr0
  have HC := Aside0.mk hc0
  have HT := Aside0.mk hr1
  have HC1 := Aside0.mk hc1
  clear hok htx hr0 hc0 hr1 hc1 hd
  have hu43 := Try.underlying43
  go_enter Try.func22, Try.ntmps22
  go_wp2_with (go_at_call 28; (with_reducible refine (open_calls A0 c0 l0 _ HOK.out HR.out HC.out).mono ?_); rintro e w1 ⟨bm, mb, A, cA, rfl, hM, hCR, hcA, hmb, hbm, hne, hb⟩; have HM := Aside0.mk hM; have HCR := Aside0.mk hCR; have HCA := Aside0.mk hcA; have HMB := Aside0.mk hmb; have HB := Aside0.mk hb; clear hM hCR hcA hmb hbm hne hb)
  go_loopw [6, 7] (fun ov i wr => ∃ (a : Nat) (out : List Tr3), i = .int .i64 a ∧ Aside0 (a ≤ l1.length) ∧ Aside0 (traceS (dataS l0) l1 l1.length 0 = out ++ traceS (dataS l0) l1 (l1.length - a) (a : Int) ∧ out.length ≤ a) ∧ Aside0 (Kd.R kTr 43 wr w.heap.size (fun _ => True) ov out) ∧ Aside0 (Mach wr ov.ownBlock bm mb A cA (dataS l0) a) ∧ Aside0 (Below w.heap.size w wr)) (fun _ i _ => l1.length - (intOf i).toNat)
  case atStart => exact ⟨0, [], rfl, ⟨Nat.zero_le _⟩, ⟨rfl, Nat.zero_le _⟩, ⟨Kd.R_nil _ _ _ _ _⟩, ⟨HM.out _⟩, HB⟩
  case round =>
    obtain ⟨a, out, rfl, HK, HEQ, HO, HM2, HB2⟩ := hrel
    by_cases hlt : a < l1.length
    · obtain ⟨n, hs, hn1, hn2, _⟩ := stepS_bounds (dataS l0) l1 a hlt (fun x hx => (HDO.out.2 x hx).1)
      have hsc := step_calls w wr bm mb A cA (dataS l0) a A1 c1 l1 (a : Int) _ (Kd.R_lt HO.out) HM2.out HB2.out HMB.out HCR.out HCA.out HDO.out.1 HDO.out.2 (by have := HTX.out.1; omega) HT.out HC1.out HTX.out.1 HTX.out.2
      have hst := traceS_step (dataS l0) l1 (l1.length - a) a hlt (by omega)
      have hmo := traceS_more (dataS l0) l1 (fun x hx => (HDO.out.2 x hx).1) (l1.length - (a + n)) (a + n) (l1.length - a - 1) (by omega) (by omega)
      rw [hs, show (a : Int) + (n : Int) = ((a + n : Nat) : Int) by omega] at hst
      rw [← hmo] at hst
      obtain ⟨i, hi⟩ : ∃ i, i = (stepS (dataS l0) l1 (a : Int)).1 := ⟨_, rfl⟩
      have hpair : stepS (dataS l0) l1 (a : Int) = (i, (n : Int)) := by rw [hi, ← hs]
      rw [hpair] at hst hsc
      have HSC := Aside0.mk hsc
      have HST := Aside0.mk hst
      have HN := Aside0.mk (And.intro hn1 hn2)
      clear hsc hst hmo hs hi hpair
      have hdlt : decide ((a : Int) < (l1.length : Int)) = true := decide_eq_true (by omega)
      go_upto_region 6 with (go_at_call 29; (with_reducible refine HSC.out.mono ?_); rintro e w2 ⟨rfl, hM3, hb3, hk3⟩; have HM3 := Aside0.mk hM3; have HB3 := Aside0.mk hb3; have HK3 := Aside0.mk hk3; clear hM3 hb3 hk3)
      have HOW : Aside0 (Kd.R kTr 43 w2 w.heap.size (fun _ => True) _ out) := ⟨Kd.R_mono (Kd.R_move (Kd.R_tight rfl HO.out) (fun k hk => by
        obtain ⟨cells, hc⟩ := Kd.R_typed HO.out k hk.symm
        obtain ⟨D, hD, _⟩ := HM2.out.map
        obtain ⟨es, clock, hmp⟩ := ownsMap_at hD
        rw [hc]
        exact HK3.out k _ hc (fun e => by rw [e, hmp] at hc; cases hc))) (fun _ _ => trivial)⟩
      have hw : wrap64 ((a : Int) + (n : Int)) = (a : Int) + (n : Int) := by have := HTX.out.1; have := HN.out; unfold wrap64; omega
      clear hlt hn1 hn2
      go_wp2_with (at_builtin; refine Kd.R_append kTr (w0 := w) w.heap.size rfl (.tmp 23) (.tmp 28) 41 43 (.agg #[.int .i64 0, .int .i64 0, .int .i64 0]) 24 rfl Try.underlying41 info43 rfl (by decide) (by omega) u6 out ((a : Int), i, (n : Int)) [.int .i64 (a : Int), .int .i64 i, .int .i64 (n : Int)] (fun _ => True) (fun _ => False) rfl (by first | (go_simp; done) | (go_simp; rfl)) (kTr_mk _ _ _ ((a : Int), i, (n : Int))) (fun _ hk => hk.elim) (fun _ _ => trivial) ?aO ?aB ?aS ?aL ?_; (case aB => exact (by repeat (first | (with_reducible first | exact HB3.out | apply below_alloc | apply pw_below_drewN | apply below_drew1) | exact HB3.out))); (case aO => exact (by (with_reducible repeat (first | apply Kd.R_alloc | apply Kd.R_drewN | apply Kd.R_drew)); exact HOW.out)); (case aS => exact (below_size (by repeat (first | (with_reducible first | exact HB3.out | apply below_alloc | apply pw_below_drewN | apply below_drew1) | exact HB3.out)))); (case aL => have h1_ := HEQ.out.2; have h3_ := HTX.out.1; have h4_ := HK.out; omega); intro v3 w4 ho hb hg hat; have HO4 := Aside0.mk ho; have HB5 := Aside0.mk hb; have HG4 := Aside0.mk hg; have HAT := Aside0.mk hat; clear ho hb hg hat)
      go_roundw
      case rel => exact ⟨a + n, out ++ [((a : Int), i, (n : Int))], by rw [hw]; rfl, ⟨HN.out.2⟩, ⟨by rw [HEQ.out.1, HST.out, List.append_assoc]; rfl, by rw [List.length_append]; have := HEQ.out.2; have := HN.out.1; simp; omega⟩, HO4, ⟨(Mach.grown (e0 := 43) (by decide) HM3.out HG4.out (Kd.R_typed HOW.out) HAT.out).mono (by have := HN.out; omega)⟩, HB5⟩
      case measure => rw [hw]; simp only [intOf]; have := HN.out; omega
    · obtain rfl : a = l1.length := by have := HK.out; omega
      have hfin : traceS (dataS l0) l1 l1.length 0 = out := by rw [HEQ.out.1, Nat.sub_self, traceS, List.append_nil]
      have HF := Aside0.mk hfin
      clear hfin
      have hdlt : decide ((l1.length : Int) < (l1.length : Int)) = false := decide_eq_false (by omega)
      go_wp2
      go_ret
      exact ⟨_, rfl, by rw [HF.out]; exact HO.out, HB2.out⟩
set_option maxHeartbeats 4000000 in
set_option maxRecDepth 100000 in
theorem refTrace_calls (A0 : Option Addr) (c0 : Nat) (l0 : List Ru) (A1 : Option Addr) (c1 : Nat) (l1 : List Int) (w : World) (hf : plFewL l0) (htl : l1.length ≤ 1000) (hr0 : Kd.C k34 w A0 l0.length l0) (hc0 : l0.length ≤ c0) (hr1 : Kd.C (Kd.int .i64) w A1 l1.length l1) (hc1 : l1.length ≤ c1)
    (h1 : ∀ x ∈ dataS l0, 1 ≤ x.f1.length) :
    Calls Try.prog 23 #[.slice A0 l0.length c0, .slice A1 l1.length c1] w fun e w' => ∃ v0_ : Value, e = .returned (v0_) ∧ Kd.R kTr 43 w' w.heap.size (fun _ => True) v0_ (traceS (dataS l0) l1 l1.length 0) ∧ Below w.heap.size w w' := by
  have HD := Aside0.mk (plData_ok l0 100 hf (by decide))
  have HF := Aside0.mk (plData_few l0 hf)
  have H1 := Aside0.mk h1
  have HTL := Aside0.mk htl
  have HV := Aside0.mk (Kd.V_mk (e := 34) (base := w.heap.size) hc0 (Kd.C_F k34_heap hr0))
  have HT := Aside0.mk hr1
  have HC1 := Aside0.mk hc1
  clear hf htl hr0 hc0 hr1 hc1 h1
  have hu43 := Try.underlying43
  go_enter Try.func23, Try.ntmps23
  go_wp2_with (go_at_call 24; (with_reducible refine (unicodetextref51_Data.calls 100 (fun k_ => k_ < w.heap.size) A0 c0 l0 (dataS l0) _ HV.out HD.out).mono ?_); rintro e w1 ⟨vd, rfl, hvd, hb⟩; obtain ⟨Ad, cd, rfl⟩ := Kd.V_slice hvd; have HVD := Aside0.mk (Kd.V_mono (ok' := fun k_ => some k_ ≠ (.slice none 0 0 : Value).ownBlock) hvd (fun _ _ => by simp [Value.ownBlock])); have HCL := Aside0.mk (Kd.V_reads' hvd).2.1; have HB := Aside0.mk hb; clear hvd hb)
  go_loopw [6, 7] (fun ov i wr => ∃ (a : Nat) (out : List Tr3), i = .int .i64 a ∧ Aside0 (a ≤ l1.length) ∧ Aside0 (traceS (dataS l0) l1 l1.length 0 = out ++ traceS (dataS l0) l1 (l1.length - a) (a : Int) ∧ out.length ≤ a) ∧ Aside0 (Kd.R kTr 43 wr w.heap.size (fun _ => True) ov out) ∧ Aside0 (Kd.V k34 34 wr w.heap.size (fun k_ => some k_ ≠ ov.ownBlock) (.slice Ad (dataS l0).length cd) (dataS l0)) ∧ Aside0 (Below w.heap.size w wr)) (fun _ i _ => l1.length - (intOf i).toNat)
  case atStart => exact ⟨0, [], rfl, ⟨Nat.zero_le _⟩, ⟨rfl, Nat.zero_le _⟩, ⟨Kd.R_nil _ _ _ _ _⟩, HVD, HB⟩
  case round =>
    obtain ⟨a, out, rfl, HK, HEQ, HO, HCR, HB2⟩ := hrel
    by_cases hlt : a < l1.length
    · obtain ⟨n, hs, hn1, hn2, _⟩ := stepS_bounds (dataS l0) l1 a hlt H1.out
      have hst := traceS_step (dataS l0) l1 (l1.length - a) a hlt (by omega)
      have hmo := traceS_more (dataS l0) l1 H1.out (l1.length - (a + n)) (a + n) (l1.length - a - 1) (by omega) (by omega)
      rw [hs, show (a : Int) + (n : Int) = ((a + n : Nat) : Int) by omega] at hst
      rw [← hmo] at hst
      obtain ⟨i, hi⟩ : ∃ i, i = (stepS (dataS l0) l1 (a : Int)).1 := ⟨_, rfl⟩
      have hpair : stepS (dataS l0) l1 (a : Int) = (i, (n : Int)) := by rw [hi, ← hs]
      have hsf := plStep_ok (dataS l0) l1 (a : Int) 100 HF.out (by have := HTL.out; omega) (by decide)
      rw [hpair] at hst hsf
      have HSF := Aside0.mk hsf
      have HST := Aside0.mk hst
      have HN := Aside0.mk (And.intro hn1 hn2)
      clear hst hmo hs hi hpair hsf
      have hdlt : decide ((a : Int) < (l1.length : Int)) = true := decide_eq_true (by omega)
      go_upto_region 6 with (go_at_call 30; (with_reducible refine (unicodetextref51_step.calls 100 Ad cd (dataS l0) A1 c1 l1 (a : Int) i (n : Int) _ (Kd.V_reads' HCR.out).2.2 HCL.out (Kd.C_below HT.out HB2.out) HC1.out HSF.out).mono ?_); rintro e w2 ⟨rfl, hb3⟩; have HB3 := Aside0.mk hb3; clear hb3)
      have hw : wrap64 ((a : Int) + (n : Int)) = (a : Int) + (n : Int) := by have := HTL.out; have := HN.out; unfold wrap64; omega
      have HOW : Aside0 (Kd.R kTr 43 _ w.heap.size (fun _ => True) u6 out) := ⟨Kd.R_below HO.out HB3.out⟩
      have HBW : Aside0 (Below w.heap.size w _) := ⟨below_step HB2.out HB3.out⟩
      have HCW := Aside0.mk (Kd.V_below HCR.out HB3.out)
      clear hlt hn1 hn2
      go_wp2_with (at_builtin; refine Kd.R_append kTr (w0 := w) w.heap.size rfl (.tmp 23) (.tmp 28) 41 43 (.agg #[.int .i64 0, .int .i64 0, .int .i64 0]) 24 rfl Try.underlying41 info43 rfl (by decide) (by omega) u6 out ((a : Int), i, (n : Int)) [.int .i64 (a : Int), .int .i64 i, .int .i64 (n : Int)] (fun _ => True) (fun _ => False) rfl (by first | (go_simp; done) | (go_simp; rfl)) (kTr_mk _ _ _ ((a : Int), i, (n : Int))) (fun _ hk => hk.elim) (fun _ _ => trivial) ?aO ?aB ?aS ?aL ?_; (case aB => exact (by repeat (first | (with_reducible first | exact HBW.out | apply below_alloc | apply pw_below_drewN | apply below_drew1) | exact HBW.out))); (case aO => exact (by (with_reducible repeat (first | apply Kd.R_alloc | apply Kd.R_drewN | apply Kd.R_drew)); exact HOW.out)); (case aS => exact (below_size (by repeat (first | (with_reducible first | exact HBW.out | apply below_alloc | apply pw_below_drewN | apply below_drew1) | exact HBW.out)))); (case aL => have h1_ := HEQ.out.2; have h3_ := HTL.out; have h4_ := HK.out; omega); intro v3 w4 ho hb hg hat; have HO4 := Aside0.mk ho; have HB5 := Aside0.mk hb; have HG4 := Aside0.mk hg; have HAT := Aside0.mk hat; clear ho hb hg hat)
      go_roundw
      case rel => exact ⟨a + n, out ++ [((a : Int), i, (n : Int))], by rw [hw]; rfl, ⟨HN.out.2⟩, ⟨by rw [HEQ.out.1, HST.out, List.append_assoc]; rfl, by rw [List.length_append]; have := HEQ.out.2; have := HN.out.1; simp; omega⟩, HO4, ⟨Kd.V_mono (Kd.V_afterv (ok := fun _ => True) (Kd.V_mono HCW.out (fun _ hk => ⟨trivial, hk⟩)) HG4.out HAT.out) (fun _ hk => hk.2)⟩, HB5⟩
      case measure => rw [hw]; simp only [intOf]; have := HN.out; omega
    · obtain rfl : a = l1.length := by have := HK.out; omega
      have hfin : traceS (dataS l0) l1 l1.length 0 = out := by rw [HEQ.out.1, Nat.sub_self, traceS, List.append_nil]
      have HFN := Aside0.mk hfin
      clear hfin
      have hdlt : decide ((l1.length : Int) < (l1.length : Int)) = false := decide_eq_false (by omega)
      go_wp2
      go_ret
      exact ⟨_, rfl, by rw [HFN.out]; exact HO.out, HB2.out⟩
end Go.Proofs.Ytnhagghhficdpaa.Q
end
section
namespace Go.Proofs.Ytnhagghhficdpaa.Q
open Go.RowKit Go.Proofs.YtnhagghhficdpaaW.PrintWords Go.Proofs.YtnhagghhficdpaaW.PrintLast Go.Proofs.YtnhagghhficdpaaW.PrintMore
set_option linter.unusedVariables false
theorem trPart (w : World) (xs : Array Value) (off : Nat) (v : Value) (h : xs[off]? = some v) : (part 3 xs off).run Try.prog w = .ok v w := run_part_plain w (by kernel_rfl) h
theorem trEq (w : World) (d : Nat) (a b c a' b' c' : Int) : (Op.equalIn (d + 2) 43 (.agg #[.int .i64 a, .int .i64 b, .int .i64 c]) (.agg #[.int .i64 a', .int .i64 b', .int .i64 c'])).run Try.prog w = .ok (a == a' && (b == b' && c == c')) w := by
  rw [run_equalIn_array w (d+1) _ _ Try.underlying43 (i := (Try.prog.info? 3).get (by kernel_rfl)) (by kernel_rfl), show Try.prog.cellsOf 3 = 1 by kernel_rfl, show List.range 3 = [0, 1, 2] from rfl]
  have e (x y : Int) := run_equalIn_int (P := Try.prog) (w := w) d 3 .i64 .i64 x y Try.underlying3
  simp only [Op.eqItems, Sem.run_bind, Nat.mul_one]
  rw [trPart w _ 0 (.int .i64 a) rfl]
  simp only [Result.andThen_ok]
  rw [trPart w _ 0 (.int .i64 a') rfl]
  simp only [Result.andThen_ok, e]
  by_cases h0 : a = a'
  · subst h0
    simp
    rw [trPart w _ 1 (.int .i64 b) rfl]
    simp only [Result.andThen_ok]
    rw [trPart w _ 1 (.int .i64 b') rfl]
    simp only [Result.andThen_ok, e]
    by_cases h1 : b = b'
    · subst h1
      simp
      rw [trPart w _ 2 (.int .i64 c) rfl]
      simp only [Result.andThen_ok]
      rw [trPart w _ 2 (.int .i64 c') rfl]
      simp only [Result.andThen_ok, e]
      by_cases h2 : c = c'
      · subst h2; simp
      · have : (c == c') = false := by simpa using h2
        rw [this]; simp
    · have : (b == b') = false := by simpa using h1
      rw [this]; simp
  · have : (a == a') = false := by simpa using h0
    rw [this]; simp
theorem traceS_len (l : List Ru) (text : List Int) : ∀ (n : Nat) (i : Int), (traceS l text n i).length ≤ n
  | 0, i => by rw [traceS]; simp
  | n + 1, i => by
    rw [traceS]
    split
    · have := traceS_len l text n (i + (stepS l text i).2)
      simp only [List.length_cons]; omega
    · simp
def rd_Tr (xs : List Tr3) (i : Int) : Tr3 := xs.getD i.toNat (0, 0, 0)
theorem at_Tr {w : World} {A : Option Addr} {n : Nat} {xs : List Tr3} (h : Kd.C kTr w A n xs) (i : Int) (h0 : 0 ≤ i) (h1 : i < n) : ∃ ad , A = some ad ∧ w.cell? (ad.add (i.toNat * 3)) = some (.int .i64 (rd_Tr xs i).1) ∧ w.cell? ⟨(ad.add (i.toNat * 3)).block, (ad.add (i.toNat * 3)).off + 1, none⟩ = some (.int .i64 (rd_Tr xs i).2.1) ∧ w.cell? ⟨(ad.add (i.toNat * 3)).block, (ad.add (i.toNat * 3)).off + 2, none⟩ = some (.int .i64 (rd_Tr xs i).2.2) := by
  obtain ⟨ad, c, e, _, hK, hc0⟩ := Kd.C_get h ((0, 0, 0) : Tr3) i h0 h1
  have hc : ∀ j u, c[j]? = some u → w.cell? (ad.add (i.toNat * 3 + j)) = some u := hc0
  obtain rfl := kTr_open hK
  exact ⟨ad, e, hc 0 _ rfl, by rw [← add_field _ _ 1 (by omega)]; exact hc 1 _ rfl, by rw [← add_field _ _ 2 (by omega)]; exact hc 2 _ rfl⟩
attribute [local go_sem] trEq
set_option maxHeartbeats 4000000 in
set_option maxRecDepth 100000 in
theorem transduceTraces_law (A0 : Option Addr) (c0 : Nat) (l0 : List Ru) (A1 : Option Addr) (c1 : Nat) (l1 : List Int) (w : World) (h0 : wfL l0) (h1 : wfT l1) (hr0 : Kd.C k34 w A0 l0.length l0) (hc0 : l0.length ≤ c0) (hr1 : Kd.C (Kd.int .i64) w A1 l1.length l1) (hc1 : l1.length ≤ c1) :
    Calls Try.prog 8 #[.slice A0 l0.length c0, .slice A1 l1.length c1] w fun e w' => e = .returned (.bool true) ∧ Below w.heap.size w w' := by
  obtain ⟨b, hfew, hb⟩ := plFew_ok l0 l1 100 (by decide)
  have HFEW := Aside0.mk hfew
  have HAL := Aside0.mk (plAlive_ok 100 (by decide))
  have HR := Aside0.mk hr0
  have HC := Aside0.mk hc0
  have HT := Aside0.mk hr1
  have HC1 := Aside0.mk hc1
  have HTX := Aside0.mk (show ∀ c ∈ l1, (Lit.int .i64 c).wf = true from h1.2)
  clear hfew hr0 hc0 hr1 hc1 h0 h1
  cases b with
  | false =>
    clear hb
    go_enter Try.func8, Try.ntmps8
    go_wp2_with (first | (go_at_call 11; (with_reducible refine (unicodetextlaw51_few.calls 100 A0 c0 l0 A1 c1 l1 false _ HR.out HC.out HT.out HC1.out HFEW.out).mono ?_); rintro e w1 ⟨rfl, hb⟩; have HB := Aside0.mk hb; clear hb) | (go_at_call 12; (with_reducible refine (unicodetextlaw51_alive.calls 100 true _ HAL.out).mono ?_); rintro e w2 ⟨rfl, hb⟩; have HB2 := Aside0.mk hb; clear hb))
    go_ret
    exact ⟨rfl, below_step HB.out HB2.out⟩
  | true =>
    obtain ⟨hl, ht⟩ := hb rfl
    have HL := Aside0.mk hl
    have HTL := Aside0.mk ht
    have HTC := Aside0.mk (trace_calls A0 c0 l0 A1 c1 l1)
    have HRC := Aside0.mk (refTrace_calls A0 c0 l0 A1 c1 l1)
    clear hl ht hb
    generalize hTT : traceS (dataS l0) l1 l1.length 0 = T at HTC HRC
    have HTN : Aside0 (T.length < 1000000) := ⟨by rw [← hTT]; have := traceS_len (dataS l0) l1 l1.length 0; have := HTL.out; omega⟩
    clear hTT
    go_enter Try.func8, Try.ntmps8
    go_wp2_with (first | (go_at_call 11; (with_reducible refine (unicodetextlaw51_few.calls 100 A0 c0 l0 A1 c1 l1 true _ HR.out HC.out HT.out HC1.out HFEW.out).mono ?_); rintro e w1 ⟨rfl, hb⟩; have HB := Aside0.mk hb; clear hb) | (go_at_call 22; (with_reducible refine (HTC.out _ (plOkRules HL.out) ⟨by have := HTL.out; omega, HTX.out⟩ (Kd.C_below HR.out HB.out) HC.out (Kd.C_below HT.out HB.out) HC1.out (data_ok l0 (plOkRules HL.out))).mono ?_); rintro e w2 ⟨v1, rfl, hv1, hb⟩; obtain ⟨B1, d1, rfl⟩ := Kd.R_slice hv1; have HV1 := Aside0.mk (Kd.R_reads' hv1).2.2; have HB2 := Aside0.mk (below_step HB.out hb); clear hb hv1) | (go_at_call 23; (with_reducible refine (HRC.out _ HL.out (by have := HTL.out; omega) (Kd.C_below HR.out HB2.out) HC.out (Kd.C_below HT.out HB2.out) HC1.out (plData1 l0)).mono ?_); rintro e w3 ⟨v2, rfl, hv2, hb⟩; obtain ⟨B2, d2, rfl⟩ := Kd.R_slice hv2; have HV2 := Aside0.mk (Kd.R_reads' hv2).2.2; have HV3 := Aside0.mk (Kd.C_below HV1.out hb); have HB3 := Aside0.mk (below_step HB2.out hb); clear hb hv2))
    go_loopw [7] (fun i wr => ∃ k : Nat, i = .int .i64 k ∧ Aside0 (k ≤ T.length) ∧ Aside0 (Below w3.heap.size w3 wr)) (fun i _ => T.length - (intOf i).toNat)
    case atStart => exact ⟨0, rfl, ⟨Nat.zero_le _⟩, ⟨Below.refl _ _⟩⟩
    case round =>
      obtain ⟨k, rfl, HK, HB4⟩ := hrel
      by_cases hlt : k < T.length
      · obtain ⟨ad1, e1, x0, x1, x2⟩ := at_Tr (Kd.C_below HV3.out HB4.out) (k : Int) (by omega) (by omega)
        cases e1
        obtain ⟨ad2, e2, y0, y1, y2⟩ := at_Tr (Kd.C_below HV2.out HB4.out) (k : Int) (by omega) (by omega)
        cases e2
        rw [Int.toNat_natCast] at x0 x1 x2 y0 y1 y2
        generalize rd_Tr T (k : Int) = q at *
        have hp1 : (0 ≤ (k : Int)) = True := eq_true (by omega)
        have hp2 : ((k : Int) < (T.length : Int)) = True := eq_true (by omega)
        have hdl : decide ((k : Int) < (T.length : Int)) = true := decide_eq_true (by omega)
        have hw : wrap64 ((k : Int) + 1) = (k : Int) + 1 := by have := HTN.out; unfold wrap64; omega
        go_wp2
        go_quiet (fail)
        go_wp2
        go_roundw
        case rel => exact ⟨k + 1, by rw [hw]; rfl, ⟨hlt⟩, ⟨by repeat (first | (with_reducible first | exact HB4.out | apply below_alloc | apply pw_below_drewN | apply below_drew1) | exact HB4.out)⟩⟩
        case measure => rw [hw]; simp only [intOf]; omega
      · obtain rfl : k = T.length := by have := HK.out; omega
        have hdl : decide ((T.length : Int) < (T.length : Int)) = false := decide_eq_false (by omega)
        go_wp2_with (go_at_call 12; (with_reducible refine (unicodetextlaw51_alive.calls 100 true _ HAL.out).mono ?_); rintro e w5 ⟨rfl, hb⟩; have HB5 := Aside0.mk hb; clear hb)
        go_ret
        exact ⟨rfl, below_step (below_step HB3.out HB4.out) HB5.out⟩
end Go.Proofs.Ytnhagghhficdpaa.Q
end
