/- Lemmas, printed and written for this claim: part 11. -/
import Derived.WalkKit
import Derived.WalkSpells
import Derived.IntWalk
import Derived.Deep.RegionHeld3
import Derived.Deep.RegionLaw
import Derived.OwnWalk
import Derived.Test.YthnkmcfhpjmihaaG8
import Derived.Test.YthnkmcfhpjmihaaG2
import Derived.Test.YthnkmcfhpjmihaaG4
import Derived.Test.YthnkmcfhpjmihaaG7
import Derived.Test.YthnkmcfhpjmihaaG9
import Derived.Test.YthnkmcfhpjmihaaG10
section
namespace Go.Proofs.Ythnkmcfhpjmihaa.Q
open Go.RowKit Go.Proofs.YthnkmcfhpjmihaaW.PrintWords Go.Proofs.YthnkmcfhpjmihaaW.PrintLast Go.Proofs.YthnkmcfhpjmihaaW.PrintMore
set_option linter.unusedVariables false
end Go.Proofs.Ythnkmcfhpjmihaa.Q
end
section
namespace Go.Proofs.Ythnkmcfhpjmihaa.Q
open Go.RowKit Go.Proofs.YthnkmcfhpjmihaaW.PrintWords Go.Proofs.YthnkmcfhpjmihaaW.PrintLast Go.Proofs.YthnkmcfhpjmihaaW.PrintMore
attribute [local go_sem] max2_int min2_int max_two min_two max_three min_three max_four min_four
set_option linter.unusedVariables false
set_option linter.unusedSimpArgs false
abbrev cB1 := @Kd.C_below
abbrev cA1 := @Kd.C_alloc
abbrev cN1 := @Kd.C_drewN
abbrev cD1 := @Kd.C_drew
abbrev rA1 := @Kd.R_alloc
abbrev rN1 := @Kd.R_drewN
abbrev rD1 := @Kd.R_drew
def w37_CasemapSimples.j0 : Nat → Int → Int → Int → Bool → List (S43) → List (S43) → List (S43) → List (S43) → List (S33) → List (S33) → Option (Bool)
 | 0, _, _, _, _, _, _, _, _, _, _ => none
 | k + 1, x1, x5, x6, x43, x512000, x512001, x512002, x512003, x512004, x512005 => if x43 = true then (some false) else ((casemap_Lower.f x512000 x512001 x512002 x512003 x512004 x512005 (([x1] : List Int))).bind fun t523 => ((casemap_Upper.f x512000 x512001 x512002 x512003 x512004 x512005 (([x1] : List Int))).bind fun t529 => (if (t523.length : Int) = 1 then (if 0 < (t523.length : Int) then (if (rd t523 0) = x5 then (if (t529.length : Int) = 1 then (if 0 < (t529.length : Int) then (if (rd t529 0) = x6 then ((w37_alive.f).bind fun t534 => (some t534)) else (some false)) else (none)) else ((w37_alive.f).bind fun t535 => (some t535))) else (some false)) else (none)) else (if (t529.length : Int) = 1 then (if 0 < (t529.length : Int) then (if (rd t529 0) = x6 then ((w37_alive.f).bind fun t537 => (some t537)) else (some false)) else (none)) else ((w37_alive.f).bind fun t538 => (some t538))))))
def w37_CasemapSimples.f (k : Nat) (q0 : List (S43)) (q1 : List (S43)) (q2 : List (S43)) (q3 : List (S43)) (q4 : List (S33)) (q5 : List (S33)) (a1 : Int) : Option (Bool) := (r37_Small.f k q0 q1 q2 q3 q4 q5).bind fun t512 => (if t512 = true then ((casemap_Simple.f q0 q1 q2 q3 q4 q5 a1).bind fun bt514 => ((r37_Simple.f k q0 q1 q2 q3 q4 q5 a1).bind fun bt517 => (if bt514.1 = bt517.1 then (if bt514.2.1 = bt517.2.1 then (w37_CasemapSimples.j0 k a1 bt514.1 bt514.2.1 (bt514.2.2 != bt517.2.2) q0 q1 q2 q3 q4 q5) else (w37_CasemapSimples.j0 k a1 bt514.1 bt514.2.1 true q0 q1 q2 q3 q4 q5)) else (w37_CasemapSimples.j0 k a1 bt514.1 bt514.2.1 true q0 q1 q2 q3 q4 q5)))) else ((w37_alive.f).bind fun t513 => (some t513)))
def w37_CasemapSimples.T7 : Bool × List (List Nat × List Nat) := (true, [([], []), ([], []), ([1], [1]), ([0, 2], [0, 2]), ([], []), ([], []), ([5], [5]), ([4, 6, 3], [4, 6]), ([3, 7, 0, 1, 2, 3], [3]), ([7, 8, 0, 1, 2, 3, 4, 5, 6, 7, 8], [7])])
def w37_CasemapSimples.B7 : List Nat := [0, 0, 2, 7, 0, 0, 32, 127, 255, 511]
end Go.Proofs.Ythnkmcfhpjmihaa.Q
end
section
namespace Go.Proofs.Ythnkmcfhpjmihaa.Q
open Go.RowKit Go.Proofs.YthnkmcfhpjmihaaW.PrintWords Go.Proofs.YthnkmcfhpjmihaaW.PrintLast Go.Proofs.YthnkmcfhpjmihaaW.PrintMore
set_option linter.unusedVariables false
theorem flat_next (g : Int → List Int) (t : List Int) (n : Nat) (h : n < t.length) : ((t.take n).map g).flatten ++ g (t.getD n 0) = ((t.take (n + 1)).map g).flatten := by
 rw [← take_next t n h, List.map_append, List.flatten_append]
 simp
theorem upperA_flat (c : CaseS) (t : List Int) : ∀ n, n ≤ t.length → upperA c t n = ((t.take n).map (mapdS c.up)).flatten
 | 0, _ => by rw [upperA, List.take_zero]; rfl
 | n + 1, h => by rw [upperA, upperA_flat c t n (by omega), flat_next _ t n (by omega)]
theorem lowerA_flat (c : CaseS) (hn : ∀ x, getM c.lo x tagF = none) (t : List Int) : ∀ n, n ≤ t.length → lowerA c t n = ((t.take n).map (mapdS c.lo)).flatten
 | 0, _ => by rw [lowerA, List.take_zero]; rfl
 | n + 1, h => by
  have e : lowerS c t n = mapdS c.lo (t.getD n 0) := by unfold lowerS; rw [hn]
  rw [lowerA, lowerA_flat c hn t n (by omega), e, flat_next _ t n (by omega)]
theorem UpperS_join (c : CaseS) (a b : List Int) : UpperS c (a ++ b) = UpperS c a ++ UpperS c b := by
 unfold UpperS
 rw [upperA_flat _ _ _ (Nat.le_refl _), upperA_flat _ _ _ (Nat.le_refl _), upperA_flat _ _ _ (Nat.le_refl _), List.take_length, List.take_length, List.take_length, List.map_append, List.flatten_append]
theorem LowerS_join (c : CaseS) (hn : ∀ x, getM (caseData c).lo x tagF = none) (a b : List Int) : LowerS c (a ++ b) = LowerS c a ++ LowerS c b := by
 unfold LowerS
 rw [lowerA_flat _ hn _ _ (Nat.le_refl _), lowerA_flat _ hn _ _ (Nat.le_refl _), lowerA_flat _ hn _ _ (Nat.le_refl _), List.take_length, List.take_length, List.take_length, List.map_append, List.flatten_append]
theorem noFinal (c : CaseS) (h : caseChk c = 0 → ∀ x ∈ c.lo, x.f2.size = 0) (x : Int) : getM (caseData c).lo x tagF = none := by
 by_cases h0 : caseChk c = 0
 ·have e : caseData c = c := if_pos h0
  rw [e]
  unfold getM
  split
  ·unfold findM
   have : c.lo.find? (fun y => decide (y.f0 = x) && decide (y.f2 = tagF)) = none := by
    rw [List.find?_eq_none]
    intro y hy hh
    have h1 : y.f2 = tagF := by
     rw [Bool.and_eq_true, decide_eq_true_eq, decide_eq_true_eq] at hh
     exact hh.2
    have h2 := h h0 y hy
    rw [h1] at h2
    exact absurd h2 (by decide)
   rw [this]
   rfl
  ·rfl
 ·rw [data_no h0]
  exact getM_nil _ _
theorem plJoinsL (c : CaseS) (a b : List Int) (h : plFewC c) (ha : a.length ≤ 40) (hb : b.length ≤ 40) : ∀ (rest pre : List Mp) (k : Nat), c.lo = pre ++ rest → (caseChk c = 0 → ∀ x ∈ pre, x.f2.size = 0) → rest.length + plBig ≤ k →
  w37_CasemapJoins.l0 (k + 1) a b (a ++ b) (pre.length : Int) (pre ++ rest) c.up c.ti c.fo c.ca c.ig = some true
 | [], pre, k, h1, h2, h3 => by
  have hB := plBig_eq
  have el : c.lo = pre := by rw [h1, List.append_nil]
  have hn := noFinal c (by rw [el]; exact h2)
  have n1 := LowerS_len (plOkC h) a
  have n2 := LowerS_len (plOkC h) b
  have n3 := LowerS_len (plOkC h) (a ++ b)
  have hab : (a ++ b).length ≤ 80 := by rw [List.length_append]; omega
  have f3 : casemap_Lower.f c.lo c.up c.ti c.fo c.ca c.ig (a ++ b) = some (LowerS c (a ++ b)) := if_pos ⟨plOkC h, dT (by omega)⟩
  rw [w37_CasemapJoins.l0, if_neg (by simp), ← h1, f3, plLo h ha, plLo h hb]
  simp only [Option.bind_some, List.nil_append, List.length_nil]
  have ek : r01_Equal.f k (LowerS c (a ++ b)) (LowerS c a ++ LowerS c b) = some true := by
   rw [LowerS_join c hn]
   exact plEq_self _ k (by rw [List.length_append]; omega) (by rw [List.length_append]; rw [List.length_nil] at h3; omega)
  rw [if_pos (by omega), if_pos (by omega), ek]
  rfl
 | x :: rest, pre, k, h1, h2, h3 => by
  have hB := plBig_eq
  obtain ⟨k, rfl⟩ : ∃ j, k = j + 1 := ⟨k - 1, by omega⟩
  have hl : (pre ++ x :: rest).length ≤ 20 := by rw [← h1]; exact h.1.1
  have hp : pre.length < 1000000000 := by rw [List.length_append] at hl; omega
  have ex : (pre ++ [x]) ++ rest = pre ++ x :: rest := by simp
  have elen : ((pre ++ [x]).length : Int) = ((pre.length + 1 : Nat) : Int) := by simp
  have ih := fun hq => plJoinsL c a b h ha hb rest (pre ++ [x]) k (by rw [ex]; exact h1) hq (by rw [List.length_cons] at h3; omega)
  rw [ex, elen] at ih
  have hc : r37_Check.f (k + 1) (pre ++ x :: rest) c.up c.ti c.fo c.ca c.ig = some (caseChk c) := by rw [← h1]; exact plCheck_ok c (k + 1) h (by omega)
  rw [w37_CasemapJoins.l0, if_pos (by rw [List.length_append, List.length_cons]; omega), if_pos (by omega), rdM_mid, hc, wrap_suc hp]
  by_cases hz : x.f2.size = 0
  ·rw [if_pos ((bytesEq_nil _).2 hz)]
   exact ih (fun h0 y hy => by
    rcases List.mem_append.1 hy with hy | hy
    ·exact h2 h0 y hy
    ·rw [List.mem_singleton.1 hy]; exact hz)
  ·rw [if_neg (fun hh => hz ((bytesEq_nil _).1 hh)), Option.bind_some]
   by_cases h0 : caseChk c = 0
   ·rw [if_pos h0]
    rfl
   ·rw [if_neg h0]
    exact ih (fun h0' => absurd h0' h0)
theorem plJoinsJ (c : CaseS) (a b : List Int) (q : Bool) (k : Nat) (h : q = false → plFewC c ∧ a.length ≤ 40 ∧ b.length ≤ 40) (hk : 100 + plBig ≤ k) : w37_CasemapJoins.j0 (k + 2) a b q c.lo c.up c.ti c.fo c.ca c.ig = some true := by
 have hB := plBig_eq
 rw [w37_CasemapJoins.j0]
 cases q with
 | true => rfl
 | false =>
  obtain ⟨h, ha, hb⟩ := h rfl
  have n1 := UpperS_len (plOkC h) a
  have n2 := UpperS_len (plOkC h) b
  have hab : (a ++ b).length ≤ 80 := by rw [List.length_append]; omega
  have f3 : casemap_Upper.f c.lo c.up c.ti c.fo c.ca c.ig (a ++ b) = some (UpperS c (a ++ b)) := if_pos ⟨plOkC h, dT (by omega)⟩
  rw [if_neg (by decide)]
  simp only [Option.bind_some, List.nil_append, List.length_nil]
  have ek : r01_Equal.f (k + 1) (UpperS c (a ++ b)) (UpperS c a ++ UpperS c b) = some true := by
   rw [UpperS_join c]
   exact plEq_self _ (k + 1) (by rw [List.length_append]; omega) (by rw [List.length_append]; omega)
  rw [if_pos (by omega), if_pos (by omega), f3, plUp h ha, plUp h hb]
  simp only [Option.bind_some]
  rw [if_pos (by omega), if_pos (by omega), ek, Option.bind_some, if_pos rfl]
  exact plJoinsL c a b h ha hb c.lo [] k rfl (fun _ x hx => by cases hx) (by have := h.1.1; omega)
theorem plJoins (c : CaseS) (a b : List Int) (k : Nat) (hk : 100 + plBig ≤ k) : w37_CasemapJoins.f (k + 2) c.lo c.up c.ti c.fo c.ca c.ig a b = some true := by
 obtain ⟨q, e, hq⟩ := plFew_ok c a (k + 2) (by omega)
 obtain ⟨q2, e2, hq2⟩ := plFew_ok c b (k + 2) (by omega)
 unfold w37_CasemapJoins.f
 rw [e, e2, Option.bind_some, Option.bind_some]
 cases q with
 | false => exact plJoinsJ c a b true k (fun h => by cases h) hk
 | true =>
  obtain ⟨h, ha⟩ := hq rfl
  rw [if_pos rfl]
  exact plJoinsJ c a b _ k (fun hd => ⟨h, ha, (hq2 (by simpa using hd)).2⟩) hk
theorem casemapJoins_pure (l0 l1 l2 l3 : List Mp) (l4 l5 : List Rg) (a b : List Int) : ∃ k, w37_CasemapJoins.f k l0 l1 l2 l3 l4 l5 a b = some true := ⟨100 + plBig + 2, plJoins ⟨l0, l1, l2, l3, l4, l5⟩ a b (100 + plBig) (Nat.le_refl _)⟩
end Go.Proofs.Ythnkmcfhpjmihaa.Q
end
