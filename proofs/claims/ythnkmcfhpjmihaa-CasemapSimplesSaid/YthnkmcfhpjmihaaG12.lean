/- Lemmas, printed and written for this claim: part 12. -/
import Derived.WalkKit
import Derived.Test.YthnkmcfhpjmihaaG10
import Derived.Test.YthnkmcfhpjmihaaG2
import Derived.Test.YthnkmcfhpjmihaaG7
import Derived.Test.YthnkmcfhpjmihaaG11
import Derived.Test.YthnkmcfhpjmihaaG8
import Derived.Test.YthnkmcfhpjmihaaG4
import Derived.Test.YthnkmcfhpjmihaaG3
section
namespace Go.Proofs.Ythnkmcfhpjmihaa.Q
open Go.RowKit Go.Proofs.YthnkmcfhpjmihaaW.PrintWords Go.Proofs.YthnkmcfhpjmihaaW.PrintLast Go.Proofs.YthnkmcfhpjmihaaW.PrintMore
set_option linter.unusedVariables false
theorem LowerS_one (c : CaseS) (x : Int) : LowerS c [x] = mapdS (caseData c).lo x := by
 show [] ++ lowerS (caseData c) [x] 0 = _
 have hf : finalS (caseData c) [x] 0 = false := rfl
 rw [List.nil_append]
 unfold lowerS
 rw [hf]
 cases getM (caseData c).lo (([x] : List Int).getD 0 0) tagF <;> rfl
theorem UpperS_one (c : CaseS) (x : Int) : UpperS c [x] = mapdS (caseData c).up x := by
 show [] ++ mapdS (caseData c).up x = _
 rw [List.nil_append]
theorem plOnlyRd (l : List Int) (x : Int) (h : l.length = 1) : rd l 0 = onlyS l x := by
 unfold onlyS
 rw [if_pos h]
 rfl
theorem plSimplesJ (c : CaseS) (x : Int) (k : Nat) (h : plFewC c) : w37_CasemapSimples.j0 (k + 1) x (SimpleS c x).1 (SimpleS c x).2.1 false c.lo c.up c.ti c.fo c.ca c.ig = some true := by
 have e1 : (SimpleS c x).1 = onlyS (LowerS c [x]) x := by rw [LowerS_one]; rfl
 have e2 : (SimpleS c x).2.1 = onlyS (UpperS c [x]) x := by rw [UpperS_one]; rfl
 rw [w37_CasemapSimples.j0, if_neg (by decide), plLo h (by simp), plUp h (by simp), e1, e2]
 simp only [Option.bind_some]
 have ha : w37_alive.f = some true := rfl
 rw [ha]
 by_cases h1 : (LowerS c [x]).length = 1
 ·rw [if_pos (by omega), if_pos (by omega), if_pos (plOnlyRd _ _ h1)]
  by_cases h2 : (UpperS c [x]).length = 1
  ·rw [if_pos (by omega), if_pos (by omega), if_pos (plOnlyRd _ _ h2)]
   rfl
  ·rw [if_neg (by omega)]
   rfl
 ·rw [if_neg (by omega)]
  by_cases h2 : (UpperS c [x]).length = 1
  ·rw [if_pos (by omega), if_pos (by omega), if_pos (plOnlyRd _ _ h2)]
   rfl
  ·rw [if_neg (by omega)]
   rfl
theorem plSimples (c : CaseS) (x : Int) (k : Nat) (hk : 1000 ≤ k) : w37_CasemapSimples.f (k + 1) c.lo c.up c.ti c.fo c.ca c.ig x = some true := by
 obtain ⟨b, e, hb⟩ := plSmall_ok c (k + 1) (by omega)
 unfold w37_CasemapSimples.f
 rw [e, Option.bind_some]
 cases b with
 | false => rfl
 | true =>
  have h := hb rfl
  have hs : casemap_Simple.f c.lo c.up c.ti c.fo c.ca c.ig x = some (SimpleS c x) := if_pos (plOkC h)
  rw [if_pos rfl, hs, plSimple_ok c x (k + 1) h (by omega), Option.bind_some, Option.bind_some, if_pos rfl, if_pos rfl, show ((SimpleS c x).2.2 != (SimpleS c x).2.2) = false by simp]
  exact plSimplesJ c x k h
theorem casemapSimples_pure (l0 l1 l2 l3 : List Mp) (l4 l5 : List Rg) (x : Int) : ∃ k, w37_CasemapSimples.f k l0 l1 l2 l3 l4 l5 x = some true := ⟨1000 + 1, plSimples ⟨l0, l1, l2, l3, l4, l5⟩ x 1000 (Nat.le_refl _)⟩
end Go.Proofs.Ythnkmcfhpjmihaa.Q
end
