/- Lemmas, printed and written for this claim: part 11. -/
import Derived.Test.YthnkmcfhpjmihaaG2
import Derived.Test.YthnkmcfhpjmihaaG6
import Derived.Test.YthnkmcfhpjmihaaG8
import Derived.Test.YthnkmcfhpjmihaaG9
import Derived.Test.YthnkmcfhpjmihaaG10
import Derived.WalkKit
import Derived.Test.YthnkmcfhpjmihaaG4
section
namespace Go.Proofs.Ythnkmcfhpjmihaa.Q
open Go.RowKit Go.Proofs.YthnkmcfhpjmihaaW.PrintWords Go.Proofs.YthnkmcfhpjmihaaW.PrintLast Go.Proofs.YthnkmcfhpjmihaaW.PrintMore
attribute [local go_sem] max2_int min2_int max_two min_two max_three min_three max_four min_four
set_option linter.unusedVariables false
set_option linter.unusedSimpArgs false
mutual
def w37_CasemapUncased.j0 : Nat → List Int → List (S33) → Bool → List (S43) → List (S43) → List (S43) → List (S43) → List (S33) → List (S33) → Option (Bool)
 | 0, _, _, _, _, _, _, _, _, _ => none
 | k + 1, x1, x2, x17, x616000, x616001, x616002, x616003, x616004, x616005 => if x17 = true then ((w37_alive.f).bind fun t617 => (some t617)) else (w37_CasemapUncased.l0 k x1 x2 0 x616000 x616001 x616002 x616003 x616004 x616005)
def w37_CasemapUncased.l0 : Nat → List Int → List (S33) → Int → List (S43) → List (S43) → List (S43) → List (S43) → List (S33) → List (S33) → Option (Bool)
 | 0, _, _, _, _, _, _, _, _, _ => none
 | k + 1, x1, x2, x7, x616000, x616001, x616002, x616003, x616004, x616005 => if x7 < (x1.length : Int) then (if 0 ≤ x7 then ((r02_Has.f k x616004 (rd x1 x7)).bind fun t619 => (if t619 = true then ((w37_alive.f).bind fun t620 => (some t620)) else (w37_CasemapUncased.l0 k x1 x2 (wrap64 (x7 + 1)) x616000 x616001 x616002 x616003 x616004 x616005))) else (none)) else (w37_CasemapUncased.l1 k x1 x2 0 x616000 x616001 x616002 x616003 x616004 x616005)
def w37_CasemapUncased.l1 : Nat → List Int → List (S33) → Int → List (S43) → List (S43) → List (S43) → List (S43) → List (S33) → List (S33) → Option (Bool)
 | 0, _, _, _, _, _, _, _, _, _ => none
 | k + 1, x1, x2, x8, x616000, x616001, x616002, x616003, x616004, x616005 => if x8 < (x1.length : Int) then ((casemap_Final.f x616000 x616001 x616002 x616003 x616004 x616005 x1 x8).bind fun t621 => (if t621 = true then (some false) else (w37_CasemapUncased.l1 k x1 x2 (wrap64 (x8 + 1)) x616000 x616001 x616002 x616003 x616004 x616005))) else ((casemap_Title.f x616000 x616001 x616002 x616003 x616004 x616005 x1 x2).bind fun t622 => ((r01_Equal.f k t622 x1).bind fun t625 => (if t625 = true then ((w37_alive.f).bind fun t626 => (some t626)) else (some false))))
end
def w37_CasemapUncased.f (k : Nat) (l0_0 : List (S43)) (l0_1 : List (S43)) (l0_2 : List (S43)) (l0_3 : List (S43)) (l0_4 : List (S33)) (l0_5 : List (S33)) (l1 : List Int) (l2 : List (S33)) : Option (Bool) := (w37_few.f k l0_0 l0_1 l0_2 l0_3 l0_4 l0_5 l1).bind fun t616 => (if t616 = true then (w37_CasemapUncased.j0 k l1 l2 (decide ((l2.length : Int) > 40)) l0_0 l0_1 l0_2 l0_3 l0_4 l0_5) else (w37_CasemapUncased.j0 k l1 l2 true l0_0 l0_1 l0_2 l0_3 l0_4 l0_5))
end Go.Proofs.Ythnkmcfhpjmihaa.Q
end
section
namespace Go.Proofs.Ythnkmcfhpjmihaa.Q
open Go.RowKit Go.Proofs.YthnkmcfhpjmihaaW.PrintWords Go.Proofs.YthnkmcfhpjmihaaW.PrintLast Go.Proofs.YthnkmcfhpjmihaaW.PrintMore
set_option linter.unusedVariables false
theorem plAlive_ok (k : Nat) (hk : 20 ≤ k) : w37_alive.f = some true := rfl
theorem plOkT {t : List Int} (h : t.length ≤ 40) : okT t = true := dT (by omega)
theorem plFi {c : CaseS} {t : List Int} (h : plFewC c) (ht : t.length ≤ 40) (i : Int) : casemap_Final.f c.lo c.up c.ti c.fo c.ca c.ig t i = some (finalI (caseData c) t i) := if_pos ⟨plOkC h, plOkT ht⟩
theorem plFinals (c : CaseS) (t : List Int) (i : Int) (k : Nat) (hk : 3000 ≤ k) : w37_CasemapFinals.f k c.lo c.up c.ti c.fo c.ca c.ig t i = some true := by
 obtain ⟨b, e, hb⟩ := plFew_ok c t k (by omega)
 unfold w37_CasemapFinals.f
 rw [e, plAlive_ok k (by omega)]
 cases b with
 | false => rfl
 | true =>
  obtain ⟨h, ht⟩ := hb rfl
  rw [plFi h ht, plFinalI_ok c t i k h (by omega) (by omega)]
  simp
theorem casemapFinals_pure (l0 l1 l2 l3 : List Mp) (l4 l5 : List Rg) (t : List Int) (i : Int) : ∃ k, w37_CasemapFinals.f k l0 l1 l2 l3 l4 l5 t i = some true := ⟨3000, plFinals ⟨l0, l1, l2, l3, l4, l5⟩ t i 3000 (Nat.le_refl _)⟩
@[irreducible] def plBig : Nat := 40000000
def plNo : CaseS := ⟨[], [], [], [], [], []⟩
end Go.Proofs.Ythnkmcfhpjmihaa.Q
end
