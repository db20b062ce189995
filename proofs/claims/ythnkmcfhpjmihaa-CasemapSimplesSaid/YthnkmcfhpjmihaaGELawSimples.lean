/-
  The law CasemapSimples holds for every input: its row, over the walk and the plain law.
-/
import Derived.WalkKit
import Derived.ProofKit
import Derived.OpenShut
import Derived.ShutString
import Derived.ChangeOld
import Derived.Below
import Derived.SizedLaws
import Derived.Test.YthnkmcfhpjmihaaRows
import Derived.Test.YthnkmcfhpjmihaaG2
import Derived.Test.YthnkmcfhpjmihaaG12
import Derived.Test.YthnkmcfhpjmihaaG11
-- IMPORTS: Derived.WalkKit Derived.ProofKit Derived.OpenShut Derived.ShutString Derived.ChangeOld Derived.Below Derived.SizedLaws Derived.Test.YthnkmcfhpjmihaaRows Derived.Test.YthnkmcfhpjmihaaECopens Derived.Test.YthnkmcfhpjmihaaECpure2
namespace Go.Proofs.Ythnkmcfhpjmihaa.casemapSimples
open Go.ChangeShapes Go.WideShapes Go.ChangeAt Go.RowKit Go.Proofs.Ythnkmcfhpjmihaa.Q Go.Proofs.YthnkmcfhpjmihaaW.PrintWords
open Go.ChangeMaps (open_string shut_string)
set_option linter.unusedVariables false
theorem casemapSimples_own : ownKnob Try.prog.godebug = none := by kernel_rfl
theorem casemapSimples_laid : laidOutB Try.prog = true := by kernel_rfl
set_option maxHeartbeats 2000000 in
set_option maxRecDepth 100000 in
theorem casemapSimples_lifted (os : Os) (started : os.Started) (H : Type) (enc : TypeId × Value → H) :
    ReturnsInHanded {} Try.checked os 9 .any (Rows.casemapSimplesSpec.pre6 enc Try.prog Try.f9 Rows.casemapSimplesRow.domain false) (Rows.casemapSimplesSpec.post enc Try.prog Try.f9 false true false false) := by
  refine returnsInHanded_of_change_sized (C := Try.checked) casemapSimples_own started (by kernel_rfl) Try.func9
    (ChangeSpec.witness6 (enc := enc) (C := Try.checked) false ⟨#[], #[.agg #[.slice none 0 0, .slice none 0 0, .slice none 0 0, .slice none 0 0, .slice none 0 0, .slice none 0 0], .int .i64 0], []⟩ 8 (by kernel_rfl) (by kernel_rfl) (by kernel_rfl) (by kernel_rfl)) ?_
  intro W base args ds gs before hval0 hW hcnd hsz0 _
  have hval : ∀ (j : Nat) t v, Try.f9.params[j]? = some t → args[j]? = some v → Value.okWide Try.prog W .any base t v := hval0
  have hW' := hW
  obtain ⟨p, q, hA0, hV, rfl, hfz, hnd⟩ := hW
  have hA : DataW.TrodAll enc Try.prog W 0 (fun _ => true) true Try.f9.params.toList args.toList ds p := hA0
  rw [Try.params9] at hA hval
  obtain ⟨v0, vs0, d0, ds0, p0, q0, hargs, rfl, rfl, h0, r0⟩ := trodAll_cons hA
  obtain ⟨v1, vs1, d1, ds1, p1, q1, rfl, rfl, rfl, h1, r1⟩ := trodAll_cons r0
  obtain ⟨rfl, rfl, rfl⟩ := trodAll_nil r1
  obtain rfl : args = #[v0, v1] := by cases args; simp_all
  obtain ⟨rfl, rfl⟩ := trodVars_none hV
  obtain ⟨cs0, rfl, _⟩ := okWide_struct Try.underlying27 (hval 0 27 v0 rfl rfl)
  have k0 := h0
  have lt0 : ∀ x ∈ p0, x.block < W.heap.size := by obtain ⟨m, hm⟩ := k0; exact DataW.trod_lt m _ _ _ hm
  obtain ⟨fuelc, hfc⟩ := h0
  obtain ⟨B0, m0, y0, B1, m1, y1, B2, m2, y2, B3, m3, y3, B4, m4, y4, B5, m5, y5, ec, ⟨s0, t0⟩, ⟨s1, t1⟩, ⟨s2, t2⟩, ⟨s3, t3⟩, ⟨s4, t4⟩, ⟨s5, t5⟩⟩ := opens_case hfc
  obtain ⟨cl0⟩ := cs0
  obtain rfl : cl0 = [.slice B0 y0.length m0, .slice B1 y1.length m1, .slice B2 y2.length m2, .slice B3 y3.length m3, .slice B4 y4.length m4, .slice B5 y5.length m5] := ec
  obtain ⟨a1, rfl, rfl, rfl, w1⟩ := open_int Try.underlying3 (hval 1 3 v1 rfl rfl) h1
  clear hA0 hval0 hsz0
  obtain ⟨kk, hpure⟩ := casemapSimples_pure y0 y1 y2 y3 y4 y5 a1
  refine (w37_CasemapSimples.calls kk _ _ y0 _ _ y1 _ _ y2 _ _ y3 _ _ y4 _ _ y5 a1 true W s0 t0 s1 t1 s2 t2 s3 t3 s4 t4 s5 t5 hpure).mono fun e W' ⟨he, bel⟩ => ?_
  subst he
  exact ⟨_, rfl, _, _, _, [], _, [], hW', trodAll_mk1 (shut_bool Try.underlying4 _), (trodAll_cons_mk (Below.trod casemapSimples_laid (by kernel_rfl) (oD (by kernel_rfl)) k0 bel lt0) (trodAll_cons_mk (shut_int Try.underlying3 w1) trodAll_mk0)), rfl, bel.frame _, fun h => by cases h⟩
theorem casemapSimples_over : Rows.casemapSimplesRow.holds Try.pinned (OpenSpec.ofChange Rows.casemapSimplesSpec) :=
  OpenClaim.holds_of_wide 9 Try.f9 rfl rfl rfl rfl rfl rfl rfl ⟨rfl, rfl, rfl, rfl, rfl⟩ rfl rfl rfl rfl rfl (by kernel_rfl) Try.func9 (by kernel_rfl)
    (oD (by kernel_rfl)) (by unfold Func.isWrapper; first | (rw [if_pos (by decide +kernel)]; kernel_rfl) | (rw [if_neg (by decide +kernel)]; exact ⟨rfl, rfl⟩))
    (fun os started H enc _ => casemapSimples_lifted os started H enc)
end Go.Proofs.Ythnkmcfhpjmihaa.casemapSimples
namespace Go.Proofs.Ythnkmcfhpjmihaa
/-- The row, under a short name, for the claim. -/
theorem casemapSimples_holds : Rows.CasemapSimplesSaid := casemapSimples.casemapSimples_over
#print axioms casemapSimples_holds
end Go.Proofs.Ythnkmcfhpjmihaa
