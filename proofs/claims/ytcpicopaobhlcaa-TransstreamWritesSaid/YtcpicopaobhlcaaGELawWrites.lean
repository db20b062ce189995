/-
  The law TransstreamWrites holds for every input: its row, over the walk and the plain law.
-/
import Derived.WalkKit
import Derived.ProofKit
import Derived.OpenShut
import Derived.ShutString
import Derived.ChangeOld
import Derived.Below
import Derived.SizedLaws
import Derived.Test.YtcpicopaobhlcaaRows
import Derived.Test.YtcpicopaobhlcaaG10
import Derived.Test.YtcpicopaobhlcaaG2
-- IMPORTS: Derived.WalkKit Derived.ProofKit Derived.OpenShut Derived.ShutString Derived.ChangeOld Derived.Below Derived.SizedLaws Derived.Test.YtcpicopaobhlcaaRows Derived.Test.YtcpicopaobhlcaaESlaw Derived.Test.YtcpicopaobhlcaaESlWrites
namespace Go.Proofs.Ytcpicopaobhlcaa.transstreamWrites
open Go.ChangeShapes Go.WideShapes Go.ChangeAt Go.RowKit Go.Proofs.Ytcpicopaobhlcaa.Q Go.Proofs.YtcpicopaobhlcaaW.PrintWords
open Go.ChangeMaps (open_string shut_string)
set_option linter.unusedVariables false
theorem transstreamWrites_own : ownKnob Try.prog.godebug = none := by kernel_rfl
theorem transstreamWrites_laid : laidOutB Try.prog = true := by kernel_rfl
set_option maxHeartbeats 2000000 in
set_option maxRecDepth 100000 in
theorem transstreamWrites_lifted (os : Os) (started : os.Started) (H : Type) (enc : TypeId × Value → H) :
    ReturnsInHanded {} Try.checked os 6 .any (Rows.transstreamWritesSpec.pre6 enc Try.prog Try.f6 Rows.transstreamWritesRow.domain false) (Rows.transstreamWritesSpec.post enc Try.prog Try.f6 false true false false) := by
  refine returnsInHanded_of_change_sized (C := Try.checked) transstreamWrites_own started (by kernel_rfl) Try.func6
    (ChangeSpec.witness6 (enc := enc) (C := Try.checked) false ⟨#[], #[.slice none 0 0, .slice none 0 0], []⟩ 8 (by kernel_rfl) (by kernel_rfl) (by kernel_rfl) (by kernel_rfl)) ?_
  intro W base args ds gs before hval0 hW hcnd hsz0 _
  have hval : ∀ (j : Nat) t v, Try.f6.params[j]? = some t → args[j]? = some v → Value.okWide Try.prog W .any base t v := hval0
  have hW' := hW
  obtain ⟨p, q, hA0, hV, rfl, hfz, hnd⟩ := hW
  have hA : DataW.TrodAll enc Try.prog W 0 (fun _ => true) true Try.f6.params.toList args.toList ds p := hA0
  rw [Try.params6] at hA hval
  obtain ⟨v0, vs0, d0, ds0, p0, q0, hargs, rfl, rfl, h0, r0⟩ := trodAll_cons hA
  obtain ⟨v1, vs1, d1, ds1, p1, q1, rfl, rfl, rfl, h1, r1⟩ := trodAll_cons r0
  obtain ⟨rfl, rfl, rfl⟩ := trodAll_nil r1
  obtain rfl : args = #[v0, v1] := by cases args; simp_all
  obtain ⟨rfl, rfl⟩ := trodVars_none hV
  obtain ⟨b0, len0, cap0, rfl⟩ := okWide_slice Try.underlying22 (hval 0 22 v0 rfl rfl)
  have k0 := h0
  have lt0 : ∀ x ∈ p0, x.block < W.heap.size := by obtain ⟨m, hm⟩ := k0; exact DataW.trod_lt m _ _ _ hm
  obtain ⟨l0, hk0, w0⟩ : ∃ l, (Kd.slice 41 (k41)).K W l [.slice b0 len0 cap0] ∧ wfL l := by
    obtain ⟨fuel, hf⟩ := h0
    exact opens_rules H enc W _ _ _ fuel _ _ hf
  obtain ⟨A0, c0, e0, hc0, hr0⟩ := hk0
  injection e0 with e0 _
  injection e0 with ea0 el0 ec0
  subst ea0
  subst el0
  subst ec0
  obtain ⟨b1, len1, cap1, rfl⟩ := okWide_slice Try.underlying23 (hval 1 23 v1 rfl rfl)
  have k1 := h1
  have lt1 : ∀ x ∈ p1, x.block < W.heap.size := by obtain ⟨m, hm⟩ := k1; exact DataW.trod_lt m _ _ _ hm
  obtain ⟨l1, hk1, w1⟩ : ∃ l, (Kd.slice 31 (Kd.slice 3 (Kd.int .i64))).K W l [.slice b1 len1 cap1] ∧ wfTs l := by
    obtain ⟨fuel, hf⟩ := h1
    exact opens_texts H enc W _ _ _ fuel _ _ hf
  obtain ⟨A1, c1, e1, hc1, hr1⟩ := hk1
  injection e1 with e1 _
  injection e1 with ea1 el1 ec1
  subst ea1
  subst el1
  subst ec1
  clear hA0 hval0 hsz0
  refine (transstreamWrites_law _ _ l0 _ _ l1 W w0 w1 hr0 hc0 hr1 hc1).mono fun e W' ⟨he, bel⟩ => ?_
  subst he
  exact ⟨_, rfl, _, _, _, [], _, [], hW', trodAll_mk1 (shut_bool Try.underlying4 _), (trodAll_cons_mk (Below.trod transstreamWrites_laid (by kernel_rfl) (of_decide_eq_true (by kernel_rfl)) k0 bel lt0) (trodAll_cons_mk (Below.trod transstreamWrites_laid (by kernel_rfl) (of_decide_eq_true (by kernel_rfl)) k1 bel lt1) trodAll_mk0)), rfl, bel.frame _, fun h => by cases h⟩
theorem transstreamWrites_over : Rows.transstreamWritesRow.holds Try.pinned (OpenSpec.ofChange Rows.transstreamWritesSpec) :=
  OpenClaim.holds_of_wide 6 Try.f6 rfl rfl rfl rfl rfl rfl rfl ⟨rfl, rfl, rfl, rfl, rfl⟩ rfl rfl rfl rfl rfl (by kernel_rfl) Try.func6 (by kernel_rfl)
    (of_decide_eq_true (by kernel_rfl)) (by unfold Func.isWrapper; first | (rw [if_pos (by decide +kernel)]; kernel_rfl) | (rw [if_neg (by decide +kernel)]; exact ⟨rfl, rfl⟩))
    (fun os started H enc _ => transstreamWrites_lifted os started H enc)
end Go.Proofs.Ytcpicopaobhlcaa.transstreamWrites
namespace Go.Proofs.Ytcpicopaobhlcaa
/-- The row, under a short name, for the claim. -/
theorem transstreamWrites_holds : Rows.TransstreamWritesSaid := transstreamWrites.transstreamWrites_over
#print axioms transstreamWrites_holds
end Go.Proofs.Ytcpicopaobhlcaa
