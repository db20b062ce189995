/- Lemmas, printed and written for this claim: part 8. -/
import Derived.WalkKit
import Derived.Test.YthnkmcfhpjmihaaG6
import Derived.Test.YthnkmcfhpjmihaaG2
import Derived.Test.YthnkmcfhpjmihaaG4
import Derived.Test.YthnkmcfhpjmihaaG5
import Derived.Test.YthnkmcfhpjmihaaG7
import Derived.Test.YthnkmcfhpjmihaaG3
section
namespace Go.Proofs.Ythnkmcfhpjmihaa.Q
open Go.RowKit Go.Proofs.YthnkmcfhpjmihaaW.PrintWords Go.Proofs.YthnkmcfhpjmihaaW.PrintLast Go.Proofs.YthnkmcfhpjmihaaW.PrintMore
set_option linter.unusedVariables false
theorem slice_one (pre : List Rg) (p : Rg) (rest : List Rg) : ((pre ++ p :: rest).take (pre.length + 1)).drop pre.length = [p] := by
 have e : (pre ++ p :: rest).take (pre.length + 1) = pre ++ [p] := by
  rw [show pre ++ p :: rest = (pre ++ [p]) ++ rest by simp]
  exact List.take_left' (by simp)
 rw [e]
 exact List.drop_left' rfl
theorem title_one (c : CaseS) (t : List Int) (p : Rg) (lo hi : Nat) (h0 : p.f0 = (lo : Int)) (h1 : p.f1 = (hi : Int)) (hl : lo ≤ hi) (hh : hi ≤ t.length) :
  (TitleS c t [p]).length = lo + (titledS (caseData c) t (hi - lo) lo false).length + (t.length - hi) ∧ (TitleS c t [p]).take lo = t.take lo ∧ (TitleS c t [p]).drop (lo + (titledS (caseData c) t (hi - lo) lo false).length) = t.drop hi ∧ ((TitleS c t [p]).take (lo + (titledS (caseData c) t (hi - lo) lo false).length)).drop lo = titledS (caseData c) t (hi - lo) lo false := by
 have e : TitleS c t [p] = t.take lo ++ (titledS (caseData c) t (hi - lo) lo false ++ t.drop hi) := by
  unfold TitleS
  have hw : withinS [p] 0 t.length = true := by
   rw [withinS, withinS, h0, h1, dT (by omega), dT (by omega), dT (by omega)]
   rfl
  rw [if_pos hw, titleA, titleA, h0, h1, Int.toNat_natCast, Int.toNat_natCast, List.drop_zero, List.append_assoc]
 rw [e]
 generalize titledS (caseData c) t (hi - lo) lo false = T
 have hlen : (t.take lo).length = lo := by rw [List.length_take]; omega
 refine ⟨?_, ?_, ?_, ?_⟩
 ·rw [List.length_append, List.length_append, hlen, List.length_drop]; omega
 ·exact List.take_left' hlen
 ·rw [← List.append_assoc]
  exact List.drop_left' (by rw [List.length_append, hlen])
 ·rw [← List.append_assoc, List.take_left' (by rw [List.length_append, hlen])]
  exact List.drop_left' hlen
theorem wrap_len (L lo b T : Nat) (h : L = lo + T + b) (hb : L < 1000000000) : wrap64 ((L : Int) - (b : Int)) = ((lo + T : Nat) : Int) := by unfold wrap64; omega
theorem plBoundS (x y z n m : Nat) (h : x + y + z ≤ m) (hm : m ≤ 100001 * n) (hn : n ≤ 40) : x + y < 17592186044416 ∧ x + y + z < 17592186044416 := by omega
theorem plEq_le {a : List Int} {k : Nat} (h : a.length ≤ 40) (hk : 1000 ≤ k) : r01_Equal.f k a a = some true := plEq_self a k (by omega) (by omega)
theorem wrap_sub (L b : Nat) (h : b ≤ L) (hb : L < 1000000000) : wrap64 ((L : Int) - (b : Int)) = ((L - b : Nat) : Int) := by unfold wrap64; omega
theorem wrap_add (a b : Nat) (hb : a + b < 1000000000) : wrap64 ((a : Int) + (b : Int)) = ((a + b : Nat) : Int) := by unfold wrap64; omega
set_option maxHeartbeats 2000000 in
theorem plPartsL (c : CaseS) (t : List Int) (h : plFewC c) (ht : t.length ≤ 40) : ∀ (rest pre : List Rg) (k a : Nat) (out : List Int), (pre ++ rest).length ≤ 40 → withinS rest (a : Int) t.length = true → a ≤ t.length → out ++ titleA (caseData c) t rest a = TitleS c t (pre ++ rest) → rest.length + plBig ≤ k →
  w37_CasemapParts.l0 (k + 1) t (pre ++ rest) out (a : Int) (pre.length : Int) c.lo c.up c.ti c.fo c.ca c.ig = some true := by
 intro rest
 induction rest with
 | nil =>
  intro pre k a out h1 h2 h3 h4 h5
  have hB := plBig_eq
  have n1 := TitleS_le (plOkC h) t (pre ++ [])
  have ho : out.length ≤ (TitleS c t (pre ++ [])).length := by rw [← h4, List.length_append]; omega
  have hd : (t.drop a).length ≤ 40 := by rw [List.length_drop]; omega
  have e : out ++ t.drop a = TitleS c t (pre ++ []) := h4
  rw [w37_CasemapParts.l0, if_neg (by simp), if_pos (by omega), if_pos (by omega), Int.toNat_natCast, if_pos (by omega), plTi h ht h1, e, Option.bind_some, plEq_self _ k (by omega) (by rw [List.length_nil] at h5; omega)]
  rfl
 | cons p rest ihd =>
  intro pre k a out h1 h2 h3 h4 h5
  have hB := plBig_eq
  obtain ⟨k, rfl⟩ : ∃ j, k = j + 1 := ⟨k - 1, by omega⟩
  rw [withinS] at h2
  simp only [Bool.and_eq_true, decide_eq_true_eq] at h2
  obtain ⟨⟨⟨w1, w2⟩, w3⟩, w4⟩ := h2
  obtain ⟨lo, hlo⟩ : ∃ n : Nat, p.f0 = (n : Int) := ⟨p.f0.toNat, by omega⟩
  obtain ⟨hi, hhi⟩ : ∃ n : Nat, p.f1 = (n : Int) := ⟨p.f1.toNat, by omega⟩
  rw [hlo] at w1 w2
  rw [hhi] at w2 w3 w4
  have n1 := TitleS_le (plOkC h) t (pre ++ p :: rest)
  have n2 := TitleS_le (plOkC h) t [p]
  obtain ⟨o1, o2, o3, o4⟩ := title_one c t p lo hi hlo hhi (by omega) (by omega)
  have hT : titleA (caseData c) t (p :: rest) a = (t.take lo).drop a ++ titledS (caseData c) t (hi - lo) lo false ++ titleA (caseData c) t rest hi := by
   rw [titleA, hlo, hhi, Int.toNat_natCast, Int.toNat_natCast]
  rw [hT] at h4
  have ex : (pre ++ [p]) ++ rest = pre ++ p :: rest := by simp
  have elen : ((pre ++ [p]).length : Int) = ((pre.length + 1 : Nat) : Int) := by simp
  have hn : pre.length + 1 + rest.length ≤ 40 := by rw [List.length_append, List.length_cons] at h1; omega
  have ih := ihd (pre ++ [p]) k hi (out ++ (t.take lo).drop a ++ titledS (caseData c) t (hi - lo) lo false) (by rw [ex]; exact h1) w4 (by omega) (by rw [ex, ← h4]; simp only [List.append_assoc]) (by rw [List.length_cons] at h5; omega)
  rw [ex, elen] at ih
  have ho : out.length + ((t.take lo).drop a).length + (titledS (caseData c) t (hi - lo) lo false).length ≤ (TitleS c t (pre ++ p :: rest)).length := by
   rw [← h4]
   simp only [List.length_append]
   omega
  have hp1 : casemap_Title.f c.lo c.up c.ti c.fo c.ca c.ig t [p] = some (TitleS c t [p]) := plTi h ht (by simp)
  generalize hone : TitleS c t [p] = one at o1 o2 o3 o4 hp1 n2
  generalize hTT : titledS (caseData c) t (hi - lo) lo false = T at o1 o2 o3 o4 h4 ho ih hT
  clear hone hTT hT
  have hk1 : 1000 ≤ k := by clear hp1 ih ihd h1 h4 ho n1 n2 o1 o2 o3 o4 w2 w3; omega
  have l1 : (t.take lo).length ≤ 40 := by rw [List.length_take]; exact Nat.le_trans (Nat.min_le_right _ _) ht
  have l2 : (t.drop hi).length ≤ 40 := by rw [List.length_drop]; exact Nat.le_trans (Nat.sub_le _ _) ht
  have hq1 : r01_Equal.f (k + 1) (t.take lo) (t.take lo) = some true := plEq_le l1 (Nat.le_succ_of_le hk1)
  have hq2 : r01_Equal.f (k + 1) (t.drop hi) (t.drop hi) = some true := plEq_le l2 (Nat.le_succ_of_le hk1)
  have b1 : t.length < 1000000000 := Nat.lt_of_le_of_lt ht (by decide)
  have b2 : one.length < 1000000000 := by clear hp1 ih ihd h1 h4 h5 ho hB n1 o1 o2 o3 o4; omega
  have b3 : hi ≤ t.length := by clear hp1 ih ihd h1 h4 h5 ho hB n1 n2 o1 o2 o3 o4 hn; omega
  have b4 : lo ≤ hi := by clear hp1 ih ihd h1 h4 h5 ho hB n1 n2 o1 o2 o3 o4 hn; omega
  have b5 : lo + (t.length - hi) < 1000000000 := by clear hp1 ih ihd h1 h4 h5 ho hB n1 n2 o1 o2 o3 o4 hn b2; omega
  have ew1 : wrap64 ((t.length : Int) - (hi : Int)) = ((t.length - hi : Nat) : Int) := wrap_sub _ _ b3 b1
  have ew2 : wrap64 ((lo : Int) + ((t.length - hi : Nat) : Int)) = ((lo + (t.length - hi) : Nat) : Int) := wrap_add _ _ b5
  have ew3 : wrap64 ((one.length : Int) - ((t.length - hi : Nat) : Int)) = ((lo + T.length : Nat) : Int) := wrap_len _ _ _ _ o1 b2
  rw [w37_CasemapParts.l0, if_pos (by rw [List.length_append, List.length_cons]; omega), if_pos (by omega), wrap_suc (by omega : pre.length < 1000000000), if_pos (by omega), if_pos (by rw [List.length_append, List.length_cons]; omega), Int.toNat_natCast, Int.toNat_natCast, slice_one, hp1, rdG_mid, hlo, hhi, Option.bind_some, ew1, ew2, ew3]
  simp only [Int.toNat_natCast, o2, o3, o4, hq1, hq2, Option.bind_some, if_true]
  obtain ⟨z1, z2⟩ := plBoundS _ _ _ _ _ ho n1 ht
  have g1 : lo + (t.length - hi) ≤ one.length := by rw [o1]; exact Nat.add_le_add_right (Nat.le_add_right _ _) _
  have g2 : lo + T.length ≤ one.length := by rw [o1]; exact Nat.le_add_right _ _
  rw [if_neg (Int.not_lt.2 (Int.ofNat_le.2 g1)), if_pos (Int.natCast_nonneg lo), if_pos (Int.ofNat_le.2 (Nat.le_trans (Nat.le_add_right _ _) g2)), if_pos (Int.ofNat_le.2 (Nat.le_trans b4 b3)), if_pos (Int.natCast_nonneg _), if_pos (Int.ofNat_le.2 g2), if_pos (Int.natCast_nonneg _), if_pos (Int.ofNat_le.2 b3), if_pos (Int.natCast_nonneg _), if_pos w1, if_pos z1, if_pos (Int.ofNat_le.2 (Nat.le_add_right _ _)), if_pos (by rw [List.length_append]; exact z2)]
  exact ih
theorem plPartsJ (c : CaseS) (t : List Int) (ps : List Rg) (q : Bool) (k : Nat) (h : q = false → plFewC c ∧ t.length ≤ 40 ∧ ps.length ≤ 40 ∧ withinS ps 0 t.length = true) (hk : 100 + plBig ≤ k) : w37_CasemapParts.j0 (k + 2) t ps q c.lo c.up c.ti c.fo c.ca c.ig = some true := by
 have hB := plBig_eq
 rw [w37_CasemapParts.j0]
 cases q with
 | true => rfl
 | false =>
  obtain ⟨h, ht, hp, hw⟩ := h rfl
  rw [if_neg (by decide)]
  exact plPartsL c t h ht ps [] k 0 [] hp hw (Nat.zero_le _) (by unfold TitleS; rw [List.nil_append, List.nil_append, if_pos hw]) (by omega)
theorem plParts (c : CaseS) (t : List Int) (ps : List Rg) (k : Nat) (hk : 100 + plBig ≤ k) : w37_CasemapParts.f (k + 2) c.lo c.up c.ti c.fo c.ca c.ig t ps = some true := by
 obtain ⟨q, e, hq⟩ := plFew_ok c t (k + 2) (by omega)
 unfold w37_CasemapParts.f
 rw [e, Option.bind_some]
 cases q with
 | false => exact plPartsJ c t ps true k (fun h => by cases h) hk
 | true =>
  obtain ⟨h, ht⟩ := hq rfl
  rw [if_pos rfl]
  by_cases hl : (ps.length : Int) > 40
  ·rw [if_pos hl]
   exact plPartsJ c t ps true k (fun h => by cases h) hk
  ·have hw : r37_Within.f (k + 2) ps (t.length : Int) = some (withinS ps 0 t.length) := plWithin_go t.length ps [] 0 (k + 2) (by rw [List.nil_append]; omega) (by omega)
   rw [if_neg hl, hw, Option.bind_some]
   exact plPartsJ c t ps _ k (fun hd => ⟨h, ht, by omega, by simpa using hd⟩) hk
theorem casemapParts_pure (l0 l1 l2 l3 : List Mp) (l4 l5 : List Rg) (t : List Int) (ps : List Rg) : ∃ k, w37_CasemapParts.f k l0 l1 l2 l3 l4 l5 t ps = some true := ⟨100 + plBig + 2, plParts ⟨l0, l1, l2, l3, l4, l5⟩ t ps (100 + plBig) (Nat.le_refl _)⟩
end Go.Proofs.Ythnkmcfhpjmihaa.Q
end
