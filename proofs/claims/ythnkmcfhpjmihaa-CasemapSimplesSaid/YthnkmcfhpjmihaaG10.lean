/- Lemmas, printed and written for this claim: part 10. -/
import Derived.WalkKit
import Derived.Test.YthnkmcfhpjmihaaG8
import Derived.Test.YthnkmcfhpjmihaaG9
import Derived.Test.YthnkmcfhpjmihaaG6
import Derived.Test.YthnkmcfhpjmihaaG2
import Derived.Test.YthnkmcfhpjmihaaG5
import Derived.Test.YthnkmcfhpjmihaaG7
import Derived.Test.YthnkmcfhpjmihaaG4
import Derived.Test.YthnkmcfhpjmihaaG3
import Derived.WalkSpells
import Derived.IntWalk
import Derived.Deep.RegionHeld3
import Derived.Deep.RegionLaw
import Derived.OwnWalk
section
namespace Go.Proofs.Ythnkmcfhpjmihaa.Q
open Go.RowKit Go.Proofs.YthnkmcfhpjmihaaW.PrintWords Go.Proofs.YthnkmcfhpjmihaaW.PrintLast Go.Proofs.YthnkmcfhpjmihaaW.PrintMore
set_option linter.unusedVariables false
theorem plTag_go (i0 : Bool) (tg : ByteArray) (ht : tg = if i0 then tagF else tagE) : ∀ (rest pre : List Mp) (k : Nat), (pre ++ rest).length < 1000000 → rest.length + 1 ≤ k →
  r37_tagged.l0 k (pre ++ rest) tg (pre.length : Int) = some (rest.any (badTag i0))
 | [], pre, k, h1, h2 => by
  obtain ⟨k, rfl⟩ : ∃ j, k = j + 1 := ⟨k - 1, by omega⟩
  rw [r37_tagged.l0, if_neg (by simp)]
  rfl
 | x :: rest, pre, k, h1, h2 => by
  obtain ⟨k, rfl⟩ : ∃ j, k = j + 1 := ⟨k - 1, by omega⟩
  have hp : pre.length < 1000000000 := by simp at h1; omega
  have ih := plTag_go i0 tg ht rest (pre ++ [x]) k (by simpa using h1) (by simp at h2; omega)
  have ex : (pre ++ [x]) ++ rest = pre ++ x :: rest := by simp
  have el : ((pre ++ [x]).length : Int) = ((pre.length + 1 : Nat) : Int) := by simp
  rw [ex, el] at ih
  rw [r37_tagged.l0, if_pos (by simp; omega), if_pos (by omega), rdM_mid, wrap_suc hp, ih, List.any_cons]
  unfold badTag
  by_cases hz : x.f2.size = 0
  ·rw [if_pos ((bytesEq_nil _).2 hz), decide_eq_false (by simpa using hz)]
   rfl
  ·rw [if_neg (fun hh => hz ((bytesEq_nil _).1 hh)), dT hz]
   subst ht
   cases i0 with
   | true =>
    show (if x.f2.toList = tagF.toList then _ else _) = _
    by_cases hf : x.f2 = tagF
    ·rw [if_pos (by rw [hf]), decide_eq_false (by simpa using hf)]
     rfl
    ·rw [if_neg (fun hh => hf ((bytesEq_iff _ _).1 hh)), dT hf]
     rfl
   | false =>
    show (if x.f2.toList = tagE.toList then _ else _) = _
    rw [if_neg (fun hh => hz (by rw [(bytesEq_iff _ _).1 hh]; rfl))]
    rfl
theorem plTag_ok (i0 : Bool) (l : List Mp) (k : Nat) (h : plFewM l) (hk : 50 ≤ k) : r37_tagged.f k l (if i0 then tagF else tagE) = some (l.any (badTag i0)) :=
 plTag_go i0 _ rfl l [] k (by have := h.1; simp; omega) (by have := h.1; omega)
theorem plSame_go : ∀ (xs ys px py : List Rg) (k : Nat), px.length = py.length → xs.length = ys.length → (px ++ xs).length < 1000000000 → xs.length + 1 ≤ k →
  r02_Same.l0 k (px.length : Int) (px ++ xs) (py ++ ys) = some (decide (xs.map toP = ys.map toP))
 | [], [], px, py, k, h1, h2, h3, h4 => by
  obtain ⟨k, rfl⟩ : ∃ j, k = j + 1 := ⟨k - 1, by omega⟩
  rw [r02_Same.l0, if_neg (by simp)]
  rfl
 | x :: xs, y :: ys, px, py, k, h1, h2, h3, h4 => by
  obtain ⟨k, rfl⟩ : ∃ j, k = j + 1 := ⟨k - 1, by omega⟩
  have hp : px.length < 1000000000 := by simp at h3; omega
  have ih := plSame_go xs ys (px ++ [x]) (py ++ [y]) k (by simp [h1]) (by simpa using h2) (by simpa using h3) (by simp at h4; omega)
  have ex : (px ++ [x]) ++ xs = px ++ x :: xs := by simp
  have ey : (py ++ [y]) ++ ys = py ++ y :: ys := by simp
  have el : ((px ++ [x]).length : Int) = ((px.length + 1 : Nat) : Int) := by simp
  rw [ex, ey, el] at ih
  have e1 : rd_T33 (py ++ y :: ys) (px.length : Int) = y := by rw [h1]; exact rdG_mid _ _ _
  rw [r02_Same.l0, if_pos (by simp; omega), if_pos (by omega), if_pos (by simp at h2 ⊢; omega), rdG_mid, e1, wrap_suc hp]
  rw [ih]
  by_cases ha : x.f0 = y.f0
  ·by_cases hb : x.f1 = y.f1
   ·rw [if_neg (by simp [ha, hb])]
    simp [toP, ha, hb]
   ·rw [if_pos (by simp [hb])]
    simp [toP, hb]
  ·rw [if_pos (by simp [ha])]
   simp [toP, ha]
 | [], _ :: _, _, _, _, _, h2, _, _ => by simp at h2
 | _ :: _, [], _, _, _, _, h2, _, _ => by simp at h2
theorem plComb_make (l : List Rg) : combS l [] 1 = CpM.make (l.map toP) := by
 rw [← CpM.rmake_eq]
 unfold combS CpM.rmake cutsAB
 congr 1
 funext c
 unfold keepAB keepsB CpM.hasB
 simp
theorem plValid_ok (s : List Rg) (k : Nat) (h : s.length ≤ 1000) (hk : s.length + 1 ≤ k) : r02_Valid.f k s = some (validL s) := by
 have hm : r02_Make.f s = some (mkRS s) := by
  unfold r02_Make.f r02_combine.f
  rw [if_pos (by simp; omega), plComb_make]
  rfl
 unfold r02_Valid.f
 rw [hm]
 show (r02_Same.f k s (mkRS s)).bind _ = _
 unfold r02_Same.f validL
 have e : (mkRS s).map toP = CpM.make (s.map toP) := toP_ofP _
 by_cases hl : s.length = (mkRS s).length
 ·rw [if_pos (by omega)]
  have := plSame_go s (mkRS s) [] [] k rfl hl (by simp; omega) hk
  rw [List.nil_append, List.nil_append, e] at this
  rw [show ((0 : Int)) = (([] : List Rg).length : Int) from rfl, this]
  rfl
 ·rw [if_neg (by omega), decide_eq_false]
  ·rfl
  ·intro hh
   rw [← e] at hh
   exact hl (by simpa using congrArg List.length hh)
theorem plCheckJ (c : CaseS) (b : Bool) (k : Nat) (h : plFewC c) (hk : 50 ≤ k) : r37_Check.j1 (k + 1) b c.lo c.up c.ti c.fo c.ca c.ig = some (if b then 6 else if validL c.ca && validL c.ig then 0 else 11) := by
 obtain ⟨h0, h1, h2, h3, h4, h5⟩ := h
 rw [r37_Check.j1]
 cases b with
 | true => rfl
 | false =>
  rw [if_neg (by decide), plValid_ok c.ca k (by omega) (by omega), plValid_ok c.ig k (by omega) (by omega)]
  simp only [Option.bind_some]
  cases validL c.ca <;> cases validL c.ig <;> rfl
theorem plCheckE (c : CaseS) (L : List (List Mp)) (hL : L.length = 4) (k : Nat) (h : plFewC c) (hk : 60 ≤ k) : r37_Check.l0 (k + 2) L 4 c.lo c.up c.ti c.fo c.ca c.ig = some (if badsS c then 6 else if validL c.ca && validL c.ig then 0 else 11) := by
 have e0 := plTag_ok true c.lo (k + 1) h.1 (by omega)
 have e1 := plTag_ok false c.up (k + 1) h.2.1 (by omega)
 have e2 := plTag_ok false c.ti (k + 1) h.2.2.1 (by omega)
 have e3 := plTag_ok false c.fo (k + 1) h.2.2.2.1 (by omega)
 have hj := fun b => plCheckJ c b k h (by omega)
 rw [r37_Check.l0, if_neg (by omega)]
 show (r37_tagged.f (k + 1) c.lo (if true = true then tagF else tagE)).bind (fun t285 => if t285 = true then _ else (r37_tagged.f (k + 1) c.up (if false = true then tagF else tagE)).bind fun t286 => if t286 = true then _ else (r37_tagged.f (k + 1) c.ti (if false = true then tagF else tagE)).bind fun t287 => if t287 = true then _ else (r37_tagged.f (k + 1) c.fo (if false = true then tagF else tagE)).bind _) = _
 rw [e0, e1, e2, e3]
 simp only [Option.bind_some, hj]
 unfold badsS
 cases c.lo.any (badTag true) <;> cases c.up.any (badTag false) <;> cases c.ti.any (badTag false) <;> cases c.fo.any (badTag false) <;> rfl
theorem plCheckS (c : CaseS) (L : List (List Mp)) (x : List Mp) (i : Nat) (hx : rd_L5 L (i : Int) = x) (hL : L.length = 4) (hi : i < 4) (k : Nat) (h : plFewM x) (hk : 900 ≤ k) :
  r37_Check.l0 (k + 1) L (i : Int) c.lo c.up c.ti c.fo c.ca c.ig = if checkM x = 0 then r37_Check.l0 k L ((i + 1 : Nat) : Int) c.lo c.up c.ti c.fo c.ca c.ig else some (checkM x) := by
 rw [r37_Check.l0, if_pos (by omega), if_pos (by omega), hx, plCheckM_ok x k h hk, wrap_suc (by omega : i < 1000000000)]
 rfl
theorem plCheck_ok (c : CaseS) (k : Nat) (h : plFewC c) (hk : 1000 ≤ k) : r37_Check.f k c.lo c.up c.ti c.fo c.ca c.ig = some (caseChk c) := by
 obtain ⟨k, rfl⟩ : ∃ j, k = j + 6 := ⟨k - 6, by omega⟩
 unfold r37_Check.f caseChk
 have s0 := plCheckS c [c.lo, c.up, c.ti, c.fo] c.lo 0 rfl rfl (by omega) (k + 5) h.1 (by omega)
 have s1 := plCheckS c [c.lo, c.up, c.ti, c.fo] c.up 1 rfl rfl (by omega) (k + 4) h.2.1 (by omega)
 have s2 := plCheckS c [c.lo, c.up, c.ti, c.fo] c.ti 2 rfl rfl (by omega) (k + 3) h.2.2.1 (by omega)
 have s3 := plCheckS c [c.lo, c.up, c.ti, c.fo] c.fo 3 rfl rfl (by omega) (k + 2) h.2.2.2.1 (by omega)
 have s4 := plCheckE c [c.lo, c.up, c.ti, c.fo] rfl k h (by omega)
 refine Eq.trans s0 ?_
 unfold firstE
 by_cases c0 : checkM c.lo = 0
 ·rw [if_pos c0, if_pos c0]
  refine Eq.trans s1 ?_
  unfold firstE
  by_cases c1 : checkM c.up = 0
  ·rw [if_pos c1, if_pos c1]
   refine Eq.trans s2 ?_
   unfold firstE
   by_cases c2 : checkM c.ti = 0
   ·rw [if_pos c2, if_pos c2]
    refine Eq.trans s3 ?_
    unfold firstE
    by_cases c3 : checkM c.fo = 0
    ·rw [if_pos c3, if_pos c3]
     refine Eq.trans s4 ?_
     unfold firstE
     rw [if_pos rfl]
    ·rw [if_neg c3, if_neg c3, if_neg c3]
   ·rw [if_neg c2, if_neg c2, if_neg c2]
  ·rw [if_neg c1, if_neg c1, if_neg c1]
 ·rw [if_neg c0, if_neg c0, if_neg c0]
theorem plData_ok (c : CaseS) (k : Nat) (h : plFewC c) (hk : 1000 ≤ k) : r37_Data.f k c.lo c.up c.ti c.fo c.ca c.ig = some ((caseData c).lo, (caseData c).up, (caseData c).ti, (caseData c).fo, (caseData c).ca, (caseData c).ig) := by
 unfold r37_Data.f caseData
 rw [plCheck_ok c k h hk]
 show (if caseChk c = 0 then _ else _) = _
 split <;> rfl
theorem plData_few {c : CaseS} (h : plFewC c) : plFewC (caseData c) := by
 unfold caseData
 split
 ·exact h
 ·exact ⟨plFewM_nil, plFewM_nil, plFewM_nil, plFewM_nil, Nat.zero_le _, Nat.zero_le _⟩
def optP (o : Option (List Int)) : List Int × Bool := match o with | some x => (x, true) | none => ([], false)
theorem plFind_go (a : Int) (t : ByteArray) : ∀ (rest pre : List Mp) (k : Nat), plFewM (pre ++ rest) → rest.length + 1 ≤ k →
  r11_find.l0 k (pre ++ rest) a t (pre.length : Int) = some (optP (findM rest a t))
 | [], pre, k, h1, h2 => by
  obtain ⟨k, rfl⟩ : ∃ j, k = j + 1 := ⟨k - 1, by omega⟩
  rw [r11_find.l0, if_neg (by simp)]
  rfl
 | x :: rest, pre, k, h1, h2 => by
  obtain ⟨k, rfl⟩ : ∃ j, k = j + 1 := ⟨k - 1, by omega⟩
  have hl := h1.1
  have hp : pre.length < 1000000000 := by simp at hl; omega
  have ex : (pre ++ [x]) ++ rest = pre ++ x :: rest := by simp
  have ih := plFind_go a t rest (pre ++ [x]) k (by rw [ex]; exact h1) (by simp at h2; omega)
  have el : ((pre ++ [x]).length : Int) = ((pre.length + 1 : Nat) : Int) := by simp
  rw [ex, el] at ih
  have hx := h1.2 x (by simp)
  rw [r11_find.l0, if_pos (by simp; omega), if_pos (by omega), rdM_mid, wrap_suc hp, ih]
  unfold findM
  rw [List.find?_cons]
  by_cases h3 : x.f0 = a
  ·rw [if_pos h3, dT h3]
   by_cases h4 : x.f2 = t
   ·rw [if_pos (by rw [h4]), dT h4]
    show (if ([] : List Int).length + x.f1.length < 17592186044416 then _ else _) = _
    rw [if_pos (by simp; omega)]
    rfl
   ·rw [if_neg (fun hh => h4 ((bytesEq_iff _ _).1 hh)), decide_eq_false h4]
    rfl
  ·rw [if_neg h3, decide_eq_false h3]
   rfl
theorem plGet_ok (l : List Mp) (a : Int) (t : ByteArray) (k : Nat) (h : plFewM l) (hk : 900 ≤ k) : r11_Get.f k l a t = some (optP (getM l a t)) := by
 have hv : r11_valid.f k l = some (if checkM l = 0 then l else []) := by
  unfold r11_valid.f
  rw [plCheckM_ok l k h hk]
  show (if checkM l = 0 then _ else _) = _
  split <;> rfl
 unfold r11_Get.f getM
 rw [hv]
 show (r11_find.f k (if checkM l = 0 then l else []) a t).bind _ = _
 by_cases hc : checkM l = 0
 ·rw [if_pos hc, if_pos hc]
  have : r11_find.f k l a t = _ := plFind_go a t l [] k h (by have := h.1; omega)
  rw [this]
  rfl
 ·rw [if_neg hc, if_neg hc]
  have : r11_find.f k [] a t = _ := plFind_go a t [] [] k plFewM_nil (by simp; omega)
  rw [this]
  rfl
theorem plMapd_ok (l : List Mp) (x : Int) (k : Nat) (h : plFewM l) (hk : 900 ≤ k) : r37_mapped.f k l x = some (mapdS l x) := by
 unfold r37_mapped.f mapdS
 have : r11_Get.f k l x (⟨#[]⟩ : ByteArray) = _ := plGet_ok l x tagE k h hk
 rw [this]
 cases getM l x tagE <;> rfl
theorem plOnly_ok (l : List Int) (x : Int) : r37_only.f l x = some (onlyS l x) := by
 unfold r37_only.f onlyS
 by_cases h : l.length = 1
 ·rw [if_pos (by omega), if_pos h, if_pos (by omega)]
  rfl
 ·rw [if_neg (by omega), if_neg h]
theorem plSimple_ok (c : CaseS) (x : Int) (k : Nat) (h : plFewC c) (hk : 1000 ≤ k) : r37_Simple.f k c.lo c.up c.ti c.fo c.ca c.ig x = some (SimpleS c x) := by
 have hd := plData_few h
 unfold r37_Simple.f SimpleS
 rw [plData_ok c k h hk]
 simp only [Option.bind_some]
 rw [plMapd_ok _ _ k hd.1 (by omega), plMapd_ok _ _ k hd.2.1 (by omega), plMapd_ok _ _ k hd.2.2.1 (by omega)]
 simp only [Option.bind_some, plOnly_ok]
@[irreducible] def plW (d : Nat) : Int := 100000 * (d : Int)
@[irreducible] def plV (d : Nat) : Int := 5000000 * (d : Int)
end Go.Proofs.Ythnkmcfhpjmihaa.Q
end
section
namespace Go.Proofs.Ythnkmcfhpjmihaa.Q
open Go.RowKit Go.Proofs.YthnkmcfhpjmihaaW.PrintWords Go.Proofs.YthnkmcfhpjmihaaW.PrintLast Go.Proofs.YthnkmcfhpjmihaaW.PrintMore
attribute [local go_sem] max2_int min2_int max_two min_two max_three min_three max_four min_four
set_option linter.unusedVariables false
set_option linter.unusedSimpArgs false
mutual
def r01_Compare.l0 : Nat → List Int → List Int → Int → Option (Int)
 | 0, _, _, _ => none
 | k + 1, x0, x1, x5 => if x5 < (x0.length : Int) then (r01_Compare.j1 k x0 x1 x5 (decide (x5 < (x1.length : Int)))) else (r01_Compare.j1 k x0 x1 x5 false)
def r01_Compare.j1 : Nat → List Int → List Int → Int → Bool → Option (Int)
 | 0, _, _, _, _ => none
 | k + 1, x0, x1, x5, x15 => if x15 = true then (if 0 ≤ x5 then (if x5 < (x0.length : Int) then (if x5 < (x1.length : Int) then (if (rd x0 x5) < (rd x1 x5) then (some (-1)) else (if (rd x0 x5) > (rd x1 x5) then (some 1) else (r01_Compare.l0 k x0 x1 (wrap64 (x5 + 1))))) else (none)) else (none)) else (none)) else (if (x0.length : Int) < (x1.length : Int) then (some (-1)) else (if (x0.length : Int) > (x1.length : Int) then (some 1) else (some 0)))
end
def r01_Compare.f (k : Nat) (l0 : List Int) (l1 : List Int) : Option (Int) := r01_Compare.l0 k l0 l1 0
set_option maxHeartbeats 8000000 in
set_option maxRecDepth 100000 in
theorem r01_Compare.calls (k : Nat) (A0 : Option Addr) (c0 : Nat) (l0 : List Int) (A1 : Option Addr) (c1 : Nat) (l1 : List Int) (r : Int) (w : World) (hr0 : Kd.C (Kd.int .i64) w A0 l0.length l0) (hc0 : l0.length ≤ c0) (hr1 : Kd.C (Kd.int .i64) w A1 l1.length l1) (hc1 : l1.length ≤ c1) (h : r01_Compare.f k l0 l1 = some r) :
  Calls Try.prog 35 #[.slice A0 l0.length c0, .slice A1 l1.length c1] w fun e w' => e = .returned (.int .i64 r) ∧ Drawn0 w w' := by
 have HR0 := aM hr0
 have HC0 := aM hc0
 clear hr0 hc0
 have HR1 := aM hr1
 have HC1 := aM hc1
 clear hr1 hc1
 have H : (r01_Compare.l0 k l0 l1 0) = some r := h
 clear h
 have H' := aM H
 clear H
 go_enter Try.func35, Try.ntmps35
 go_wp2
 repeat (go_quiet (fail); try go_wp2)
 go_loopg [5] k (fun kq v5 w' => ∃ (x5_1 : Int), v5 = .int .i64 x5_1 ∧ Aside0 (r01_Compare.l0 kq l0 l1 x5_1 = some r) ∧ Aside0 (kq ≤ k) ∧ Drawn0 w w')
 case atStart => exact ⟨(0), (by first | rfl | (simp; done) | (simp [*]; done)), H', ⟨Nat.le_refl _⟩, by repeat (first | exact Drawn0.refl _ | apply Drawn0.step)⟩
 case round =>
  clear H'
  try clear c1
  try clear p2
  obtain ⟨x5_1, rfl, HA, HK1, ⟨m1, rfl⟩⟩ := hrel
  cases gk with
  | zero => exact absurd HA.out (by simp [r01_Compare.l0])
  | succ k1 =>
   have H := HA.out
   clear HA
   simp only [r01_Compare.l0] at H
   have HC3 := aM H
   clear H
   go_upto_region 2 with (fail)
   repeat (go_quiet (fail); go_upto_region 2 with (fail))
   go_cut [15] (fun v15 wc => ∃ (kq : Nat) (x15_2 : Bool), v15 = .bool x15_2 ∧ Aside0 (r01_Compare.j1 kq l0 l1 x5_1 x15_2 = some r) ∧ Aside0 (kq ≤ k1) ∧ Drawn0 w wc)
   case first =>
    have H := HC3.out
    clear HC3
    by_cases c4 : x5_1 < (l0.length : Int)
    ·rw [if_pos c4] at H
     have c4b0 : decide (x5_1 < (l0.length : Int)) = true := dT c4
     clear c4
     (first | rw [c4b0] | (simp only [i64_w, i32_w]; rw [c4b0]) | skip)
     have H' := aM H
     clear H
     go_wp2
     repeat (go_quiet (fail); try go_wp2)
     go_meet
     case rel => exact ⟨_, (decide (x5_1 < (l1.length : Int))), (by first | rfl | (simp; done) | (simp [*]; done)), H', ⟨by have := HK1.out; first | omega | exact Nat.le_refl _⟩, by repeat (first | exact Drawn0.refl _ | apply Drawn0.step)⟩
    ·rw [if_neg c4] at H
     have c4b0 : decide (x5_1 < (l0.length : Int)) = false := decide_eq_false c4
     clear c4
     (first | rw [c4b0] | (simp only [i64_w, i32_w]; rw [c4b0]) | skip)
     have H' := aM H
     clear H
     go_wp2
     repeat (go_quiet (fail); try go_wp2)
     go_meet
     case rel => exact ⟨_, (false), (by first | rfl | (simp; done) | (simp [*]; done)), H', ⟨by have := HK1.out; first | omega | exact Nat.le_refl _⟩, by repeat (first | exact Drawn0.refl _ | apply Drawn0.step)⟩
   case rest =>
    clear HC3
    try clear c1
    try clear p2
    try clear c3
    try clear c4
    try clear c4b0
    try clear p2
    obtain ⟨kq, x15_2, rfl, HA, HJ2, ⟨mc2, rfl⟩⟩ := hcut
    cases kq with
    | zero => exact absurd HA.out (by simp [r01_Compare.j1])
    | succ kj2 =>
     have H := HA.out
     clear HA
     simp only [r01_Compare.j1] at H
     by_cases c5 : x15_2 = true
     ·subst c5
      have H1 : (if 0 ≤ x5_1 then (if x5_1 < (l0.length : Int) then (if x5_1 < (l1.length : Int) then (if (rd l0 x5_1) < (rd l1 x5_1) then (some (-1)) else (if (rd l0 x5_1) > (rd l1 x5_1) then (some 1) else (r01_Compare.l0 kj2 l0 l1 (wrap64 (x5_1 + 1))))) else (none)) else (none)) else (none)) = some r := by rw [if_pos rfl] at H; exact H
      clear H
      have H := H1
      clear H1
      by_cases c6 : 0 ≤ x5_1
      ·rw [if_pos c6] at H
       have c6b0 : decide (0 ≤ x5_1) = true := dT c6
       clear c6
       by_cases c7 : x5_1 < (l0.length : Int)
       ·rw [if_pos c7] at H
        have c7b0 : decide (x5_1 < (l0.length : Int)) = true := dT c7
        clear c7
        by_cases c8 : x5_1 < (l1.length : Int)
        ·rw [if_pos c8] at H
         have c8b0 : decide (x5_1 < (l1.length : Int)) = true := dT c8
         clear c8
         by_cases c9 : (rd l0 x5_1) < (rd l1 x5_1)
         ·rw [if_pos c9] at H
          have c9b0 : decide ((rd l0 x5_1) < (rd l1 x5_1)) = true := dT c9
          clear c9
          obtain rfl := Option.some.inj H
          have p118 : 0 ≤ (x5_1 : Int) := oD (by first | (with_reducible assumption) | assumption)
          have q118 : x5_1 < (l0.length : Int) := oD (by first | (with_reducible assumption) | assumption)
          obtain ⟨ad118, e118, hx118_0⟩ := Kd.at_int HR0.out x5_1 p118 q118
          cases e118
          replace p118 := eq_true p118
          replace q118 := eq_true q118
          have p119 : 0 ≤ (x5_1 : Int) := oD (by first | (with_reducible assumption) | assumption)
          have q119 : x5_1 < (l1.length : Int) := oD (by first | (with_reducible assumption) | assumption)
          obtain ⟨ad119, e119, hx119_0⟩ := Kd.at_int HR1.out x5_1 p119 q119
          cases e119
          replace p119 := eq_true p119
          replace q119 := eq_true q119
          go_wp2
          repeat (go_quiet (fail); try go_wp2)
          go_ret
          exact ⟨by first | rfl | (simp; done) | (simp [*]; done), by repeat (first | exact Drawn0.refl _ | apply Drawn0.step)⟩
         ·rw [if_neg c9] at H
          have c9b0 : decide ((rd l0 x5_1) < (rd l1 x5_1)) = false := decide_eq_false c9
          clear c9
          by_cases c10 : (rd l0 x5_1) > (rd l1 x5_1)
          ·rw [if_pos c10] at H
           have c10b0 : decide ((rd l1 x5_1) < (rd l0 x5_1)) = true := dT c10
           clear c10
           obtain rfl := Option.some.inj H
           have p118 : 0 ≤ (x5_1 : Int) := oD (by first | (with_reducible assumption) | assumption)
           have q118 : x5_1 < (l0.length : Int) := oD (by first | (with_reducible assumption) | assumption)
           obtain ⟨ad118, e118, hx118_0⟩ := Kd.at_int HR0.out x5_1 p118 q118
           cases e118
           replace p118 := eq_true p118
           replace q118 := eq_true q118
           have p119 : 0 ≤ (x5_1 : Int) := oD (by first | (with_reducible assumption) | assumption)
           have q119 : x5_1 < (l1.length : Int) := oD (by first | (with_reducible assumption) | assumption)
           obtain ⟨ad119, e119, hx119_0⟩ := Kd.at_int HR1.out x5_1 p119 q119
           cases e119
           replace p119 := eq_true p119
           replace q119 := eq_true q119
           have p120 : 0 ≤ (x5_1 : Int) := oD (by first | (with_reducible assumption) | assumption)
           have q120 : x5_1 < (l0.length : Int) := oD (by first | (with_reducible assumption) | assumption)
           obtain ⟨ad120, e120, hx120_0⟩ := Kd.at_int HR0.out x5_1 p120 q120
           obtain rfl : ad118 = ad120 := (by injection e120)
           replace p120 := eq_true p120
           replace q120 := eq_true q120
           have p121 : 0 ≤ (x5_1 : Int) := oD (by first | (with_reducible assumption) | assumption)
           have q121 : x5_1 < (l1.length : Int) := oD (by first | (with_reducible assumption) | assumption)
           obtain ⟨ad121, e121, hx121_0⟩ := Kd.at_int HR1.out x5_1 p121 q121
           obtain rfl : ad119 = ad121 := (by injection e121)
           replace p121 := eq_true p121
           replace q121 := eq_true q121
           go_wp2
           repeat (go_quiet (fail); try go_wp2)
           go_ret
           exact ⟨by first | rfl | (simp; done) | (simp [*]; done), by repeat (first | exact Drawn0.refl _ | apply Drawn0.step)⟩
          ·rw [if_neg c10] at H
           have c10b0 : decide ((rd l1 x5_1) < (rd l0 x5_1)) = false := decide_eq_false c10
           clear c10
           have H' := aM H
           clear H
           have p118 : 0 ≤ (x5_1 : Int) := oD (by first | (with_reducible assumption) | assumption)
           have q118 : x5_1 < (l0.length : Int) := oD (by first | (with_reducible assumption) | assumption)
           obtain ⟨ad118, e118, hx118_0⟩ := Kd.at_int HR0.out x5_1 p118 q118
           cases e118
           replace p118 := eq_true p118
           replace q118 := eq_true q118
           have p119 : 0 ≤ (x5_1 : Int) := oD (by first | (with_reducible assumption) | assumption)
           have q119 : x5_1 < (l1.length : Int) := oD (by first | (with_reducible assumption) | assumption)
           obtain ⟨ad119, e119, hx119_0⟩ := Kd.at_int HR1.out x5_1 p119 q119
           cases e119
           replace p119 := eq_true p119
           replace q119 := eq_true q119
           have p120 : 0 ≤ (x5_1 : Int) := oD (by first | (with_reducible assumption) | assumption)
           have q120 : x5_1 < (l0.length : Int) := oD (by first | (with_reducible assumption) | assumption)
           obtain ⟨ad120, e120, hx120_0⟩ := Kd.at_int HR0.out x5_1 p120 q120
           obtain rfl : ad118 = ad120 := (by injection e120)
           replace p120 := eq_true p120
           replace q120 := eq_true q120
           have p121 : 0 ≤ (x5_1 : Int) := oD (by first | (with_reducible assumption) | assumption)
           have q121 : x5_1 < (l1.length : Int) := oD (by first | (with_reducible assumption) | assumption)
           obtain ⟨ad121, e121, hx121_0⟩ := Kd.at_int HR1.out x5_1 p121 q121
           obtain rfl : ad119 = ad121 := (by injection e121)
           replace p121 := eq_true p121
           replace q121 := eq_true q121
           go_wp2
           repeat (go_quiet (fail); try go_wp2)
           go_roundg kj2
           case measure => have := HK1.out; have := HJ2.out; omega
           case rel => exact ⟨(wrap64 (x5_1 + 1)), (by first | rfl | (simp; done) | (simp [*]; done)), H', ⟨by have := HK1.out; have := HJ2.out; omega⟩, by repeat (first | exact Drawn0.refl _ | apply Drawn0.step)⟩
        ·rw [if_neg c8] at H
         exact absurd H (by simp)
       ·rw [if_neg c7] at H
        exact absurd H (by simp)
      ·rw [if_neg c6] at H
       exact absurd H (by simp)
     ·replace c5 := Bool.eq_false_iff.mpr c5
      subst c5
      have H1 : (if (l0.length : Int) < (l1.length : Int) then (some (-1)) else (if (l0.length : Int) > (l1.length : Int) then (some 1) else (some 0))) = some r := by rw [if_neg (show ¬ (false = true) by decide)] at H; exact H
      clear H
      have H := H1
      clear H1
      by_cases c11 : (l0.length : Int) < (l1.length : Int)
      ·rw [if_pos c11] at H
       have c11b0 : decide ((l0.length : Int) < (l1.length : Int)) = true := dT c11
       have c11b1 : decide (l0.length < l1.length) = true := dT (Int.ofNat_lt.mp c11)
       clear c11
       obtain rfl := Option.some.inj H
       go_wp2
       repeat (go_quiet (fail); try go_wp2)
       go_ret
       exact ⟨by first | rfl | (simp; done) | (simp [*]; done), by repeat (first | exact Drawn0.refl _ | apply Drawn0.step)⟩
      ·rw [if_neg c11] at H
       have c11b0 : decide ((l0.length : Int) < (l1.length : Int)) = false := decide_eq_false c11
       have c11b1 : decide (l0.length < l1.length) = false := decide_eq_false (fun h => c11 (Int.ofNat_lt.mpr h))
       clear c11
       by_cases c12 : (l0.length : Int) > (l1.length : Int)
       ·rw [if_pos c12] at H
        have c12b0 : decide ((l1.length : Int) < (l0.length : Int)) = true := dT c12
        have c12b1 : decide (l1.length < l0.length) = true := dT (Int.ofNat_lt.mp c12)
        clear c12
        obtain rfl := Option.some.inj H
        go_wp2
        repeat (go_quiet (fail); try go_wp2)
        go_ret
        exact ⟨by first | rfl | (simp; done) | (simp [*]; done), by repeat (first | exact Drawn0.refl _ | apply Drawn0.step)⟩
       ·rw [if_neg c12] at H
        have c12b0 : decide ((l1.length : Int) < (l0.length : Int)) = false := decide_eq_false c12
        have c12b1 : decide (l1.length < l0.length) = false := decide_eq_false (fun h => c12 (Int.ofNat_lt.mpr h))
        clear c12
        obtain rfl := Option.some.inj H
        go_wp2
        repeat (go_quiet (fail); try go_wp2)
        go_ret
        exact ⟨by first | rfl | (simp; done) | (simp [*]; done), by repeat (first | exact Drawn0.refl _ | apply Drawn0.step)⟩
def r01_Equal.f (k : Nat) (l0 : List Int) (l1 : List Int) : Option (Bool) := (r01_Compare.f k l0 l1).bind fun t122 => (some (t122 == 0))
set_option maxHeartbeats 8000000 in
set_option maxRecDepth 100000 in
theorem r01_Equal.calls (k : Nat) (A0 : Option Addr) (c0 : Nat) (l0 : List Int) (A1 : Option Addr) (c1 : Nat) (l1 : List Int) (r : Bool) (w : World) (hr0 : Kd.C (Kd.int .i64) w A0 l0.length l0) (hc0 : l0.length ≤ c0) (hr1 : Kd.C (Kd.int .i64) w A1 l1.length l1) (hc1 : l1.length ≤ c1) (h : r01_Equal.f k l0 l1 = some r) :
  Calls Try.prog 16 #[.slice A0 l0.length c0, .slice A1 l1.length c1] w fun e w' => e = .returned (.bool r) ∧ Drawn0 w w' := by
 have HR0 := aM hr0
 have HC0 := aM hc0
 clear hr0 hc0
 have HR1 := aM hr1
 have HC1 := aM hc1
 clear hr1 hc1
 have H : ((r01_Compare.f k l0 l1).bind fun t122 => (some (t122 == 0))) = some r := h
 clear h
 replace H := Option.bind_eq_some_iff.mp H
 obtain ⟨t122, A30, H⟩ := H
 replace H : (some (t122 == 0)) = some r := H
 have A3 := aM A30
 clear A30
 obtain rfl := Option.some.inj H
 go_enter Try.func16, Try.ntmps16
 go_wp2_with (first | ((with_reducible refine gate_callee (f := 35) rfl ?_); refine goesL_ (some 7) rfl rfl Try.func35 (by kernel_rfl) rfl #[.slice A0 l0.length c0, .slice A1 l1.length c1] rfl (by (try simp only [List.map_toArray, List.map_cons, List.map_nil]); first | done | rfl | (simp only [List.length_drop, List.length_take]; rfl)) ?_; (with_reducible refine (r01_Compare.calls k _ _ l0 _ _ l1 t122 _ ?side1 ?side2 ?side3 ?side4 A3.out).mono ?_); (case side1 => repeat (first | exact HR0.out | (with_reducible refine Kd.C_alloc ?_ _) | (with_reducible refine Kd.C_drewN ?_ _) | (with_reducible refine Kd.C_drew ?_))); (case side2 => exact HC0.out); (case side3 => repeat (first | exact HR1.out | (with_reducible refine Kd.C_alloc ?_ _) | (with_reducible refine Kd.C_drewN ?_ _) | (with_reducible refine Kd.C_drew ?_))); (case side4 => exact HC1.out); rintro e w' ⟨rfl, ⟨nd, rfl⟩⟩; refine ⟨_, rfl, ?_⟩))
 go_ret
 exact ⟨by first | rfl | (simp; done) | (simp [*]; done), by repeat (first | exact Drawn0.refl _ | apply Drawn0.step)⟩
attribute [local go_sem] max2_int min2_int max_two min_two max_three min_three max_four min_four
set_option linter.unusedVariables false
set_option linter.unusedSimpArgs false
def w37_alive.f : Option Bool := some true
theorem plCmp_go : ∀ (xs ys px py : List Int) (k : Nat), px.length = py.length → (px ++ xs).length < 1000000000 → 2 * xs.length + 2 ≤ k →
  ∃ c, r01_Compare.l0 k (px ++ xs) (py ++ ys) (px.length : Int) = some c ∧ (c = 0 ↔ xs = ys)
 | [], [], px, py, k, h1, h2, h3 => by
  obtain ⟨k, rfl⟩ : ∃ j, k = j + 2 := ⟨k - 2, by omega⟩
  rw [r01_Compare.l0, if_neg (by simp), r01_Compare.j1, if_neg (by decide), if_neg (by simp [h1]), if_neg (by simp [h1])]
  exact ⟨0, rfl, by simp⟩
 | [], y :: ys, px, py, k, h1, h2, h3 => by
  obtain ⟨k, rfl⟩ : ∃ j, k = j + 2 := ⟨k - 2, by omega⟩
  rw [r01_Compare.l0, if_neg (by simp), r01_Compare.j1, if_neg (by decide), if_pos (by simp [h1]; omega)]
  exact ⟨-1, rfl, by simp⟩
 | x :: xs, [], px, py, k, h1, h2, h3 => by
  obtain ⟨k, rfl⟩ : ∃ j, k = j + 2 := ⟨k - 2, by omega⟩
  rw [r01_Compare.l0, if_pos (by simp; omega), decide_eq_false (by simp [h1]), r01_Compare.j1, if_neg (by decide), if_neg (by simp [h1]; omega), if_pos (by simp [h1]; omega)]
  exact ⟨1, rfl, by simp⟩
 | x :: xs, y :: ys, px, py, k, h1, h2, h3 => by
  obtain ⟨k, rfl⟩ : ∃ j, k = j + 2 := ⟨k - 2, by omega⟩
  have hp : px.length < 1000000000 := by simp at h2; omega
  obtain ⟨c, ih, hc⟩ := plCmp_go xs ys (px ++ [x]) (py ++ [y]) k (by simp [h1]) (by simpa using h2) (by simp at h3; omega)
  have ex : (px ++ [x]) ++ xs = px ++ x :: xs := by simp
  have ey : (py ++ [y]) ++ ys = py ++ y :: ys := by simp
  have el : ((px ++ [x]).length : Int) = ((px.length + 1 : Nat) : Int) := by simp
  rw [ex, ey, el] at ih
  have e1 : rd (py ++ y :: ys) (px.length : Int) = y := by rw [h1]; exact rd_mid _ _ _
  rw [r01_Compare.l0, if_pos (by simp; omega), dT (by simp [h1]; omega), r01_Compare.j1, if_pos rfl, if_pos (by omega), if_pos (by simp; omega), if_pos (by simp [h1]; omega), rd_mid, e1, wrap_suc hp, ih]
  by_cases a : x < y
  ·rw [if_pos a]
   exact ⟨-1, rfl, ⟨fun h => absurd h (by decide), fun h => by injection h with h; omega⟩⟩
  ·rw [if_neg a]
   by_cases b : x > y
   ·rw [if_pos b]
    exact ⟨1, rfl, ⟨fun h => absurd h (by decide), fun h => by injection h with h; omega⟩⟩
   ·rw [if_neg b]
    obtain rfl : x = y := by omega
    exact ⟨c, rfl, by rw [hc]; simp⟩
theorem plEqual_ok (a b : List Int) (k : Nat) (h : a.length < 1000000000) (hk : 2 * a.length + 2 ≤ k) : r01_Equal.f k a b = some (decide (a = b)) := by
 obtain ⟨c, e, hc⟩ := plCmp_go a b [] [] k rfl (by simpa using h) hk
 unfold r01_Equal.f r01_Compare.f
 refine (congrArg (fun o => Option.bind o _) e).trans ?_
 show some (c == 0) = _
 congr 1
 rw [Bool.eq_iff_iff]
 simp [hc]
def plEx : List Mp := [⟨931, [963], ⟨#[]⟩⟩, ⟨931, [962], ⟨#[102, 105, 110, 97, 108]⟩⟩]
def plExR : List Rg := [⟨913, 937⟩]
theorem plAlive1 : casemap_Lower.f plEx [] [] [] plExR [] [913, 931] = some [913, 962] := by kernel_rfl
theorem plAlive2 : casemap_Lower.f plEx [] [] [] plExR [] [931] = some [963] := by kernel_rfl
theorem plAlive3 : casemap_Final.f plEx [] [] [] plExR [] [913, 931] 1 = some true := by kernel_rfl
def aliveP (k : Nat)  : Option (Bool) := (some (([(⟨931, (([963] : List Int)), (⟨#[]⟩ : ByteArray)⟩ : S43), (⟨931, (([962] : List Int)), (⟨#[102, 105, 110, 97, 108]⟩ : ByteArray)⟩ : S43)] : List (S43)) : List (S43))).bind fun y143 => ((some (([(⟨913, 937⟩ : S33)] : List (S33)) : List (S33))).bind fun y146 => ((casemap_Lower.f y143 ([] : List (S43)) ([] : List (S43)) ([] : List (S43)) y146 ([] : List (S33)) (([913, 931] : List Int))).bind fun t153 => ((r01_Equal.f k t153 (([913, 962] : List Int))).bind fun t159 => (if t159 = true then ((casemap_Lower.f y143 ([] : List (S43)) ([] : List (S43)) ([] : List (S43)) y146 ([] : List (S33)) (([931] : List Int))).bind fun t163 => ((r01_Equal.f k t163 (([963] : List Int))).bind fun t169 => (if t169 = true then ((casemap_Final.f y143 ([] : List (S43)) ([] : List (S43)) ([] : List (S43)) y146 ([] : List (S33)) (([913, 931] : List Int)) 1).bind fun t173 => (some t173)) else (some false)))) else (some false)))))
theorem aliveP_ok : aliveP 20 = some true := by
 show (casemap_Lower.f plEx [] [] [] plExR [] [913, 931]).bind (fun t153 => (r01_Equal.f 20 t153 [913, 962]).bind fun t159 => if t159 = true then (casemap_Lower.f plEx [] [] [] plExR [] [931]).bind (fun t163 => (r01_Equal.f 20 t163 [963]).bind fun t169 => if t169 = true then (casemap_Final.f plEx [] [] [] plExR [] [913, 931] 1).bind (fun t173 => some t173) else some false) else some false) = some true
 rw [plAlive1, plAlive2, plAlive3]
 simp only [Option.bind_some]
 rw [plEqual_ok _ _ _ (by decide) (by simp), plEqual_ok _ _ _ (by decide) (by simp)]
 rfl
set_option maxHeartbeats 8000000 in
set_option maxRecDepth 100000 in
theorem aliveP_calls (k : Nat) (w : World) (h : aliveP k = some true) :
  Calls Try.prog 14 #[] w fun e w' => e = .returned (.bool true) ∧ Below w.heap.size w w' := by
 have hu43 := Try.underlying43
 have hu33 := Try.underlying33
 have hu25 := Try.underlying25
 have hu27 := Try.underlying27
 have HB := aM (Below.refl w.heap.size w)
 have H : ((some (([(⟨931, (([963] : List Int)), (⟨#[]⟩ : ByteArray)⟩ : S43), (⟨931, (([962] : List Int)), (⟨#[102, 105, 110, 97, 108]⟩ : ByteArray)⟩ : S43)] : List (S43)) : List (S43))).bind fun y143 => ((some (([(⟨913, 937⟩ : S33)] : List (S33)) : List (S33))).bind fun y146 => ((casemap_Lower.f y143 ([] : List (S43)) ([] : List (S43)) ([] : List (S43)) y146 ([] : List (S33)) (([913, 931] : List Int))).bind fun t153 => ((r01_Equal.f k t153 (([913, 962] : List Int))).bind fun t159 => (if t159 = true then ((casemap_Lower.f y143 ([] : List (S43)) ([] : List (S43)) ([] : List (S43)) y146 ([] : List (S33)) (([931] : List Int))).bind fun t163 => ((r01_Equal.f k t163 (([963] : List Int))).bind fun t169 => (if t169 = true then ((casemap_Final.f y143 ([] : List (S43)) ([] : List (S43)) ([] : List (S43)) y146 ([] : List (S33)) (([913, 931] : List Int)) 1).bind fun t173 => (some t173)) else (some false)))) else (some false)))))) = some true := h
 clear h
 obtain ⟨y137, hy137⟩ : ∃ y_ : List Int, y_ = (([963] : List Int)) := ⟨_, rfl⟩
 replace H : ((some (([(⟨931, y137, (⟨#[]⟩ : ByteArray)⟩ : S43), (⟨931, (([962] : List Int)), (⟨#[102, 105, 110, 97, 108]⟩ : ByteArray)⟩ : S43)] : List (S43)) : List (S43))).bind fun y143 => ((some (([(⟨913, 937⟩ : S33)] : List (S33)) : List (S33))).bind fun y146 => ((casemap_Lower.f y143 ([] : List (S43)) ([] : List (S43)) ([] : List (S43)) y146 ([] : List (S33)) (([913, 931] : List Int))).bind fun t153 => ((r01_Equal.f k t153 (([913, 962] : List Int))).bind fun t159 => (if t159 = true then ((casemap_Lower.f y143 ([] : List (S43)) ([] : List (S43)) ([] : List (S43)) y146 ([] : List (S33)) (([931] : List Int))).bind fun t163 => ((r01_Equal.f k t163 (([963] : List Int))).bind fun t169 => (if t169 = true then ((casemap_Final.f y143 ([] : List (S43)) ([] : List (S43)) ([] : List (S43)) y146 ([] : List (S33)) (([913, 931] : List Int)) 1).bind fun t173 => (some t173)) else (some false)))) else (some false)))))) = some true := by first | (rw [hy137]; with_reducible exact H) | (have H2_ := (Option.bind_some _ _).symm.trans H; rw [hy137]; with_reducible exact H2_) | (have H2_ := (Option.bind_some _ _).symm.trans H; with_reducible exact H2_) | with_reducible exact H | (rw [hy137]; exact H) | exact H
 have Ny137 := aM hy137
 clear hy137
 obtain ⟨y140, hy140⟩ : ∃ y_ : List Int, y_ = (([962] : List Int)) := ⟨_, rfl⟩
 replace H : ((some (([(⟨931, y137, (⟨#[]⟩ : ByteArray)⟩ : S43), (⟨931, y140, (⟨#[102, 105, 110, 97, 108]⟩ : ByteArray)⟩ : S43)] : List (S43)) : List (S43))).bind fun y143 => ((some (([(⟨913, 937⟩ : S33)] : List (S33)) : List (S33))).bind fun y146 => ((casemap_Lower.f y143 ([] : List (S43)) ([] : List (S43)) ([] : List (S43)) y146 ([] : List (S33)) (([913, 931] : List Int))).bind fun t153 => ((r01_Equal.f k t153 (([913, 962] : List Int))).bind fun t159 => (if t159 = true then ((casemap_Lower.f y143 ([] : List (S43)) ([] : List (S43)) ([] : List (S43)) y146 ([] : List (S33)) (([931] : List Int))).bind fun t163 => ((r01_Equal.f k t163 (([963] : List Int))).bind fun t169 => (if t169 = true then ((casemap_Final.f y143 ([] : List (S43)) ([] : List (S43)) ([] : List (S43)) y146 ([] : List (S33)) (([913, 931] : List Int)) 1).bind fun t173 => (some t173)) else (some false)))) else (some false)))))) = some true := by first | (rw [hy140]; with_reducible exact H) | (have H2_ := (Option.bind_some _ _).symm.trans H; rw [hy140]; with_reducible exact H2_) | (have H2_ := (Option.bind_some _ _).symm.trans H; with_reducible exact H2_) | with_reducible exact H | (rw [hy140]; exact H) | exact H
 have Ny140 := aM hy140
 clear hy140
 obtain ⟨y143, hy143⟩ : ∃ y_ : List (S43), y_ = (([(⟨931, y137, (⟨#[]⟩ : ByteArray)⟩ : S43), (⟨931, y140, (⟨#[102, 105, 110, 97, 108]⟩ : ByteArray)⟩ : S43)] : List (S43))) := ⟨_, rfl⟩
 replace H : ((some (([(⟨913, 937⟩ : S33)] : List (S33)) : List (S33))).bind fun y146 => ((casemap_Lower.f y143 ([] : List (S43)) ([] : List (S43)) ([] : List (S43)) y146 ([] : List (S33)) (([913, 931] : List Int))).bind fun t153 => ((r01_Equal.f k t153 (([913, 962] : List Int))).bind fun t159 => (if t159 = true then ((casemap_Lower.f y143 ([] : List (S43)) ([] : List (S43)) ([] : List (S43)) y146 ([] : List (S33)) (([931] : List Int))).bind fun t163 => ((r01_Equal.f k t163 (([963] : List Int))).bind fun t169 => (if t169 = true then ((casemap_Final.f y143 ([] : List (S43)) ([] : List (S43)) ([] : List (S43)) y146 ([] : List (S33)) (([913, 931] : List Int)) 1).bind fun t173 => (some t173)) else (some false)))) else (some false))))) = some true := by first | (rw [hy143]; with_reducible exact H) | (have H2_ := (Option.bind_some _ _).symm.trans H; rw [hy143]; with_reducible exact H2_) | (have H2_ := (Option.bind_some _ _).symm.trans H; with_reducible exact H2_) | with_reducible exact H | (rw [hy143]; exact H) | exact H
 have Ny143 := aM hy143
 clear hy143
 obtain ⟨y146, hy146⟩ : ∃ y_ : List (S33), y_ = (([(⟨913, 937⟩ : S33)] : List (S33))) := ⟨_, rfl⟩
 replace H : ((casemap_Lower.f y143 ([] : List (S43)) ([] : List (S43)) ([] : List (S43)) y146 ([] : List (S33)) (([913, 931] : List Int))).bind fun t153 => ((r01_Equal.f k t153 (([913, 962] : List Int))).bind fun t159 => (if t159 = true then ((casemap_Lower.f y143 ([] : List (S43)) ([] : List (S43)) ([] : List (S43)) y146 ([] : List (S33)) (([931] : List Int))).bind fun t163 => ((r01_Equal.f k t163 (([963] : List Int))).bind fun t169 => (if t169 = true then ((casemap_Final.f y143 ([] : List (S43)) ([] : List (S43)) ([] : List (S43)) y146 ([] : List (S33)) (([913, 931] : List Int)) 1).bind fun t173 => (some t173)) else (some false)))) else (some false)))) = some true := by first | (rw [hy146]; with_reducible exact H) | (have H2_ := (Option.bind_some _ _).symm.trans H; rw [hy146]; with_reducible exact H2_) | (have H2_ := (Option.bind_some _ _).symm.trans H; with_reducible exact H2_) | with_reducible exact H | (rw [hy146]; exact H) | exact H
 have Ny146 := aM hy146
 clear hy146
 obtain ⟨y150, hy150⟩ : ∃ y_ : List Int, y_ = (([913, 931] : List Int)) := ⟨_, rfl⟩
 replace H : ((casemap_Lower.f y143 ([] : List (S43)) ([] : List (S43)) ([] : List (S43)) y146 ([] : List (S33)) y150).bind fun t153 => ((r01_Equal.f k t153 (([913, 962] : List Int))).bind fun t159 => (if t159 = true then ((casemap_Lower.f y143 ([] : List (S43)) ([] : List (S43)) ([] : List (S43)) y146 ([] : List (S33)) (([931] : List Int))).bind fun t163 => ((r01_Equal.f k t163 (([963] : List Int))).bind fun t169 => (if t169 = true then ((casemap_Final.f y143 ([] : List (S43)) ([] : List (S43)) ([] : List (S43)) y146 ([] : List (S33)) (([913, 931] : List Int)) 1).bind fun t173 => (some t173)) else (some false)))) else (some false)))) = some true := by first | (rw [hy150]; with_reducible exact H) | (have H2_ := (Option.bind_some _ _).symm.trans H; rw [hy150]; with_reducible exact H2_) | (have H2_ := (Option.bind_some _ _).symm.trans H; with_reducible exact H2_) | with_reducible exact H | (rw [hy150]; exact H) | exact H
 have Ny150 := aM hy150
 clear hy150
 replace H := Option.bind_eq_some_iff.mp H
 obtain ⟨t153, A10, H⟩ := H
 replace H : ((r01_Equal.f k t153 (([913, 962] : List Int))).bind fun t159 => (if t159 = true then ((casemap_Lower.f y143 ([] : List (S43)) ([] : List (S43)) ([] : List (S43)) y146 ([] : List (S33)) (([931] : List Int))).bind fun t163 => ((r01_Equal.f k t163 (([963] : List Int))).bind fun t169 => (if t169 = true then ((casemap_Final.f y143 ([] : List (S43)) ([] : List (S43)) ([] : List (S43)) y146 ([] : List (S33)) (([913, 931] : List Int)) 1).bind fun t173 => (some t173)) else (some false)))) else (some false))) = some true := H
 have A1 := aM A10
 clear A10
 obtain ⟨y156, hy156⟩ : ∃ y_ : List Int, y_ = (([913, 962] : List Int)) := ⟨_, rfl⟩
 replace H : ((r01_Equal.f k t153 y156).bind fun t159 => (if t159 = true then ((casemap_Lower.f y143 ([] : List (S43)) ([] : List (S43)) ([] : List (S43)) y146 ([] : List (S33)) (([931] : List Int))).bind fun t163 => ((r01_Equal.f k t163 (([963] : List Int))).bind fun t169 => (if t169 = true then ((casemap_Final.f y143 ([] : List (S43)) ([] : List (S43)) ([] : List (S43)) y146 ([] : List (S33)) (([913, 931] : List Int)) 1).bind fun t173 => (some t173)) else (some false)))) else (some false))) = some true := by first | (rw [hy156]; with_reducible exact H) | (have H2_ := (Option.bind_some _ _).symm.trans H; rw [hy156]; with_reducible exact H2_) | (have H2_ := (Option.bind_some _ _).symm.trans H; with_reducible exact H2_) | with_reducible exact H | (rw [hy156]; exact H) | exact H
 have Ny156 := aM hy156
 clear hy156
 replace H := Option.bind_eq_some_iff.mp H
 obtain ⟨t159, A20, H⟩ := H
 replace H : (if t159 = true then ((casemap_Lower.f y143 ([] : List (S43)) ([] : List (S43)) ([] : List (S43)) y146 ([] : List (S33)) (([931] : List Int))).bind fun t163 => ((r01_Equal.f k t163 (([963] : List Int))).bind fun t169 => (if t169 = true then ((casemap_Final.f y143 ([] : List (S43)) ([] : List (S43)) ([] : List (S43)) y146 ([] : List (S33)) (([913, 931] : List Int)) 1).bind fun t173 => (some t173)) else (some false)))) else (some false)) = some true := H
 have A2 := aM A20
 clear A20
 by_cases c3 : t159 = true
 ·subst c3
  have H1 : ((casemap_Lower.f y143 ([] : List (S43)) ([] : List (S43)) ([] : List (S43)) y146 ([] : List (S33)) (([931] : List Int))).bind fun t163 => ((r01_Equal.f k t163 (([963] : List Int))).bind fun t169 => (if t169 = true then ((casemap_Final.f y143 ([] : List (S43)) ([] : List (S43)) ([] : List (S43)) y146 ([] : List (S33)) (([913, 931] : List Int)) 1).bind fun t173 => (some t173)) else (some false)))) = some true := by rw [if_pos rfl] at H; exact H
  clear H
  have H := H1
  clear H1
  obtain ⟨y160, hy160⟩ : ∃ y_ : List Int, y_ = (([931] : List Int)) := ⟨_, rfl⟩
  replace H : ((casemap_Lower.f y143 ([] : List (S43)) ([] : List (S43)) ([] : List (S43)) y146 ([] : List (S33)) y160).bind fun t163 => ((r01_Equal.f k t163 (([963] : List Int))).bind fun t169 => (if t169 = true then ((casemap_Final.f y143 ([] : List (S43)) ([] : List (S43)) ([] : List (S43)) y146 ([] : List (S33)) (([913, 931] : List Int)) 1).bind fun t173 => (some t173)) else (some false)))) = some true := by first | (rw [hy160]; with_reducible exact H) | (have H2_ := (Option.bind_some _ _).symm.trans H; rw [hy160]; with_reducible exact H2_) | (have H2_ := (Option.bind_some _ _).symm.trans H; with_reducible exact H2_) | with_reducible exact H | (rw [hy160]; exact H) | exact H
  have Ny160 := aM hy160
  clear hy160
  replace H := Option.bind_eq_some_iff.mp H
  obtain ⟨t163, A40, H⟩ := H
  replace H : ((r01_Equal.f k t163 (([963] : List Int))).bind fun t169 => (if t169 = true then ((casemap_Final.f y143 ([] : List (S43)) ([] : List (S43)) ([] : List (S43)) y146 ([] : List (S33)) (([913, 931] : List Int)) 1).bind fun t173 => (some t173)) else (some false))) = some true := H
  have A4 := aM A40
  clear A40
  obtain ⟨y166, hy166⟩ : ∃ y_ : List Int, y_ = (([963] : List Int)) := ⟨_, rfl⟩
  replace H : ((r01_Equal.f k t163 y166).bind fun t169 => (if t169 = true then ((casemap_Final.f y143 ([] : List (S43)) ([] : List (S43)) ([] : List (S43)) y146 ([] : List (S33)) (([913, 931] : List Int)) 1).bind fun t173 => (some t173)) else (some false))) = some true := by first | (rw [hy166]; with_reducible exact H) | (have H2_ := (Option.bind_some _ _).symm.trans H; rw [hy166]; with_reducible exact H2_) | (have H2_ := (Option.bind_some _ _).symm.trans H; with_reducible exact H2_) | with_reducible exact H | (rw [hy166]; exact H) | exact H
  have Ny166 := aM hy166
  clear hy166
  replace H := Option.bind_eq_some_iff.mp H
  obtain ⟨t169, A50, H⟩ := H
  replace H : (if t169 = true then ((casemap_Final.f y143 ([] : List (S43)) ([] : List (S43)) ([] : List (S43)) y146 ([] : List (S33)) (([913, 931] : List Int)) 1).bind fun t173 => (some t173)) else (some false)) = some true := H
  have A5 := aM A50
  clear A50
  by_cases c6 : t169 = true
  ·subst c6
   have H1 : ((casemap_Final.f y143 ([] : List (S43)) ([] : List (S43)) ([] : List (S43)) y146 ([] : List (S33)) (([913, 931] : List Int)) 1).bind fun t173 => (some t173)) = some true := by rw [if_pos rfl] at H; exact H
   clear H
   have H := H1
   clear H1
   obtain ⟨y170, hy170⟩ : ∃ y_ : List Int, y_ = (([913, 931] : List Int)) := ⟨_, rfl⟩
   replace H : ((casemap_Final.f y143 ([] : List (S43)) ([] : List (S43)) ([] : List (S43)) y146 ([] : List (S33)) y170 1).bind fun t173 => (some t173)) = some true := by first | (rw [hy170]; with_reducible exact H) | (have H2_ := (Option.bind_some _ _).symm.trans H; rw [hy170]; with_reducible exact H2_) | (have H2_ := (Option.bind_some _ _).symm.trans H; with_reducible exact H2_) | with_reducible exact H | (rw [hy170]; exact H) | exact H
   have Ny170 := aM hy170
   clear hy170
   replace H := Option.bind_eq_some_iff.mp H
   obtain ⟨t173, A70, H⟩ := H
   obtain rfl : t173 = true := Option.some.inj H
   have A7 := aM A70
   clear A70 H
   go_enter Try.func14, Try.ntmps14
   go_wp2_with (first | ((with_reducible refine gate_dst (N := 2) rfl ?_); (try (refine gate_guard (by rfl) ?_; dsimp only)); refine Kd.R_lit (Kd.int .i64) _ 3 ?hg (N := 2) ?hd (xs := ([963] : List Int)) (inner := [.int .i64 963]) (ok := fun _ => True) (okp := fun _ => True) ?hr ?hp (fun _ hk => hk) trivial (Below.refl _ _) (Nat.le_refl _) (by simp) ?_; (case hd => rfl); (case hg => rfl); (case hr => first | (go_simp; done) | (go_simp; rfl)); (case hp => exact (Reps.one (show Kd.M (Kd.int .i64) _ _ _ 963 [.int .i64 963] from rfl) (Reps.none _ _))); intro v138 w8 ho9 hb hg_ hnew_; clear hg_ hnew_; (first | rw [← Ny137.out] at ho9 | (simp only [Int.reduceToNat] at ho9; rw [← Ny137.out] at ho9)); have n0_ := aM (Kd.R_lower ho9 (bSz (by repeat (first | (with_reducible first | exact HB.out | apply bAl | apply pbN | apply bD1) | exact HB.out)))); have n1_ := aM (bSp (by repeat (first | (with_reducible first | exact HB.out | apply bAl | apply pbN | apply bD1) | exact HB.out)) hb); clear HB; have HO139 := n0_; have HB := n1_; clear n0_ n1_; clear hb ho9; obtain ⟨Ao10, co10, eo10⟩ := Kd.R_slice HO139.out; subst eo10) | ((with_reducible refine gate_dst (N := 4) rfl ?_); (try (refine gate_guard (by rfl) ?_; dsimp only)); refine Kd.R_lit (Kd.int .i64) _ 3 ?hg (N := 4) ?hd (xs := ([962] : List Int)) (inner := [.int .i64 962]) (ok := fun _ => True) (okp := fun _ => True) ?hr ?hp (fun _ hk => hk) trivial (Below.refl _ _) (Nat.le_refl _) (by simp) ?_; (case hd => rfl); (case hg => rfl); (case hr => first | (go_simp; done) | (go_simp; rfl)); (case hp => exact (Reps.one (show Kd.M (Kd.int .i64) _ _ _ 962 [.int .i64 962] from rfl) (Reps.none _ _))); intro v141 w11 ho12 hb hg_ hnew_; clear hg_ hnew_; (first | rw [← Ny140.out] at ho12 | (simp only [Int.reduceToNat] at ho12; rw [← Ny140.out] at ho12)); have n0_ := aM (Kd.R_elder' (by (with_reducible repeat (first | apply Kd.R_alloc | apply Kd.R_drewN | apply Kd.R_drew)); exact HO139.out) (Kd.R_base ho12) hb); have n1_ := aM (Kd.R_lower (Kd.R_new' ho12 (Kd.R_lt (by (with_reducible repeat (first | apply Kd.R_alloc | apply Kd.R_drewN | apply Kd.R_drew)); exact HO139.out))) (bSz (by repeat (first | (with_reducible first | exact HB.out | apply bAl | apply pbN | apply bD1) | exact HB.out)))); have n2_ := aM (bSp (by repeat (first | (with_reducible first | exact HB.out | apply bAl | apply pbN | apply bD1) | exact HB.out)) hb); clear HO139; clear HB; have HO139 := n0_; have HO142 := n1_; have HB := n2_; clear n0_ n1_ n2_; clear hb ho12; obtain ⟨Ao13, co13, eo13⟩ := Kd.R_slice HO142.out; subst eo13) | ((with_reducible refine gate_dst (N := 6) rfl ?_); (try (refine gate_guard (by rfl) ?_; dsimp only)); refine Kd.N_lit k43 _ 43 ?hg (N' := 6) ?hd (xs := ([(⟨931, y137, (⟨#[]⟩ : ByteArray)⟩ : S43), (⟨931, y140, (⟨#[102, 105, 110, 97, 108]⟩ : ByteArray)⟩ : S43)] : List (S43))) (inner := [.int .i64 931, .slice Ao10 y137.length co10, .string (⟨#[]⟩ : ByteArray), .int .i64 931, .slice Ao13 y140.length co13, .string (⟨#[102, 105, 110, 97, 108]⟩ : ByteArray)]) (ok := (fun _ => True)) (okp := (fun _ => True)) ?hr ?hp (fun _ hk => hk) ((show ∀ k_, w11.heap.size ≤ k_ → (fun _ => True) k_ from fun k_ hk => trivial) _ (Nat.le_refl _)) (Below.refl _ _) (Nat.le_refl _) (by simp) ?_; (case hd => rfl); (case hg => rfl); (case hr => first | (go_simp; done) | (go_simp; rfl)); (case hp => exact (Reps.c3 (show Kd.FK k43 _ _ (⟨931, y137, (⟨#[]⟩ : ByteArray)⟩ : S43) [.int .i64 931, .slice Ao10 y137.length co10, .string (⟨#[]⟩ : ByteArray)] from (k43_mkF _ _ (⟨931, y137, (⟨#[]⟩ : ByteArray)⟩ : S43) (Kd.R_reads' (Kd.R_mono (ok' := (fun _ => True)) (HO139.out) (fun k_ hk => trivial))).2.1 (Kd.R_F (Kd.R_mono (ok' := (fun _ => True)) (HO139.out) (fun k_ hk => trivial))))) (Reps.c3 (show Kd.FK k43 _ _ (⟨931, y140, (⟨#[102, 105, 110, 97, 108]⟩ : ByteArray)⟩ : S43) [.int .i64 931, .slice Ao13 y140.length co13, .string (⟨#[102, 105, 110, 97, 108]⟩ : ByteArray)] from (k43_mkF _ _ (⟨931, y140, (⟨#[102, 105, 110, 97, 108]⟩ : ByteArray)⟩ : S43) (Kd.R_reads' (Kd.R_mono (ok' := (fun _ => True)) (HO142.out) (fun k_ hk => trivial))).2.1 (Kd.R_F (Kd.R_mono (ok' := (fun _ => True)) (HO142.out) (fun k_ hk => trivial))))) (Reps.none _ _)))); intro v144 w14 ho15 hb hg_ hnew_; clear hg_ hnew_; (first | rw [← Ny143.out] at ho15 | (simp only [Int.reduceToNat] at ho15; rw [← Ny143.out] at ho15)); have n0_ := aM (Kd.N_lower ho15 (bSz (by repeat (first | (with_reducible first | exact HB.out | apply bAl | apply pbN | apply bD1) | exact HB.out)))); have n1_ := aM (bSp (by repeat (first | (with_reducible first | exact HB.out | apply bAl | apply pbN | apply bD1) | exact HB.out)) hb); clear HB; clear HO139; clear HO142; have HO145 := n0_; have HB := n1_; clear n0_ n1_; clear hb ho15) | ((with_reducible refine gate_dst (N := 8) rfl ?_); (try (refine gate_guard (by rfl) ?_; dsimp only)); refine Kd.R_lit k33 _ 33 ?hg (N := 8) ?hd (xs := ([(⟨913, 937⟩ : S33)] : List (S33))) (inner := [.int .i64 913, .int .i64 937]) (ok := fun _ => True) (okp := fun _ => True) ?hr ?hp (fun _ hk => hk) trivial (Below.refl _ _) (Nat.le_refl _) (by simp) ?_; (case hd => rfl); (case hg => rfl); (case hr => first | (go_simp; done) | (go_simp; rfl)); (case hp => exact (Reps.c2 (show Kd.M k33 _ _ _ (⟨913, 937⟩ : S33) [.int .i64 913, .int .i64 937] from (k33_mkM _ _ _ (⟨913, 937⟩ : S33) )) (Reps.none _ _))); intro v147 w16 ho17 hb hg_ hnew_; clear hg_ hnew_; (first | rw [← Ny146.out] at ho17 | (simp only [Int.reduceToNat] at ho17; rw [← Ny146.out] at ho17)); have n0_ := aM (Kd.N_elder' (by (with_reducible repeat (first | apply Kd.N_alloc | apply Kd.N_drewN | apply Kd.N_drew)); exact HO145.out) (Kd.R_base ho17) hb); have n1_ := aM (Kd.R_lower ho17 (bSz (by repeat (first | (with_reducible first | exact HB.out | apply bAl | apply pbN | apply bD1) | exact HB.out)))); have n2_ := aM (bSp (by repeat (first | (with_reducible first | exact HB.out | apply bAl | apply pbN | apply bD1) | exact HB.out)) hb); clear HO145; clear HB; have HO145 := n0_; have HO148 := n1_; have HB := n2_; clear n0_ n1_ n2_; clear hb ho17; obtain ⟨Ao18, co18, eo18⟩ := Kd.R_slice HO148.out; subst eo18; obtain ⟨Ao19, co19, eo19⟩ := Kd.N_slice HO145.out; subst eo19) | ((with_reducible refine gate_dst (N := 1) rfl ?_); (try (refine gate_guard (by rfl) ?_; dsimp only)); refine box_event ?hg (N := 1) ?hd (cs := #[.slice none 0 0, .slice none 0 0, .slice none 0 0, .slice none 0 0, .slice none 0 0, .slice none 0 0]) (t := 27) ?hr ?_; (case hd => rfl); (case hg => rfl); (case hr => first | (go_simp; done) | (go_simp; rfl)); intro gb149 hg w20 hbox hb; have n0_ := aM (Kd.N_below (Kd.N_elderB (by (with_reducible repeat (first | apply Kd.N_alloc | apply Kd.N_drewN | apply Kd.N_drew)); exact HO145.out) gb149 (Nat.le_of_eq hg.symm)) hb); have n1_ := aM (Kd.R_below (by (with_reducible repeat (first | apply Kd.R_alloc | apply Kd.R_drewN | apply Kd.R_drew)); exact HO148.out) hb); have n2_ := aM (bSp (by repeat (first | (with_reducible first | exact HB.out | apply bAl | apply pbN | apply bD1) | exact HB.out)) hb); have n3_ := aM (hbox); have n4_ := aM ((by rw [hg]; exact (bSz (by repeat (first | (with_reducible first | exact HB.out | apply bAl | apply pbN | apply bD1) | exact HB.out))) : w.heap.size ≤ gb149)); have n5_ := aM ((by rw [hg]; exact (bSz (by repeat (first | (with_reducible first | exact HB.out | apply bAl | apply pbN | apply bD1) | exact HB.out))) : w.heap.size ≤ gb149)); clear HO145; clear HO148; clear HB; have HO145 := n0_; have HO148 := n1_; have HB := n2_; have BK149 := n3_; have GW149 := n4_; have GE149 := n5_; clear n0_ n1_ n2_ n3_ n4_ n5_; clear hb hbox hg; have hcz21_0 : w20.cell? ⟨gb149, 0, none⟩ = some (.slice none 0 0) := (bkC BK149.out 0).trans rfl; have hcz21_1 : w20.cell? ⟨gb149, 1, none⟩ = some (.slice none 0 0) := (bkC BK149.out 1).trans rfl; have hcz21_2 : w20.cell? ⟨gb149, 2, none⟩ = some (.slice none 0 0) := (bkC BK149.out 2).trans rfl; have hcz21_3 : w20.cell? ⟨gb149, 3, none⟩ = some (.slice none 0 0) := (bkC BK149.out 3).trans rfl; have hcz21_4 : w20.cell? ⟨gb149, 4, none⟩ = some (.slice none 0 0) := (bkC BK149.out 4).trans rfl; have hcz21_5 : w20.cell? ⟨gb149, 5, none⟩ = some (.slice none 0 0) := (bkC BK149.out 5).trans rfl; have hfz21_0 := bkF BK149.out 0; have hfz21_1 := bkF BK149.out 1; have hfz21_2 := bkF BK149.out 2; have hfz21_3 := bkF BK149.out 3; have hfz21_4 := bkF BK149.out 4; have hfz21_5 := bkF BK149.out 5) | ((with_reducible refine gate_dst (N := 12) rfl ?_); (try (refine gate_guard (by rfl) ?_; dsimp only)); refine Kd.R_lit (Kd.int .i64) _ 3 ?hg (N := 12) ?hd (xs := ([913, 931] : List Int)) (inner := [.int .i64 913, .int .i64 931]) (ok := fun _ => True) (okp := fun _ => True) ?hr ?hp (fun _ hk => hk) trivial (Below.refl _ _) (Nat.le_refl _) (by simp) ?_; (case hd => rfl); (case hg => rfl); (case hr => first | (go_simp; done) | (go_simp; rfl)); (case hp => exact (Reps.one (show Kd.M (Kd.int .i64) _ _ _ 913 [.int .i64 913] from rfl) (Reps.one (show Kd.M (Kd.int .i64) _ _ _ 931 [.int .i64 931] from rfl) (Reps.none _ _)))); intro v151 w22 ho23 hb hg_ hnew_; clear hg_ hnew_; (first | rw [← Ny150.out] at ho23 | (simp only [Int.reduceToNat] at ho23; rw [← Ny150.out] at ho23)); have n0_ := aM (Kd.N_elder' (by (with_reducible repeat (first | apply Kd.N_alloc | apply Kd.N_drewN | apply Kd.N_drew)); exact (Kd.N_mono (Kd.N_far (p := ⟨gb149, 5, none⟩) (Kd.N_far (p := ⟨gb149, 4, none⟩) (Kd.N_far (p := ⟨gb149, 3, none⟩) (Kd.N_far (p := ⟨gb149, 2, none⟩) (Kd.N_far (p := ⟨gb149, 1, none⟩) (Kd.N_far (p := ⟨gb149, 0, none⟩) (Kd.N_mono HO145.out (fun k_ hk => (⟨hk, hk.2⟩ : _ ∧ k_ ≠ gb149))) (fun _ hk => hk.2) (.slice Ao19 y143.length co19)) (fun _ hk => hk.2) (.slice none 0 0)) (fun _ hk => hk.2) (.slice none 0 0)) (fun _ hk => hk.2) (.slice none 0 0)) (fun _ hk => hk.2) (.slice Ao18 y146.length co18)) (fun _ hk => hk.2) (.slice none 0 0)) (fun _ h_ => h_.1))) (Kd.R_base ho23) hb); have n1_ := aM (Kd.R_below (by (with_reducible repeat (first | apply Kd.R_alloc | apply Kd.R_drewN | apply Kd.R_drew)); exact (Kd.R_mono (Kd.R_far (p := ⟨gb149, 5, none⟩) (Kd.R_far (p := ⟨gb149, 4, none⟩) (Kd.R_far (p := ⟨gb149, 3, none⟩) (Kd.R_far (p := ⟨gb149, 2, none⟩) (Kd.R_far (p := ⟨gb149, 1, none⟩) (Kd.R_far (p := ⟨gb149, 0, none⟩) (Kd.R_types HO148.out BK149.out (by decide)) (fun _ hk => hk.2) (.slice Ao19 y143.length co19)) (fun _ hk => hk.2) (.slice none 0 0)) (fun _ hk => hk.2) (.slice none 0 0)) (fun _ hk => hk.2) (.slice none 0 0)) (fun _ hk => hk.2) (.slice Ao18 y146.length co18)) (fun _ hk => hk.2) (.slice none 0 0)) (fun _ h_ => h_.1))) hb); have n2_ := aM (Kd.R_lower ho23 (bSz (by repeat (first | (with_reducible first | exact HB.out | apply bAl | apply pbN | apply bD1 | refine bSt ?_ GE149.out) | exact HB.out)))); have n3_ := aM (blk_below (g := gb149) (o := .cells #[.slice Ao19 y143.length co19, .slice none 0 0, .slice none 0 0, .slice none 0 0, .slice Ao18 y146.length co18, .slice none 0 0] 27 (0, 0)) (by (with_reducible repeat (first | refine bkN ?_ _ | refine bkD ?_ | refine bkA ?_ _)); refine blk_put (cs := #[.slice Ao19 y143.length co19, .slice none 0 0, .slice none 0 0, .slice none 0 0, .slice Ao18 y146.length co18, .slice none 0 0]) ?_ 5 _ rfl; (with_reducible repeat (first | refine bkN ?_ _ | refine bkD ?_ | refine bkA ?_ _)); refine blk_put (cs := #[.slice Ao19 y143.length co19, .slice none 0 0, .slice none 0 0, .slice none 0 0, .slice none 0 0, .slice none 0 0]) ?_ 4 _ rfl; (with_reducible repeat (first | refine bkN ?_ _ | refine bkD ?_ | refine bkA ?_ _)); refine blk_put (cs := #[.slice Ao19 y143.length co19, .slice none 0 0, .slice none 0 0, .slice none 0 0, .slice none 0 0, .slice none 0 0]) ?_ 3 _ rfl; (with_reducible repeat (first | refine bkN ?_ _ | refine bkD ?_ | refine bkA ?_ _)); refine blk_put (cs := #[.slice Ao19 y143.length co19, .slice none 0 0, .slice none 0 0, .slice none 0 0, .slice none 0 0, .slice none 0 0]) ?_ 2 _ rfl; (with_reducible repeat (first | refine bkN ?_ _ | refine bkD ?_ | refine bkA ?_ _)); refine blk_put (cs := #[.slice Ao19 y143.length co19, .slice none 0 0, .slice none 0 0, .slice none 0 0, .slice none 0 0, .slice none 0 0]) ?_ 1 _ rfl; (with_reducible repeat (first | refine bkN ?_ _ | refine bkD ?_ | refine bkA ?_ _)); refine blk_put (cs := #[.slice none 0 0, .slice none 0 0, .slice none 0 0, .slice none 0 0, .slice none 0 0, .slice none 0 0]) ?_ 0 _ rfl; (with_reducible repeat (first | refine bkN ?_ _ | refine bkD ?_ | refine bkA ?_ _)); exact BK149.out) hb); have n4_ := aM (bSp (by repeat (first | (with_reducible first | exact HB.out | apply bAl | apply pbN | apply bD1 | refine bSt ?_ GE149.out) | exact HB.out)) hb); clear HO145; clear HO148; clear BK149; clear HB; have HO145 := n0_; have HO148 := n1_; have HO152 := n2_; have BK149 := n3_; have HB := n4_; clear n0_ n1_ n2_ n3_ n4_; clear hb ho23; obtain ⟨Ao24, co24, eo24⟩ := Kd.R_slice HO152.out; subst eo24) | ((with_reducible refine gate_callee (f := 18) rfl ?_); refine goesL_ (some 13) rfl rfl Try.func18 (by kernel_rfl) rfl #[.agg #[.slice Ao19 y143.length co19, .slice none 0 0, .slice none 0 0, .slice none 0 0, .slice Ao18 y146.length co18, .slice none 0 0], .slice Ao24 y150.length co24] rfl (by (try simp only [List.map_toArray, List.map_cons, List.map_nil]); first | done | rfl | (simp only [List.length_drop, List.length_take]; rfl)) ?_; (refine (casemap_Lower.calls _ _ y143 _ _ ([] : List (S43)) _ _ ([] : List (S43)) _ _ ([] : List (S43)) _ _ y146 _ _ ([] : List (S33)) _ _ y150 t153 _ ?side1 ?side2 ?side3 ?side4 ?side5 ?side6 ?side7 ?side8 ?side9 ?side10 ?side11 ?side12 ?side13 ?side14 A1.out).mono ?_); (case side1 => repeat (first | exact (Kd.N_reads' HO145.out).2.2 | (with_reducible refine Kd.C_alloc ?_ _) | (with_reducible refine Kd.C_drewN ?_ _) | (with_reducible refine Kd.C_drew ?_))); (case side2 => exact (Kd.N_reads' HO145.out).2.1); (case side3 => exact Kd.C_nil _ _); (case side4 => exact Nat.le_refl _); (case side5 => exact Kd.C_nil _ _); (case side6 => exact Nat.le_refl _); (case side7 => exact Kd.C_nil _ _); (case side8 => exact Nat.le_refl _); (case side9 => repeat (first | exact (Kd.R_reads' HO148.out).2.2 | (with_reducible refine Kd.C_alloc ?_ _) | (with_reducible refine Kd.C_drewN ?_ _) | (with_reducible refine Kd.C_drew ?_))); (case side10 => exact (Kd.R_reads' HO148.out).2.1); (case side11 => exact Kd.C_nil _ _); (case side12 => exact Nat.le_refl _); (case side13 => repeat (first | exact (Kd.R_reads' HO152.out).2.2 | (with_reducible refine Kd.C_alloc ?_ _) | (with_reducible refine Kd.C_drewN ?_ _) | (with_reducible refine Kd.C_drew ?_))); (case side14 => exact (Kd.R_reads' HO152.out).2.1); rintro e w25 ⟨v154, rfl, ho0, hb⟩; refine ⟨_, rfl, ?_⟩; have n0_ := aM (Kd.N_elder' (by (with_reducible repeat (first | apply Kd.N_alloc | apply Kd.N_drewN | apply Kd.N_drew)); exact HO145.out) (Kd.R_base ho0) hb); have n1_ := aM (Kd.R_below (by (with_reducible repeat (first | apply Kd.R_alloc | apply Kd.R_drewN | apply Kd.R_drew)); exact HO148.out) hb); have n2_ := aM (Kd.R_elder' (by (with_reducible repeat (first | apply Kd.R_alloc | apply Kd.R_drewN | apply Kd.R_drew)); exact HO152.out) (Kd.R_base ho0) hb); have n3_ := aM (Kd.R_lower (Kd.R_new' ho0 (Kd.R_lt (by (with_reducible repeat (first | apply Kd.R_alloc | apply Kd.R_drewN | apply Kd.R_drew)); exact HO152.out))) (bSz (by repeat (first | (with_reducible first | exact HB.out | apply bAl | apply pbN | apply bD1 | refine bSt ?_ GE149.out) | exact HB.out)))); have n4_ := aM (blk_below (g := gb149) (o := .cells #[.slice Ao19 y143.length co19, .slice none 0 0, .slice none 0 0, .slice none 0 0, .slice Ao18 y146.length co18, .slice none 0 0] 27 (0, 0)) (by (with_reducible repeat (first | refine bkN ?_ _ | refine bkD ?_ | refine bkA ?_ _)); exact BK149.out) hb); have n5_ := aM (bSp (by repeat (first | (with_reducible first | exact HB.out | apply bAl | apply pbN | apply bD1 | refine bSt ?_ GE149.out) | exact HB.out)) hb); clear HO145; clear HO148; clear HO152; clear BK149; clear HB; have HO145 := n0_; have HO148 := n1_; have HO152 := n2_; have HO155 := n3_; have BK149 := n4_; have HB := n5_; clear n0_ n1_ n2_ n3_ n4_ n5_; (try clear hb); (try clear hb2); (try clear hk); (try clear hi); (try clear ho0)) | ((with_reducible refine gate_dst (N := 14) rfl ?_); (try (refine gate_guard (by rfl) ?_; dsimp only)); refine Kd.R_lit (Kd.int .i64) _ 3 ?hg (N := 14) ?hd (xs := ([913, 962] : List Int)) (inner := [.int .i64 913, .int .i64 962]) (ok := fun _ => True) (okp := fun _ => True) ?hr ?hp (fun _ hk => hk) trivial (Below.refl _ _) (Nat.le_refl _) (by simp) ?_; (case hd => rfl); (case hg => rfl); (case hr => first | (go_simp; done) | (go_simp; rfl)); (case hp => exact (Reps.one (show Kd.M (Kd.int .i64) _ _ _ 913 [.int .i64 913] from rfl) (Reps.one (show Kd.M (Kd.int .i64) _ _ _ 962 [.int .i64 962] from rfl) (Reps.none _ _)))); intro v157 w26 ho27 hb hg_ hnew_; clear hg_ hnew_; (first | rw [← Ny156.out] at ho27 | (simp only [Int.reduceToNat] at ho27; rw [← Ny156.out] at ho27)); have n0_ := aM (Kd.N_elder' (by (with_reducible repeat (first | apply Kd.N_alloc | apply Kd.N_drewN | apply Kd.N_drew)); exact HO145.out) (Kd.R_base ho27) hb); have n1_ := aM (Kd.R_below (by (with_reducible repeat (first | apply Kd.R_alloc | apply Kd.R_drewN | apply Kd.R_drew)); exact HO148.out) hb); have n2_ := aM (Kd.R_elder' (by (with_reducible repeat (first | apply Kd.R_alloc | apply Kd.R_drewN | apply Kd.R_drew)); exact HO152.out) (Kd.R_base ho27) hb); have n3_ := aM (Kd.R_elder' (by (with_reducible repeat (first | apply Kd.R_alloc | apply Kd.R_drewN | apply Kd.R_drew)); exact HO155.out) (Kd.R_base ho27) hb); have n4_ := aM (Kd.R_lower (Kd.R_new' (Kd.R_new' ho27 (Kd.R_lt (by (with_reducible repeat (first | apply Kd.R_alloc | apply Kd.R_drewN | apply Kd.R_drew)); exact HO152.out))) (Kd.R_lt (by (with_reducible repeat (first | apply Kd.R_alloc | apply Kd.R_drewN | apply Kd.R_drew)); exact HO155.out))) (bSz (by repeat (first | (with_reducible first | exact HB.out | apply bAl | apply pbN | apply bD1 | refine bSt ?_ GE149.out) | exact HB.out)))); have n5_ := aM (blk_below (g := gb149) (o := .cells #[.slice Ao19 y143.length co19, .slice none 0 0, .slice none 0 0, .slice none 0 0, .slice Ao18 y146.length co18, .slice none 0 0] 27 (0, 0)) (by (with_reducible repeat (first | refine bkN ?_ _ | refine bkD ?_ | refine bkA ?_ _)); exact BK149.out) hb); have n6_ := aM (bSp (by repeat (first | (with_reducible first | exact HB.out | apply bAl | apply pbN | apply bD1 | refine bSt ?_ GE149.out) | exact HB.out)) hb); clear HO145; clear HO148; clear HO152; clear HO155; clear BK149; clear HB; have HO145 := n0_; have HO148 := n1_; have HO152 := n2_; have HO155 := n3_; have HO158 := n4_; have BK149 := n5_; have HB := n6_; clear n0_ n1_ n2_ n3_ n4_ n5_ n6_; clear hb ho27; obtain ⟨Ao28, co28, eo28⟩ := Kd.R_slice HO155.out; subst eo28; obtain ⟨Ao29, co29, eo29⟩ := Kd.R_slice HO158.out; subst eo29) | ((with_reducible refine gate_callee (f := 16) rfl ?_); refine goesL_ (some 15) rfl rfl Try.func16 (by kernel_rfl) rfl #[.slice Ao28 t153.length co28, .slice Ao29 y156.length co29] rfl (by (try simp only [List.map_toArray, List.map_cons, List.map_nil]); first | done | rfl | (simp only [List.length_drop, List.length_take]; rfl)) ?_; (with_reducible refine (r01_Equal.calls k _ _ t153 _ _ y156 true _ ?side1 ?side2 ?side3 ?side4 A2.out).mono ?_); (case side1 => repeat (first | exact (Kd.R_reads' HO155.out).2.2 | (with_reducible refine Kd.C_alloc ?_ _) | (with_reducible refine Kd.C_drewN ?_ _) | (with_reducible refine Kd.C_drew ?_))); (case side2 => exact (Kd.R_reads' HO155.out).2.1); (case side3 => repeat (first | exact (Kd.R_reads' HO158.out).2.2 | (with_reducible refine Kd.C_alloc ?_ _) | (with_reducible refine Kd.C_drewN ?_ _) | (with_reducible refine Kd.C_drew ?_))); (case side4 => exact (Kd.R_reads' HO158.out).2.1); rintro e w' ⟨rfl, ⟨nd, rfl⟩⟩; refine ⟨_, rfl, ?_⟩; have hcz30_0 : w26.cell? ⟨gb149, 0, none⟩ = some (.slice Ao19 y143.length co19) := (bkC BK149.out 0).trans rfl; have hcz30_1 : w26.cell? ⟨gb149, 1, none⟩ = some (.slice none 0 0) := (bkC BK149.out 1).trans rfl; have hcz30_2 : w26.cell? ⟨gb149, 2, none⟩ = some (.slice none 0 0) := (bkC BK149.out 2).trans rfl; have hcz30_3 : w26.cell? ⟨gb149, 3, none⟩ = some (.slice none 0 0) := (bkC BK149.out 3).trans rfl; have hcz30_4 : w26.cell? ⟨gb149, 4, none⟩ = some (.slice Ao18 y146.length co18) := (bkC BK149.out 4).trans rfl; have hcz30_5 : w26.cell? ⟨gb149, 5, none⟩ = some (.slice none 0 0) := (bkC BK149.out 5).trans rfl; have hfz30_0 := bkF BK149.out 0; have hfz30_1 := bkF BK149.out 1; have hfz30_2 := bkF BK149.out 2; have hfz30_3 := bkF BK149.out 3; have hfz30_4 := bkF BK149.out 4; have hfz30_5 := bkF BK149.out 5) | ((with_reducible refine gate_dst (N := 18) rfl ?_); (try (refine gate_guard (by rfl) ?_; dsimp only)); refine Kd.R_lit (Kd.int .i64) _ 3 ?hg (N := 18) ?hd (xs := ([931] : List Int)) (inner := [.int .i64 931]) (ok := fun _ => True) (okp := fun _ => True) ?hr ?hp (fun _ hk => hk) trivial (Below.refl _ _) (Nat.le_refl _) (by simp) ?_; (case hd => rfl); (case hg => rfl); (case hr => first | (go_simp; done) | (go_simp; rfl)); (case hp => exact (Reps.one (show Kd.M (Kd.int .i64) _ _ _ 931 [.int .i64 931] from rfl) (Reps.none _ _))); intro v161 w31 ho32 hb hg_ hnew_; clear hg_ hnew_; (first | rw [← Ny160.out] at ho32 | (simp only [Int.reduceToNat] at ho32; rw [← Ny160.out] at ho32)); have n0_ := aM (Kd.N_elder' (by (with_reducible repeat (first | apply Kd.N_alloc | apply Kd.N_drewN | apply Kd.N_drew)); exact HO145.out) (Kd.R_base ho32) hb); have n1_ := aM (Kd.R_below (by (with_reducible repeat (first | apply Kd.R_alloc | apply Kd.R_drewN | apply Kd.R_drew)); exact HO148.out) hb); have n2_ := aM (Kd.R_elder' (by (with_reducible repeat (first | apply Kd.R_alloc | apply Kd.R_drewN | apply Kd.R_drew)); exact HO152.out) (Kd.R_base ho32) hb); have n3_ := aM (Kd.R_elder' (by (with_reducible repeat (first | apply Kd.R_alloc | apply Kd.R_drewN | apply Kd.R_drew)); exact HO155.out) (Kd.R_base ho32) hb); have n4_ := aM (Kd.R_elder' (by (with_reducible repeat (first | apply Kd.R_alloc | apply Kd.R_drewN | apply Kd.R_drew)); exact HO158.out) (Kd.R_base ho32) hb); have n5_ := aM (Kd.R_lower (Kd.R_new' (Kd.R_new' (Kd.R_new' ho32 (Kd.R_lt (by (with_reducible repeat (first | apply Kd.R_alloc | apply Kd.R_drewN | apply Kd.R_drew)); exact HO152.out))) (Kd.R_lt (by (with_reducible repeat (first | apply Kd.R_alloc | apply Kd.R_drewN | apply Kd.R_drew)); exact HO155.out))) (Kd.R_lt (by (with_reducible repeat (first | apply Kd.R_alloc | apply Kd.R_drewN | apply Kd.R_drew)); exact HO158.out))) (bSz (by repeat (first | (with_reducible first | exact HB.out | apply bAl | apply pbN | apply bD1 | refine bSt ?_ GE149.out) | exact HB.out)))); have n6_ := aM (blk_below (g := gb149) (o := .cells #[.slice Ao19 y143.length co19, .slice none 0 0, .slice none 0 0, .slice none 0 0, .slice Ao18 y146.length co18, .slice none 0 0] 27 (0, 0)) (by (with_reducible repeat (first | refine bkN ?_ _ | refine bkD ?_ | refine bkA ?_ _)); exact BK149.out) hb); have n7_ := aM (bSp (by repeat (first | (with_reducible first | exact HB.out | apply bAl | apply pbN | apply bD1 | refine bSt ?_ GE149.out) | exact HB.out)) hb); clear HO145; clear HO148; clear HO152; clear HO155; clear HO158; clear BK149; clear HB; have HO145 := n0_; have HO148 := n1_; have HO152 := n2_; have HO155 := n3_; have HO158 := n4_; have HO162 := n5_; have BK149 := n6_; have HB := n7_; clear n0_ n1_ n2_ n3_ n4_ n5_ n6_ n7_; clear hb ho32; obtain ⟨Ao33, co33, eo33⟩ := Kd.R_slice HO162.out; subst eo33) | (go_at_call 18; (refine (casemap_Lower.calls _ _ y143 _ _ ([] : List (S43)) _ _ ([] : List (S43)) _ _ ([] : List (S43)) _ _ y146 _ _ ([] : List (S33)) _ _ y160 t163 _ ?side1 ?side2 ?side3 ?side4 ?side5 ?side6 ?side7 ?side8 ?side9 ?side10 ?side11 ?side12 ?side13 ?side14 A4.out).mono ?_); (case side1 => repeat (first | exact (Kd.N_reads' HO145.out).2.2 | (with_reducible refine Kd.C_alloc ?_ _) | (with_reducible refine Kd.C_drewN ?_ _) | (with_reducible refine Kd.C_drew ?_))); (case side2 => exact (Kd.N_reads' HO145.out).2.1); (case side3 => exact Kd.C_nil _ _); (case side4 => exact Nat.le_refl _); (case side5 => exact Kd.C_nil _ _); (case side6 => exact Nat.le_refl _); (case side7 => exact Kd.C_nil _ _); (case side8 => exact Nat.le_refl _); (case side9 => repeat (first | exact (Kd.R_reads' HO148.out).2.2 | (with_reducible refine Kd.C_alloc ?_ _) | (with_reducible refine Kd.C_drewN ?_ _) | (with_reducible refine Kd.C_drew ?_))); (case side10 => exact (Kd.R_reads' HO148.out).2.1); (case side11 => exact Kd.C_nil _ _); (case side12 => exact Nat.le_refl _); (case side13 => repeat (first | exact (Kd.R_reads' HO162.out).2.2 | (with_reducible refine Kd.C_alloc ?_ _) | (with_reducible refine Kd.C_drewN ?_ _) | (with_reducible refine Kd.C_drew ?_))); (case side14 => exact (Kd.R_reads' HO162.out).2.1); rintro e w34 ⟨v164, rfl, ho0, hb⟩; have n0_ := aM (Kd.N_elder' (by (with_reducible repeat (first | apply Kd.N_alloc | apply Kd.N_drewN | apply Kd.N_drew)); exact HO145.out) (Kd.R_base ho0) hb); have n1_ := aM (Kd.R_below (by (with_reducible repeat (first | apply Kd.R_alloc | apply Kd.R_drewN | apply Kd.R_drew)); exact HO148.out) hb); have n2_ := aM (Kd.R_elder' (by (with_reducible repeat (first | apply Kd.R_alloc | apply Kd.R_drewN | apply Kd.R_drew)); exact HO152.out) (Kd.R_base ho0) hb); have n3_ := aM (Kd.R_elder' (by (with_reducible repeat (first | apply Kd.R_alloc | apply Kd.R_drewN | apply Kd.R_drew)); exact HO155.out) (Kd.R_base ho0) hb); have n4_ := aM (Kd.R_elder' (by (with_reducible repeat (first | apply Kd.R_alloc | apply Kd.R_drewN | apply Kd.R_drew)); exact HO158.out) (Kd.R_base ho0) hb); have n5_ := aM (Kd.R_elder' (by (with_reducible repeat (first | apply Kd.R_alloc | apply Kd.R_drewN | apply Kd.R_drew)); exact HO162.out) (Kd.R_base ho0) hb); have n6_ := aM (Kd.R_lower (Kd.R_new' (Kd.R_new' (Kd.R_new' (Kd.R_new' ho0 (Kd.R_lt (by (with_reducible repeat (first | apply Kd.R_alloc | apply Kd.R_drewN | apply Kd.R_drew)); exact HO152.out))) (Kd.R_lt (by (with_reducible repeat (first | apply Kd.R_alloc | apply Kd.R_drewN | apply Kd.R_drew)); exact HO155.out))) (Kd.R_lt (by (with_reducible repeat (first | apply Kd.R_alloc | apply Kd.R_drewN | apply Kd.R_drew)); exact HO158.out))) (Kd.R_lt (by (with_reducible repeat (first | apply Kd.R_alloc | apply Kd.R_drewN | apply Kd.R_drew)); exact HO162.out))) (bSz (by repeat (first | (with_reducible first | exact HB.out | apply bAl | apply pbN | apply bD1 | refine bSt ?_ GE149.out) | exact HB.out)))); have n7_ := aM (blk_below (g := gb149) (o := .cells #[.slice Ao19 y143.length co19, .slice none 0 0, .slice none 0 0, .slice none 0 0, .slice Ao18 y146.length co18, .slice none 0 0] 27 (0, 0)) (by (with_reducible repeat (first | refine bkN ?_ _ | refine bkD ?_ | refine bkA ?_ _)); exact BK149.out) hb); have n8_ := aM (bSp (by repeat (first | (with_reducible first | exact HB.out | apply bAl | apply pbN | apply bD1 | refine bSt ?_ GE149.out) | exact HB.out)) hb); clear HO145; clear HO148; clear HO152; clear HO155; clear HO158; clear HO162; clear BK149; clear HB; have HO145 := n0_; have HO148 := n1_; have HO152 := n2_; have HO155 := n3_; have HO158 := n4_; have HO162 := n5_; have HO165 := n6_; have BK149 := n7_; have HB := n8_; clear n0_ n1_ n2_ n3_ n4_ n5_ n6_ n7_ n8_; (try clear hb); (try clear hb2); (try clear hk); (try clear hi); (try clear ho0)) | ((with_reducible refine gate_dst (N := 20) rfl ?_); (try (refine gate_guard (by rfl) ?_; dsimp only)); refine Kd.R_lit (Kd.int .i64) _ 3 ?hg (N := 20) ?hd (xs := ([963] : List Int)) (inner := [.int .i64 963]) (ok := fun _ => True) (okp := fun _ => True) ?hr ?hp (fun _ hk => hk) trivial (Below.refl _ _) (Nat.le_refl _) (by simp) ?_; (case hd => rfl); (case hg => rfl); (case hr => first | (go_simp; done) | (go_simp; rfl)); (case hp => exact (Reps.one (show Kd.M (Kd.int .i64) _ _ _ 963 [.int .i64 963] from rfl) (Reps.none _ _))); intro v167 w35 ho36 hb hg_ hnew_; clear hg_ hnew_; (first | rw [← Ny166.out] at ho36 | (simp only [Int.reduceToNat] at ho36; rw [← Ny166.out] at ho36)); have n0_ := aM (Kd.N_elder' (by (with_reducible repeat (first | apply Kd.N_alloc | apply Kd.N_drewN | apply Kd.N_drew)); exact HO145.out) (Kd.R_base ho36) hb); have n1_ := aM (Kd.R_below (by (with_reducible repeat (first | apply Kd.R_alloc | apply Kd.R_drewN | apply Kd.R_drew)); exact HO148.out) hb); have n2_ := aM (Kd.R_elder' (by (with_reducible repeat (first | apply Kd.R_alloc | apply Kd.R_drewN | apply Kd.R_drew)); exact HO152.out) (Kd.R_base ho36) hb); have n3_ := aM (Kd.R_elder' (by (with_reducible repeat (first | apply Kd.R_alloc | apply Kd.R_drewN | apply Kd.R_drew)); exact HO155.out) (Kd.R_base ho36) hb); have n4_ := aM (Kd.R_elder' (by (with_reducible repeat (first | apply Kd.R_alloc | apply Kd.R_drewN | apply Kd.R_drew)); exact HO158.out) (Kd.R_base ho36) hb); have n5_ := aM (Kd.R_elder' (by (with_reducible repeat (first | apply Kd.R_alloc | apply Kd.R_drewN | apply Kd.R_drew)); exact HO162.out) (Kd.R_base ho36) hb); have n6_ := aM (Kd.R_elder' (by (with_reducible repeat (first | apply Kd.R_alloc | apply Kd.R_drewN | apply Kd.R_drew)); exact HO165.out) (Kd.R_base ho36) hb); have n7_ := aM (Kd.R_lower (Kd.R_new' (Kd.R_new' (Kd.R_new' (Kd.R_new' (Kd.R_new' ho36 (Kd.R_lt (by (with_reducible repeat (first | apply Kd.R_alloc | apply Kd.R_drewN | apply Kd.R_drew)); exact HO152.out))) (Kd.R_lt (by (with_reducible repeat (first | apply Kd.R_alloc | apply Kd.R_drewN | apply Kd.R_drew)); exact HO155.out))) (Kd.R_lt (by (with_reducible repeat (first | apply Kd.R_alloc | apply Kd.R_drewN | apply Kd.R_drew)); exact HO158.out))) (Kd.R_lt (by (with_reducible repeat (first | apply Kd.R_alloc | apply Kd.R_drewN | apply Kd.R_drew)); exact HO162.out))) (Kd.R_lt (by (with_reducible repeat (first | apply Kd.R_alloc | apply Kd.R_drewN | apply Kd.R_drew)); exact HO165.out))) (bSz (by repeat (first | (with_reducible first | exact HB.out | apply bAl | apply pbN | apply bD1 | refine bSt ?_ GE149.out) | exact HB.out)))); have n8_ := aM (blk_below (g := gb149) (o := .cells #[.slice Ao19 y143.length co19, .slice none 0 0, .slice none 0 0, .slice none 0 0, .slice Ao18 y146.length co18, .slice none 0 0] 27 (0, 0)) (by (with_reducible repeat (first | refine bkN ?_ _ | refine bkD ?_ | refine bkA ?_ _)); exact BK149.out) hb); have n9_ := aM (bSp (by repeat (first | (with_reducible first | exact HB.out | apply bAl | apply pbN | apply bD1 | refine bSt ?_ GE149.out) | exact HB.out)) hb); clear HO145; clear HO148; clear HO152; clear HO155; clear HO158; clear HO162; clear HO165; clear BK149; clear HB; have HO145 := n0_; have HO148 := n1_; have HO152 := n2_; have HO155 := n3_; have HO158 := n4_; have HO162 := n5_; have HO165 := n6_; have HO168 := n7_; have BK149 := n8_; have HB := n9_; clear n0_ n1_ n2_ n3_ n4_ n5_ n6_ n7_ n8_ n9_; clear hb ho36; obtain ⟨Ao37, co37, eo37⟩ := Kd.R_slice HO165.out; subst eo37; obtain ⟨Ao38, co38, eo38⟩ := Kd.R_slice HO168.out; subst eo38) | (go_at_call 16; (with_reducible refine (r01_Equal.calls k _ _ t163 _ _ y166 true _ ?side1 ?side2 ?side3 ?side4 A5.out).mono ?_); (case side1 => repeat (first | exact (Kd.R_reads' HO165.out).2.2 | (with_reducible refine Kd.C_alloc ?_ _) | (with_reducible refine Kd.C_drewN ?_ _) | (with_reducible refine Kd.C_drew ?_))); (case side2 => exact (Kd.R_reads' HO165.out).2.1); (case side3 => repeat (first | exact (Kd.R_reads' HO168.out).2.2 | (with_reducible refine Kd.C_alloc ?_ _) | (with_reducible refine Kd.C_drewN ?_ _) | (with_reducible refine Kd.C_drew ?_))); (case side4 => exact (Kd.R_reads' HO168.out).2.1); rintro e w' ⟨rfl, ⟨nd, rfl⟩⟩; have hcz39_0 : w35.cell? ⟨gb149, 0, none⟩ = some (.slice Ao19 y143.length co19) := (bkC BK149.out 0).trans rfl; have hcz39_1 : w35.cell? ⟨gb149, 1, none⟩ = some (.slice none 0 0) := (bkC BK149.out 1).trans rfl; have hcz39_2 : w35.cell? ⟨gb149, 2, none⟩ = some (.slice none 0 0) := (bkC BK149.out 2).trans rfl; have hcz39_3 : w35.cell? ⟨gb149, 3, none⟩ = some (.slice none 0 0) := (bkC BK149.out 3).trans rfl; have hcz39_4 : w35.cell? ⟨gb149, 4, none⟩ = some (.slice Ao18 y146.length co18) := (bkC BK149.out 4).trans rfl; have hcz39_5 : w35.cell? ⟨gb149, 5, none⟩ = some (.slice none 0 0) := (bkC BK149.out 5).trans rfl; have hfz39_0 := bkF BK149.out 0; have hfz39_1 := bkF BK149.out 1; have hfz39_2 := bkF BK149.out 2; have hfz39_3 := bkF BK149.out 3; have hfz39_4 := bkF BK149.out 4; have hfz39_5 := bkF BK149.out 5) | ((with_reducible refine gate_dst (N := 25) rfl ?_); (try (refine gate_guard (by rfl) ?_; dsimp only)); refine Kd.R_lit (Kd.int .i64) _ 3 ?hg (N := 25) ?hd (xs := ([913, 931] : List Int)) (inner := [.int .i64 913, .int .i64 931]) (ok := fun _ => True) (okp := fun _ => True) ?hr ?hp (fun _ hk => hk) trivial (Below.refl _ _) (Nat.le_refl _) (by simp) ?_; (case hd => rfl); (case hg => rfl); (case hr => first | (go_simp; done) | (go_simp; rfl)); (case hp => exact (Reps.one (show Kd.M (Kd.int .i64) _ _ _ 913 [.int .i64 913] from rfl) (Reps.one (show Kd.M (Kd.int .i64) _ _ _ 931 [.int .i64 931] from rfl) (Reps.none _ _)))); intro v171 w40 ho41 hb hg_ hnew_; clear hg_ hnew_; (first | rw [← Ny170.out] at ho41 | (simp only [Int.reduceToNat] at ho41; rw [← Ny170.out] at ho41)); have n0_ := aM (Kd.N_elder' (by (with_reducible repeat (first | apply Kd.N_alloc | apply Kd.N_drewN | apply Kd.N_drew)); exact HO145.out) (Kd.R_base ho41) hb); have n1_ := aM (Kd.R_below (by (with_reducible repeat (first | apply Kd.R_alloc | apply Kd.R_drewN | apply Kd.R_drew)); exact HO148.out) hb); have n2_ := aM (Kd.R_elder' (by (with_reducible repeat (first | apply Kd.R_alloc | apply Kd.R_drewN | apply Kd.R_drew)); exact HO152.out) (Kd.R_base ho41) hb); have n3_ := aM (Kd.R_elder' (by (with_reducible repeat (first | apply Kd.R_alloc | apply Kd.R_drewN | apply Kd.R_drew)); exact HO155.out) (Kd.R_base ho41) hb); have n4_ := aM (Kd.R_elder' (by (with_reducible repeat (first | apply Kd.R_alloc | apply Kd.R_drewN | apply Kd.R_drew)); exact HO158.out) (Kd.R_base ho41) hb); have n5_ := aM (Kd.R_elder' (by (with_reducible repeat (first | apply Kd.R_alloc | apply Kd.R_drewN | apply Kd.R_drew)); exact HO162.out) (Kd.R_base ho41) hb); have n6_ := aM (Kd.R_elder' (by (with_reducible repeat (first | apply Kd.R_alloc | apply Kd.R_drewN | apply Kd.R_drew)); exact HO165.out) (Kd.R_base ho41) hb); have n7_ := aM (Kd.R_elder' (by (with_reducible repeat (first | apply Kd.R_alloc | apply Kd.R_drewN | apply Kd.R_drew)); exact HO168.out) (Kd.R_base ho41) hb); have n8_ := aM (Kd.R_lower (Kd.R_new' (Kd.R_new' (Kd.R_new' (Kd.R_new' (Kd.R_new' (Kd.R_new' ho41 (Kd.R_lt (by (with_reducible repeat (first | apply Kd.R_alloc | apply Kd.R_drewN | apply Kd.R_drew)); exact HO152.out))) (Kd.R_lt (by (with_reducible repeat (first | apply Kd.R_alloc | apply Kd.R_drewN | apply Kd.R_drew)); exact HO155.out))) (Kd.R_lt (by (with_reducible repeat (first | apply Kd.R_alloc | apply Kd.R_drewN | apply Kd.R_drew)); exact HO158.out))) (Kd.R_lt (by (with_reducible repeat (first | apply Kd.R_alloc | apply Kd.R_drewN | apply Kd.R_drew)); exact HO162.out))) (Kd.R_lt (by (with_reducible repeat (first | apply Kd.R_alloc | apply Kd.R_drewN | apply Kd.R_drew)); exact HO165.out))) (Kd.R_lt (by (with_reducible repeat (first | apply Kd.R_alloc | apply Kd.R_drewN | apply Kd.R_drew)); exact HO168.out))) (bSz (by repeat (first | (with_reducible first | exact HB.out | apply bAl | apply pbN | apply bD1 | refine bSt ?_ GE149.out) | exact HB.out)))); have n9_ := aM (blk_below (g := gb149) (o := .cells #[.slice Ao19 y143.length co19, .slice none 0 0, .slice none 0 0, .slice none 0 0, .slice Ao18 y146.length co18, .slice none 0 0] 27 (0, 0)) (by (with_reducible repeat (first | refine bkN ?_ _ | refine bkD ?_ | refine bkA ?_ _)); exact BK149.out) hb); have n10_ := aM (bSp (by repeat (first | (with_reducible first | exact HB.out | apply bAl | apply pbN | apply bD1 | refine bSt ?_ GE149.out) | exact HB.out)) hb); clear HO145; clear HO148; clear HO152; clear HO155; clear HO158; clear HO162; clear HO165; clear HO168; clear BK149; clear HB; have HO145 := n0_; have HO148 := n1_; have HO152 := n2_; have HO155 := n3_; have HO158 := n4_; have HO162 := n5_; have HO165 := n6_; have HO168 := n7_; have HO172 := n8_; have BK149 := n9_; have HB := n10_; clear n0_ n1_ n2_ n3_ n4_ n5_ n6_ n7_ n8_ n9_ n10_; clear hb ho41; obtain ⟨Ao42, co42, eo42⟩ := Kd.R_slice HO172.out; subst eo42) | (go_at_call 22; (refine (casemap_Final.calls _ _ y143 _ _ ([] : List (S43)) _ _ ([] : List (S43)) _ _ ([] : List (S43)) _ _ y146 _ _ ([] : List (S33)) _ _ y170 1 true _ ?side1 ?side2 ?side3 ?side4 ?side5 ?side6 ?side7 ?side8 ?side9 ?side10 ?side11 ?side12 ?side13 ?side14 A7.out).mono ?_); (case side1 => repeat (first | exact (Kd.N_reads' HO145.out).2.2 | (with_reducible refine Kd.C_alloc ?_ _) | (with_reducible refine Kd.C_drewN ?_ _) | (with_reducible refine Kd.C_drew ?_))); (case side2 => exact (Kd.N_reads' HO145.out).2.1); (case side3 => exact Kd.C_nil _ _); (case side4 => exact Nat.le_refl _); (case side5 => exact Kd.C_nil _ _); (case side6 => exact Nat.le_refl _); (case side7 => exact Kd.C_nil _ _); (case side8 => exact Nat.le_refl _); (case side9 => repeat (first | exact (Kd.R_reads' HO148.out).2.2 | (with_reducible refine Kd.C_alloc ?_ _) | (with_reducible refine Kd.C_drewN ?_ _) | (with_reducible refine Kd.C_drew ?_))); (case side10 => exact (Kd.R_reads' HO148.out).2.1); (case side11 => exact Kd.C_nil _ _); (case side12 => exact Nat.le_refl _); (case side13 => repeat (first | exact (Kd.R_reads' HO172.out).2.2 | (with_reducible refine Kd.C_alloc ?_ _) | (with_reducible refine Kd.C_drewN ?_ _) | (with_reducible refine Kd.C_drew ?_))); (case side14 => exact (Kd.R_reads' HO172.out).2.1); rintro e w43 ⟨rfl, hb⟩; have n0_ := aM (Kd.N_below (by (with_reducible repeat (first | apply Kd.N_alloc | apply Kd.N_drewN | apply Kd.N_drew)); exact HO145.out) hb); have n1_ := aM (Kd.R_below (by (with_reducible repeat (first | apply Kd.R_alloc | apply Kd.R_drewN | apply Kd.R_drew)); exact HO148.out) hb); have n2_ := aM (Kd.R_below (by (with_reducible repeat (first | apply Kd.R_alloc | apply Kd.R_drewN | apply Kd.R_drew)); exact HO152.out) hb); have n3_ := aM (Kd.R_below (by (with_reducible repeat (first | apply Kd.R_alloc | apply Kd.R_drewN | apply Kd.R_drew)); exact HO155.out) hb); have n4_ := aM (Kd.R_below (by (with_reducible repeat (first | apply Kd.R_alloc | apply Kd.R_drewN | apply Kd.R_drew)); exact HO158.out) hb); have n5_ := aM (Kd.R_below (by (with_reducible repeat (first | apply Kd.R_alloc | apply Kd.R_drewN | apply Kd.R_drew)); exact HO162.out) hb); have n6_ := aM (Kd.R_below (by (with_reducible repeat (first | apply Kd.R_alloc | apply Kd.R_drewN | apply Kd.R_drew)); exact HO165.out) hb); have n7_ := aM (Kd.R_below (by (with_reducible repeat (first | apply Kd.R_alloc | apply Kd.R_drewN | apply Kd.R_drew)); exact HO168.out) hb); have n8_ := aM (Kd.R_below (by (with_reducible repeat (first | apply Kd.R_alloc | apply Kd.R_drewN | apply Kd.R_drew)); exact HO172.out) hb); have n9_ := aM (blk_below (g := gb149) (o := .cells #[.slice Ao19 y143.length co19, .slice none 0 0, .slice none 0 0, .slice none 0 0, .slice Ao18 y146.length co18, .slice none 0 0] 27 (0, 0)) (by (with_reducible repeat (first | refine bkN ?_ _ | refine bkD ?_ | refine bkA ?_ _)); exact BK149.out) hb); have n10_ := aM (bSp (by repeat (first | (with_reducible first | exact HB.out | apply bAl | apply pbN | apply bD1 | refine bSt ?_ GE149.out) | exact HB.out)) hb); clear HO145; clear HO148; clear HO152; clear HO155; clear HO158; clear HO162; clear HO165; clear HO168; clear HO172; clear BK149; clear HB; have HO145 := n0_; have HO148 := n1_; have HO152 := n2_; have HO155 := n3_; have HO158 := n4_; have HO162 := n5_; have HO165 := n6_; have HO168 := n7_; have HO172 := n8_; have BK149 := n9_; have HB := n10_; clear n0_ n1_ n2_ n3_ n4_ n5_ n6_ n7_ n8_ n9_ n10_; (try clear hb); (try clear hb2); (try clear hk); (try clear hi)))
   go_ret
   exact ⟨by first | rfl | (simp [eN, eS] <;> rfl) | (simp [*, eN, eS] <;> rfl), by repeat (first | (with_reducible first | exact HB.out | apply bAl | apply pbN | apply bD1 | refine bSt ?_ GE149.out) | exact HB.out)⟩
  ·replace c6 := Bool.eq_false_iff.mpr c6
   subst c6
   rw [if_neg (show ¬ (false = true) by decide)] at H
   cases H
 ·replace c3 := Bool.eq_false_iff.mpr c3
  subst c3
  rw [if_neg (show ¬ (false = true) by decide)] at H
  cases H
theorem w37_alive.calls (r : Bool) (w : World) (h : w37_alive.f = some r) : Calls Try.prog 14 #[] w fun e w' => e = .returned (.bool r) ∧ Below w.heap.size w w' := by
 obtain rfl : true = r := Option.some.inj h
 exact aliveP_calls 20 w aliveP_ok
end Go.Proofs.Ythnkmcfhpjmihaa.Q
end
section
namespace Go.Proofs.Ythnkmcfhpjmihaa.Q
open Go.RowKit Go.Proofs.YthnkmcfhpjmihaaW.PrintWords Go.Proofs.YthnkmcfhpjmihaaW.PrintLast Go.Proofs.YthnkmcfhpjmihaaW.PrintMore
set_option linter.unusedVariables false
/-- The first cased position from i on, m positions at most. -/
def firstN (c : CaseS) (text : List Int) : Nat → Nat → Nat
 | 0, i => i
 | m + 1, i => if hasL c.ca (text.getD i 0) then i else firstN c text m (i + 1)
def tailN (c : CaseS) (text : List Int) : Nat → Nat → List Int
 | 0, _ => []
 | m + 1, j => mapdS c.ti (text.getD j 0) ++ titledS c text m (j + 1) true
/-- What is still to be written of a part whose first cased position is f, from j on. -/
def remN (c : CaseS) (text : List Int) (f hi j : Nat) : List Int := if j = f then tailN c text (hi - f) f else titledS c text (hi - j) j true

end Go.Proofs.Ythnkmcfhpjmihaa.Q
end
section
namespace Go.Proofs.Ythnkmcfhpjmihaa.Q
open Go.RowKit Go.Proofs.YthnkmcfhpjmihaaW.PrintWords Go.Proofs.YthnkmcfhpjmihaaW.PrintLast Go.Proofs.YthnkmcfhpjmihaaW.PrintMore
attribute [local go_sem] max2_int min2_int max_two min_two max_three min_three max_four min_four
set_option linter.unusedVariables false
set_option linter.unusedSimpArgs false
def w37_CasemapRefuses.j0 : Nat → List Int → Bool → List (S43) → List (S43) → List (S43) → List (S43) → List (S33) → List (S33) → Option (Bool)
 | 0, _, _, _, _, _, _, _, _ => none
 | k + 1, x1, x14, x255000, x255001, x255002, x255003, x255004, x255005 => if x14 = true then ((w37_alive.f).bind fun t257 => (some t257)) else ((casemap_Lower.f x255000 x255001 x255002 x255003 x255004 x255005 x1).bind fun t261 => ((r01_Equal.f k t261 x1).bind fun t264 => (if t264 = true then ((casemap_Upper.f x255000 x255001 x255002 x255003 x255004 x255005 x1).bind fun t265 => ((r01_Equal.f k t265 x1).bind fun t268 => (if t268 = true then ((casemap_Title.f x255000 x255001 x255002 x255003 x255004 x255005 x1 (([(⟨0, (x1.length : Int)⟩ : S33)] : List (S33)))).bind fun t269 => ((r01_Equal.f k t269 x1).bind fun t272 => (if t272 = true then ((w37_alive.f).bind fun t273 => (some t273)) else (some false)))) else (some false)))) else (some false))))
def w37_CasemapRefuses.f (k : Nat) (l0_0 : List (S43)) (l0_1 : List (S43)) (l0_2 : List (S43)) (l0_3 : List (S43)) (l0_4 : List (S33)) (l0_5 : List (S33)) (l1 : List Int) : Option (Bool) := (w37_few.f k l0_0 l0_1 l0_2 l0_3 l0_4 l0_5 l1).bind fun t255 => (if t255 = true then ((r37_Check.f k l0_0 l0_1 l0_2 l0_3 l0_4 l0_5).bind fun t256 => (w37_CasemapRefuses.j0 k l1 (t256 == 0) l0_0 l0_1 l0_2 l0_3 l0_4 l0_5)) else (w37_CasemapRefuses.j0 k l1 true l0_0 l0_1 l0_2 l0_3 l0_4 l0_5))
attribute [local go_sem] max2_int min2_int max_two min_two max_three min_three max_four min_four
set_option linter.unusedVariables false
set_option linter.unusedSimpArgs false
def w37_CasemapChecks.f (k : Nat) (l0_0 : List (S43)) (l0_1 : List (S43)) (l0_2 : List (S43)) (l0_3 : List (S43)) (l0_4 : List (S33)) (l0_5 : List (S33)) : Option (Bool) := (r37_Small.f k l0_0 l0_1 l0_2 l0_3 l0_4 l0_5).bind fun t275 => (if t275 = true then ((casemap_Check.f l0_0 l0_1 l0_2 l0_3 l0_4 l0_5).bind fun t276 => ((r37_Check.f k l0_0 l0_1 l0_2 l0_3 l0_4 l0_5).bind fun t277 => (if t276 = t277 then ((w37_alive.f).bind fun t278 => (some t278)) else (some false)))) else ((w37_alive.f).bind fun t279 => (some t279)))
def w37_CasemapChecks.T1 : Bool × List (List Nat × List Nat) := (true, [([], []), ([0], [0]), ([1], [1]), ([2, 1], [2]), ([3], [3]), ([4, 3, 3], [3, 4]), ([3], [3]), ([6, 5, 3], [3, 6]), ([5, 7, 3], [3, 5, 7]), ([3, 8], [3, 8]), ([9, 7], [9]), ([10, 10], [10]), ([10, 11], [10, 11]), ([12, 11, 0, 1, 2, 3, 4, 5, 6, 7, 8, 9, 10, 11, 12], [12])])
def w37_CasemapChecks.B1 : List Nat := [0, 1, 3, 7, 15, 31, 15, 127, 255, 511, 1023, 2047, 4095, 8191]
attribute [local go_sem] max2_int min2_int max_two min_two max_three min_three max_four min_four
set_option linter.unusedVariables false
set_option linter.unusedSimpArgs false
def w37_CasemapFinals.f (k : Nat) (l0_0 : List (S43)) (l0_1 : List (S43)) (l0_2 : List (S43)) (l0_3 : List (S43)) (l0_4 : List (S33)) (l0_5 : List (S33)) (l1 : List Int) (a2 : Int) : Option (Bool) := (w37_few.f k l0_0 l0_1 l0_2 l0_3 l0_4 l0_5 l1).bind fun t309 => (if t309 = true then ((casemap_Final.f l0_0 l0_1 l0_2 l0_3 l0_4 l0_5 l1 a2).bind fun t310 => ((r37_Final.f k l0_0 l0_1 l0_2 l0_3 l0_4 l0_5 l1 a2).bind fun t311 => (if (t310 == t311) = true then ((w37_alive.f).bind fun t312 => (some t312)) else (some false)))) else ((w37_alive.f).bind fun t313 => (some t313)))
def w37_CasemapFinals.T1 : Bool × List (List Nat × List Nat) := (true, [([], []), ([], []), ([0, 1], [0, 1]), ([2], [2]), ([3, 2], [3]), ([4], [4]), ([4], [4]), ([4], [4]), ([5, 6, 7, 4, 4], [4, 5, 6, 7]), ([4], [4]), ([4], [4]), ([4], [4]), ([9, 10, 11, 8, 4], [4, 9, 10, 11]), ([8, 12, 4], [4, 8, 12]), ([4, 13], [4, 13]), ([14, 12], [14]), ([15, 15], [15]), ([15, 16], [15, 16]), ([17, 16, 0, 1, 2, 3, 4, 5, 6, 7, 8, 9, 10, 11, 12, 13, 14, 15, 16, 17], [17])])
def w37_CasemapFinals.B1 : List Nat := [0, 0, 3, 7, 15, 31, 31, 31, 255, 31, 31, 31, 4095, 8191, 16383, 32767, 65535, 131071, 262143]
attribute [local go_sem] max2_int min2_int max_two min_two max_three min_three max_four min_four
set_option linter.unusedVariables false
set_option linter.unusedSimpArgs false
def w37_CasemapTexts.f (k : Nat) (l0_0 : List (S43)) (l0_1 : List (S43)) (l0_2 : List (S43)) (l0_3 : List (S43)) (l0_4 : List (S33)) (l0_5 : List (S33)) (l1 : List Int) : Option (Bool) := (w37_few.f k l0_0 l0_1 l0_2 l0_3 l0_4 l0_5 l1).bind fun t406 => (if t406 = true then ((casemap_Lower.f l0_0 l0_1 l0_2 l0_3 l0_4 l0_5 l1).bind fun t408 => ((r37_Lower.f k l0_0 l0_1 l0_2 l0_3 l0_4 l0_5 l1).bind fun t411 => ((r01_Equal.f k t408 t411).bind fun t414 => (if t414 = true then ((casemap_Upper.f l0_0 l0_1 l0_2 l0_3 l0_4 l0_5 l1).bind fun t415 => ((r37_Upper.f k l0_0 l0_1 l0_2 l0_3 l0_4 l0_5 l1).bind fun t418 => ((r01_Equal.f k t415 t418).bind fun t421 => (if t421 = true then ((w37_alive.f).bind fun t422 => (some t422)) else (some false))))) else (some false))))) else ((w37_alive.f).bind fun t407 => (some t407)))
def w37_CasemapTexts.T3 : Bool × List (List Nat × List Nat) := (true, [([], []), ([], []), ([0, 1], [0, 1]), ([], []), ([], []), ([3, 4, 2], [3, 4]), ([2, 5, 5], [2, 5]), ([6, 6], [6]), ([7], [7]), ([7], [7]), ([8, 9, 7, 7], [7, 8, 9]), ([7], [7]), ([7], [7]), ([11, 12, 10, 7], [7, 11, 12]), ([10, 13, 13, 7], [7, 10, 13]), ([7, 14], [7, 14]), ([15, 14], [15]), ([16, 16], [16]), ([16, 17], [16, 17]), ([18, 17, 0, 1, 2, 3, 4, 5, 6, 7, 8, 9, 10, 11, 12, 13, 14, 15, 16, 17, 18], [18])])
def w37_CasemapTexts.B3 : List Nat := [0, 0, 3, 0, 0, 31, 63, 127, 255, 255, 1023, 255, 255, 8191, 16383, 32767, 65535, 131071, 262143, 524287]
attribute [local go_sem] max2_int min2_int max_two min_two max_three min_three max_four min_four
set_option linter.unusedVariables false
set_option linter.unusedSimpArgs false
def w37_CasemapTitles.j0 : Nat → List Int → List (S33) → Bool → List (S43) → List (S43) → List (S43) → List (S43) → List (S33) → List (S33) → Option (Bool)
 | 0, _, _, _, _, _, _, _, _, _ => none
 | k + 1, x1, x2, x15, x605000, x605001, x605002, x605003, x605004, x605005 => if x15 = true then ((w37_alive.f).bind fun t606 => (some t606)) else ((casemap_Title.f x605000 x605001 x605002 x605003 x605004 x605005 x1 x2).bind fun t607 => ((r37_Title.f k x605000 x605001 x605002 x605003 x605004 x605005 x1 x2).bind fun t610 => ((r01_Equal.f k t607 t610).bind fun t613 => (if t613 = true then ((w37_alive.f).bind fun t614 => (some t614)) else (some false)))))
def w37_CasemapTitles.f (k : Nat) (l0_0 : List (S43)) (l0_1 : List (S43)) (l0_2 : List (S43)) (l0_3 : List (S43)) (l0_4 : List (S33)) (l0_5 : List (S33)) (l1 : List Int) (l2 : List (S33)) : Option (Bool) := (w37_few.f k l0_0 l0_1 l0_2 l0_3 l0_4 l0_5 l1).bind fun t605 => (if t605 = true then (w37_CasemapTitles.j0 k l1 l2 (decide ((l2.length : Int) > 40)) l0_0 l0_1 l0_2 l0_3 l0_4 l0_5) else (w37_CasemapTitles.j0 k l1 l2 true l0_0 l0_1 l0_2 l0_3 l0_4 l0_5))
def w37_CasemapTitles.T3 : Bool × List (List Nat × List Nat) := (true, [([], []), ([], []), ([], []), ([0, 1, 2], [0, 1, 2]), ([], []), ([], []), ([], []), ([4, 5, 6, 3], [4, 5, 6]), ([3, 7, 7], [3, 7]), ([8, 8], [8]), ([9, 9], [9]), ([9, 10], [9, 10]), ([11, 10, 0, 1, 2, 3, 4, 5, 6, 7, 8, 9, 10, 11], [11])])
def w37_CasemapTitles.B3 : List Nat := [0, 0, 0, 7, 0, 0, 0, 127, 255, 511, 1023, 2047, 4095]
attribute [local go_sem] max2_int min2_int max_two min_two max_three min_three max_four min_four
set_option linter.unusedVariables false
set_option linter.unusedSimpArgs false
mutual
def w37_CasemapUncased.j0 : Nat → List Int → List (S33) → Bool → List (S43) → List (S43) → List (S43) → List (S43) → List (S33) → List (S33) → Option (Bool)
 | 0, _, _, _, _, _, _, _, _, _ => none
 | k + 1, x1, x2, x17, x616000, x616001, x616002, x616003, x616004, x616005 => if x17 = true then ((w37_alive.f).bind fun t617 => (some t617)) else (w37_CasemapUncased.l0 k x1 x2 0 x616000 x616001 x616002 x616003 x616004 x616005)
def w37_CasemapUncased.l0 : Nat → List Int → List (S33) → Int → List (S43) → List (S43) → List (S43) → List (S43) → List (S33) → List (S33) → Option (Bool)
 | 0, _, _, _, _, _, _, _, _, _ => none
 | k + 1, x1, x2, x7, x616000, x616001, x616002, x616003, x616004, x616005 => if x7 < (x1.length : Int) then (if 0 ≤ x7 then ((r02_Has.f k x616004 (rd x1 x7)).bind fun t619 => (if t619 = true then ((w37_alive.f).bind fun t620 => (some t620)) else (w37_CasemapUncased.l0 k x1 x2 (wrap64 (x7 + 1)) x616000 x616001 x616002 x616003 x616004 x616005))) else (none)) else (w37_CasemapUncased.l1 k x1 x2 0 x616000 x616001 x616002 x616003 x616004 x616005)
def w37_CasemapUncased.l1 : Nat → List Int → List (S33) → Int → List (S43) → List (S43) → List (S43) → List (S43) → List (S33) → List (S33) → Option (Bool)
 | 0, _, _, _, _, _, _, _, _, _ => none
 | k + 1, x1, x2, x8, x616000, x616001, x616002, x616003, x616004, x616005 => if x8 < (x1.length : Int) then ((casemap_Final.f x616000 x616001 x616002 x616003 x616004 x616005 x1 x8).bind fun t621 => (if t621 = true then (some false) else (w37_CasemapUncased.l1 k x1 x2 (wrap64 (x8 + 1)) x616000 x616001 x616002 x616003 x616004 x616005))) else ((casemap_Title.f x616000 x616001 x616002 x616003 x616004 x616005 x1 x2).bind fun t622 => ((r01_Equal.f k t622 x1).bind fun t625 => (if t625 = true then ((w37_alive.f).bind fun t626 => (some t626)) else (some false))))
end
def w37_CasemapUncased.f (k : Nat) (l0_0 : List (S43)) (l0_1 : List (S43)) (l0_2 : List (S43)) (l0_3 : List (S43)) (l0_4 : List (S33)) (l0_5 : List (S33)) (l1 : List Int) (l2 : List (S33)) : Option (Bool) := (w37_few.f k l0_0 l0_1 l0_2 l0_3 l0_4 l0_5 l1).bind fun t616 => (if t616 = true then (w37_CasemapUncased.j0 k l1 l2 (decide ((l2.length : Int) > 40)) l0_0 l0_1 l0_2 l0_3 l0_4 l0_5) else (w37_CasemapUncased.j0 k l1 l2 true l0_0 l0_1 l0_2 l0_3 l0_4 l0_5))
end Go.Proofs.Ythnkmcfhpjmihaa.Q
end
section
namespace Go.Proofs.Ythnkmcfhpjmihaa.Q
open Go.RowKit Go.Proofs.YthnkmcfhpjmihaaW.PrintWords Go.Proofs.YthnkmcfhpjmihaaW.PrintLast Go.Proofs.YthnkmcfhpjmihaaW.PrintMore
set_option linter.unusedVariables false
theorem plOkT {t : List Int} (h : t.length ≤ 40) : okT t = true := dT (by omega)
theorem plLo {c : CaseS} {t : List Int} (h : plFewC c) (ht : t.length ≤ 40) : casemap_Lower.f c.lo c.up c.ti c.fo c.ca c.ig t = some (LowerS c t) := if_pos ⟨plOkC h, plOkT ht⟩
theorem plUp {c : CaseS} {t : List Int} (h : plFewC c) (ht : t.length ≤ 40) : casemap_Upper.f c.lo c.up c.ti c.fo c.ca c.ig t = some (UpperS c t) := if_pos ⟨plOkC h, plOkT ht⟩
@[irreducible] def plBig : Nat := 40000000
def plNo : CaseS := ⟨[], [], [], [], [], []⟩
end Go.Proofs.Ythnkmcfhpjmihaa.Q
end
section
namespace Go.Proofs.Ythnkmcfhpjmihaa.Q
open Go.RowKit Go.Proofs.YthnkmcfhpjmihaaW.PrintWords Go.Proofs.YthnkmcfhpjmihaaW.PrintLast Go.Proofs.YthnkmcfhpjmihaaW.PrintMore
attribute [local go_sem] max2_int min2_int max_two min_two max_three min_three max_four min_four
set_option linter.unusedVariables false
set_option linter.unusedSimpArgs false
abbrev cB0 := @Kd.C_below
abbrev cA0 := @Kd.C_alloc
abbrev cN0 := @Kd.C_drewN
abbrev cD0 := @Kd.C_drew
abbrev rA0 := @Kd.R_alloc
abbrev rN0 := @Kd.R_drewN
abbrev rD0 := @Kd.R_drew
mutual
def w37_CasemapJoins.j0 : Nat → List Int → List Int → Bool → List (S43) → List (S43) → List (S43) → List (S43) → List (S33) → List (S33) → Option (Bool)
 | 0, _, _, _, _, _, _, _, _, _ => none
 | k + 1, x1, x2, x18, x424000, x424001, x424002, x424003, x424004, x424005 => if x18 = true then ((w37_alive.f).bind fun t426 => (some t426)) else ((some (([] : List Int) : List Int)).bind fun y427 => (if y427.length + x1.length < 17592186044416 then ((some (y427 ++ x1 : List Int)).bind fun y430 => (if y430.length + x2.length < 17592186044416 then ((some (y430 ++ x2 : List Int)).bind fun y433 => ((casemap_Upper.f x424000 x424001 x424002 x424003 x424004 x424005 y433).bind fun t436 => ((some (([] : List Int) : List Int)).bind fun y439 => ((casemap_Upper.f x424000 x424001 x424002 x424003 x424004 x424005 x1).bind fun t442 => (if y439.length + t442.length < 17592186044416 then ((some (y439 ++ t442 : List Int)).bind fun y445 => ((casemap_Upper.f x424000 x424001 x424002 x424003 x424004 x424005 x2).bind fun t448 => (if y445.length + t448.length < 17592186044416 then ((r01_Equal.f k t436 (y445 ++ t448)).bind fun t454 => (if t454 = true then (w37_CasemapJoins.l0 k x1 x2 y433 0 x424000 x424001 x424002 x424003 x424004 x424005) else (some false))) else (none)))) else (none)))))) else (none))) else (none)))
def w37_CasemapJoins.l0 : Nat → List Int → List Int → List Int → Int → List (S43) → List (S43) → List (S43) → List (S43) → List (S33) → List (S33) → Option (Bool)
 | 0, _, _, _, _, _, _, _, _, _, _ => none
 | k + 1, x1, x2, x7, x8, x424000, x424001, x424002, x424003, x424004, x424005 => if x8 < (x424000.length : Int) then (if 0 ≤ x8 then (if ((rd_T43 x424000 x8).f2).toList = ([] : List UInt8) then (w37_CasemapJoins.l0 k x1 x2 x7 (wrap64 (x8 + 1)) x424000 x424001 x424002 x424003 x424004 x424005) else ((r37_Check.f k x424000 x424001 x424002 x424003 x424004 x424005).bind fun t456 => (if t456 = 0 then ((w37_alive.f).bind fun t457 => (some t457)) else (w37_CasemapJoins.l0 k x1 x2 x7 (wrap64 (x8 + 1)) x424000 x424001 x424002 x424003 x424004 x424005)))) else (none)) else ((casemap_Lower.f x424000 x424001 x424002 x424003 x424004 x424005 x7).bind fun t458 => ((some (([] : List Int) : List Int)).bind fun y461 => ((casemap_Lower.f x424000 x424001 x424002 x424003 x424004 x424005 x1).bind fun t464 => (if y461.length + t464.length < 17592186044416 then ((some (y461 ++ t464 : List Int)).bind fun y467 => ((casemap_Lower.f x424000 x424001 x424002 x424003 x424004 x424005 x2).bind fun t470 => (if y467.length + t470.length < 17592186044416 then ((r01_Equal.f k t458 (y467 ++ t470)).bind fun t476 => (if t476 = true then ((w37_alive.f).bind fun t477 => (some t477)) else (some false))) else (none)))) else (none)))))
end
def w37_CasemapJoins.f (k : Nat) (q0 : List (S43)) (q1 : List (S43)) (q2 : List (S43)) (q3 : List (S43)) (q4 : List (S33)) (q5 : List (S33)) (l1 : List Int) (l2 : List Int) : Option (Bool) := (w37_few.f k q0 q1 q2 q3 q4 q5 l1).bind fun t424 => (if t424 = true then ((w37_few.f k q0 q1 q2 q3 q4 q5 l2).bind fun t425 => (w37_CasemapJoins.j0 k l1 l2 (!t425) q0 q1 q2 q3 q4 q5)) else (w37_CasemapJoins.j0 k l1 l2 true q0 q1 q2 q3 q4 q5))
def w37_CasemapJoins.T4 : Bool × List (List Nat × List Nat) := (true, [([], []), ([], []), ([0, 1], [0, 1]), ([], []), ([], []), ([], []), ([4, 5, 2], [4, 5]), ([3, 6, 6], [3, 6]), ([], []), ([], []), ([8, 9, 7], [8, 9]), ([7, 10, 10], [7, 10]), ([2, 11, 11], [2, 11]), ([12], [12])])
def w37_CasemapJoins.B4 : List Nat := [0, 0, 3, 0, 0, 0, 55, 127, 0, 0, 1023, 2047, 4095, 8191]
def w37_CasemapJoins.T11 : Bool × List (List Nat × List Nat) := (true, [([], []), ([], []), ([0, 1], [0, 1]), ([], []), ([], []), ([], []), ([4, 5, 2], [4, 5]), ([3, 6, 6], [3, 6]), ([], []), ([], []), ([8, 9, 7], [8, 9]), ([7, 10, 10], [7, 10]), ([2, 11, 11], [2, 11]), ([12, 12], [12]), ([13, 13], [13]), ([13, 14], [13, 14]), ([15, 14, 0, 1, 2, 3, 4, 5, 6, 7, 8, 9, 10, 11, 12, 13, 14, 15], [15])])
def w37_CasemapJoins.B11 : List Nat := [0, 0, 3, 0, 0, 0, 55, 127, 0, 0, 1023, 2047, 4095, 8191, 16383, 32767, 65535]
end Go.Proofs.Ythnkmcfhpjmihaa.Q
end
section
namespace Go.Proofs.Ythnkmcfhpjmihaa.Q
open Go.RowKit Go.Proofs.YthnkmcfhpjmihaaW.PrintWords Go.Proofs.YthnkmcfhpjmihaaW.PrintLast Go.Proofs.YthnkmcfhpjmihaaW.PrintMore
set_option linter.unusedVariables false
set_option maxHeartbeats 2000000 in
set_option maxRecDepth 100000 in
theorem simple1_calls (A : Option Addr) (n : Nat) (l : List Mp) (x : Int) (bx : Nat) (w : World) (hr : Kd.C k43 w A l.length l) (hc : l.length ≤ n) (hok : okM l = true) (hx : w.cell? ⟨bx, 0, none⟩ = some (.int .i64 x)) :
  Calls Try.prog 50 #[.slice A l.length n, .pointer (some ⟨bx, 0, none⟩)] w fun e w' => e = .returned (.int .i64 (onlyS (mapdS l x) x)) ∧ Below w.heap.size w w' := by
 have HM := aM (casemap_mapped.calls A n l x (mapdS l x) w hr hc (mappedF l x hok))
 have HL := aM (mapdS_len hok x)
 have HX := aM hx
 clear hr hc hok
 generalize mapdS l x = xs at *
 by_cases h1 : xs.length = 1
 ·have ho : onlyS xs x = xs.getD 0 0 := by unfold onlyS; rw [if_pos h1]
  have H1 := aM h1
  have y1 : decide ((xs.length : Int) = 1) = true := dT (by omega)
  have y2 : ((xs.length : Int) == 1) = true := by rw [beq_iff_eq]; omega
  have y3 : (xs.length = 1) = True := eq_true h1
  have y4 : (xs.length == 1) = true := by rw [beq_iff_eq]; exact h1
  have y5 : ((0 : Int) < (xs.length : Int)) = True := eq_true (by omega)
  have y6 : (0 < xs.length) = True := eq_true (by omega)
  obtain ⟨y, hy⟩ : ∃ y, y = xs.getD 0 0 := ⟨_, rfl⟩
  rw [ho, ← hy]
  have HY := aM hy
  clear ho h1 hy
  go_enter Try.func50, Try.ntmps50
  go_upto_region 2 with (go_at_call 51; (with_reducible refine HM.out.mono ?_); rintro e w1 ⟨v1, rfl, hv, hb⟩; obtain ⟨A1, c1, rfl⟩ := Kd.R_slice hv; have HV := aM hv; have HB := aM hb; clear hv hb)
  obtain ⟨ad, e, t0⟩ := Kd.at_int (Kd.R_reads' HV.out).2.2 0 (by omega) (by have := H1.out; omega)
  cases e
  have t1 : w1.cell? ad = some (.int .i64 y) := by rw [HY.out]; exact t0
  have t2 : w1.cell? (ad.add 0) = some (.int .i64 y) := by rw [HY.out]; exact t0
  clear t0 hx
  go_wp2
  go_ret
  exact ⟨rfl, HB.out⟩
 ·have ho : onlyS xs x = x := by unfold onlyS; rw [if_neg h1]
  have y1 : decide ((xs.length : Int) = 1) = false := decide_eq_false (by omega)
  have y2 : ((xs.length : Int) == 1) = false := by rw [beq_eq_false_iff_ne]; omega
  have y3 : (xs.length = 1) = False := eq_false h1
  have y4 : (xs.length == 1) = false := by rw [beq_eq_false_iff_ne]; exact h1
  rw [ho]
  clear ho h1
  go_enter Try.func50, Try.ntmps50
  go_wp2_with (go_at_call 51; (with_reducible refine HM.out.mono ?_); rintro e w1 ⟨v1, rfl, hv, hb⟩; obtain ⟨A1, c1, rfl⟩ := Kd.R_slice hv; have hx2 := pcb hb hx; have HB := aM hb; clear hv hb hx)
  go_ret
  exact ⟨rfl, HB.out⟩
set_option maxHeartbeats 4000000 in
set_option maxRecDepth 100000 in
theorem casemap_Simple.calls (A0_0 : Option Addr) (c0_0 : Nat) (l0_0 : List Mp) (A0_1 : Option Addr) (c0_1 : Nat) (l0_1 : List Mp) (A0_2 : Option Addr) (c0_2 : Nat) (l0_2 : List Mp) (A0_3 : Option Addr) (c0_3 : Nat) (l0_3 : List Mp) (A0_4 : Option Addr) (c0_4 : Nat) (l0_4 : List Rg) (A0_5 : Option Addr) (c0_5 : Nat) (l0_5 : List Rg) (a1 : Int) (r1 r2 r3 : Int) (w : World) (hr0_0 : Kd.C k43 w A0_0 l0_0.length l0_0) (hc0_0 : l0_0.length ≤ c0_0) (hr0_1 : Kd.C k43 w A0_1 l0_1.length l0_1) (hc0_1 : l0_1.length ≤ c0_1) (hr0_2 : Kd.C k43 w A0_2 l0_2.length l0_2) (hc0_2 : l0_2.length ≤ c0_2) (hr0_3 : Kd.C k43 w A0_3 l0_3.length l0_3) (hc0_3 : l0_3.length ≤ c0_3) (hr0_4 : Kd.C k33 w A0_4 l0_4.length l0_4) (hc0_4 : l0_4.length ≤ c0_4) (hr0_5 : Kd.C k33 w A0_5 l0_5.length l0_5) (hc0_5 : l0_5.length ≤ c0_5) (h : casemap_Simple.f l0_0 l0_1 l0_2 l0_3 l0_4 l0_5 a1 = some (r1, r2, r3)) :
  Calls Try.prog 26 #[.agg #[.slice A0_0 l0_0.length c0_0, .slice A0_1 l0_1.length c0_1, .slice A0_2 l0_2.length c0_2, .slice A0_3 l0_3.length c0_3, .slice A0_4 l0_4.length c0_4, .slice A0_5 l0_5.length c0_5], .int .i64 a1] w fun e w' => e = .returned (.tuple #[.int .i64 r1, .int .i64 r2, .int .i64 r3]) ∧ Below w.heap.size w w' := by
 unfold casemap_Simple.f at h
 by_cases hok : okC ⟨l0_0, l0_1, l0_2, l0_3, l0_4, l0_5⟩ = true
 ·rw [if_pos hok] at h
  injection h with h
  unfold SimpleS at h
  injection h with e1 h
  injection h with e2 e3
  obtain ⟨d1, d2, d3, d4, d5⟩ := caseData_ok hok
  have HBX := aM (bAl (bAl (Below.refl w.heap.size w) (Obj.cells #[Value.slice A0_0 l0_0.length c0_0, Value.slice A0_1 l0_1.length c0_1, Value.slice A0_2 l0_2.length c0_2, Value.slice A0_3 l0_3.length c0_3, Value.slice A0_4 l0_4.length c0_4, Value.slice A0_5 l0_5.length c0_5] 27)) (Obj.cells #[Value.int IntKind.i64 a1] 3))
  have HX1 : Aside0 (((w.alloc (Obj.cells #[Value.slice A0_0 l0_0.length c0_0, Value.slice A0_1 l0_1.length c0_1, Value.slice A0_2 l0_2.length c0_2, Value.slice A0_3 l0_3.length c0_3, Value.slice A0_4 l0_4.length c0_4, Value.slice A0_5 l0_5.length c0_5] 27)).alloc (Obj.cells #[Value.int IntKind.i64 a1] 3)).cell? ⟨w.heap.size + 1, 0, none⟩ = some (.int .i64 a1)) := ⟨by
   have h := (bkC (blk_new (w.alloc (Obj.cells #[Value.slice A0_0 l0_0.length c0_0, Value.slice A0_1 l0_1.length c0_1, Value.slice A0_2 l0_2.length c0_2, Value.slice A0_3 l0_3.length c0_3, Value.slice A0_4 l0_4.length c0_4, Value.slice A0_5 l0_5.length c0_5] 27)) (Obj.cells #[Value.int IntKind.i64 a1] 3)) 0).trans rfl
   rw [World.size_alloc] at h
   exact h⟩
  have HOK := aM hok
  have HE := aM (And.intro e1 (And.intro e2 e3))
  have HD := aM (And.intro d1 (And.intro d2 d3))
  have hu := Try.underlying27
  have HR0 := aM hr0_0
  have HC0 := aM hc0_0
  have HR1 := aM hr0_1
  have HC1 := aM hc0_1
  have HR2 := aM hr0_2
  have HC2 := aM hc0_2
  have HR3 := aM hr0_3
  have HC3 := aM hc0_3
  have HR4 := aM hr0_4
  have HC4 := aM hc0_4
  have HR5 := aM hr0_5
  have HC5 := aM hc0_5
  clear hok e1 e2 e3 d1 d2 d3 d4 d5 hr0_0 hc0_0 hr0_1 hc0_1 hr0_2 hc0_2 hr0_3 hc0_3 hr0_4 hc0_4 hr0_5 hc0_5
  have HOP : Aside0 (Calls Try.prog 30 #[.agg #[.slice A0_0 l0_0.length c0_0, .slice A0_1 l0_1.length c0_1, .slice A0_2 l0_2.length c0_2, .slice A0_3 l0_3.length c0_3, .slice A0_4 l0_4.length c0_4, .slice A0_5 l0_5.length c0_5], .slice none 0 0] ((w.alloc (Obj.cells #[Value.slice A0_0 l0_0.length c0_0, Value.slice A0_1 l0_1.length c0_1, Value.slice A0_2 l0_2.length c0_2, Value.slice A0_3 l0_3.length c0_3, Value.slice A0_4 l0_4.length c0_4, Value.slice A0_5 l0_5.length c0_5] 27)).alloc (Obj.cells #[Value.int IntKind.i64 a1] 3)) fun e w' => ∃ b, e = .returned (.pointer (some ⟨b, 0, none⟩)) ∧ Mpr w' b (caseData ⟨l0_0, l0_1, l0_2, l0_3, l0_4, l0_5⟩) [] ∧ Below ((w.alloc (Obj.cells #[Value.slice A0_0 l0_0.length c0_0, Value.slice A0_1 l0_1.length c0_1, Value.slice A0_2 l0_2.length c0_2, Value.slice A0_3 l0_3.length c0_3, Value.slice A0_4 l0_4.length c0_4, Value.slice A0_5 l0_5.length c0_5] 27)).alloc (Obj.cells #[Value.int IntKind.i64 a1] 3)).heap.size ((w.alloc (Obj.cells #[Value.slice A0_0 l0_0.length c0_0, Value.slice A0_1 l0_1.length c0_1, Value.slice A0_2 l0_2.length c0_2, Value.slice A0_3 l0_3.length c0_3, Value.slice A0_4 l0_4.length c0_4, Value.slice A0_5 l0_5.length c0_5] 27)).alloc (Obj.cells #[Value.int IntKind.i64 a1] 3)) w') := ⟨open_calls A0_0 c0_0 l0_0 A0_1 c0_1 l0_1 A0_2 c0_2 l0_2 A0_3 c0_3 l0_3 A0_4 c0_4 l0_4 A0_5 c0_5 l0_5 none 0 [] _ (Kd.C_below HR0.out HBX.out) HC0.out (Kd.C_below HR1.out HBX.out) HC1.out (Kd.C_below HR2.out HBX.out) HC2.out (Kd.C_below HR3.out HBX.out) HC3.out (Kd.C_below HR4.out HBX.out) HC4.out (Kd.C_below HR5.out HBX.out) HC5.out (Kd.C_nil _ _) (Nat.le_refl _) HOK.out⟩
  go_enter Try.func26, Try.ntmps26
  go_upto_region 2 with (go_at_call 30; (with_reducible refine HOP.out.mono ?_); rintro e w2 ⟨b, rfl, hm, hb⟩; have HM := aM hm; have HX2 := aM (pcb hb HX1.out); have HB2 := aM (bSp HBX.out hb); clear hm hb)
  generalize caseData ⟨l0_0, l0_1, l0_2, l0_3, l0_4, l0_5⟩ = d at *
  obtain ⟨A0, n0, A1, n1, A2, n2, A3, n3, A4, n4, A5, n5, At, nt, hA⟩ := HM.out
  have HMA := aM hA
  have q0 := hA.c0
  have q1 := hA.c1
  have q2 := hA.c2
  have HW0 := aM (Below.refl w2.heap.size w2)
  clear hA
  go_wp2
  go_region_held3 (fun w' => w'.cell? ⟨b, 0, none⟩ = some (.slice A0 d.lo.length n0) ∧ w'.cell? ⟨b, 1, none⟩ = some (.slice A1 d.up.length n1) ∧ w'.cell? ⟨b, 2, none⟩ = some (.slice A2 d.ti.length n2)) (first | go_keep | (go_split_ands; refine ⟨?_, ?_, ?_⟩; (refine pcb hb ?_; assumption); (refine pcb hb ?_; assumption); (refine pcb hb ?_; assumption)))
   (first | (go_at_call 50; (with_reducible refine (simple1_calls A0 n0 d.lo a1 (w.heap.size + 1) _ ?s1 HMA.out.l0 HD.out.1 ?s2).mono ?_); (case s1 => exact Kd.C_below HMA.out.r0 (by repeat (first | (with_reducible first | exact HW0.out | apply bAl | apply pbN | apply bD1) | exact HW0.out))); (case s2 => exact pcb (by repeat (first | (with_reducible first | exact HW0.out | apply bAl | apply pbN | apply bD1) | exact HW0.out)) HX2.out); rintro e w3 ⟨rfl, hb⟩; have HW1 := aM (bSp (show Below w2.heap.size w2 _ from (by repeat (first | (with_reducible first | exact HW0.out | apply bAl | apply pbN | apply bD1) | exact HW0.out))) hb)) | (go_at_call 50; (with_reducible refine (simple1_calls A1 n1 d.up a1 (w.heap.size + 1) _ ?s1 HMA.out.l1 HD.out.2.1 ?s2).mono ?_); (case s1 => exact Kd.C_below HMA.out.r1 (by repeat (first | (with_reducible first | exact HW1.out | apply bAl | apply pbN | apply bD1) | exact HW1.out))); (case s2 => exact pcb (by repeat (first | (with_reducible first | exact HW1.out | apply bAl | apply pbN | apply bD1) | exact HW1.out)) HX2.out); rintro e w4 ⟨rfl, hb⟩; have HW2 := aM (bSp (show Below w2.heap.size w2 _ from (by repeat (first | (with_reducible first | exact HW1.out | apply bAl | apply pbN | apply bD1) | exact HW1.out))) hb)) | (go_at_call 50; (with_reducible refine (simple1_calls A2 n2 d.ti a1 (w.heap.size + 1) _ ?s1 HMA.out.l2 HD.out.2.2 ?s2).mono ?_); (case s1 => exact Kd.C_below HMA.out.r2 (by repeat (first | (with_reducible first | exact HW2.out | apply bAl | apply pbN | apply bD1) | exact HW2.out))); (case s2 => exact pcb (by repeat (first | (with_reducible first | exact HW2.out | apply bAl | apply pbN | apply bD1) | exact HW2.out)) HX2.out); rintro e w5 ⟨rfl, hb⟩; have HW3 := aM (bSp (show Below w2.heap.size w2 _ from (by repeat (first | (with_reducible first | exact HW2.out | apply bAl | apply pbN | apply bD1) | exact HW2.out))) hb)))
  clear hb
  go_wp2
  go_ret3
  obtain ⟨rfl, rfl, rfl⟩ := HE.out
  exact ⟨rfl, bSp HB2.out HW3.out⟩
 ·rw [if_neg hok] at h; cases h
end Go.Proofs.Ythnkmcfhpjmihaa.Q
end
