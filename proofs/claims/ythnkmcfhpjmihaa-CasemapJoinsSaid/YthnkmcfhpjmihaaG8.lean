/- Lemmas, printed and written for this claim: part 8. -/
import Derived.WalkKit
import Derived.Test.YthnkmcfhpjmihaaG4
import Derived.Test.YthnkmcfhpjmihaaG7
import Derived.Test.YthnkmcfhpjmihaaG2
import Derived.Test.YthnkmcfhpjmihaaG6
import Derived.Test.YthnkmcfhpjmihaaG5
import Derived.WalkSpells
import Derived.IntWalk
import Derived.Deep.RegionHeld3
import Derived.Deep.RegionLaw
import Derived.Laws.Runes
import Derived.Test.YthnkmcfhpjmihaaG3
section
namespace Go.Proofs.Ythnkmcfhpjmihaa.Q
open Go.RowKit Go.Proofs.YthnkmcfhpjmihaaW.PrintWords Go.Proofs.YthnkmcfhpjmihaaW.PrintLast Go.Proofs.YthnkmcfhpjmihaaW.PrintMore
set_option linter.unusedVariables false
def plFewM (l : List Mp) : Prop := l.length ≤ 20 ∧ ∀ x ∈ l, x.f1.length ≤ 65 ∧ x.f2.size ≤ 40
def plFewC (c : CaseS) : Prop := plFewM c.lo ∧ plFewM c.up ∧ plFewM c.ti ∧ plFewM c.fo ∧ c.ca.length ≤ 12 ∧ c.ig.length ≤ 12
theorem rdM_mid (pre : List Mp) (x : Mp) (rest : List Mp) : rd_T43 (pre ++ x :: rest) (pre.length : Int) = x := by
 unfold rd_T43
 rw [Int.toNat_natCast, List.getD_eq_getElem?_getD, List.getElem?_append_right (Nat.le_refl _), Nat.sub_self]
 rfl
theorem plSmallM_go : ∀ (d : Nat) (rest pre : List Mp) (k : Nat), pre.length + d = 30 → 2 * d + 2 ≤ k →
  ∃ b, r11_Small.l0 k (pre ++ rest) (pre.length : Int) = some b ∧ (b = true → (pre ++ rest).length ≤ 20 ∧ ∀ s ∈ rest, s.f1.length ≤ 65 ∧ s.f2.size ≤ 40)
 | d, [], pre, k, h1, h2 => by
  obtain ⟨k, rfl⟩ : ∃ j, k = j + 2 := ⟨k - 2, by omega⟩
  rw [r11_Small.l0, if_neg (by simp), r11_Small.j1, if_neg (by decide)]
  refine ⟨_, rfl, fun h => ⟨?_, fun s hs => by cases hs⟩⟩
  have := oD h
  omega
 | 0, s :: rest, pre, k, h1, h2 => by
  obtain ⟨k, rfl⟩ : ∃ j, k = j + 2 := ⟨k - 2, by omega⟩
  rw [r11_Small.l0, if_pos (by simp; omega), decide_eq_false (by omega), r11_Small.j1, if_neg (by decide)]
  refine ⟨_, rfl, fun h => ?_⟩
  have := oD h
  simp at this
  omega
 | d + 1, s :: rest, pre, k, h1, h2 => by
  obtain ⟨k, rfl⟩ : ∃ j, k = j + 2 := ⟨k - 2, by omega⟩
  obtain ⟨b, ih, hb⟩ := plSmallM_go d rest (pre ++ [s]) k (by simp; omega) (by omega)
  have ex : (pre ++ [s]) ++ rest = pre ++ s :: rest := by simp
  have el : ((pre ++ [s]).length : Int) = ((pre.length + 1 : Nat) : Int) := by simp
  rw [ex, el] at ih
  rw [ex] at hb
  rw [r11_Small.l0, if_pos (by simp; omega), dT (by omega), r11_Small.j1, if_pos rfl, if_pos (by omega), if_pos (by simp; omega), rdM_mid, wrap_suc (by omega : pre.length < 1000000000), ih]
  by_cases hs : (s.f1.length : Int) > 65
  ·rw [if_pos hs]
   exact ⟨false, rfl, fun h => by cases h⟩
  ·rw [if_neg hs]
   by_cases ht : (s.f2.size : Int) > 40
   ·rw [if_pos ht]
    exact ⟨false, rfl, fun h => by cases h⟩
   ·rw [if_neg ht]
    exact ⟨b, rfl, fun h => ⟨(hb h).1, fun x hx => by
     rcases List.mem_cons.1 hx with rfl | hx
     ·exact ⟨by omega, by omega⟩
     ·exact (hb h).2 x hx⟩⟩
theorem plSmallM_ok (l : List Mp) (k : Nat) (hk : 62 ≤ k) : ∃ b, r11_Small.f k l = some b ∧ (b = true → plFewM l) := plSmallM_go 30 l [] k rfl (by omega)
theorem plSmall_ok (c : CaseS) (k : Nat) (hk : 62 ≤ k) : ∃ b, r37_Small.f k c.lo c.up c.ti c.fo c.ca c.ig = some b ∧ (b = true → plFewC c) := by
 obtain ⟨b0, e0, g0⟩ := plSmallM_ok c.lo k hk
 obtain ⟨b1, e1, g1⟩ := plSmallM_ok c.up k hk
 obtain ⟨b2, e2, g2⟩ := plSmallM_ok c.ti k hk
 obtain ⟨b3, e3, g3⟩ := plSmallM_ok c.fo k hk
 unfold r37_Small.f r02_Small.f
 rw [e0, e1, e2, e3]
 simp only [Option.bind_some]
 cases b0 with
 | false => exact ⟨false, rfl, fun h => by cases h⟩
 | true => cases b1 with
  | false => exact ⟨false, rfl, fun h => by cases h⟩
  | true => cases b2 with
   | false => exact ⟨false, rfl, fun h => by cases h⟩
   | true => cases b3 with
    | false => exact ⟨false, rfl, fun h => by cases h⟩
    | true =>
     simp only [if_true]
     by_cases h4 : (c.ca.length : Int) ≤ 12
     ·rw [dT h4, if_pos rfl]
      exact ⟨_, rfl, fun h => ⟨g0 rfl, g1 rfl, g2 rfl, g3 rfl, by omega, by have := oD h; omega⟩⟩
     ·rw [decide_eq_false h4, if_neg (by decide)]
      exact ⟨false, rfl, fun h => by cases h⟩
theorem plFew_ok (c : CaseS) (text : List Int) (k : Nat) (hk : 62 ≤ k) : ∃ b, w37_few.f k c.lo c.up c.ti c.fo c.ca c.ig text = some b ∧ (b = true → plFewC c ∧ text.length ≤ 40) := by
 obtain ⟨b, e, h⟩ := plSmall_ok c k hk
 unfold w37_few.f
 rw [e]
 cases b with
 | false => exact ⟨false, rfl, fun h => by cases h⟩
 | true => exact ⟨_, rfl, fun h2 => ⟨h rfl, by have := oD h2; omega⟩⟩
theorem plOkM {l : List Mp} (h : plFewM l) : okM l = true := by
 unfold okM
 rw [Bool.and_eq_true, decide_eq_true_eq, List.all_eq_true]
 refine ⟨by have := h.1; omega, fun x hx => ?_⟩
 have := h.2 x hx
 rw [dT (by omega), dT (by omega)]
 rfl
theorem plOkC {c : CaseS} (h : plFewC c) : okC c = true := by
 obtain ⟨h0, h1, h2, h3, h4, h5⟩ := h
 unfold okC
 rw [plOkM h0, plOkM h1, plOkM h2, plOkM h3, dT (by omega), dT (by omega)]
 rfl
theorem valid01_eq (c : Int) : r01_Valid.f c = some (codeB c) := by
 unfold r01_Valid.f codeB
 by_cases h : 0 ≤ c
 ·rw [if_pos h, dT h]; rfl
 ·rw [if_neg h, decide_eq_false h]; rfl
theorem plCodes_go (fr : Int) (tg : ByteArray) : ∀ (rest pre : List Int) (k : Nat), (pre ++ rest).length < 1000000000 → rest.length + 1 ≤ k →
  r11_codes.l0 k (pre.length : Int) fr (pre ++ rest) tg = some (codesB rest && codeB fr)
 | [], pre, k, h1, h2 => by
  obtain ⟨k, rfl⟩ : ∃ j, k = j + 1 := ⟨k - 1, by omega⟩
  rw [r11_codes.l0, if_neg (by simp), valid01_eq]
  rfl
 | x :: rest, pre, k, h1, h2 => by
  obtain ⟨k, rfl⟩ : ∃ j, k = j + 1 := ⟨k - 1, by omega⟩
  have hp : pre.length < 1000000000 := by simp at h1; omega
  have ih := plCodes_go fr tg rest (pre ++ [x]) k (by simpa using h1) (by simp at h2; omega)
  have ex : (pre ++ [x]) ++ rest = pre ++ x :: rest := by simp
  have el : ((pre ++ [x]).length : Int) = ((pre.length + 1 : Nat) : Int) := by simp
  rw [ex, el] at ih
  rw [r11_codes.l0, if_pos (by simp; omega), if_pos (by omega), rd_mid, wrap_suc hp, valid01_eq, ih]
  show (if codeB x = true then _ else _) = _
  unfold codesB
  rw [List.all_cons]
  cases codeB x <;> rfl
theorem bt_mid (s : ByteArray) (pre : List UInt8) (b : UInt8) (rest : List UInt8) (h : s.data.toList = pre ++ b :: rest) : pre.length < s.size ∧ bt s (pre.length : Int) = (b.toNat : Int) := by
 obtain ⟨⟨l⟩⟩ := s
 simp only at h
 subst h
 have hl : pre.length < (⟨⟨pre ++ b :: rest⟩⟩ : ByteArray).size := by
  show pre.length < (pre ++ b :: rest).length
  simp
 refine ⟨hl, ?_⟩
 unfold bt
 rw [Int.toNat_natCast, dif_pos hl]
 show (((pre ++ b :: rest)[pre.length]'(by simp)).toNat : Int) = _
 rw [List.getElem_append_right (Nat.le_refl _)]
 simp
theorem plName_go (s : ByteArray) (hs : s.size < 1000000000) : ∀ (rest pre : List UInt8) (k : Nat), s.data.toList = pre ++ rest → rest.length + 1 ≤ k →
    r11_Name.l0 k s (pre.length : Int) = some ((rest.all fun b => nbyte (b.toNat : Int)) && (decide (1 ≤ s.size) && decide (s.size ≤ 32)))
  | [], pre, k, h1, h2 => by
    obtain ⟨k, rfl⟩ : ∃ j, k = j + 1 := ⟨k - 1, by omega⟩
    have e : s.size = pre.length := by
      show s.data.size = _
      rw [← Array.length_toList, h1, List.append_nil]
    rw [r11_Name.l0, if_neg (by omega)]
    by_cases h : 1 ≤ s.size
    · rw [if_pos (by omega), dT h]
      show some (decide _) = some (decide _)
      congr 1
      rw [decide_eq_decide]
      omega
    · rw [if_neg (by omega), decide_eq_false h]
      rfl
  | b :: rest, pre, k, h1, h2 => by
    obtain ⟨k, rfl⟩ : ∃ j, k = j + 1 := ⟨k - 1, by omega⟩
    obtain ⟨hlt, hb⟩ := bt_mid s pre b rest h1
    have ih := plName_go s hs rest (pre ++ [b]) k (by simpa using h1) (by simp at h2; omega)
    have el : ((pre ++ [b]).length : Int) = ((pre.length + 1 : Nat) : Int) := by simp
    rw [el] at ih
    rw [r11_Name.l0, if_pos (by omega), if_pos (by omega), hb, wrap_suc (by omega : pre.length < 1000000000), ih, List.all_cons]
    generalize (b.toNat : Int) = r
    generalize (rest.all fun b => nbyte (b.toNat : Int)) = q
    repeat' split
    all_goals first
      | (have e : nbyte r = true := by
           unfold nbyte
           simp only [Bool.or_eq_true, decide_eq_true_eq]
           omega
         rw [e]; rfl)
      | (have e : nbyte r = false := by
           unfold nbyte
           simp only [Bool.or_eq_false_iff, decide_eq_false_iff_not]
           omega
         rw [e]; rfl)
theorem plName_ok (s : ByteArray) (k : Nat) (h : s.size ≤ 1000) (hk : s.size + 1 ≤ k) : r11_Name.f k s = some (nameB s) := by
 have := plName_go s (by omega) s.data.toList [] k rfl (by rw [Array.length_toList]; exact hk)
 refine Eq.trans this ?_
 unfold nameB
 congr 1
 generalize (s.data.toList.all fun b => nbyte (b.toNat : Int)) = q
 generalize decide (1 ≤ s.size) = q1
 generalize decide (s.size ≤ 32) = q2
 cases q <;> cases q1 <;> cases q2 <;> rfl
def twR : List Mp → List Mp → Bool
 | _, [] => false
 | pre, x :: r => pre.any (fun y => sameK y x) || twR (pre ++ [x]) r
theorem twR_eq : ∀ (l pre : List Mp), twR pre l = (l.any (fun x => pre.any (fun y => sameK y x)) || twiceM l)
 | [], pre => rfl
 | x :: r, pre => by
  rw [twR, twR_eq r (pre ++ [x]), twiceM, List.any_cons]
  have e : (r.any fun z => (pre ++ [x]).any fun y => sameK y z) = ((r.any fun z => pre.any fun y => sameK y z) || r.any fun z => sameK x z) := by
   rw [Bool.eq_iff_iff]
   simp only [List.any_eq_true, Bool.or_eq_true, List.mem_append, List.mem_singleton]
   constructor
   ·rintro ⟨z, hz, y, hy | rfl, h⟩
    ·exact .inl ⟨z, hz, y, hy, h⟩
    ·exact .inr ⟨z, hz, h⟩
   ·rintro (⟨z, hz, y, hy, h⟩ | ⟨z, hz, h⟩)
    ·exact ⟨z, hz, y, .inl hy, h⟩
    ·exact ⟨z, hz, x, .inr rfl, h⟩
  rw [e]
  cases pre.any (fun y => sameK y x) <;> cases (r.any fun z => pre.any fun y => sameK y z) <;> rfl
theorem plTwiceIn (x : Mp) (rest : List Mp) : ∀ (p2 p1 : List Mp) (k : Nat), (p1 ++ p2).length < 1000000000 →
  r11_twice.l1 (k + p2.length + 1) ((p1 ++ p2) ++ x :: rest) (((p1 ++ p2).length : Nat) : Int) (p1.length : Int) = if p2.any (fun y => sameK y x) = true then some true else r11_twice.l0 k ((p1 ++ p2) ++ x :: rest) (((p1 ++ p2).length + 1 : Nat) : Int)
 | [], p1, k, h => by
  rw [r11_twice.l1, if_neg (by simp), wrap_suc h]
  rfl
 | y :: p2, p1, k, h => by
  have ih := plTwiceIn x rest p2 (p1 ++ [y]) k (by simpa using h)
  have ex : (p1 ++ [y]) ++ p2 = p1 ++ y :: p2 := by simp
  have el : ((p1 ++ [y]).length : Int) = ((p1.length + 1 : Nat) : Int) := by simp
  rw [ex, el] at ih
  have e1 : rd_T43 ((p1 ++ y :: p2) ++ x :: rest) (((p1 ++ y :: p2).length : Nat) : Int) = x := rdM_mid _ _ _
  have e2 : rd_T43 ((p1 ++ y :: p2) ++ x :: rest) (p1.length : Int) = y := by
   rw [List.append_assoc]
   exact rdM_mid _ _ _
  rw [show k + (y :: p2).length + 1 = (k + p2.length + 1) + 1 by simp; omega, r11_twice.l1, if_pos (by simp; omega), if_pos (by omega), if_pos (by simp; omega), if_pos (by omega), if_pos (by simp; omega), e1, e2, wrap_suc (by simp at h; omega : p1.length < 1000000000), ih, List.any_cons]
  unfold sameK
  by_cases ha : x.f0 = y.f0
  ·rw [if_pos ha, dT ha.symm]
   by_cases hb : x.f2 = y.f2
   ·rw [if_pos (by rw [hb]), dT hb.symm]
    rfl
   ·rw [if_neg (fun hh => hb ((bytesEq_iff _ _).1 hh)), decide_eq_false (fun hh => hb hh.symm)]
    rfl
  ·rw [if_neg ha, decide_eq_false (fun hh => ha hh.symm)]
   rfl
theorem plTwice_go : ∀ (rest pre : List Mp) (k : Nat), (pre ++ rest).length ≤ 30 → 40 * rest.length + 1 ≤ k → r11_twice.l0 k (pre ++ rest) (pre.length : Int) = some (twR pre rest)
 | [], pre, k, h1, h2 => by
  obtain ⟨k, rfl⟩ : ∃ j, k = j + 1 := ⟨k - 1, by omega⟩
  rw [r11_twice.l0, if_neg (by simp)]
  rfl
 | x :: rest, pre, k, h1, h2 => by
  have hp : pre.length ≤ 30 := by simp at h1; omega
  obtain ⟨k, rfl⟩ : ∃ j, k = (j + pre.length + 1) + 1 := ⟨k - pre.length - 2, by simp at h2; omega⟩
  have ih := plTwice_go rest (pre ++ [x]) k (by simpa using h1) (by simp at h2; omega)
  have ex : (pre ++ [x]) ++ rest = pre ++ x :: rest := by simp
  have el : ((pre ++ [x]).length : Int) = ((pre.length + 1 : Nat) : Int) := by simp
  rw [ex, el] at ih
  have hin := plTwiceIn x rest pre [] k (by simp; omega)
  rw [List.nil_append] at hin
  rw [r11_twice.l0, if_pos (by simp; omega)]
  refine Eq.trans hin ?_
  rw [ih, twR]
  cases pre.any (fun y => sameK y x) <;> rfl
theorem plTwice_ok (l : List Mp) (k : Nat) (h : l.length ≤ 20) (hk : 801 ≤ k) : r11_twice.f k l = some (twiceM l) := by
 refine (plTwice_go l [] k (by simp; omega) (by omega)).trans ?_
 rw [twR_eq]
 congr 1
 have : (l.any fun x => ([] : List Mp).any fun y => sameK y x) = false := by simp
 rw [this, Bool.false_or]
theorem plUn2 (hk0 : True) : ∀ (rest pre : List Mp) (k : Nat), (pre ++ rest).length ≤ 20 → (∀ x ∈ rest, x.f2.size ≤ 40) → rest.length + 820 ≤ k →
  r11_unsorted.l2 k (pre ++ rest) (pre.length : Int) = some (if rest.all (fun x => decide (x.f2.size = 0) || nameB x.f2) then (if twiceM (pre ++ rest) then 5 else 0) else 6)
 | [], pre, k, h1, h3, h2 => by
  obtain ⟨k, rfl⟩ : ∃ j, k = j + 1 := ⟨k - 1, by omega⟩
  rw [r11_unsorted.l2, if_neg (by simp), plTwice_ok _ k h1 (by simp at h2; omega)]
  show (if twiceM (pre ++ []) = true then _ else _) = some (if twiceM (pre ++ []) = true then _ else _)
  split <;> rfl
 | x :: rest, pre, k, h1, h3, h2 => by
  obtain ⟨k, rfl⟩ : ∃ j, k = j + 1 := ⟨k - 1, by omega⟩
  have hp : pre.length < 1000000000 := by simp at h1; omega
  have ih := plUn2 hk0 rest (pre ++ [x]) k (by simpa using h1) (fun y hy => h3 y (List.mem_cons_of_mem _ hy)) (by simp at h2; omega)
  have ex : (pre ++ [x]) ++ rest = pre ++ x :: rest := by simp
  have el : ((pre ++ [x]).length : Int) = ((pre.length + 1 : Nat) : Int) := by simp
  rw [ex, el] at ih
  have hx := h3 x List.mem_cons_self
  rw [r11_unsorted.l2, if_pos (by simp; omega), if_pos (by omega), rdM_mid, wrap_suc hp, ih, plName_ok _ k (by omega) (by omega), List.all_cons]
  by_cases hz : x.f2.size = 0
  ·rw [if_pos ((bytesEq_nil _).2 hz), dT hz]
   rfl
  ·rw [if_neg (fun hh => hz ((bytesEq_nil _).1 hh)), decide_eq_false hz]
   show (if nameB x.f2 = true then _ else _) = _
   cases nameB x.f2 <;> rfl
theorem plUn1 : ∀ (rest pre : List Mp) (k : Nat), (pre ++ rest).length ≤ 20 → (∀ x ∈ pre ++ rest, x.f2.size ≤ 40) → rest.length + 850 ≤ k →
  r11_unsorted.l1 k (pre ++ rest) (pre.length : Int) = some (if rest.all (fun x => decide (x.f1.length ≤ 64)) then (if (pre ++ rest).all (fun x => decide (x.f2.size = 0) || nameB x.f2) then (if twiceM (pre ++ rest) then 5 else 0) else 6) else 2)
 | [], pre, k, h1, h3, h2 => by
  obtain ⟨k, rfl⟩ : ∃ j, k = j + 1 := ⟨k - 1, by omega⟩
  have := plUn2 trivial (pre ++ []) [] k (by simpa using h1) (fun x hx => h3 x hx) (by simp at h1 h2 ⊢; omega)
  rw [List.nil_append] at this
  rw [r11_unsorted.l1, if_neg (by simp)]
  exact this
 | x :: rest, pre, k, h1, h3, h2 => by
  obtain ⟨k, rfl⟩ : ∃ j, k = j + 1 := ⟨k - 1, by omega⟩
  have hp : pre.length < 1000000000 := by simp at h1; omega
  have ex : (pre ++ [x]) ++ rest = pre ++ x :: rest := by simp
  have ih := plUn1 rest (pre ++ [x]) k (by simpa using h1) (by rw [ex]; exact h3) (by simp at h2; omega)
  have el : ((pre ++ [x]).length : Int) = ((pre.length + 1 : Nat) : Int) := by simp
  rw [ex, el] at ih
  rw [r11_unsorted.l1, if_pos (by simp; omega), if_pos (by omega), rdM_mid, wrap_suc hp, ih, List.all_cons]
  by_cases hz : x.f1.length ≤ 64
  ·rw [if_neg (by omega), dT hz]
   rfl
  ·rw [if_pos (by omega), decide_eq_false hz]
   rfl
theorem plUn0 : ∀ (rest pre : List Mp) (k : Nat), plFewM (pre ++ rest) → rest.length + 880 ≤ k →
  r11_unsorted.l0 k (pre ++ rest) (pre.length : Int) = some (if rest.all (fun x => codeB x.f0 && codesB x.f1) then (if (pre ++ rest).all (fun x => decide (x.f1.length ≤ 64)) then (if (pre ++ rest).all (fun x => decide (x.f2.size = 0) || nameB x.f2) then (if twiceM (pre ++ rest) then 5 else 0) else 6) else 2) else 1)
 | [], pre, k, h1, h2 => by
  obtain ⟨k, rfl⟩ : ∃ j, k = j + 1 := ⟨k - 1, by omega⟩
  have := plUn1 (pre ++ []) [] k (by simpa using h1.1) (fun x hx => (h1.2 x hx).2) (by have := h1.1; simp at this h2 ⊢; omega)
  rw [List.nil_append] at this
  rw [r11_unsorted.l0, if_neg (by simp)]
  exact this
 | x :: rest, pre, k, h1, h2 => by
  obtain ⟨k, rfl⟩ : ∃ j, k = j + 1 := ⟨k - 1, by omega⟩
  have hl := h1.1
  have hp : pre.length < 1000000000 := by simp at hl; omega
  have ex : (pre ++ [x]) ++ rest = pre ++ x :: rest := by simp
  have ih := plUn0 rest (pre ++ [x]) k (by rw [ex]; exact h1) (by simp at h2; omega)
  have el : ((pre ++ [x]).length : Int) = ((pre.length + 1 : Nat) : Int) := by simp
  rw [ex, el] at ih
  have hx := h1.2 x (by simp)
  have hc : r11_codes.f k x.f0 x.f1 x.f2 = some (codesB x.f1 && codeB x.f0) := plCodes_go x.f0 x.f2 x.f1 [] k (by simp; omega) (by simp at h2; omega)
  rw [r11_unsorted.l0, if_pos (by simp; omega), if_pos (by omega), rdM_mid, wrap_suc hp, ih, hc, List.all_cons]
  show (if (codesB x.f1 && codeB x.f0) = true then _ else _) = _
  cases codesB x.f1 <;> cases codeB x.f0 <;> rfl
theorem plUnsorted_ok (l : List Mp) (k : Nat) (h : plFewM l) (hk : 900 ≤ k) : r11_unsorted.f k l = some (uncheckM l) :=
 plUn0 l [] k h (by have := h.1; omega)
theorem plBefore_ok (a b : Mp) : r11_before.f a.f0 a.f1 a.f2 b.f0 b.f1 b.f2 = some (beforeM a b) := by
 unfold r11_before.f beforeM
 by_cases h : a.f0 < b.f0
 ·rw [if_pos h, dT h]; rfl
 ·rw [if_neg h, decide_eq_false h]
  by_cases h2 : a.f0 = b.f0
  ·rw [if_pos h2, dT h2]; rfl
  ·rw [if_neg h2, decide_eq_false h2]; rfl
theorem plOrd_go : ∀ (rest pre : List Mp) (x : Mp) (k : Nat), (pre ++ x :: rest).length < 1000000 → rest.length + 1 ≤ k →
  r11_Check.l0 k (pre ++ x :: rest) ((pre.length + 1 : Nat) : Int) = some (if sortedM (x :: rest) then 0 else 4)
 | [], pre, x, k, h1, h2 => by
  obtain ⟨k, rfl⟩ : ∃ j, k = j + 1 := ⟨k - 1, by omega⟩
  rw [r11_Check.l0, if_neg (by simp)]
  rfl
 | y :: rest, pre, x, k, h1, h2 => by
  obtain ⟨k, rfl⟩ : ∃ j, k = j + 1 := ⟨k - 1, by omega⟩
  have hp : pre.length < 1000000 := by simp at h1; omega
  have ex : (pre ++ [x]) ++ y :: rest = pre ++ x :: y :: rest := by simp
  have ih := plOrd_go rest (pre ++ [x]) y k (by simpa using h1) (by simp at h2; omega)
  have el : (((pre ++ [x]).length + 1 : Nat) : Int) = ((pre.length + 1 + 1 : Nat) : Int) := by simp
  rw [ex, el] at ih
  have ew : wrap64 (((pre.length + 1 : Nat) : Int) - 1) = (pre.length : Int) := by unfold wrap64; omega
  have ey : rd_T43 (pre ++ x :: y :: rest) ((pre.length + 1 : Nat) : Int) = y := by
   rw [← ex, show ((pre.length + 1 : Nat) : Int) = ((pre ++ [x]).length : Int) by simp]
   exact rdM_mid _ _ _
  rw [r11_Check.l0, if_pos (by simp; omega), ew, if_pos (by omega), if_pos (by simp; omega), if_pos (by omega), rdM_mid, ey, plBefore_ok, wrap_suc (by omega : pre.length + 1 < 1000000000), ih]
  show (if beforeM x y = true then _ else _) = some (if (beforeM x y && sortedM (y :: rest)) = true then _ else _)
  cases beforeM x y <;> rfl
theorem plCheckM_ok (l : List Mp) (k : Nat) (h : plFewM l) (hk : 900 ≤ k) : r11_Check.f k l = some (checkM l) := by
 unfold r11_Check.f checkM
 rw [plUnsorted_ok l k h hk]
 show (if uncheckM l = 0 then _ else _) = _
 have ho : r11_Check.l0 k l 1 = some (if sortedM l then 0 else 4) := by
  cases l with
  | nil =>
   obtain ⟨k, rfl⟩ : ∃ j, k = j + 1 := ⟨k - 1, by omega⟩
   rw [r11_Check.l0, if_neg (by decide)]
   rfl
  | cons x rest => exact plOrd_go rest [] x k (by have := h.1; simp at this ⊢; omega) (by have := h.1; simp at this; omega)
 rw [ho]
 split <;> rfl
structure MprA (w : World) (b : Nat) (c : CaseS) (text : List Int) (A0 : Option Addr) (n0 : Nat) (A1 : Option Addr) (n1 : Nat) (A2 : Option Addr) (n2 : Nat) (A3 : Option Addr) (n3 : Nat) (A4 : Option Addr) (n4 : Nat) (A5 : Option Addr) (n5 : Nat) (At : Option Addr) (nt : Nat) : Prop where
 blk : w.heap[b]? = some (.cells #[.slice A0 c.lo.length n0, .slice A1 c.up.length n1, .slice A2 c.ti.length n2, .slice A3 c.fo.length n3, .slice A4 c.ca.length n4, .slice A5 c.ig.length n5, .slice At text.length nt] 53 (0, 0))
 l0 : c.lo.length ≤ n0
 r0 : Kd.C k43 w A0 c.lo.length c.lo
 l1 : c.up.length ≤ n1
 r1 : Kd.C k43 w A1 c.up.length c.up
 l2 : c.ti.length ≤ n2
 r2 : Kd.C k43 w A2 c.ti.length c.ti
 l3 : c.fo.length ≤ n3
 r3 : Kd.C k43 w A3 c.fo.length c.fo
 l4 : c.ca.length ≤ n4
 r4 : Kd.C k33 w A4 c.ca.length c.ca
 l5 : c.ig.length ≤ n5
 r5 : Kd.C k33 w A5 c.ig.length c.ig
 lt : text.length ≤ nt
 rt : Kd.C (Kd.int .i64) w At text.length text
def Mpr (w : World) (b : Nat) (c : CaseS) (text : List Int) : Prop := ∃ A0 n0 A1 n1 A2 n2 A3 n3 A4 n4 A5 n5 At nt, MprA w b c text A0 n0 A1 n1 A2 n2 A3 n3 A4 n4 A5 n5 At nt
theorem MprA.below {w w' : World} {b : Nat} {c : CaseS} {text : List Int} {A0 : Option Addr} {n0 : Nat} {A1 : Option Addr} {n1 : Nat} {A2 : Option Addr} {n2 : Nat} {A3 : Option Addr} {n3 : Nat} {A4 : Option Addr} {n4 : Nat} {A5 : Option Addr} {n5 : Nat} {At : Option Addr} {nt : Nat} (h : MprA w b c text A0 n0 A1 n1 A2 n2 A3 n3 A4 n4 A5 n5 At nt) (hb : Below w.heap.size w w') : MprA w' b c text A0 n0 A1 n1 A2 n2 A3 n3 A4 n4 A5 n5 At nt :=
 ⟨(hb.block b (blk_lt h.blk)).trans h.blk, h.l0, Kd.C_below h.r0 hb, h.l1, Kd.C_below h.r1 hb, h.l2, Kd.C_below h.r2 hb, h.l3, Kd.C_below h.r3 hb, h.l4, Kd.C_below h.r4 hb, h.l5, Kd.C_below h.r5 hb, h.lt, Kd.C_below h.rt hb⟩
theorem MprA.c0 {w : World} {b : Nat} {c : CaseS} {text : List Int} {A0 : Option Addr} {n0 : Nat} {A1 : Option Addr} {n1 : Nat} {A2 : Option Addr} {n2 : Nat} {A3 : Option Addr} {n3 : Nat} {A4 : Option Addr} {n4 : Nat} {A5 : Option Addr} {n5 : Nat} {At : Option Addr} {nt : Nat} (h : MprA w b c text A0 n0 A1 n1 A2 n2 A3 n3 A4 n4 A5 n5 At nt) : w.cell? ⟨b, 0, none⟩ = some (.slice A0 c.lo.length n0) := (bkC h.blk 0).trans rfl
theorem MprA.c1 {w : World} {b : Nat} {c : CaseS} {text : List Int} {A0 : Option Addr} {n0 : Nat} {A1 : Option Addr} {n1 : Nat} {A2 : Option Addr} {n2 : Nat} {A3 : Option Addr} {n3 : Nat} {A4 : Option Addr} {n4 : Nat} {A5 : Option Addr} {n5 : Nat} {At : Option Addr} {nt : Nat} (h : MprA w b c text A0 n0 A1 n1 A2 n2 A3 n3 A4 n4 A5 n5 At nt) : w.cell? ⟨b, 1, none⟩ = some (.slice A1 c.up.length n1) := (bkC h.blk 1).trans rfl
theorem MprA.c2 {w : World} {b : Nat} {c : CaseS} {text : List Int} {A0 : Option Addr} {n0 : Nat} {A1 : Option Addr} {n1 : Nat} {A2 : Option Addr} {n2 : Nat} {A3 : Option Addr} {n3 : Nat} {A4 : Option Addr} {n4 : Nat} {A5 : Option Addr} {n5 : Nat} {At : Option Addr} {nt : Nat} (h : MprA w b c text A0 n0 A1 n1 A2 n2 A3 n3 A4 n4 A5 n5 At nt) : w.cell? ⟨b, 2, none⟩ = some (.slice A2 c.ti.length n2) := (bkC h.blk 2).trans rfl
theorem MprA.c3 {w : World} {b : Nat} {c : CaseS} {text : List Int} {A0 : Option Addr} {n0 : Nat} {A1 : Option Addr} {n1 : Nat} {A2 : Option Addr} {n2 : Nat} {A3 : Option Addr} {n3 : Nat} {A4 : Option Addr} {n4 : Nat} {A5 : Option Addr} {n5 : Nat} {At : Option Addr} {nt : Nat} (h : MprA w b c text A0 n0 A1 n1 A2 n2 A3 n3 A4 n4 A5 n5 At nt) : w.cell? ⟨b, 3, none⟩ = some (.slice A3 c.fo.length n3) := (bkC h.blk 3).trans rfl
theorem MprA.c4 {w : World} {b : Nat} {c : CaseS} {text : List Int} {A0 : Option Addr} {n0 : Nat} {A1 : Option Addr} {n1 : Nat} {A2 : Option Addr} {n2 : Nat} {A3 : Option Addr} {n3 : Nat} {A4 : Option Addr} {n4 : Nat} {A5 : Option Addr} {n5 : Nat} {At : Option Addr} {nt : Nat} (h : MprA w b c text A0 n0 A1 n1 A2 n2 A3 n3 A4 n4 A5 n5 At nt) : w.cell? ⟨b, 4, none⟩ = some (.slice A4 c.ca.length n4) := (bkC h.blk 4).trans rfl
theorem MprA.c5 {w : World} {b : Nat} {c : CaseS} {text : List Int} {A0 : Option Addr} {n0 : Nat} {A1 : Option Addr} {n1 : Nat} {A2 : Option Addr} {n2 : Nat} {A3 : Option Addr} {n3 : Nat} {A4 : Option Addr} {n4 : Nat} {A5 : Option Addr} {n5 : Nat} {At : Option Addr} {nt : Nat} (h : MprA w b c text A0 n0 A1 n1 A2 n2 A3 n3 A4 n4 A5 n5 At nt) : w.cell? ⟨b, 5, none⟩ = some (.slice A5 c.ig.length n5) := (bkC h.blk 5).trans rfl
theorem MprA.c6 {w : World} {b : Nat} {c : CaseS} {text : List Int} {A0 : Option Addr} {n0 : Nat} {A1 : Option Addr} {n1 : Nat} {A2 : Option Addr} {n2 : Nat} {A3 : Option Addr} {n3 : Nat} {A4 : Option Addr} {n4 : Nat} {A5 : Option Addr} {n5 : Nat} {At : Option Addr} {nt : Nat} (h : MprA w b c text A0 n0 A1 n1 A2 n2 A3 n3 A4 n4 A5 n5 At nt) : w.cell? ⟨b, 6, none⟩ = some (.slice At text.length nt) := (bkC h.blk 6).trans rfl
set_option maxHeartbeats 4000000 in
set_option maxRecDepth 100000 in
theorem open_calls (A0_0 : Option Addr) (c0_0 : Nat) (l0_0 : List Mp) (A0_1 : Option Addr) (c0_1 : Nat) (l0_1 : List Mp) (A0_2 : Option Addr) (c0_2 : Nat) (l0_2 : List Mp) (A0_3 : Option Addr) (c0_3 : Nat) (l0_3 : List Mp) (A0_4 : Option Addr) (c0_4 : Nat) (l0_4 : List Rg) (A0_5 : Option Addr) (c0_5 : Nat) (l0_5 : List Rg) (At : Option Addr) (nt : Nat) (text : List Int) (w : World) (hr0_0 : Kd.C k43 w A0_0 l0_0.length l0_0) (hc0_0 : l0_0.length ≤ c0_0) (hr0_1 : Kd.C k43 w A0_1 l0_1.length l0_1) (hc0_1 : l0_1.length ≤ c0_1) (hr0_2 : Kd.C k43 w A0_2 l0_2.length l0_2) (hc0_2 : l0_2.length ≤ c0_2) (hr0_3 : Kd.C k43 w A0_3 l0_3.length l0_3) (hc0_3 : l0_3.length ≤ c0_3) (hr0_4 : Kd.C k33 w A0_4 l0_4.length l0_4) (hc0_4 : l0_4.length ≤ c0_4) (hr0_5 : Kd.C k33 w A0_5 l0_5.length l0_5) (hc0_5 : l0_5.length ≤ c0_5) (hrt : Kd.C (Kd.int .i64) w At text.length text) (hct : text.length ≤ nt) (hok : okC ⟨l0_0, l0_1, l0_2, l0_3, l0_4, l0_5⟩ = true) :
  Calls Try.prog 30 #[.agg #[.slice A0_0 l0_0.length c0_0, .slice A0_1 l0_1.length c0_1, .slice A0_2 l0_2.length c0_2, .slice A0_3 l0_3.length c0_3, .slice A0_4 l0_4.length c0_4, .slice A0_5 l0_5.length c0_5], .slice At text.length nt] w fun e w' => ∃ b, e = .returned (.pointer (some ⟨b, 0, none⟩)) ∧ Mpr w' b (caseData ⟨l0_0, l0_1, l0_2, l0_3, l0_4, l0_5⟩) text ∧ Below w.heap.size w w' := by
 have HBX := aM (bAl (Below.refl w.heap.size w) (Obj.cells #[Value.slice A0_0 l0_0.length c0_0, Value.slice A0_1 l0_1.length c0_1, Value.slice A0_2 l0_2.length c0_2, Value.slice A0_3 l0_3.length c0_3, Value.slice A0_4 l0_4.length c0_4, Value.slice A0_5 l0_5.length c0_5] 27))
 have HK0 := aM (blk_new w (Obj.cells #[Value.slice A0_0 l0_0.length c0_0, Value.slice A0_1 l0_1.length c0_1, Value.slice A0_2 l0_2.length c0_2, Value.slice A0_3 l0_3.length c0_3, Value.slice A0_4 l0_4.length c0_4, Value.slice A0_5 l0_5.length c0_5] 27))
 have HOK := aM hok
 have hu := Try.underlying27
 have hu2 := Try.underlying53
 have HRT := aM hrt
 have HCT := aM hct
 have HR0 := aM hr0_0
 have HC0 := aM hc0_0
 have HR1 := aM hr0_1
 have HC1 := aM hc0_1
 have HR2 := aM hr0_2
 have HC2 := aM hc0_2
 have HR3 := aM hr0_3
 have HC3 := aM hc0_3
 have HR4 := aM hr0_4
 have HC4 := aM hc0_4
 have HR5 := aM hr0_5
 have HC5 := aM hc0_5
 by_cases h0 : caseChk ⟨l0_0, l0_1, l0_2, l0_3, l0_4, l0_5⟩ = 0
 ·have HE := aM h0
  have HCD := aM (show caseData ⟨l0_0, l0_1, l0_2, l0_3, l0_4, l0_5⟩ = ⟨l0_0, l0_1, l0_2, l0_3, l0_4, l0_5⟩ by unfold caseData; rw [if_pos h0])
  clear h0 hok hrt hct hr0_0 hc0_0 hr0_1 hc0_1 hr0_2 hc0_2 hr0_3 hc0_3 hr0_4 hc0_4 hr0_5 hc0_5
  go_enter Try.func30, Try.ntmps30
  go_wp2_with (go_at_call 21; (with_reducible refine (caseCheck_calls A0_0 c0_0 l0_0 A0_1 c0_1 l0_1 A0_2 c0_2 l0_2 A0_3 c0_3 l0_3 A0_4 c0_4 l0_4 A0_5 c0_5 l0_5 _ (Kd.C_below HR0.out HBX.out) HC0.out (Kd.C_below HR1.out HBX.out) HC1.out (Kd.C_below HR2.out HBX.out) HC2.out (Kd.C_below HR3.out HBX.out) HC3.out (Kd.C_below HR4.out HBX.out) HC4.out (Kd.C_below HR5.out HBX.out) HC5.out HOK.out).mono ?_); rw [HE.out]; rintro e w2 ⟨rfl, hb⟩; have hk2 := (hb.block _ (blk_lt HK0.out)).trans HK0.out; have HK2 := aM hk2; have a0 : w2.cell? ⟨w.heap.size, 0, none⟩ = some (.slice A0_0 l0_0.length c0_0) := (bkC hk2 0).trans rfl; have f0 := bkF hk2 0; have a1 : w2.cell? ⟨w.heap.size, 1, none⟩ = some (.slice A0_1 l0_1.length c0_1) := (bkC hk2 1).trans rfl; have f1 := bkF hk2 1; have a2 : w2.cell? ⟨w.heap.size, 2, none⟩ = some (.slice A0_2 l0_2.length c0_2) := (bkC hk2 2).trans rfl; have f2 := bkF hk2 2; have a3 : w2.cell? ⟨w.heap.size, 3, none⟩ = some (.slice A0_3 l0_3.length c0_3) := (bkC hk2 3).trans rfl; have f3 := bkF hk2 3; have a4 : w2.cell? ⟨w.heap.size, 4, none⟩ = some (.slice A0_4 l0_4.length c0_4) := (bkC hk2 4).trans rfl; have f4 := bkF hk2 4; have a5 : w2.cell? ⟨w.heap.size, 5, none⟩ = some (.slice A0_5 l0_5.length c0_5) := (bkC hk2 5).trans rfl; have f5 := bkF hk2 5;  have HB2 := aM (bSp HBX.out hb); clear hb hk2)
  go_ret
  rw [HCD.out]
  exact ⟨w2.heap.size, rfl, ⟨_, _, _, _, _, _, _, _, _, _, _, _, _, _, ⟨blk_new w2 _, HC0.out, Kd.C_alloc (Kd.C_below HR0.out HB2.out) _, HC1.out, Kd.C_alloc (Kd.C_below HR1.out HB2.out) _, HC2.out, Kd.C_alloc (Kd.C_below HR2.out HB2.out) _, HC3.out, Kd.C_alloc (Kd.C_below HR3.out HB2.out) _, HC4.out, Kd.C_alloc (Kd.C_below HR4.out HB2.out) _, HC5.out, Kd.C_alloc (Kd.C_below HR5.out HB2.out) _, HCT.out, Kd.C_alloc (Kd.C_below HRT.out HB2.out) _⟩⟩, bAl HB2.out _⟩
 ·obtain ⟨u, hu0⟩ : ∃ u, u = caseChk ⟨l0_0, l0_1, l0_2, l0_3, l0_4, l0_5⟩ := ⟨_, rfl⟩
  have HE := aM hu0.symm
  rw [← hu0] at h0
  have HCD := aM (show caseData ⟨l0_0, l0_1, l0_2, l0_3, l0_4, l0_5⟩ = ⟨[], [], [], [], [], []⟩ by unfold caseData; rw [← hu0, if_neg h0])
  have y1 : (u != 0) = true := by simpa using h0
  have y2 : (u == 0) = false := by simpa using h0
  have y3 : decide (u = 0) = false := decide_eq_false h0
  clear h0 hu0 hok hrt hct hr0_0 hc0_0 hr0_1 hc0_1 hr0_2 hc0_2 hr0_3 hc0_3 hr0_4 hc0_4 hr0_5 hc0_5
  go_enter Try.func30, Try.ntmps30
  go_wp2_with (go_at_call 21; (with_reducible refine (caseCheck_calls A0_0 c0_0 l0_0 A0_1 c0_1 l0_1 A0_2 c0_2 l0_2 A0_3 c0_3 l0_3 A0_4 c0_4 l0_4 A0_5 c0_5 l0_5 _ (Kd.C_below HR0.out HBX.out) HC0.out (Kd.C_below HR1.out HBX.out) HC1.out (Kd.C_below HR2.out HBX.out) HC2.out (Kd.C_below HR3.out HBX.out) HC3.out (Kd.C_below HR4.out HBX.out) HC4.out (Kd.C_below HR5.out HBX.out) HC5.out HOK.out).mono ?_); rw [HE.out]; rintro e w2 ⟨rfl, hb⟩; have hk2 := (hb.block _ (blk_lt HK0.out)).trans HK0.out; have HK2 := aM hk2; have a0 : w2.cell? ⟨w.heap.size, 0, none⟩ = some (.slice A0_0 l0_0.length c0_0) := (bkC hk2 0).trans rfl; have f0 := bkF hk2 0; have a1 : w2.cell? ⟨w.heap.size, 1, none⟩ = some (.slice A0_1 l0_1.length c0_1) := (bkC hk2 1).trans rfl; have f1 := bkF hk2 1; have a2 : w2.cell? ⟨w.heap.size, 2, none⟩ = some (.slice A0_2 l0_2.length c0_2) := (bkC hk2 2).trans rfl; have f2 := bkF hk2 2; have a3 : w2.cell? ⟨w.heap.size, 3, none⟩ = some (.slice A0_3 l0_3.length c0_3) := (bkC hk2 3).trans rfl; have f3 := bkF hk2 3; have a4 : w2.cell? ⟨w.heap.size, 4, none⟩ = some (.slice A0_4 l0_4.length c0_4) := (bkC hk2 4).trans rfl; have f4 := bkF hk2 4; have a5 : w2.cell? ⟨w.heap.size, 5, none⟩ = some (.slice A0_5 l0_5.length c0_5) := (bkC hk2 5).trans rfl; have f5 := bkF hk2 5;  have HB2 := aM (bSp HBX.out hb); clear hb hk2)
  go_ret
  rw [HCD.out]
  have hb3 := (Below.setCell (p := ⟨w.heap.size, 5, none⟩) (Below.setCell (p := ⟨w.heap.size, 4, none⟩) (Below.setCell (p := ⟨w.heap.size, 3, none⟩) (Below.setCell (p := ⟨w.heap.size, 2, none⟩) (Below.setCell (p := ⟨w.heap.size, 1, none⟩) (Below.setCell (p := ⟨w.heap.size, 0, none⟩) HB2.out (Nat.le_refl _) (Value.slice none 0 0)) (Nat.le_refl _) (Value.slice none 0 0)) (Nat.le_refl _) (Value.slice none 0 0)) (Nat.le_refl _) (Value.slice none 0 0)) (Nat.le_refl _) (Value.slice none 0 0)) (Nat.le_refl _) (Value.slice none 0 0))
  have hsz : (((((((w2.setCell ⟨w.heap.size, 0, none⟩ (Value.slice none 0 0)).setCell ⟨w.heap.size, 1, none⟩ (Value.slice none 0 0)).setCell ⟨w.heap.size, 2, none⟩ (Value.slice none 0 0)).setCell ⟨w.heap.size, 3, none⟩ (Value.slice none 0 0)).setCell ⟨w.heap.size, 4, none⟩ (Value.slice none 0 0)).setCell ⟨w.heap.size, 5, none⟩ (Value.slice none 0 0))).heap.size = w2.heap.size := by simp [World.setCell]
  generalize ((((((w2.setCell ⟨w.heap.size, 0, none⟩ (Value.slice none 0 0)).setCell ⟨w.heap.size, 1, none⟩ (Value.slice none 0 0)).setCell ⟨w.heap.size, 2, none⟩ (Value.slice none 0 0)).setCell ⟨w.heap.size, 3, none⟩ (Value.slice none 0 0)).setCell ⟨w.heap.size, 4, none⟩ (Value.slice none 0 0)).setCell ⟨w.heap.size, 5, none⟩ (Value.slice none 0 0)) = W3 at *
  have hbk := blk_new W3 (Obj.cells #[Value.slice none 0 0, Value.slice none 0 0, Value.slice none 0 0, Value.slice none 0 0, Value.slice none 0 0, Value.slice none 0 0, Value.slice At text.length nt] 53)
  rw [hsz] at hbk
  exact ⟨w2.heap.size, rfl, ⟨none, 0, none, 0, none, 0, none, 0, none, 0, none, 0, At, nt, ⟨hbk, Nat.le_refl _, Kd.C_nil _ _, Nat.le_refl _, Kd.C_nil _ _, Nat.le_refl _, Kd.C_nil _ _, Nat.le_refl _, Kd.C_nil _ _, Nat.le_refl _, Kd.C_nil _ _, Nat.le_refl _, Kd.C_nil _ _, HCT.out, Kd.C_alloc (Kd.C_below HRT.out hb3) _⟩⟩, bAl hb3 _⟩
theorem hasF (l : List Rg) (x : Int) (h : l.length < 1000000) : cpset_Has.f l x = some (hasL l x) := by unfold cpset_Has.f; rw [if_pos (by omega)]; rfl
set_option maxHeartbeats 4000000 in
set_option maxRecDepth 100000 in
theorem near_fwd (bi bm b i : Nat) (c : CaseS) (text : List Int) (w : World) (hM : Mpr w b c text) (hi : w.cell? ⟨bi, 0, none⟩ = some (.int .i64 i)) (hbm : w.cell? ⟨bm, 0, none⟩ = some (.pointer (some ⟨b, 0, none⟩))) (hlt : i < text.length) (ht : text.length < 1000000) (hs : c.ca.length < 1000000 ∧ c.ig.length < 1000000) :
  Calls Try.prog 65 #[.int .i64 1, .pointer (some ⟨bi, 0, none⟩), .pointer (some ⟨bm, 0, none⟩)] w fun e w' => e = .returned (.bool (nearL c (text.drop (i + 1)))) ∧ Below w.heap.size w w' := by
 obtain ⟨A0, n0, A1, n1, A2, n2, A3, n3, A4, n4, A5, n5, At, nt, hA⟩ := hM
 have HM := aM hA
 have HBM := aM hbm
 have HT := aM (And.intro hlt ht)
 have HS := aM hs
 have hw0 : wrap64 ((i : Int) + 1) = ((i + 1 : Nat) : Int) := by unfold wrap64; omega
 clear hA hbm hlt ht hs
 go_enter Try.func65, Try.ntmps65
 go_wp2
 go_loopw [5] (fun k wr => ∃ p : Nat, k = .int .i64 p ∧ Aside0 (p ≤ text.length) ∧ Aside0 (nearL c (text.drop (i + 1)) = nearL c (text.drop p)) ∧ Aside0 (Below w.heap.size w wr)) (fun k _ => text.length - (intOf k).toNat)
 case atStart => exact ⟨i + 1, by rw [hw0], ⟨by have := HT.out; omega⟩, ⟨rfl⟩, ⟨Below.refl _ _⟩⟩
 case round =>
  clear hw0 hi
  obtain ⟨p, rfl, HK, HE, HB⟩ := hrel
  have c6 := pcb HB.out HM.out.c6
  have cm := pcb HB.out HBM.out
  have g0 : decide ((p : Int) ≥ 0) = true := dT (by omega)
  have hw : wrap64 ((p : Int) + 1) = ((p + 1 : Nat) : Int) := by have := HK.out; have := HT.out; unfold wrap64; omega
  by_cases hlt : p < text.length
  ·obtain ⟨ad, e, t1⟩ := Kd.at_int HM.out.rt (p : Int) (by omega) (by omega)
   cases e
   rw [Int.toNat_natCast] at t1
   have hd : text.drop p = rd text (p : Int) :: text.drop (p + 1) := by
    rw [List.drop_eq_getElem_cons hlt]
    unfold rd
    rw [Int.toNat_natCast, List.getD_eq_getElem?_getD, List.getElem?_eq_getElem hlt]; rfl
   have g1 : decide ((p : Int) < (text.length : Int)) = true := dT (by omega)
   have hp1 : (0 ≤ (p : Int)) = True := eq_true (by omega)
   have hp2 : ((p : Int) < (text.length : Int)) = True := eq_true (by omega)
   have hp3 : (p < text.length) = True := eq_true hlt
   have hq1 : (0 : Int) ≤ (p : Int) := by omega
   have hq2 : (p : Int) < (text.length : Int) := by omega
   have c5 := pcb HB.out HM.out.c5
   generalize rd text (p : Int) = x at *
   have t0 := pcb HB.out t1
   have T1 := aM t1
   have HD := aM hd
   have HLT := aM hlt
   have HH5 := aM (hasF c.ig x HS.out.2)
   have HH4 := aM (hasF c.ca x HS.out.1)
   clear hd hlt t1
   cases hg : hasL c.ig x with
   | true =>
    have HG := aM (show nearL c (text.drop p) = nearL c (text.drop (p + 1)) by rw [HD.out, nearL, hg]; rfl)
    rw [hg] at HH5
    clear hg
    go_wp2
    go_region_held3 (fun w' => w'.cell? ⟨bm, 0, none⟩ = some (.pointer (some ⟨b, 0, none⟩)) ∧ w'.cell? ⟨b, 5, none⟩ = some (.slice A5 c.ig.length n5) ∧ w'.cell? ⟨b, 6, none⟩ = some (.slice (some ad) text.length nt) ∧ w'.cell? (ad.add p) = some (.int .i64 x)) (first | go_keep | (go_split_ands; refine ⟨?_, ?_, ?_, ?_⟩; (refine pcb hb ?_; assumption); (refine pcb hb ?_; assumption); (refine pcb hb ?_; assumption); (refine pcb hb ?_; assumption)))
     (first | (go_at_call 32; (with_reducible refine (cpset_Has.calls A5 n5 c.ig x true _ ?s1 HM.out.l5 HH5.out).mono ?_); (case s1 => exact Kd.C_below HM.out.r5 (by repeat (first | (with_reducible first | exact HB.out | apply bAl | apply pbN | apply bD1) | exact HB.out))); rintro e w1 ⟨rfl, hb⟩; have HB1 := aM (bSp (show Below w.heap.size w _ from (by repeat (first | (with_reducible first | exact HB.out | apply bAl | apply pbN | apply bD1) | exact HB.out))) hb)))
    clear hb
    go_wp2
    go_roundw
    case rel => exact ⟨p + 1, by rw [hw], HLT, ⟨HE.out.trans HG.out⟩, HB1⟩
    case measure => rw [hw]; simp only [intOf]; have := HLT.out; omega
   | false =>
    have HG := aM (show nearL c (text.drop p) = hasL c.ca x by rw [HD.out, nearL, hg]; rfl)
    rw [hg] at HH5
    clear hg
    generalize hasL c.ca x = r at *
    go_wp2
    go_region_held3 (fun w' => w'.cell? ⟨bm, 0, none⟩ = some (.pointer (some ⟨b, 0, none⟩)) ∧ w'.cell? ⟨b, 5, none⟩ = some (.slice A5 c.ig.length n5) ∧ w'.cell? ⟨b, 6, none⟩ = some (.slice (some ad) text.length nt) ∧ w'.cell? (ad.add p) = some (.int .i64 x)) (first | go_keep | (go_split_ands; refine ⟨?_, ?_, ?_, ?_⟩; (refine pcb hb ?_; assumption); (refine pcb hb ?_; assumption); (refine pcb hb ?_; assumption); (refine pcb hb ?_; assumption)))
     (first | (go_at_call 32; (with_reducible refine (cpset_Has.calls A5 n5 c.ig x false _ ?s1 HM.out.l5 HH5.out).mono ?_); (case s1 => exact Kd.C_below HM.out.r5 (by repeat (first | (with_reducible first | exact HB.out | apply bAl | apply pbN | apply bD1) | exact HB.out))); rintro e w1 ⟨rfl, hb⟩; have HB1 := aM (bSp (show Below w.heap.size w _ from (by repeat (first | (with_reducible first | exact HB.out | apply bAl | apply pbN | apply bD1) | exact HB.out))) hb)))
    clear hb c5 c6 cm t0
    have d4 := pcb HB1.out HM.out.c4
    have d6 := pcb HB1.out HM.out.c6
    have dm := pcb HB1.out HBM.out
    have dt := pcb HB1.out T1.out
    go_wp2
    go_region_held3 (fun w' => w'.cell? ⟨bm, 0, none⟩ = some (.pointer (some ⟨b, 0, none⟩)) ∧ w'.cell? ⟨b, 4, none⟩ = some (.slice A4 c.ca.length n4) ∧ w'.cell? ⟨b, 6, none⟩ = some (.slice (some ad) text.length nt) ∧ w'.cell? (ad.add p) = some (.int .i64 x)) (first | go_keep | (go_split_ands; refine ⟨?_, ?_, ?_, ?_⟩; (refine pcb hb ?_; assumption); (refine pcb hb ?_; assumption); (refine pcb hb ?_; assumption); (refine pcb hb ?_; assumption)))
     (first | (go_at_call 32; (with_reducible refine (cpset_Has.calls A4 n4 c.ca x r _ ?s1 HM.out.l4 HH4.out).mono ?_); (case s1 => exact Kd.C_below HM.out.r4 (by repeat (first | (with_reducible first | exact HB1.out | apply bAl | apply pbN | apply bD1) | exact HB1.out))); rintro e w2 ⟨rfl, hb⟩; have HB2 := aM (bSp (show Below w.heap.size w _ from (by repeat (first | (with_reducible first | exact HB1.out | apply bAl | apply pbN | apply bD1) | exact HB1.out))) hb)))
    clear hb
    go_wp2
    go_ret
    rw [HE.out, HG.out]
    exact ⟨rfl, HB2.out⟩
  ·obtain rfl : p = text.length := by have := HK.out; omega
   have g1 : decide ((text.length : Int) < (text.length : Int)) = false := decide_eq_false (by omega)
   have hp3 : (text.length < text.length) = False := eq_false (by omega)
   have HG := aM (show nearL c (text.drop text.length) = false by rw [List.drop_length]; rfl)
   clear hlt
   go_wp2
   go_ret
   rw [HE.out, HG.out]
   exact ⟨rfl, by repeat (first | exact HB.out | apply bAl | apply pbN | apply bD1)⟩
set_option maxHeartbeats 4000000 in
set_option maxRecDepth 100000 in
theorem near_bwd (bi bm b i : Nat) (c : CaseS) (text : List Int) (w : World) (hM : Mpr w b c text) (hi : w.cell? ⟨bi, 0, none⟩ = some (.int .i64 i)) (hbm : w.cell? ⟨bm, 0, none⟩ = some (.pointer (some ⟨b, 0, none⟩))) (hlt : i < text.length) (ht : text.length < 1000000) (hs : c.ca.length < 1000000 ∧ c.ig.length < 1000000) :
  Calls Try.prog 65 #[.int .i64 (-1), .pointer (some ⟨bi, 0, none⟩), .pointer (some ⟨bm, 0, none⟩)] w fun e w' => e = .returned (.bool (nearL c ((text.take i).reverse))) ∧ Below w.heap.size w w' := by
 obtain ⟨A0, n0, A1, n1, A2, n2, A3, n3, A4, n4, A5, n5, At, nt, hA⟩ := hM
 have HM := aM hA
 have HBM := aM hbm
 have HT := aM (And.intro hlt ht)
 have HS := aM hs
 have hw0 : wrap64 ((i : Int) + (-1)) = (i : Int) - 1 := by unfold wrap64; omega
 have hw00 : wrap64 ((i : Int) - 1) = (i : Int) - 1 := by unfold wrap64; omega
 clear hA hbm hlt ht hs
 go_enter Try.func65, Try.ntmps65
 go_wp2
 go_loopw [5] (fun k wr => ∃ q : Nat, k = .int .i64 ((q : Int) - 1) ∧ Aside0 (q ≤ text.length) ∧ Aside0 (nearL c (text.take i).reverse = nearL c (text.take q).reverse) ∧ Aside0 (Below w.heap.size w wr)) (fun k _ => (intOf k + 1).toNat)
 case atStart => exact ⟨i, by first | rw [hw0] | rw [hw00], ⟨by have := HT.out; omega⟩, ⟨rfl⟩, ⟨Below.refl _ _⟩⟩
 case round =>
  clear hw0 hi
  clear hw00
  obtain ⟨q, rfl, HK, HE, HB⟩ := hrel
  have c6 := pcb HB.out HM.out.c6
  have cm := pcb HB.out HBM.out
  by_cases hlt0 : 0 < q
  ·obtain ⟨p, rfl⟩ : ∃ p, q = p + 1 := ⟨q - 1, by omega⟩
   have ek : (((p + 1 : Nat) : Int) - 1) = (p : Int) := by omega
   rw [ek]
   have hlt : p < text.length := HK.out
   have g0 : decide ((p : Int) ≥ 0) = true := dT (by omega)
   have hw : wrap64 ((p : Int) + (-1)) = (p : Int) - 1 := by have := HT.out; unfold wrap64; omega
   have hwb : wrap64 ((p : Int) - 1) = (p : Int) - 1 := by have := HT.out; unfold wrap64; omega
   obtain ⟨ad, e, t1⟩ := Kd.at_int HM.out.rt (p : Int) (by omega) (by omega)
   cases e
   rw [Int.toNat_natCast] at t1
   have hd : (text.take (p + 1)).reverse = rd text (p : Int) :: (text.take p).reverse := by
    rw [List.take_succ_eq_append_getElem hlt, List.reverse_append]
    unfold rd
    rw [Int.toNat_natCast, List.getD_eq_getElem?_getD, List.getElem?_eq_getElem hlt]; rfl
   clear hlt0 ek
   have g1 : decide ((p : Int) < (text.length : Int)) = true := dT (by omega)
   have hp1 : (0 ≤ (p : Int)) = True := eq_true (by omega)
   have hp2 : ((p : Int) < (text.length : Int)) = True := eq_true (by omega)
   have hp3 : (p < text.length) = True := eq_true hlt
   have hq1 : (0 : Int) ≤ (p : Int) := by omega
   have hq2 : (p : Int) < (text.length : Int) := by omega
   have c5 := pcb HB.out HM.out.c5
   generalize rd text (p : Int) = x at *
   have t0 := pcb HB.out t1
   have T1 := aM t1
   have HD := aM hd
   have HLT := aM hlt
   have HH5 := aM (hasF c.ig x HS.out.2)
   have HH4 := aM (hasF c.ca x HS.out.1)
   clear hd hlt t1
   cases hg : hasL c.ig x with
   | true =>
    have HG := aM (show nearL c ((text.take (p + 1)).reverse) = nearL c ((text.take p).reverse) by rw [HD.out, nearL, hg]; rfl)
    rw [hg] at HH5
    clear hg
    go_wp2
    go_region_held3 (fun w' => w'.cell? ⟨bm, 0, none⟩ = some (.pointer (some ⟨b, 0, none⟩)) ∧ w'.cell? ⟨b, 5, none⟩ = some (.slice A5 c.ig.length n5) ∧ w'.cell? ⟨b, 6, none⟩ = some (.slice (some ad) text.length nt) ∧ w'.cell? (ad.add p) = some (.int .i64 x)) (first | go_keep | (go_split_ands; refine ⟨?_, ?_, ?_, ?_⟩; (refine pcb hb ?_; assumption); (refine pcb hb ?_; assumption); (refine pcb hb ?_; assumption); (refine pcb hb ?_; assumption)))
     (first | (go_at_call 32; (with_reducible refine (cpset_Has.calls A5 n5 c.ig x true _ ?s1 HM.out.l5 HH5.out).mono ?_); (case s1 => exact Kd.C_below HM.out.r5 (by repeat (first | (with_reducible first | exact HB.out | apply bAl | apply pbN | apply bD1) | exact HB.out))); rintro e w1 ⟨rfl, hb⟩; have HB1 := aM (bSp (show Below w.heap.size w _ from (by repeat (first | (with_reducible first | exact HB.out | apply bAl | apply pbN | apply bD1) | exact HB.out))) hb)))
    clear hb
    go_wp2
    go_roundw
    case rel => exact ⟨p, by first | rw [hw] | rw [hwb], ⟨by have := HLT.out; omega⟩, ⟨HE.out.trans HG.out⟩, HB1⟩
    case measure => (first | rw [hw] | rw [hwb]); simp only [intOf]; omega
   | false =>
    have HG := aM (show nearL c ((text.take (p + 1)).reverse) = hasL c.ca x by rw [HD.out, nearL, hg]; rfl)
    rw [hg] at HH5
    clear hg
    generalize hasL c.ca x = r at *
    go_wp2
    go_region_held3 (fun w' => w'.cell? ⟨bm, 0, none⟩ = some (.pointer (some ⟨b, 0, none⟩)) ∧ w'.cell? ⟨b, 5, none⟩ = some (.slice A5 c.ig.length n5) ∧ w'.cell? ⟨b, 6, none⟩ = some (.slice (some ad) text.length nt) ∧ w'.cell? (ad.add p) = some (.int .i64 x)) (first | go_keep | (go_split_ands; refine ⟨?_, ?_, ?_, ?_⟩; (refine pcb hb ?_; assumption); (refine pcb hb ?_; assumption); (refine pcb hb ?_; assumption); (refine pcb hb ?_; assumption)))
     (first | (go_at_call 32; (with_reducible refine (cpset_Has.calls A5 n5 c.ig x false _ ?s1 HM.out.l5 HH5.out).mono ?_); (case s1 => exact Kd.C_below HM.out.r5 (by repeat (first | (with_reducible first | exact HB.out | apply bAl | apply pbN | apply bD1) | exact HB.out))); rintro e w1 ⟨rfl, hb⟩; have HB1 := aM (bSp (show Below w.heap.size w _ from (by repeat (first | (with_reducible first | exact HB.out | apply bAl | apply pbN | apply bD1) | exact HB.out))) hb)))
    clear hb c5 c6 cm t0
    have d4 := pcb HB1.out HM.out.c4
    have d6 := pcb HB1.out HM.out.c6
    have dm := pcb HB1.out HBM.out
    have dt := pcb HB1.out T1.out
    go_wp2
    go_region_held3 (fun w' => w'.cell? ⟨bm, 0, none⟩ = some (.pointer (some ⟨b, 0, none⟩)) ∧ w'.cell? ⟨b, 4, none⟩ = some (.slice A4 c.ca.length n4) ∧ w'.cell? ⟨b, 6, none⟩ = some (.slice (some ad) text.length nt) ∧ w'.cell? (ad.add p) = some (.int .i64 x)) (first | go_keep | (go_split_ands; refine ⟨?_, ?_, ?_, ?_⟩; (refine pcb hb ?_; assumption); (refine pcb hb ?_; assumption); (refine pcb hb ?_; assumption); (refine pcb hb ?_; assumption)))
     (first | (go_at_call 32; (with_reducible refine (cpset_Has.calls A4 n4 c.ca x r _ ?s1 HM.out.l4 HH4.out).mono ?_); (case s1 => exact Kd.C_below HM.out.r4 (by repeat (first | (with_reducible first | exact HB1.out | apply bAl | apply pbN | apply bD1) | exact HB1.out))); rintro e w2 ⟨rfl, hb⟩; have HB2 := aM (bSp (show Below w.heap.size w _ from (by repeat (first | (with_reducible first | exact HB1.out | apply bAl | apply pbN | apply bD1) | exact HB1.out))) hb)))
    clear hb
    go_wp2
    go_ret
    rw [HE.out, HG.out]
    exact ⟨rfl, HB2.out⟩
  ·obtain rfl : q = 0 := by omega
   have HG := aM (show nearL c (text.take 0).reverse = false by rw [List.take_zero]; rfl)
   clear hlt0
   rw [show (((0 : Nat) : Int) - 1) = -1 by rfl]
   go_wp2
   go_ret
   rw [HE.out, HG.out]
   exact ⟨rfl, by repeat (first | exact HB.out | apply bAl | apply pbN | apply bD1)⟩
theorem Mpr.below {w w' : World} {b : Nat} {c : CaseS} {text : List Int} (h : Mpr w b c text) (hb : Below w.heap.size w w') : Mpr w' b c text := by
 obtain ⟨A0, n0, A1, n1, A2, n2, A3, n3, A4, n4, A5, n5, At, nt, hA⟩ := h
 exact ⟨A0, n0, A1, n1, A2, n2, A3, n3, A4, n4, A5, n5, At, nt, hA.below hb⟩
set_option maxHeartbeats 4000000 in
set_option maxRecDepth 100000 in
theorem final_calls (b : Nat) (c : CaseS) (text : List Int) (i : Int) (w : World) (hM : Mpr w b c text) (ht : text.length < 1000000) (hs : c.ca.length < 1000000 ∧ c.ig.length < 1000000) :
  Calls Try.prog 45 #[.pointer (some ⟨b, 0, none⟩), .int .i64 i] w fun e w' => e = .returned (.bool (finalI c text i)) ∧ Below w.heap.size w w' := by
 have HMP := aM hM
 have HT := aM ht
 have HS := aM hs
 obtain ⟨A0, n0, A1, n1, A2, n2, A3, n3, A4, n4, A5, n5, At, nt, hA⟩ := hM
 have HM := aM hA
 have HBW := aM (bAl (bAl (Below.refl w.heap.size w) (.cells #[.pointer (some ⟨b, 0, none⟩)] 49)) (.cells #[.int .i64 i] 3))
 clear hA ht hs
 by_cases h0 : i < 0
 ·have hf : finalI c text i = false := by unfold finalI; rw [decide_eq_false (by omega)]; rfl
  have y1 : decide (i < 0) = true := dT h0
  have y2 : (i < 0) = True := eq_true h0
  rw [hf]
  clear hf h0
  go_enter Try.func45, Try.ntmps45
  go_wp2
  have c6 := pcb HBW.out HM.out.c6
  have k0 : ((w.alloc (Obj.cells #[Value.pointer (some { block := b, off := 0 })] 49)).alloc (Obj.cells #[Value.int IntKind.i64 i] 3)).cell? ⟨w.heap.size, 0, none⟩ = some (.pointer (some ⟨b, 0, none⟩)) := pcb (bAl (Below.refl (w.alloc (Obj.cells #[Value.pointer (some { block := b, off := 0 })] 49)).heap.size _) _) ((bkC (blk_new w _) 0).trans rfl)
  have k1 : ((w.alloc (Obj.cells #[Value.pointer (some { block := b, off := 0 })] 49)).alloc (Obj.cells #[Value.int IntKind.i64 i] 3)).cell? ⟨w.heap.size + 1, 0, none⟩ = some (.int .i64 i) := by
   have h := (bkC (blk_new (w.alloc (Obj.cells #[Value.pointer (some { block := b, off := 0 })] 49)) (Obj.cells #[Value.int IntKind.i64 i] 3)) 0).trans rfl
   rw [World.size_alloc] at h
   exact h
  have HK0 := aM k0
  have HK1 := aM k1
  generalize ((w.alloc (Obj.cells #[Value.pointer (some { block := b, off := 0 })] 49)).alloc (Obj.cells #[Value.int IntKind.i64 i] 3)) = W at *
  go_quiet (fail)
  go_wp2
  go_ret
  exact ⟨rfl, pbN HBW.out _⟩
 ·have y1 : decide (i < 0) = false := decide_eq_false h0
  have y2 : (i < 0) = False := eq_false h0
  by_cases h1 : i < (text.length : Int)
  ·obtain ⟨n, rfl⟩ : ∃ n : Nat, i = (n : Int) := ⟨i.toNat, by omega⟩
   have y3 : decide ((n : Int) ≥ (text.length : Int)) = false := decide_eq_false (by omega)
   have y4 : (text.length ≤ n) = False := eq_false (by omega)
   have hf : finalI c text (n : Int) = (nearL c (text.take n).reverse && !nearL c (text.drop (n + 1))) := by
    unfold finalI finalS
    rw [dT (by omega), dT h1, Int.toNat_natCast]; rfl
   have HN : Aside0 (n < text.length) := ⟨by omega⟩
   rw [hf]
   clear hf h0 h1
   cases hr1 : nearL c (text.take n).reverse with
   | false =>
    have HR1 := aM hr1
    clear hr1
    go_enter Try.func45, Try.ntmps45
    go_wp2
    have c6 := pcb HBW.out HM.out.c6
    have k0 : ((w.alloc (Obj.cells #[Value.pointer (some { block := b, off := 0 })] 49)).alloc (Obj.cells #[Value.int IntKind.i64 n] 3)).cell? ⟨w.heap.size, 0, none⟩ = some (.pointer (some ⟨b, 0, none⟩)) := pcb (bAl (Below.refl (w.alloc (Obj.cells #[Value.pointer (some { block := b, off := 0 })] 49)).heap.size _) _) ((bkC (blk_new w _) 0).trans rfl)
    have k1 : ((w.alloc (Obj.cells #[Value.pointer (some { block := b, off := 0 })] 49)).alloc (Obj.cells #[Value.int IntKind.i64 n] 3)).cell? ⟨w.heap.size + 1, 0, none⟩ = some (.int .i64 n) := by
     have h := (bkC (blk_new (w.alloc (Obj.cells #[Value.pointer (some { block := b, off := 0 })] 49)) (Obj.cells #[Value.int IntKind.i64 n] 3)) 0).trans rfl
     rw [World.size_alloc] at h
     exact h
    have HK0 := aM k0
    have HK1 := aM k1
    generalize ((w.alloc (Obj.cells #[Value.pointer (some { block := b, off := 0 })] 49)).alloc (Obj.cells #[Value.int IntKind.i64 n] 3)) = W at *
    go_quiet (fail)
    go_wp2_with (first | (go_at_call 65; (with_reducible refine (near_bwd (w.heap.size + 1) w.heap.size b n c text _ (HMP.out.below (pbN HBW.out _)) ?k1 ?k0 HN.out HT.out HS.out).mono ?_); (case k1 => exact pcb (pbN (Below.refl _ _) _) HK1.out); (case k0 => exact pcb (pbN (Below.refl _ _) _) HK0.out); rw [HR1.out]; rintro e w1 ⟨rfl, hb⟩; have HB1 := aM (bSp (pbN HBW.out _) hb); have HJ1 := aM (pcb (bSp (pbN (Below.refl _ _) _) hb) HK1.out); have HJ0 := aM (pcb (bSp (pbN (Below.refl _ _) _) hb) HK0.out); clear hb))
    go_ret
    exact ⟨rfl, HB1.out⟩
   | true =>
    have HR1 := aM hr1
    clear hr1
    go_enter Try.func45, Try.ntmps45
    go_wp2
    have c6 := pcb HBW.out HM.out.c6
    have k0 : ((w.alloc (Obj.cells #[Value.pointer (some { block := b, off := 0 })] 49)).alloc (Obj.cells #[Value.int IntKind.i64 n] 3)).cell? ⟨w.heap.size, 0, none⟩ = some (.pointer (some ⟨b, 0, none⟩)) := pcb (bAl (Below.refl (w.alloc (Obj.cells #[Value.pointer (some { block := b, off := 0 })] 49)).heap.size _) _) ((bkC (blk_new w _) 0).trans rfl)
    have k1 : ((w.alloc (Obj.cells #[Value.pointer (some { block := b, off := 0 })] 49)).alloc (Obj.cells #[Value.int IntKind.i64 n] 3)).cell? ⟨w.heap.size + 1, 0, none⟩ = some (.int .i64 n) := by
     have h := (bkC (blk_new (w.alloc (Obj.cells #[Value.pointer (some { block := b, off := 0 })] 49)) (Obj.cells #[Value.int IntKind.i64 n] 3)) 0).trans rfl
     rw [World.size_alloc] at h
     exact h
    have HK0 := aM k0
    have HK1 := aM k1
    generalize ((w.alloc (Obj.cells #[Value.pointer (some { block := b, off := 0 })] 49)).alloc (Obj.cells #[Value.int IntKind.i64 n] 3)) = W at *
    go_quiet (fail)
    go_wp2_with (first | (go_at_call 65; (with_reducible refine (near_bwd (w.heap.size + 1) w.heap.size b n c text _ (HMP.out.below (pbN HBW.out _)) ?k1 ?k0 HN.out HT.out HS.out).mono ?_); (case k1 => exact pcb (pbN (Below.refl _ _) _) HK1.out); (case k0 => exact pcb (pbN (Below.refl _ _) _) HK0.out); rw [HR1.out]; rintro e w1 ⟨rfl, hb⟩; have HB1 := aM (bSp (pbN HBW.out _) hb); have HJ1 := aM (pcb (bSp (pbN (Below.refl _ _) _) hb) HK1.out); have HJ0 := aM (pcb (bSp (pbN (Below.refl _ _) _) hb) HK0.out); clear hb) | (go_at_call 65; (with_reducible refine (near_fwd (w.heap.size + 1) w.heap.size b n c text _ (HMP.out.below HB1.out) HJ1.out HJ0.out HN.out HT.out HS.out).mono ?_); rintro e w2 ⟨rfl, hb⟩; have HB2 := aM (bSp HB1.out hb); clear hb))
    go_ret
    exact ⟨by simp, HB2.out⟩
  ·have hf : finalI c text i = false := by unfold finalI; rw [decide_eq_false h1, Bool.and_false]; rfl
   have y3 : decide (i ≥ (text.length : Int)) = true := dT (by omega)
   have y4 : ((text.length : Int) ≤ i) = True := eq_true (by omega)
   rw [hf]
   clear hf h0 h1
   go_enter Try.func45, Try.ntmps45
   go_wp2
   have c6 := pcb HBW.out HM.out.c6
   have k0 : ((w.alloc (Obj.cells #[Value.pointer (some { block := b, off := 0 })] 49)).alloc (Obj.cells #[Value.int IntKind.i64 i] 3)).cell? ⟨w.heap.size, 0, none⟩ = some (.pointer (some ⟨b, 0, none⟩)) := pcb (bAl (Below.refl (w.alloc (Obj.cells #[Value.pointer (some { block := b, off := 0 })] 49)).heap.size _) _) ((bkC (blk_new w _) 0).trans rfl)
   have k1 : ((w.alloc (Obj.cells #[Value.pointer (some { block := b, off := 0 })] 49)).alloc (Obj.cells #[Value.int IntKind.i64 i] 3)).cell? ⟨w.heap.size + 1, 0, none⟩ = some (.int .i64 i) := by
    have h := (bkC (blk_new (w.alloc (Obj.cells #[Value.pointer (some { block := b, off := 0 })] 49)) (Obj.cells #[Value.int IntKind.i64 i] 3)) 0).trans rfl
    rw [World.size_alloc] at h
    exact h
   have HK0 := aM k0
   have HK1 := aM k1
   generalize ((w.alloc (Obj.cells #[Value.pointer (some { block := b, off := 0 })] 49)).alloc (Obj.cells #[Value.int IntKind.i64 i] 3)) = W at *
   go_quiet (fail)
   go_wp2
   go_ret
   exact ⟨rfl, pbN HBW.out _⟩
theorem mappedF (l : List Mp) (x : Int) (h : okM l = true) : casemap_mapped.f l x = some (mapdS l x) := by
 unfold casemap_mapped.f mapping_Get.f
 rw [if_pos h, Option.bind_some]
 unfold mapdS getP tagE
 cases getM l x ⟨#[]⟩ with
 | none => rfl
 | some xs => rfl
theorem getF (l : List Mp) (x : Int) (t : ByteArray) (h : okM l = true) : mapping_Get.f l x t = some ((getP l x t).1, (getP l x t).2) := by unfold mapping_Get.f; rw [if_pos h]
set_option maxHeartbeats 4000000 in
set_option maxRecDepth 100000 in
theorem upper_calls (b : Nat) (c : CaseS) (text : List Int) (i : Nat) (w : World) (hM : Mpr w b c text) (hi : i < text.length) (hok : okM c.up = true) :
  Calls Try.prog 40 #[.pointer (some ⟨b, 0, none⟩), .int .i64 i] w fun e w' => ∃ v, e = .returned v ∧ Kd.R (Kd.int .i64) 3 w' w.heap.size (fun _ => True) v (mapdS c.up (text.getD i 0)) ∧ Below w.heap.size w w' := by
 obtain ⟨A0, n0, A1, n1, A2, n2, A3, n3, A4, n4, A5, n5, At, nt, hA⟩ := hM
 have HM := aM hA
 obtain ⟨ad, e, t1⟩ := Kd.at_int HM.out.rt (i : Int) (by omega) (by omega)
 cases e
 rw [Int.toNat_natCast] at t1
 have hrd : rd text (i : Int) = text.getD i 0 := by unfold rd; rw [Int.toNat_natCast]
 rw [hrd] at t1
 have hp1 : (0 ≤ (i : Int)) = True := eq_true (by omega)
 have hp2 : ((i : Int) < (text.length : Int)) = True := eq_true (by omega)
 have hp3 : (i < text.length) = True := eq_true hi
 have hq1 : (0 : Int) ≤ (i : Int) := by omega
 have hq2 : (i : Int) < (text.length : Int) := by omega
 have c6 := HM.out.c6
 have HBR := aM (Below.refl w.heap.size w)
 have c1 := HM.out.c1
 have HMF := aM (mappedF c.up (text.getD i 0) hok)
 generalize text.getD i 0 = x at *
 clear hA hi hok hrd
 go_enter Try.func40, Try.ntmps40
 go_wp2
 go_region_held3 (fun w' => w'.cell? ⟨b, 1, none⟩ = some (.slice A1 c.up.length n1) ∧ w'.cell? ⟨b, 6, none⟩ = some (.slice (some ad) text.length nt) ∧ w'.cell? (ad.add i) = some (.int .i64 x)) (first | go_keep | (go_split_ands; refine ⟨?_, ?_, ?_⟩; (refine pcb hb ?_; assumption); (refine pcb hb ?_; assumption); (refine pcb hb ?_; assumption)))
  (first | (go_at_call 51; (with_reducible refine (casemap_mapped.calls A1 n1 c.up x (mapdS c.up x) _ ?s1 HM.out.l1 HMF.out).mono ?_); (case s1 => exact Kd.C_below HM.out.r1 (by repeat (first | (with_reducible first | exact HBR.out | apply bAl | apply pbN | apply bD1) | exact HBR.out))); rintro e w1 ⟨v1, rfl, hv, hb⟩; have HV := aM (Kd.R_lower hv (bSz (show Below w.heap.size w _ from (by repeat (first | (with_reducible first | exact HBR.out | apply bAl | apply pbN | apply bD1) | exact HBR.out))))); have HB1 := aM (bSp (show Below w.heap.size w _ from (by repeat (first | (with_reducible first | exact HBR.out | apply bAl | apply pbN | apply bD1) | exact HBR.out))) hb)))
 clear hb hv
 go_wp2
 go_ret
 exact ⟨v1, rfl, HV.out, HB1.out⟩
set_option maxHeartbeats 4000000 in
set_option maxRecDepth 100000 in
theorem lower_calls (b : Nat) (c : CaseS) (text : List Int) (i : Nat) (w : World) (hM : Mpr w b c text) (hi : i < text.length) (hok : okM c.lo = true) (ht : text.length < 1000000) (hs : c.ca.length < 1000000 ∧ c.ig.length < 1000000) :
  Calls Try.prog 34 #[.pointer (some ⟨b, 0, none⟩), .int .i64 i] w fun e w' => ∃ v, e = .returned v ∧ Kd.R (Kd.int .i64) 3 w' w.heap.size (fun _ => True) v (lowerS c text i) ∧ Below w.heap.size w w' := by
 have HMP := aM hM
 have HT := aM ht
 have HS := aM hs
 obtain ⟨A0, n0, A1, n1, A2, n2, A3, n3, A4, n4, A5, n5, At, nt, hA⟩ := hM
 have HM := aM hA
 obtain ⟨ad, e, t1⟩ := Kd.at_int HM.out.rt (i : Int) (by omega) (by omega)
 cases e
 rw [Int.toNat_natCast] at t1
 have hrd : rd text (i : Int) = text.getD i 0 := by unfold rd; rw [Int.toNat_natCast]
 rw [hrd] at t1
 have hp1 : (0 ≤ (i : Int)) = True := eq_true (by omega)
 have hp2 : ((i : Int) < (text.length : Int)) = True := eq_true (by omega)
 have hp3 : (i < text.length) = True := eq_true hi
 have hq1 : (0 : Int) ≤ (i : Int) := by omega
 have hq2 : (i : Int) < (text.length : Int) := by omega
 have c6 := HM.out.c6
 have HBR := aM (Below.refl w.heap.size w)
 have c0 := HM.out.c0
 have HMF := aM (mappedF c.lo (text.getD i 0) hok)
 have hgf := getF c.lo (text.getD i 0) ⟨#[102, 105, 110, 97, 108]⟩ hok
 have hls : lowerS c text i = match getM c.lo (text.getD i 0) tagF with | some xs => if finalS c text i then xs else mapdS c.lo (text.getD i 0) | none => mapdS c.lo (text.getD i 0) := rfl
 have hfi : finalI c text (i : Int) = finalS c text i := by
  unfold finalI
  rw [dT (by omega), dT (by omega), Int.toNat_natCast]; rfl
 rw [hls]
 generalize text.getD i 0 = x at *
 have T1 := aM t1
 cases hg : getM c.lo x tagF with
 | none =>
  obtain ⟨xs, HGF⟩ : ∃ xs : List Int, Aside0 (mapping_Get.f c.lo x ⟨#[102, 105, 110, 97, 108]⟩ = some (xs, false)) := ⟨[], ⟨by
   refine hgf.trans ?_
   unfold getP
   rw [show getM c.lo x ⟨#[102, 105, 110, 97, 108]⟩ = none from hg]⟩⟩
  clear hA hi hok hrd ht hs hg hgf hls hfi t1
  show Calls _ _ _ _ fun e w' => ∃ v, e = .returned v ∧ Kd.R (Kd.int .i64) 3 w' w.heap.size (fun _ => True) v (mapdS c.lo x) ∧ Below w.heap.size w w'
  have t1 := T1.out
  go_enter Try.func34, Try.ntmps34
  go_wp2
  go_region_held3 (fun w' => w'.cell? ⟨b, 0, none⟩ = some (.slice A0 c.lo.length n0) ∧ w'.cell? ⟨b, 6, none⟩ = some (.slice (some ad) text.length nt) ∧ w'.cell? (ad.add i) = some (.int .i64 x)) (first | go_keep | (go_split_ands; refine ⟨?_, ?_, ?_⟩; (refine pcb hb ?_; assumption); (refine pcb hb ?_; assumption); (refine pcb hb ?_; assumption)))
   (first | (go_at_call 56; (with_reducible refine (mapping_Get.calls A0 n0 c.lo x ⟨#[102, 105, 110, 97, 108]⟩ xs false _ ?s1 HM.out.l0 HGF.out).mono ?_); (case s1 => exact Kd.C_below HM.out.r0 (by repeat (first | (with_reducible first | exact HBR.out | apply bAl | apply pbN | apply bD1) | exact HBR.out))); rintro e w1 ⟨v1, rfl, hv, hb⟩; have HV1 := aM (Kd.R_lower hv (bSz (show Below w.heap.size w _ from (by repeat (first | (with_reducible first | exact HBR.out | apply bAl | apply pbN | apply bD1) | exact HBR.out))))); have HB1 := aM (bSp (show Below w.heap.size w _ from (by repeat (first | (with_reducible first | exact HBR.out | apply bAl | apply pbN | apply bD1) | exact HBR.out))) hb)))
  clear hb hv t1 c0 c6
  have c0 := pcb HB1.out HM.out.c0
  have c6 := pcb HB1.out HM.out.c6
  have t2 := pcb HB1.out T1.out
  go_wp2
  go_region_held3 (fun w' => w'.cell? ⟨b, 0, none⟩ = some (.slice A0 c.lo.length n0) ∧ w'.cell? ⟨b, 6, none⟩ = some (.slice (some ad) text.length nt) ∧ w'.cell? (ad.add i) = some (.int .i64 x)) (first | go_keep | (go_split_ands; refine ⟨?_, ?_, ?_⟩; (refine pcb hb ?_; assumption); (refine pcb hb ?_; assumption); (refine pcb hb ?_; assumption)))
   (first | (go_at_call 51; (with_reducible refine (casemap_mapped.calls A0 n0 c.lo x (mapdS c.lo x) _ ?s1 HM.out.l0 HMF.out).mono ?_); (case s1 => exact Kd.C_below HM.out.r0 (by repeat (first | (with_reducible first | exact HB1.out | apply bAl | apply pbN | apply bD1) | exact HB1.out))); rintro e w3 ⟨v3, rfl, hv, hb⟩; have HV := aM (Kd.R_lower hv (bSz (show Below w.heap.size w _ from (by repeat (first | (with_reducible first | exact HB1.out | apply bAl | apply pbN | apply bD1) | exact HB1.out))))); have HB3 := aM (bSp (show Below w.heap.size w _ from (by repeat (first | (with_reducible first | exact HB1.out | apply bAl | apply pbN | apply bD1) | exact HB1.out))) hb)))
  clear hb hv
  go_wp2
  go_ret
  exact ⟨v3, rfl, HV.out, HB3.out⟩
 | some ys =>
  have HGF := aM (show mapping_Get.f c.lo x ⟨#[102, 105, 110, 97, 108]⟩ = some (ys, true) by
   refine hgf.trans ?_
   unfold getP
   rw [show getM c.lo x ⟨#[102, 105, 110, 97, 108]⟩ = some ys from hg])
  cases hf : finalS c text i with
  | true =>
   have HFI := aM (hfi.trans hf)
   clear hA hi hok hrd ht hs hg hgf hls hfi hf t1
   show Calls _ _ _ _ fun e w' => ∃ v, e = .returned v ∧ Kd.R (Kd.int .i64) 3 w' w.heap.size (fun _ => True) v ys ∧ Below w.heap.size w w'
   have t1 := T1.out
   obtain ⟨ok, hok2⟩ : ∃ ok, ok = true := ⟨_, rfl⟩
   obtain ⟨xs, hxs⟩ : ∃ xs, xs = ys := ⟨_, rfl⟩
   subst hok2 hxs
   go_enter Try.func34, Try.ntmps34
   go_wp2
   go_region_held3 (fun w' => w'.cell? ⟨b, 0, none⟩ = some (.slice A0 c.lo.length n0) ∧ w'.cell? ⟨b, 6, none⟩ = some (.slice (some ad) text.length nt) ∧ w'.cell? (ad.add i) = some (.int .i64 x)) (first | go_keep | (go_split_ands; refine ⟨?_, ?_, ?_⟩; (refine pcb hb ?_; assumption); (refine pcb hb ?_; assumption); (refine pcb hb ?_; assumption)))
    (first | (go_at_call 56; (with_reducible refine (mapping_Get.calls A0 n0 c.lo x ⟨#[102, 105, 110, 97, 108]⟩ xs true _ ?s1 HM.out.l0 HGF.out).mono ?_); (case s1 => exact Kd.C_below HM.out.r0 (by repeat (first | (with_reducible first | exact HBR.out | apply bAl | apply pbN | apply bD1) | exact HBR.out))); rintro e w1 ⟨v1, rfl, hv, hb⟩; have HV1 := aM (Kd.R_lower hv (bSz (show Below w.heap.size w _ from (by repeat (first | (with_reducible first | exact HBR.out | apply bAl | apply pbN | apply bD1) | exact HBR.out))))); have HB1 := aM (bSp (show Below w.heap.size w _ from (by repeat (first | (with_reducible first | exact HBR.out | apply bAl | apply pbN | apply bD1) | exact HBR.out))) hb)))
   clear hb hv t1 c0 c6
   go_wp2_with (first | (go_at_call 45; (with_reducible refine (final_calls b c text (i : Int) _ (HMP.out.below HB1.out) HT.out HS.out).mono ?_); rw [HFI.out]; rintro e w2 ⟨rfl, hb⟩; have HV2 := aM (Kd.R_below HV1.out hb); have HB2 := aM (bSp HB1.out hb); clear hb))
   go_ret
   exact ⟨v1, rfl, HV2.out, HB2.out⟩
  | false =>
   have HFI := aM (hfi.trans hf)
   clear hA hi hok hrd ht hs hg hgf hls hfi hf t1
   show Calls _ _ _ _ fun e w' => ∃ v, e = .returned v ∧ Kd.R (Kd.int .i64) 3 w' w.heap.size (fun _ => True) v (mapdS c.lo x) ∧ Below w.heap.size w w'
   have t1 := T1.out
   obtain ⟨ok, hok2⟩ : ∃ ok, ok = true := ⟨_, rfl⟩
   obtain ⟨xs, hxs⟩ : ∃ xs, xs = ys := ⟨_, rfl⟩
   subst hok2 hxs
   go_enter Try.func34, Try.ntmps34
   go_wp2
   go_region_held3 (fun w' => w'.cell? ⟨b, 0, none⟩ = some (.slice A0 c.lo.length n0) ∧ w'.cell? ⟨b, 6, none⟩ = some (.slice (some ad) text.length nt) ∧ w'.cell? (ad.add i) = some (.int .i64 x)) (first | go_keep | (go_split_ands; refine ⟨?_, ?_, ?_⟩; (refine pcb hb ?_; assumption); (refine pcb hb ?_; assumption); (refine pcb hb ?_; assumption)))
    (first | (go_at_call 56; (with_reducible refine (mapping_Get.calls A0 n0 c.lo x ⟨#[102, 105, 110, 97, 108]⟩ xs true _ ?s1 HM.out.l0 HGF.out).mono ?_); (case s1 => exact Kd.C_below HM.out.r0 (by repeat (first | (with_reducible first | exact HBR.out | apply bAl | apply pbN | apply bD1) | exact HBR.out))); rintro e w1 ⟨v1, rfl, hv, hb⟩; have HV1 := aM (Kd.R_lower hv (bSz (show Below w.heap.size w _ from (by repeat (first | (with_reducible first | exact HBR.out | apply bAl | apply pbN | apply bD1) | exact HBR.out))))); have HB1 := aM (bSp (show Below w.heap.size w _ from (by repeat (first | (with_reducible first | exact HBR.out | apply bAl | apply pbN | apply bD1) | exact HBR.out))) hb)))
   clear hb hv t1 c0 c6
   go_upto_region 4 with (first | (go_at_call 45; (with_reducible refine (final_calls b c text (i : Int) _ (HMP.out.below HB1.out) HT.out HS.out).mono ?_); rw [HFI.out]; rintro e w2 ⟨rfl, hb⟩; have HV2 := aM (Kd.R_below HV1.out hb); have HB2 := aM (bSp HB1.out hb); clear hb))
   have c0 := pcb HB2.out HM.out.c0
   have c6 := pcb HB2.out HM.out.c6
   have t2 := pcb HB2.out T1.out
   go_wp2
   go_region_held3 (fun w' => w'.cell? ⟨b, 0, none⟩ = some (.slice A0 c.lo.length n0) ∧ w'.cell? ⟨b, 6, none⟩ = some (.slice (some ad) text.length nt) ∧ w'.cell? (ad.add i) = some (.int .i64 x)) (first | go_keep | (go_split_ands; refine ⟨?_, ?_, ?_⟩; (refine pcb hb ?_; assumption); (refine pcb hb ?_; assumption); (refine pcb hb ?_; assumption)))
    (first | (go_at_call 51; (with_reducible refine (casemap_mapped.calls A0 n0 c.lo x (mapdS c.lo x) _ ?s1 HM.out.l0 HMF.out).mono ?_); (case s1 => exact Kd.C_below HM.out.r0 (by repeat (first | (with_reducible first | exact HB2.out | apply bAl | apply pbN | apply bD1) | exact HB2.out))); rintro e w3 ⟨v3, rfl, hv, hb⟩; have HV := aM (Kd.R_lower hv (bSz (show Below w.heap.size w _ from (by repeat (first | (with_reducible first | exact HB2.out | apply bAl | apply pbN | apply bD1) | exact HB2.out))))); have HB3 := aM (bSp (show Below w.heap.size w _ from (by repeat (first | (with_reducible first | exact HB2.out | apply bAl | apply pbN | apply bD1) | exact HB2.out))) hb)))
   clear hb hv
   go_wp2
   go_ret
   exact ⟨v3, rfl, HV.out, HB3.out⟩
theorem getM_len {l : List Mp} (h : okM l = true) {x : Int} {t : ByteArray} {xs : List Int} (hg : getM l x t = some xs) : xs.length < 100000 := by
 unfold getM at hg
 split at hg
 ·unfold findM at hg
  obtain ⟨y, hy, rfl⟩ := Option.map_eq_some_iff.1 hg
  exact ((okM_spec h).2 y (List.mem_of_find?_eq_some hy)).1
 ·cases hg
theorem mapdS_len {l : List Mp} (h : okM l = true) (x : Int) : (mapdS l x).length < 100000 := by
 unfold mapdS
 cases hg : getM l x tagE with
 | none => show (1 : Nat) < 100000; decide
 | some xs => exact getM_len h hg
theorem lowerS_len {c : CaseS} (h : okM c.lo = true) (text : List Int) (i : Nat) : (lowerS c text i).length < 100000 := by
 unfold lowerS
 split
 ·rename_i xs hg
  split
  ·exact getM_len h hg
  ·exact mapdS_len h _
 ·exact mapdS_len h _
theorem lowerA_len {c : CaseS} (h : okM c.lo = true) (text : List Int) : ∀ n, (lowerA c text n).length ≤ 100000 * n
 | 0 => Nat.le_refl _
 | n + 1 => by
  have h1 := lowerA_len h text n
  have h2 := lowerS_len h text n
  rw [lowerA, List.length_append]; omega
theorem upperA_len {c : CaseS} (h : okM c.up = true) (text : List Int) : ∀ n, (upperA c text n).length ≤ 100000 * n
 | 0 => Nat.le_refl _
 | n + 1 => by
  have h1 := upperA_len h text n
  have h2 := mapdS_len h (text.getD n 0)
  rw [upperA, List.length_append]; omega
theorem caseData_ok {c : CaseS} (h : okC c = true) : okM (caseData c).lo = true ∧ okM (caseData c).up = true ∧ okM (caseData c).ti = true ∧ (caseData c).ca.length < 1000000 ∧ (caseData c).ig.length < 1000000 := by
 obtain ⟨h1, h2, h3, h4, h5, h6⟩ := okC_spec h
 unfold caseData
 split
 ·exact ⟨h1, h2, h3, h5, h6⟩
 ·exact ⟨rfl, rfl, rfl, by decide, by decide⟩
set_option maxHeartbeats 4000000 in
set_option maxRecDepth 100000 in
theorem each_lower (b : Nat) (c : CaseS) (text : List Int) (w : World) (hM : Mpr w b c text) (hok : okM c.lo = true) (ht : text.length < 100000) (hs : c.ca.length < 1000000 ∧ c.ig.length < 1000000) :
  Calls Try.prog 39 #[.pointer (some ⟨b, 0, none⟩), .func (.func 34) #[.pointer (some ⟨b, 0, none⟩)] #[]] w fun e w' => ∃ v, e = .returned v ∧ Kd.R (Kd.int .i64) 3 w' w.heap.size (fun _ => True) v (lowerA c text text.length) ∧ Below w.heap.size w w' := by
 have HMP := aM hM
 have HOK := aM hok
 have HT := aM ht
 have HS := aM hs
 clear hs
 obtain ⟨A0, n0, A1, n1, A2, n2, A3, n3, A4, n4, A5, n5, At, nt, hA⟩ := hM
 have c6 := hA.c6
 clear hA hok ht
 go_enter Try.func39, Try.ntmps39
 go_wp2
 go_loopw [5, 12] (fun lv i wr => ∃ k : Nat, i = .int .i64 k ∧ Aside0 (k ≤ text.length) ∧ Aside0 (Kd.R (Kd.int .i64) 3 wr w.heap.size (fun _ => True) lv (lowerA c text k)) ∧ Aside0 (Below w.heap.size w wr)) (fun _ i _ => text.length - (intOf i).toNat)
 case atStart => exact ⟨0, rfl, ⟨Nat.zero_le _⟩, ⟨Kd.R_nil _ _ _ _ _⟩, ⟨Below.refl _ _⟩⟩
 case round =>
  clear c6
  obtain ⟨k, rfl, HK, HO, HB⟩ := hrel
  by_cases hlt : k < text.length
  ·have HLT := aM hlt
   have hdl : decide ((k : Int) < (text.length : Int)) = true := dT (by omega)
   have hw : wrap64 ((k : Int) + 1) = (k : Int) + 1 := by have := HT.out; unfold wrap64; omega
   have hd2 : decide (k < text.length) = true := dT hlt
   have hd3 : (k < text.length) = True := eq_true hlt
   have hpc := fun W => lower_calls b c text k W
   have HWL := aM (lowerS_len HOK.out text k)
   have hnx : lowerA c text (k + 1) = lowerA c text k ++ lowerS c text k := rfl
   generalize lowerS c text k = wl at *
   have HPC := aM hpc
   have HNX := aM hnx
   clear hlt hpc hnx
   go_wp2_with (first | (go_at_call 34; (with_reducible refine (HPC.out _ (HMP.out.below HB.out) HLT.out HOK.out (by have := HT.out; omega) HS.out).mono ?_); rintro e w1 ⟨v1, rfl, hv, hb⟩; obtain ⟨A1, c1, rfl⟩ := Kd.R_slice hv; have HV := aM hv; have HO1 := aM (Kd.R_below HO.out hb); have HB1 := aM (bSp HB.out hb); clear hv hb) | (at_builtin; refine Kd.R_append_rows (Kd.int .i64) (w0 := w1) w.heap.size rfl (.tmp 15) (.tmp 18) 28 3 (.int .i64 0) 8 rfl Try.underlying28 info3 rfl (by decide) (by omega) u5 (lowerA c text k) wl _ _ _ (fun _ => True) (fun _ => False) rfl rfl ?aO ?aR (fun _ _ h => h) (fun _ h => h.elim) ?aF ?aB ?aS ?aL ?_; (case aR => exact (Kd.R_reads' HV.out).2.2); (case aB => exact Below.refl _ _); (case aF => exact (fun _ _ => trivial)); (case aO => exact HO1.out); (case aS => exact HB1.out.size); (case aL => have h1_ := lowerA_len HOK.out text k; have h2_ := HWL.out; have h3_ := HT.out; have h4_ := HLT.out; omega); intro v4 w4 ho hb hg hat; have HO4 := aM ho; have HB4 := aM (HB1.out.grown hg HB1.out.size (fun k_ hk_ => Kd.R_base HO1.out k_ hk_)); clear ho hb hg hat))
   go_roundw
   case rel => exact ⟨k + 1, by rw [hw]; rfl, HLT, ⟨by rw [HNX.out]; exact HO4.out⟩, HB4⟩
   case measure => rw [hw]; simp only [intOf]; have := HLT.out; omega
  ·obtain rfl : k = text.length := by have := HK.out; omega
   have hdl : decide ((text.length : Int) < (text.length : Int)) = false := decide_eq_false (by omega)
   have hd2 : decide (text.length < text.length) = false := decide_eq_false (by omega)
   have hd3 : (text.length < text.length) = False := eq_false (by omega)
   clear hlt
   go_wp2
   go_ret
   exact ⟨u5, rfl, HO.out, HB.out⟩
set_option maxHeartbeats 4000000 in
set_option maxRecDepth 100000 in
theorem each_upper (b : Nat) (c : CaseS) (text : List Int) (w : World) (hM : Mpr w b c text) (hok : okM c.up = true) (ht : text.length < 100000) :
  Calls Try.prog 39 #[.pointer (some ⟨b, 0, none⟩), .func (.func 40) #[.pointer (some ⟨b, 0, none⟩)] #[]] w fun e w' => ∃ v, e = .returned v ∧ Kd.R (Kd.int .i64) 3 w' w.heap.size (fun _ => True) v (upperA c text text.length) ∧ Below w.heap.size w w' := by
 have HMP := aM hM
 have HOK := aM hok
 have HT := aM ht
 obtain ⟨A0, n0, A1, n1, A2, n2, A3, n3, A4, n4, A5, n5, At, nt, hA⟩ := hM
 have c6 := hA.c6
 clear hA hok ht
 go_enter Try.func39, Try.ntmps39
 go_wp2
 go_loopw [5, 12] (fun lv i wr => ∃ k : Nat, i = .int .i64 k ∧ Aside0 (k ≤ text.length) ∧ Aside0 (Kd.R (Kd.int .i64) 3 wr w.heap.size (fun _ => True) lv (upperA c text k)) ∧ Aside0 (Below w.heap.size w wr)) (fun _ i _ => text.length - (intOf i).toNat)
 case atStart => exact ⟨0, rfl, ⟨Nat.zero_le _⟩, ⟨Kd.R_nil _ _ _ _ _⟩, ⟨Below.refl _ _⟩⟩
 case round =>
  clear c6
  obtain ⟨k, rfl, HK, HO, HB⟩ := hrel
  by_cases hlt : k < text.length
  ·have HLT := aM hlt
   have hdl : decide ((k : Int) < (text.length : Int)) = true := dT (by omega)
   have hw : wrap64 ((k : Int) + 1) = (k : Int) + 1 := by have := HT.out; unfold wrap64; omega
   have hd2 : decide (k < text.length) = true := dT hlt
   have hd3 : (k < text.length) = True := eq_true hlt
   have hpc := fun W => upper_calls b c text k W
   have HWL := aM (mapdS_len HOK.out (text.getD k 0))
   have hnx : upperA c text (k + 1) = upperA c text k ++ mapdS c.up (text.getD k 0) := rfl
   generalize mapdS c.up (text.getD k 0) = wl at *
   have HPC := aM hpc
   have HNX := aM hnx
   clear hlt hpc hnx
   go_wp2_with (first | (go_at_call 40; (with_reducible refine (HPC.out _ (HMP.out.below HB.out) HLT.out HOK.out).mono ?_); rintro e w1 ⟨v1, rfl, hv, hb⟩; obtain ⟨A1, c1, rfl⟩ := Kd.R_slice hv; have HV := aM hv; have HO1 := aM (Kd.R_below HO.out hb); have HB1 := aM (bSp HB.out hb); clear hv hb) | (at_builtin; refine Kd.R_append_rows (Kd.int .i64) (w0 := w1) w.heap.size rfl (.tmp 15) (.tmp 18) 28 3 (.int .i64 0) 8 rfl Try.underlying28 info3 rfl (by decide) (by omega) u5 (upperA c text k) wl _ _ _ (fun _ => True) (fun _ => False) rfl rfl ?aO ?aR (fun _ _ h => h) (fun _ h => h.elim) ?aF ?aB ?aS ?aL ?_; (case aR => exact (Kd.R_reads' HV.out).2.2); (case aB => exact Below.refl _ _); (case aF => exact (fun _ _ => trivial)); (case aO => exact HO1.out); (case aS => exact HB1.out.size); (case aL => have h1_ := upperA_len HOK.out text k; have h2_ := HWL.out; have h3_ := HT.out; have h4_ := HLT.out; omega); intro v4 w4 ho hb hg hat; have HO4 := aM ho; have HB4 := aM (HB1.out.grown hg HB1.out.size (fun k_ hk_ => Kd.R_base HO1.out k_ hk_)); clear ho hb hg hat))
   go_roundw
   case rel => exact ⟨k + 1, by rw [hw]; rfl, HLT, ⟨by rw [HNX.out]; exact HO4.out⟩, HB4⟩
   case measure => rw [hw]; simp only [intOf]; have := HLT.out; omega
  ·obtain rfl : k = text.length := by have := HK.out; omega
   have hdl : decide ((text.length : Int) < (text.length : Int)) = false := decide_eq_false (by omega)
   have hd2 : decide (text.length < text.length) = false := decide_eq_false (by omega)
   have hd3 : (text.length < text.length) = False := eq_false (by omega)
   clear hlt
   go_wp2
   go_ret
   exact ⟨u5, rfl, HO.out, HB.out⟩
set_option maxHeartbeats 4000000 in
set_option maxRecDepth 100000 in
theorem casemap_Lower.calls (A0_0 : Option Addr) (c0_0 : Nat) (l0_0 : List Mp) (A0_1 : Option Addr) (c0_1 : Nat) (l0_1 : List Mp) (A0_2 : Option Addr) (c0_2 : Nat) (l0_2 : List Mp) (A0_3 : Option Addr) (c0_3 : Nat) (l0_3 : List Mp) (A0_4 : Option Addr) (c0_4 : Nat) (l0_4 : List Rg) (A0_5 : Option Addr) (c0_5 : Nat) (l0_5 : List Rg) (A1 : Option Addr) (c1 : Nat) (l1 : List Int) (r : List Int) (w : World) (hr0_0 : Kd.C k43 w A0_0 l0_0.length l0_0) (hc0_0 : l0_0.length ≤ c0_0) (hr0_1 : Kd.C k43 w A0_1 l0_1.length l0_1) (hc0_1 : l0_1.length ≤ c0_1) (hr0_2 : Kd.C k43 w A0_2 l0_2.length l0_2) (hc0_2 : l0_2.length ≤ c0_2) (hr0_3 : Kd.C k43 w A0_3 l0_3.length l0_3) (hc0_3 : l0_3.length ≤ c0_3) (hr0_4 : Kd.C k33 w A0_4 l0_4.length l0_4) (hc0_4 : l0_4.length ≤ c0_4) (hr0_5 : Kd.C k33 w A0_5 l0_5.length l0_5) (hc0_5 : l0_5.length ≤ c0_5) (hr1 : Kd.C (Kd.int .i64) w A1 l1.length l1) (hc1 : l1.length ≤ c1) (h : casemap_Lower.f l0_0 l0_1 l0_2 l0_3 l0_4 l0_5 l1 = some r) :
  Calls Try.prog 18 #[.agg #[.slice A0_0 l0_0.length c0_0, .slice A0_1 l0_1.length c0_1, .slice A0_2 l0_2.length c0_2, .slice A0_3 l0_3.length c0_3, .slice A0_4 l0_4.length c0_4, .slice A0_5 l0_5.length c0_5], .slice A1 l1.length c1] w fun e w' => ∃ v0_ : Value, e = .returned (v0_) ∧ Kd.R (Kd.int .i64) 3 w' w.heap.size (fun _ => True) v0_ r ∧ Below w.heap.size w w' := by
 unfold casemap_Lower.f at h
 by_cases hok : okC ⟨l0_0, l0_1, l0_2, l0_3, l0_4, l0_5⟩ = true ∧ okT l1 = true
 ·rw [if_pos hok] at h
  injection h with h
  subst h
  obtain ⟨hok, hot⟩ := hok
  have hlt : l1.length < 100000 := by unfold okT at hot; exact oD hot
  obtain ⟨d1, d2, d3, d4, d5⟩ := caseData_ok hok
  have HBX := aM (bAl (Below.refl w.heap.size w) (Obj.cells #[Value.slice A0_0 l0_0.length c0_0, Value.slice A0_1 l0_1.length c0_1, Value.slice A0_2 l0_2.length c0_2, Value.slice A0_3 l0_3.length c0_3, Value.slice A0_4 l0_4.length c0_4, Value.slice A0_5 l0_5.length c0_5] 27))
  have HOK := aM hok
  have HRT := aM hr1
  have HCT := aM hc1
  have HLT := aM hlt
  have HD := aM (And.intro d1 (And.intro d2 (And.intro d3 (And.intro d4 d5))))
  have hu := Try.underlying27
  have HR0 := aM hr0_0
  have HC0 := aM hc0_0
  have HR1 := aM hr0_1
  have HC1 := aM hc0_1
  have HR2 := aM hr0_2
  have HC2 := aM hc0_2
  have HR3 := aM hr0_3
  have HC3 := aM hc0_3
  have HR4 := aM hr0_4
  have HC4 := aM hc0_4
  have HR5 := aM hr0_5
  have HC5 := aM hc0_5
  clear hok hot hlt d1 d2 d3 d4 d5 hr1 hc1 hr0_0 hc0_0 hr0_1 hc0_1 hr0_2 hc0_2 hr0_3 hc0_3 hr0_4 hc0_4 hr0_5 hc0_5
  show Calls _ _ _ _ fun e w' => ∃ v0_ : Value, e = .returned (v0_) ∧ Kd.R (Kd.int .i64) 3 w' w.heap.size (fun _ => True) v0_ (lowerA (caseData ⟨l0_0, l0_1, l0_2, l0_3, l0_4, l0_5⟩) l1 l1.length) ∧ Below w.heap.size w w'
  go_enter Try.func18, Try.ntmps18
  go_wp2_with (first | (go_at_call 30; (with_reducible refine (open_calls A0_0 c0_0 l0_0 A0_1 c0_1 l0_1 A0_2 c0_2 l0_2 A0_3 c0_3 l0_3 A0_4 c0_4 l0_4 A0_5 c0_5 l0_5 A1 c1 l1 _ (Kd.C_below HR0.out HBX.out) HC0.out (Kd.C_below HR1.out HBX.out) HC1.out (Kd.C_below HR2.out HBX.out) HC2.out (Kd.C_below HR3.out HBX.out) HC3.out (Kd.C_below HR4.out HBX.out) HC4.out (Kd.C_below HR5.out HBX.out) HC5.out (Kd.C_below HRT.out HBX.out) HCT.out HOK.out).mono ?_); rintro e w2 ⟨b, rfl, hm, hb⟩; have HM := aM hm; have HB2 := aM (bSp HBX.out hb); clear hm hb) | (go_at_call 39; (with_reducible refine (each_lower b (caseData ⟨l0_0, l0_1, l0_2, l0_3, l0_4, l0_5⟩) l1 _ HM.out HD.out.1 HLT.out HD.out.2.2.2).mono ?_); rintro e w3 ⟨v3, rfl, hv, hb⟩; have HV := aM (Kd.R_lower hv HB2.out.size); have HB3 := aM (bSp HB2.out hb); clear hv hb))
  go_ret
  exact ⟨v3, rfl, HV.out, HB3.out⟩
 ·rw [if_neg hok] at h; cases h
set_option maxHeartbeats 4000000 in
set_option maxRecDepth 100000 in
theorem casemap_Upper.calls (A0_0 : Option Addr) (c0_0 : Nat) (l0_0 : List Mp) (A0_1 : Option Addr) (c0_1 : Nat) (l0_1 : List Mp) (A0_2 : Option Addr) (c0_2 : Nat) (l0_2 : List Mp) (A0_3 : Option Addr) (c0_3 : Nat) (l0_3 : List Mp) (A0_4 : Option Addr) (c0_4 : Nat) (l0_4 : List Rg) (A0_5 : Option Addr) (c0_5 : Nat) (l0_5 : List Rg) (A1 : Option Addr) (c1 : Nat) (l1 : List Int) (r : List Int) (w : World) (hr0_0 : Kd.C k43 w A0_0 l0_0.length l0_0) (hc0_0 : l0_0.length ≤ c0_0) (hr0_1 : Kd.C k43 w A0_1 l0_1.length l0_1) (hc0_1 : l0_1.length ≤ c0_1) (hr0_2 : Kd.C k43 w A0_2 l0_2.length l0_2) (hc0_2 : l0_2.length ≤ c0_2) (hr0_3 : Kd.C k43 w A0_3 l0_3.length l0_3) (hc0_3 : l0_3.length ≤ c0_3) (hr0_4 : Kd.C k33 w A0_4 l0_4.length l0_4) (hc0_4 : l0_4.length ≤ c0_4) (hr0_5 : Kd.C k33 w A0_5 l0_5.length l0_5) (hc0_5 : l0_5.length ≤ c0_5) (hr1 : Kd.C (Kd.int .i64) w A1 l1.length l1) (hc1 : l1.length ≤ c1) (h : casemap_Upper.f l0_0 l0_1 l0_2 l0_3 l0_4 l0_5 l1 = some r) :
  Calls Try.prog 19 #[.agg #[.slice A0_0 l0_0.length c0_0, .slice A0_1 l0_1.length c0_1, .slice A0_2 l0_2.length c0_2, .slice A0_3 l0_3.length c0_3, .slice A0_4 l0_4.length c0_4, .slice A0_5 l0_5.length c0_5], .slice A1 l1.length c1] w fun e w' => ∃ v0_ : Value, e = .returned (v0_) ∧ Kd.R (Kd.int .i64) 3 w' w.heap.size (fun _ => True) v0_ r ∧ Below w.heap.size w w' := by
 unfold casemap_Upper.f at h
 by_cases hok : okC ⟨l0_0, l0_1, l0_2, l0_3, l0_4, l0_5⟩ = true ∧ okT l1 = true
 ·rw [if_pos hok] at h
  injection h with h
  subst h
  obtain ⟨hok, hot⟩ := hok
  have hlt : l1.length < 100000 := by unfold okT at hot; exact oD hot
  obtain ⟨d1, d2, d3, d4, d5⟩ := caseData_ok hok
  have HBX := aM (bAl (Below.refl w.heap.size w) (Obj.cells #[Value.slice A0_0 l0_0.length c0_0, Value.slice A0_1 l0_1.length c0_1, Value.slice A0_2 l0_2.length c0_2, Value.slice A0_3 l0_3.length c0_3, Value.slice A0_4 l0_4.length c0_4, Value.slice A0_5 l0_5.length c0_5] 27))
  have HOK := aM hok
  have HRT := aM hr1
  have HCT := aM hc1
  have HLT := aM hlt
  have HD := aM (And.intro d1 (And.intro d2 (And.intro d3 (And.intro d4 d5))))
  have hu := Try.underlying27
  have HR0 := aM hr0_0
  have HC0 := aM hc0_0
  have HR1 := aM hr0_1
  have HC1 := aM hc0_1
  have HR2 := aM hr0_2
  have HC2 := aM hc0_2
  have HR3 := aM hr0_3
  have HC3 := aM hc0_3
  have HR4 := aM hr0_4
  have HC4 := aM hc0_4
  have HR5 := aM hr0_5
  have HC5 := aM hc0_5
  clear hok hot hlt d1 d2 d3 d4 d5 hr1 hc1 hr0_0 hc0_0 hr0_1 hc0_1 hr0_2 hc0_2 hr0_3 hc0_3 hr0_4 hc0_4 hr0_5 hc0_5
  show Calls _ _ _ _ fun e w' => ∃ v0_ : Value, e = .returned (v0_) ∧ Kd.R (Kd.int .i64) 3 w' w.heap.size (fun _ => True) v0_ (upperA (caseData ⟨l0_0, l0_1, l0_2, l0_3, l0_4, l0_5⟩) l1 l1.length) ∧ Below w.heap.size w w'
  go_enter Try.func19, Try.ntmps19
  go_wp2_with (first | (go_at_call 30; (with_reducible refine (open_calls A0_0 c0_0 l0_0 A0_1 c0_1 l0_1 A0_2 c0_2 l0_2 A0_3 c0_3 l0_3 A0_4 c0_4 l0_4 A0_5 c0_5 l0_5 A1 c1 l1 _ (Kd.C_below HR0.out HBX.out) HC0.out (Kd.C_below HR1.out HBX.out) HC1.out (Kd.C_below HR2.out HBX.out) HC2.out (Kd.C_below HR3.out HBX.out) HC3.out (Kd.C_below HR4.out HBX.out) HC4.out (Kd.C_below HR5.out HBX.out) HC5.out (Kd.C_below HRT.out HBX.out) HCT.out HOK.out).mono ?_); rintro e w2 ⟨b, rfl, hm, hb⟩; have HM := aM hm; have HB2 := aM (bSp HBX.out hb); clear hm hb) | (go_at_call 39; (with_reducible refine (each_upper b (caseData ⟨l0_0, l0_1, l0_2, l0_3, l0_4, l0_5⟩) l1 _ HM.out HD.out.2.1 HLT.out).mono ?_); rintro e w3 ⟨v3, rfl, hv, hb⟩; have HV := aM (Kd.R_lower hv HB2.out.size); have HB3 := aM (bSp HB2.out hb); clear hv hb))
  go_ret
  exact ⟨v3, rfl, HV.out, HB3.out⟩
 ·rw [if_neg hok] at h; cases h
set_option maxHeartbeats 4000000 in
set_option maxRecDepth 100000 in
theorem casemap_Final.calls (A0_0 : Option Addr) (c0_0 : Nat) (l0_0 : List Mp) (A0_1 : Option Addr) (c0_1 : Nat) (l0_1 : List Mp) (A0_2 : Option Addr) (c0_2 : Nat) (l0_2 : List Mp) (A0_3 : Option Addr) (c0_3 : Nat) (l0_3 : List Mp) (A0_4 : Option Addr) (c0_4 : Nat) (l0_4 : List Rg) (A0_5 : Option Addr) (c0_5 : Nat) (l0_5 : List Rg) (A1 : Option Addr) (c1 : Nat) (l1 : List Int) (a2 : Int) (r : Bool) (w : World) (hr0_0 : Kd.C k43 w A0_0 l0_0.length l0_0) (hc0_0 : l0_0.length ≤ c0_0) (hr0_1 : Kd.C k43 w A0_1 l0_1.length l0_1) (hc0_1 : l0_1.length ≤ c0_1) (hr0_2 : Kd.C k43 w A0_2 l0_2.length l0_2) (hc0_2 : l0_2.length ≤ c0_2) (hr0_3 : Kd.C k43 w A0_3 l0_3.length l0_3) (hc0_3 : l0_3.length ≤ c0_3) (hr0_4 : Kd.C k33 w A0_4 l0_4.length l0_4) (hc0_4 : l0_4.length ≤ c0_4) (hr0_5 : Kd.C k33 w A0_5 l0_5.length l0_5) (hc0_5 : l0_5.length ≤ c0_5) (hr1 : Kd.C (Kd.int .i64) w A1 l1.length l1) (hc1 : l1.length ≤ c1) (h : casemap_Final.f l0_0 l0_1 l0_2 l0_3 l0_4 l0_5 l1 a2 = some r) :
  Calls Try.prog 22 #[.agg #[.slice A0_0 l0_0.length c0_0, .slice A0_1 l0_1.length c0_1, .slice A0_2 l0_2.length c0_2, .slice A0_3 l0_3.length c0_3, .slice A0_4 l0_4.length c0_4, .slice A0_5 l0_5.length c0_5], .slice A1 l1.length c1, .int .i64 a2] w fun e w' => e = .returned (.bool r) ∧ Below w.heap.size w w' := by
 unfold casemap_Final.f at h
 by_cases hok : okC ⟨l0_0, l0_1, l0_2, l0_3, l0_4, l0_5⟩ = true ∧ okT l1 = true
 ·rw [if_pos hok] at h
  injection h with h
  subst h
  obtain ⟨hok, hot⟩ := hok
  have hlt : l1.length < 100000 := by unfold okT at hot; exact oD hot
  obtain ⟨d1, d2, d3, d4, d5⟩ := caseData_ok hok
  have HBX := aM (bAl (Below.refl w.heap.size w) (Obj.cells #[Value.slice A0_0 l0_0.length c0_0, Value.slice A0_1 l0_1.length c0_1, Value.slice A0_2 l0_2.length c0_2, Value.slice A0_3 l0_3.length c0_3, Value.slice A0_4 l0_4.length c0_4, Value.slice A0_5 l0_5.length c0_5] 27))
  have HOK := aM hok
  have HRT := aM hr1
  have HCT := aM hc1
  have HLT := aM hlt
  have HD := aM (And.intro d1 (And.intro d2 (And.intro d3 (And.intro d4 d5))))
  have hu := Try.underlying27
  have HR0 := aM hr0_0
  have HC0 := aM hc0_0
  have HR1 := aM hr0_1
  have HC1 := aM hc0_1
  have HR2 := aM hr0_2
  have HC2 := aM hc0_2
  have HR3 := aM hr0_3
  have HC3 := aM hc0_3
  have HR4 := aM hr0_4
  have HC4 := aM hc0_4
  have HR5 := aM hr0_5
  have HC5 := aM hc0_5
  clear hok hot hlt d1 d2 d3 d4 d5 hr1 hc1 hr0_0 hc0_0 hr0_1 hc0_1 hr0_2 hc0_2 hr0_3 hc0_3 hr0_4 hc0_4 hr0_5 hc0_5
  go_enter Try.func22, Try.ntmps22
  go_wp2_with (first | (go_at_call 30; (with_reducible refine (open_calls A0_0 c0_0 l0_0 A0_1 c0_1 l0_1 A0_2 c0_2 l0_2 A0_3 c0_3 l0_3 A0_4 c0_4 l0_4 A0_5 c0_5 l0_5 A1 c1 l1 _ (Kd.C_below HR0.out HBX.out) HC0.out (Kd.C_below HR1.out HBX.out) HC1.out (Kd.C_below HR2.out HBX.out) HC2.out (Kd.C_below HR3.out HBX.out) HC3.out (Kd.C_below HR4.out HBX.out) HC4.out (Kd.C_below HR5.out HBX.out) HC5.out (Kd.C_below HRT.out HBX.out) HCT.out HOK.out).mono ?_); rintro e w2 ⟨b, rfl, hm, hb⟩; have HM := aM hm; have HB2 := aM (bSp HBX.out hb); clear hm hb) | (go_at_call 45; (with_reducible refine (final_calls b (caseData ⟨l0_0, l0_1, l0_2, l0_3, l0_4, l0_5⟩) l1 a2 _ HM.out (by have := HLT.out; omega) HD.out.2.2.2).mono ?_); rintro e w3 ⟨rfl, hb⟩; have HB3 := aM (bSp HB2.out hb); clear hb))
  go_ret
  exact ⟨rfl, HB3.out⟩
 ·rw [if_neg hok] at h; cases h
end Go.Proofs.Ythnkmcfhpjmihaa.Q
end
section
namespace Go.Proofs.Ythnkmcfhpjmihaa.Q
open Go.RowKit Go.Proofs.YthnkmcfhpjmihaaW.PrintWords Go.Proofs.YthnkmcfhpjmihaaW.PrintLast Go.Proofs.YthnkmcfhpjmihaaW.PrintMore
attribute [local go_sem] max2_int min2_int max_two min_two max_three min_three max_four min_four
set_option linter.unusedVariables false
set_option linter.unusedSimpArgs false
mutual
def r37_near.l0 : Nat → List Int → Int → Int → List (S43) → List (S43) → List (S43) → List (S43) → List (S33) → List (S33) → Option (Bool)
 | 0, _, _, _, _, _, _, _, _, _ => none
 | k + 1, x1, x2, x3, x281000, x281001, x281002, x281003, x281004, x281005 => if x2 ≥ 0 then (r37_near.j1 k x1 x2 x3 (decide (x2 < (x1.length : Int))) x281000 x281001 x281002 x281003 x281004 x281005) else (r37_near.j1 k x1 x2 x3 false x281000 x281001 x281002 x281003 x281004 x281005)
def r37_near.j1 : Nat → List Int → Int → Int → Bool → List (S43) → List (S43) → List (S43) → List (S43) → List (S33) → List (S33) → Option (Bool)
 | 0, _, _, _, _, _, _, _, _, _, _ => none
 | k + 1, x1, x2, x3, x16, x281000, x281001, x281002, x281003, x281004, x281005 => if x16 = true then (if 0 ≤ x2 then (if x2 < (x1.length : Int) then ((r02_Has.f k x281005 (rd x1 x2)).bind fun t282 => (if t282 = true then (r37_near.l0 k x1 (wrap64 (x2 + x3)) x3 x281000 x281001 x281002 x281003 x281004 x281005) else ((r02_Has.f k x281004 (rd x1 x2)).bind fun t284 => (some t284)))) else (none)) else (none)) else (some false)
end
def r37_near.f (k : Nat) (l0_0 : List (S43)) (l0_1 : List (S43)) (l0_2 : List (S43)) (l0_3 : List (S43)) (l0_4 : List (S33)) (l0_5 : List (S33)) (l1 : List Int) (a2 : Int) (a3 : Int) : Option (Bool) := r37_near.l0 k l1 a2 a3 l0_0 l0_1 l0_2 l0_3 l0_4 l0_5
def r37_near.T2 : Bool × List (List Nat × List Nat) := (true, [([], []), ([0], [0]), ([], []), ([], []), ([2, 3], [2, 3]), ([4], [4]), ([1, 5], [1, 5]), ([6], [6])])
def r37_near.B2 : List Nat := [0, 1, 0, 0, 12, 28, 63, 127]
def r37_near.T3 : Bool × List (List Nat × List Nat) := (true, [([], []), ([0], [0]), ([], []), ([], []), ([2, 3], [2, 3]), ([4], [4]), ([1, 5], [1, 5]), ([6, 6, 0, 1, 2, 3, 4, 5, 6], [6])])
def r37_near.B3 : List Nat := [0, 1, 0, 0, 12, 28, 63, 127]
attribute [local go_sem] max2_int min2_int max_two min_two max_three min_three max_four min_four
set_option linter.unusedVariables false
set_option linter.unusedSimpArgs false
def r37_final.f (k : Nat) (l0_0 : List (S43)) (l0_1 : List (S43)) (l0_2 : List (S43)) (l0_3 : List (S43)) (l0_4 : List (S33)) (l0_5 : List (S33)) (l1 : List Int) (a2 : Int) : Option (Bool) := (r37_near.f k l0_0 l0_1 l0_2 l0_3 l0_4 l0_5 l1 (wrap64 (a2 - 1)) (-1)).bind fun t286 => (if t286 = true then ((r37_near.f k l0_0 l0_1 l0_2 l0_3 l0_4 l0_5 l1 (wrap64 (a2 + 1)) 1).bind fun t287 => (some (!t287))) else (some false))
def r37_Final.f (k : Nat) (l0_0 : List (S43)) (l0_1 : List (S43)) (l0_2 : List (S43)) (l0_3 : List (S43)) (l0_4 : List (S33)) (l0_5 : List (S33)) (l1 : List Int) (a2 : Int) : Option (Bool) := if a2 ≥ 0 then (if a2 < (l1.length : Int) then ((r37_Data.f k l0_0 l0_1 l0_2 l0_3 l0_4 l0_5).bind fun bt289 => ((r37_final.f k bt289.1 bt289.2.1 bt289.2.2.1 bt289.2.2.2.1 bt289.2.2.2.2.1 bt289.2.2.2.2.2 l1 a2).bind fun t307 => (some t307))) else (some false)) else (some false)
attribute [local go_sem] max2_int min2_int max_two min_two max_three min_three max_four min_four
set_option linter.unusedVariables false
set_option linter.unusedSimpArgs false
def r11_find.l0 : Nat → List (S43) → Int → ByteArray → Int → Option (List Int × Bool)
 | 0, _, _, _, _ => none
 | k + 1, x0, x1, x2, x8 => if x8 < (x0.length : Int) then (if 0 ≤ x8 then (if ((rd_T43 x0 x8).f0) = x1 then (if ((rd_T43 x0 x8).f2).toList = x2.toList then ((some (([] : List Int) : List Int)).bind fun y316 => (if y316.length + ((rd_T43 x0 x8).f1).length < 17592186044416 then (some ((y316 ++ ((rd_T43 x0 x8).f1)), true)) else (none))) else (r11_find.l0 k x0 x1 x2 (wrap64 (x8 + 1)))) else (r11_find.l0 k x0 x1 x2 (wrap64 (x8 + 1)))) else (none)) else (some (([] : List Int), false))
def r11_find.f (k : Nat) (l0 : List (S43)) (a1 : Int) (a2 : ByteArray) : Option (List Int × Bool) := r11_find.l0 k l0 a1 a2 0
def r11_Get.f (k : Nat) (l0 : List (S43)) (a1 : Int) (a2 : ByteArray) : Option (List Int × Bool) := (r11_valid.f k l0).bind fun t323 => ((r11_find.f k t323 a1 a2).bind fun bt326 => (some (bt326.1, bt326.2)))
def r37_mapped.f (k : Nat) (l0 : List (S43)) (a1 : Int) : Option (List Int) := (r11_Get.f k l0 a1 (⟨#[]⟩ : ByteArray)).bind fun bt330 => (if bt330.2 = true then (some bt330.1) else (some (([a1] : List Int))))
attribute [local go_sem] max2_int min2_int max_two min_two max_three min_three max_four min_four
set_option linter.unusedVariables false
set_option linter.unusedSimpArgs false
def r37_lower.f (k : Nat) (l0_0 : List (S43)) (l0_1 : List (S43)) (l0_2 : List (S43)) (l0_3 : List (S43)) (l0_4 : List (S33)) (l0_5 : List (S33)) (l1 : List Int) (a2 : Int) : Option (List Int) := if 0 ≤ a2 then (if a2 < (l1.length : Int) then ((r11_Get.f k l0_0 (rd l1 a2) (⟨#[102, 105, 110, 97, 108]⟩ : ByteArray)).bind fun bt339 => (if bt339.2 = true then ((r37_final.f k l0_0 l0_1 l0_2 l0_3 l0_4 l0_5 l1 a2).bind fun t343 => (if t343 = true then (some bt339.1) else ((r37_mapped.f k l0_0 (rd l1 a2)).bind fun t345 => (some t345)))) else ((r37_mapped.f k l0_0 (rd l1 a2)).bind fun t349 => (some t349)))) else (none)) else (none)
def r37_lower.T1 : Bool × List (List Nat × List Nat) := (true, [([], []), ([0], [0]), ([], []), ([], []), ([2, 3], [2, 3]), ([4], [4]), ([1, 5], [1, 5]), ([6], [6]), ([7], [7]), ([7], [7]), ([8, 6, 0, 1, 2, 3, 4, 5, 6, 7, 8], [8]), ([9, 10, 0, 1, 2, 3, 4, 5, 6, 7, 8, 9, 10], [9])])
def r37_lower.B1 : List Nat := [0, 1, 0, 0, 12, 28, 63, 127, 255, 255, 511, 2047]
def r37_lower.T4 : Bool × List (List Nat × List Nat) := (true, [([], []), ([0], [0]), ([], []), ([], []), ([2, 3], [2, 3]), ([4], [4]), ([1, 5], [1, 5]), ([6, 6, 0, 1, 2, 3, 4, 5, 6], [6])])
def r37_lower.B4 : List Nat := [0, 1, 0, 0, 12, 28, 63, 127]
attribute [local go_sem] max2_int min2_int max_two min_two max_three min_three max_four min_four
set_option linter.unusedVariables false
set_option linter.unusedSimpArgs false
def r37_Lower.l0 : Nat → List Int → List Int → Int → List (S43) → List (S43) → List (S43) → List (S43) → List (S33) → List (S33) → Option (List Int)
 | 0, _, _, _, _, _, _, _, _, _ => none
 | k + 1, x1, x6, x7, x372000, x372001, x372002, x372003, x372004, x372005 => if x7 < (x1.length : Int) then ((r37_lower.f k x372000 x372001 x372002 x372003 x372004 x372005 x1 x7).bind fun t372 => (if x6.length + t372.length < 17592186044416 then (r37_Lower.l0 k x1 (x6 ++ t372) (wrap64 (x7 + 1)) x372000 x372001 x372002 x372003 x372004 x372005) else (none))) else (some x6)
def r37_Lower.f (k : Nat) (l0_0 : List (S43)) (l0_1 : List (S43)) (l0_2 : List (S43)) (l0_3 : List (S43)) (l0_4 : List (S33)) (l0_5 : List (S33)) (l1 : List Int) : Option (List Int) := (r37_Data.f k l0_0 l0_1 l0_2 l0_3 l0_4 l0_5).bind fun bt353 => (r37_Lower.l0 k l1 ([] : List Int) 0 bt353.1 bt353.2.1 bt353.2.2.1 bt353.2.2.2.1 bt353.2.2.2.2.1 bt353.2.2.2.2.2)
attribute [local go_sem] max2_int min2_int max_two min_two max_three min_three max_four min_four
set_option linter.unusedVariables false
set_option linter.unusedSimpArgs false
def r37_Upper.l0 : Nat → List Int → List Int → Int → List (S43) → List (S43) → List (S43) → List (S43) → List (S33) → List (S33) → Option (List Int)
 | 0, _, _, _, _, _, _, _, _, _ => none
 | k + 1, x1, x6, x7, x398000, x398001, x398002, x398003, x398004, x398005 => if x7 < (x1.length : Int) then (if 0 ≤ x7 then ((r37_mapped.f k x398001 (rd x1 x7)).bind fun t399 => (if x6.length + t399.length < 17592186044416 then (r37_Upper.l0 k x1 (x6 ++ t399) (wrap64 (x7 + 1)) x398000 x398001 x398002 x398003 x398004 x398005) else (none))) else (none)) else (some x6)
def r37_Upper.f (k : Nat) (l0_0 : List (S43)) (l0_1 : List (S43)) (l0_2 : List (S43)) (l0_3 : List (S43)) (l0_4 : List (S33)) (l0_5 : List (S33)) (l1 : List Int) : Option (List Int) := (r37_Data.f k l0_0 l0_1 l0_2 l0_3 l0_4 l0_5).bind fun bt379 => (r37_Upper.l0 k l1 ([] : List Int) 0 bt379.1 bt379.2.1 bt379.2.2.1 bt379.2.2.2.1 bt379.2.2.2.2.1 bt379.2.2.2.2.2)
def r37_Upper.T6 : Bool × List (List Nat × List Nat) := (true, [([], []), ([], []), ([1], [1]), ([], []), ([], []), ([3, 4], [3, 4]), ([5], [5]), ([2, 6], [2, 6]), ([0, 7, 7], [0, 7]), ([8, 8, 0, 1, 2, 3, 4, 5, 6, 7, 8], [0, 8])])
def r37_Upper.B6 : List Nat := [0, 0, 2, 0, 0, 24, 56, 126, 255, 511]
attribute [local go_sem] max2_int min2_int max_two min_two max_three min_three max_four min_four
set_option linter.unusedVariables false
set_option linter.unusedSimpArgs false
def r37_only.f (l0 : List Int) (a1 : Int) : Option (Int) := if (l0.length : Int) = 1 then (if 0 < (l0.length : Int) then (some (rd l0 0)) else (none)) else (some a1)
attribute [local go_sem] max2_int min2_int max_two min_two max_three min_three max_four min_four
set_option linter.unusedVariables false
set_option linter.unusedSimpArgs false
def r37_Simple.f (k : Nat) (l0_0 : List (S43)) (l0_1 : List (S43)) (l0_2 : List (S43)) (l0_3 : List (S43)) (l0_4 : List (S33)) (l0_5 : List (S33)) (a1 : Int) : Option (Int × Int × Int) := (r37_Data.f k l0_0 l0_1 l0_2 l0_3 l0_4 l0_5).bind fun bt480 => ((r37_mapped.f k bt480.1 a1).bind fun t499 => ((r37_only.f t499 a1).bind fun t502 => ((r37_mapped.f k bt480.2.1 a1).bind fun t503 => ((r37_only.f t503 a1).bind fun t506 => ((r37_mapped.f k bt480.2.2.1 a1).bind fun t507 => ((r37_only.f t507 a1).bind fun t510 => (some (t502, t506, t510))))))))
def r37_Simple.T2 : Bool × List (List Nat × List Nat) := (true, [([], []), ([0], [0]), ([], []), ([1, 2], [1, 2]), ([], []), ([3, 4, 3], [3, 4]), ([], []), ([6], [6]), ([], []), ([7, 8, 5], [7, 8]), ([], []), ([9, 10, 9], [9, 10]), ([], []), ([12], [12]), ([], []), ([13, 14, 11], [13, 14]), ([], []), ([15, 16, 15], [15, 16]), ([5, 17, 0, 1, 2, 3, 4, 5], [5]), ([11, 18, 0, 1, 2, 3, 4, 5, 6, 7, 8, 9, 10, 11, 18], [11]), ([17, 19, 0, 1, 2, 3, 4, 5, 6, 7, 8, 9, 10, 11, 12, 13, 14, 15, 16, 17, 18, 19], [17])])
def r37_Simple.B2 : List Nat := [0, 1, 0, 7, 0, 31, 0, 64, 0, 511, 0, 2047, 0, 4096, 0, 32767, 0, 131071, 262143, 524287, 1048575]
attribute [local go_sem] max2_int min2_int max_two min_two max_three min_three max_four min_four
set_option linter.unusedVariables false
set_option linter.unusedSimpArgs false
def r37_titled.l0 : Nat → List Int → List Int → Bool → Int → List (S43) → List (S43) → List (S43) → List (S43) → List (S33) → List (S33) → Int → Int → Option (List Int)
 | 0, _, _, _, _, _, _, _, _, _, _, _, _ => none
 | k + 1, x1, x7, x8, x9, x540000, x540001, x540002, x540003, x540004, x540005, x541000, x541001 => if x9 < x541001 then (if x8 = true then ((r37_lower.f k x540000 x540001 x540002 x540003 x540004 x540005 x1 x9).bind fun t541 => (if x7.length + t541.length < 17592186044416 then (r37_titled.l0 k x1 (x7 ++ t541) x8 (wrap64 (x9 + 1)) x540000 x540001 x540002 x540003 x540004 x540005 x541000 x541001) else (none))) else (if 0 ≤ x9 then (if x9 < (x1.length : Int) then ((r02_Has.f k x540004 (rd x1 x9)).bind fun t548 => (if t548 = true then ((r37_mapped.f k x540002 (rd x1 x9)).bind fun t550 => (if x7.length + t550.length < 17592186044416 then (r37_titled.l0 k x1 (x7 ++ t550) true (wrap64 (x9 + 1)) x540000 x540001 x540002 x540003 x540004 x540005 x541000 x541001) else (none))) else (if x7.length < 17592186044416 then (r37_titled.l0 k x1 (x7 ++ [rd x1 x9]) x8 (wrap64 (x9 + 1)) x540000 x540001 x540002 x540003 x540004 x540005 x541000 x541001) else (none)))) else (none)) else (none))) else (some x7)
def r37_titled.f (k : Nat) (l0_0 : List (S43)) (l0_1 : List (S43)) (l0_2 : List (S43)) (l0_3 : List (S43)) (l0_4 : List (S33)) (l0_5 : List (S33)) (l1 : List Int) (a2_0 : Int) (a2_1 : Int) : Option (List Int) := r37_titled.l0 k l1 ([] : List Int) false a2_0 l0_0 l0_1 l0_2 l0_3 l0_4 l0_5 a2_0 a2_1
def r37_titled.T9 : Bool × List (List Nat × List Nat) := (true, [([], []), ([0], [0]), ([], []), ([], []), ([2, 3], [2, 3]), ([4], [4]), ([1, 5], [1, 5]), ([6, 6], [6])])
def r37_titled.B9 : List Nat := [0, 1, 0, 0, 12, 28, 63, 127]
def r37_titled.T10 : Bool × List (List Nat × List Nat) := (true, [([], []), ([], []), ([1], [1]), ([], []), ([], []), ([3, 4], [3, 4]), ([5], [5]), ([2, 6], [2, 6]), ([0, 7, 7], [0, 7]), ([8, 8, 0, 1, 2, 3, 4, 5, 6, 7, 8], [0, 8])])
def r37_titled.B10 : List Nat := [0, 0, 2, 0, 0, 24, 56, 126, 255, 511]
attribute [local go_sem] max2_int min2_int max_two min_two max_three min_three max_four min_four
set_option linter.unusedVariables false
set_option linter.unusedSimpArgs false
def r37_Title.l0 : Nat → List Int → List (S33) → List Int → Int → Int → List (S43) → List (S43) → List (S43) → List (S43) → List (S33) → List (S33) → Option (List Int)
 | 0, _, _, _, _, _, _, _, _, _, _, _ => none
 | k + 1, x1, x2, x8, x9, x10, x580000, x580001, x580002, x580003, x580004, x580005 => if x10 < (x2.length : Int) then (if 0 ≤ x10 then (if 0 ≤ x9 then (if x9 ≤ ((rd_T33 x2 x10).f0) then (if ((rd_T33 x2 x10).f0) ≤ (x1.length : Int) then (if x8.length + ((x1.take (((rd_T33 x2 x10).f0) : Int).toNat).drop (x9 : Int).toNat).length < 17592186044416 then ((some (x8 ++ ((x1.take (((rd_T33 x2 x10).f0) : Int).toNat).drop (x9 : Int).toNat) : List Int)).bind fun y589 => ((r37_titled.f k x580000 x580001 x580002 x580003 x580004 x580005 x1 ((rd_T33 x2 x10).f0) ((rd_T33 x2 x10).f1)).bind fun t593 => (if y589.length + t593.length < 17592186044416 then (r37_Title.l0 k x1 x2 (y589 ++ t593) ((rd_T33 x2 x10).f1) (wrap64 (x10 + 1)) x580000 x580001 x580002 x580003 x580004 x580005) else (none)))) else (none)) else (none)) else (none)) else (none)) else (none)) else (if 0 ≤ x9 then (if x9 ≤ (x1.length : Int) then (if x8.length + (x1.drop (x9 : Int).toNat).length < 17592186044416 then (some (x8 ++ (x1.drop (x9 : Int).toNat))) else (none)) else (none)) else (none))
def r37_Title.f (k : Nat) (l0_0 : List (S43)) (l0_1 : List (S43)) (l0_2 : List (S43)) (l0_3 : List (S43)) (l0_4 : List (S33)) (l0_5 : List (S33)) (l1 : List Int) (l2 : List (S33)) : Option (List Int) := (r37_Data.f k l0_0 l0_1 l0_2 l0_3 l0_4 l0_5).bind fun bt561 => ((r37_Within.f k l2 (l1.length : Int)).bind fun t580 => (if t580 = true then (r37_Title.l0 k l1 l2 ([] : List Int) 0 0 bt561.1 bt561.2.1 bt561.2.2.1 bt561.2.2.2.1 bt561.2.2.2.2.1 bt561.2.2.2.2.2) else ((some (([] : List Int) : List Int)).bind fun y581 => (if y581.length + l1.length < 17592186044416 then (some (y581 ++ l1)) else (none)))))
def r37_Title.T10 : Bool × List (List Nat × List Nat) := (true, [([], []), ([], []), ([], []), ([], []), ([], []), ([3, 4], [3, 4]), ([5], [5]), ([1, 2, 6], [1, 2, 6]), ([0, 7, 7], [0, 7]), ([8, 8, 0, 1, 2, 3, 4, 5, 6, 7, 8], [0, 8])])
def r37_Title.B10 : List Nat := [0, 0, 0, 0, 0, 24, 56, 126, 255, 511]
end Go.Proofs.Ythnkmcfhpjmihaa.Q
end
section
namespace Go.Proofs.Ythnkmcfhpjmihaa.Q
open Go.RowKit Go.Proofs.YthnkmcfhpjmihaaW.PrintWords Go.Proofs.YthnkmcfhpjmihaaW.PrintLast Go.Proofs.YthnkmcfhpjmihaaW.PrintMore
set_option linter.unusedVariables false
theorem plTag_go (i0 : Bool) (tg : ByteArray) (ht : tg = if i0 then tagF else tagE) : ∀ (rest pre : List Mp) (k : Nat), (pre ++ rest).length < 1000000 → rest.length + 1 ≤ k →
  r37_tagged.l0 k (pre ++ rest) tg (pre.length : Int) = some (rest.any (badTag i0))
 | [], pre, k, h1, h2 => by
  obtain ⟨k, rfl⟩ : ∃ j, k = j + 1 := ⟨k - 1, by omega⟩
  rw [r37_tagged.l0, if_neg (by simp)]
  rfl
 | x :: rest, pre, k, h1, h2 => by
  obtain ⟨k, rfl⟩ : ∃ j, k = j + 1 := ⟨k - 1, by omega⟩
  have hp : pre.length < 1000000000 := by simp at h1; omega
  have ih := plTag_go i0 tg ht rest (pre ++ [x]) k (by simpa using h1) (by simp at h2; omega)
  have ex : (pre ++ [x]) ++ rest = pre ++ x :: rest := by simp
  have el : ((pre ++ [x]).length : Int) = ((pre.length + 1 : Nat) : Int) := by simp
  rw [ex, el] at ih
  rw [r37_tagged.l0, if_pos (by simp; omega), if_pos (by omega), rdM_mid, wrap_suc hp, ih, List.any_cons]
  unfold badTag
  by_cases hz : x.f2.size = 0
  ·rw [if_pos ((bytesEq_nil _).2 hz), decide_eq_false (by simpa using hz)]
   rfl
  ·rw [if_neg (fun hh => hz ((bytesEq_nil _).1 hh)), dT hz]
   subst ht
   cases i0 with
   | true =>
    show (if x.f2.toList = tagF.toList then _ else _) = _
    by_cases hf : x.f2 = tagF
    ·rw [if_pos (by rw [hf]), decide_eq_false (by simpa using hf)]
     rfl
    ·rw [if_neg (fun hh => hf ((bytesEq_iff _ _).1 hh)), dT hf]
     rfl
   | false =>
    show (if x.f2.toList = tagE.toList then _ else _) = _
    rw [if_neg (fun hh => hz (by rw [(bytesEq_iff _ _).1 hh]; rfl))]
    rfl
theorem plTag_ok (i0 : Bool) (l : List Mp) (k : Nat) (h : plFewM l) (hk : 50 ≤ k) : r37_tagged.f k l (if i0 then tagF else tagE) = some (l.any (badTag i0)) :=
 plTag_go i0 _ rfl l [] k (by have := h.1; simp; omega) (by have := h.1; omega)
theorem plSame_go : ∀ (xs ys px py : List Rg) (k : Nat), px.length = py.length → xs.length = ys.length → (px ++ xs).length < 1000000000 → xs.length + 1 ≤ k →
  r02_Same.l0 k (px.length : Int) (px ++ xs) (py ++ ys) = some (decide (xs.map toP = ys.map toP))
 | [], [], px, py, k, h1, h2, h3, h4 => by
  obtain ⟨k, rfl⟩ : ∃ j, k = j + 1 := ⟨k - 1, by omega⟩
  rw [r02_Same.l0, if_neg (by simp)]
  rfl
 | x :: xs, y :: ys, px, py, k, h1, h2, h3, h4 => by
  obtain ⟨k, rfl⟩ : ∃ j, k = j + 1 := ⟨k - 1, by omega⟩
  have hp : px.length < 1000000000 := by simp at h3; omega
  have ih := plSame_go xs ys (px ++ [x]) (py ++ [y]) k (by simp [h1]) (by simpa using h2) (by simpa using h3) (by simp at h4; omega)
  have ex : (px ++ [x]) ++ xs = px ++ x :: xs := by simp
  have ey : (py ++ [y]) ++ ys = py ++ y :: ys := by simp
  have el : ((px ++ [x]).length : Int) = ((px.length + 1 : Nat) : Int) := by simp
  rw [ex, ey, el] at ih
  have e1 : rd_T33 (py ++ y :: ys) (px.length : Int) = y := by rw [h1]; exact rdG_mid _ _ _
  rw [r02_Same.l0, if_pos (by simp; omega), if_pos (by omega), if_pos (by simp at h2 ⊢; omega), rdG_mid, e1, wrap_suc hp]
  rw [ih]
  by_cases ha : x.f0 = y.f0
  ·by_cases hb : x.f1 = y.f1
   ·rw [if_neg (by simp [ha, hb])]
    simp [toP, ha, hb]
   ·rw [if_pos (by simp [hb])]
    simp [toP, hb]
  ·rw [if_pos (by simp [ha])]
   simp [toP, ha]
 | [], _ :: _, _, _, _, _, h2, _, _ => by simp at h2
 | _ :: _, [], _, _, _, _, h2, _, _ => by simp at h2
theorem plComb_make (l : List Rg) : combS l [] 1 = CpM.make (l.map toP) := by
 rw [← CpM.rmake_eq]
 unfold combS CpM.rmake cutsAB
 congr 1
 funext c
 unfold keepAB keepsB CpM.hasB
 simp
theorem plValid_ok (s : List Rg) (k : Nat) (h : s.length ≤ 1000) (hk : s.length + 1 ≤ k) : r02_Valid.f k s = some (validL s) := by
 have hm : r02_Make.f s = some (mkRS s) := by
  unfold r02_Make.f r02_combine.f
  rw [if_pos (by simp; omega), plComb_make]
  rfl
 unfold r02_Valid.f
 rw [hm]
 show (r02_Same.f k s (mkRS s)).bind _ = _
 unfold r02_Same.f validL
 have e : (mkRS s).map toP = CpM.make (s.map toP) := toP_ofP _
 by_cases hl : s.length = (mkRS s).length
 ·rw [if_pos (by omega)]
  have := plSame_go s (mkRS s) [] [] k rfl hl (by simp; omega) hk
  rw [List.nil_append, List.nil_append, e] at this
  rw [show ((0 : Int)) = (([] : List Rg).length : Int) from rfl, this]
  rfl
 ·rw [if_neg (by omega), decide_eq_false]
  ·rfl
  ·intro hh
   rw [← e] at hh
   exact hl (by simpa using congrArg List.length hh)
theorem plCheckJ (c : CaseS) (b : Bool) (k : Nat) (h : plFewC c) (hk : 50 ≤ k) : r37_Check.j1 (k + 1) b c.lo c.up c.ti c.fo c.ca c.ig = some (if b then 6 else if validL c.ca && validL c.ig then 0 else 11) := by
 obtain ⟨h0, h1, h2, h3, h4, h5⟩ := h
 rw [r37_Check.j1]
 cases b with
 | true => rfl
 | false =>
  rw [if_neg (by decide), plValid_ok c.ca k (by omega) (by omega), plValid_ok c.ig k (by omega) (by omega)]
  simp only [Option.bind_some]
  cases validL c.ca <;> cases validL c.ig <;> rfl
theorem plCheckE (c : CaseS) (L : List (List Mp)) (hL : L.length = 4) (k : Nat) (h : plFewC c) (hk : 60 ≤ k) : r37_Check.l0 (k + 2) L 4 c.lo c.up c.ti c.fo c.ca c.ig = some (if badsS c then 6 else if validL c.ca && validL c.ig then 0 else 11) := by
 have e0 := plTag_ok true c.lo (k + 1) h.1 (by omega)
 have e1 := plTag_ok false c.up (k + 1) h.2.1 (by omega)
 have e2 := plTag_ok false c.ti (k + 1) h.2.2.1 (by omega)
 have e3 := plTag_ok false c.fo (k + 1) h.2.2.2.1 (by omega)
 have hj := fun b => plCheckJ c b k h (by omega)
 rw [r37_Check.l0, if_neg (by omega)]
 show (r37_tagged.f (k + 1) c.lo (if true = true then tagF else tagE)).bind (fun t285 => if t285 = true then _ else (r37_tagged.f (k + 1) c.up (if false = true then tagF else tagE)).bind fun t286 => if t286 = true then _ else (r37_tagged.f (k + 1) c.ti (if false = true then tagF else tagE)).bind fun t287 => if t287 = true then _ else (r37_tagged.f (k + 1) c.fo (if false = true then tagF else tagE)).bind _) = _
 rw [e0, e1, e2, e3]
 simp only [Option.bind_some, hj]
 unfold badsS
 cases c.lo.any (badTag true) <;> cases c.up.any (badTag false) <;> cases c.ti.any (badTag false) <;> cases c.fo.any (badTag false) <;> rfl
theorem plCheckS (c : CaseS) (L : List (List Mp)) (x : List Mp) (i : Nat) (hx : rd_L5 L (i : Int) = x) (hL : L.length = 4) (hi : i < 4) (k : Nat) (h : plFewM x) (hk : 900 ≤ k) :
  r37_Check.l0 (k + 1) L (i : Int) c.lo c.up c.ti c.fo c.ca c.ig = if checkM x = 0 then r37_Check.l0 k L ((i + 1 : Nat) : Int) c.lo c.up c.ti c.fo c.ca c.ig else some (checkM x) := by
 rw [r37_Check.l0, if_pos (by omega), if_pos (by omega), hx, plCheckM_ok x k h hk, wrap_suc (by omega : i < 1000000000)]
 rfl
theorem plCheck_ok (c : CaseS) (k : Nat) (h : plFewC c) (hk : 1000 ≤ k) : r37_Check.f k c.lo c.up c.ti c.fo c.ca c.ig = some (caseChk c) := by
 obtain ⟨k, rfl⟩ : ∃ j, k = j + 6 := ⟨k - 6, by omega⟩
 unfold r37_Check.f caseChk
 have s0 := plCheckS c [c.lo, c.up, c.ti, c.fo] c.lo 0 rfl rfl (by omega) (k + 5) h.1 (by omega)
 have s1 := plCheckS c [c.lo, c.up, c.ti, c.fo] c.up 1 rfl rfl (by omega) (k + 4) h.2.1 (by omega)
 have s2 := plCheckS c [c.lo, c.up, c.ti, c.fo] c.ti 2 rfl rfl (by omega) (k + 3) h.2.2.1 (by omega)
 have s3 := plCheckS c [c.lo, c.up, c.ti, c.fo] c.fo 3 rfl rfl (by omega) (k + 2) h.2.2.2.1 (by omega)
 have s4 := plCheckE c [c.lo, c.up, c.ti, c.fo] rfl k h (by omega)
 refine Eq.trans s0 ?_
 unfold firstE
 by_cases c0 : checkM c.lo = 0
 ·rw [if_pos c0, if_pos c0]
  refine Eq.trans s1 ?_
  unfold firstE
  by_cases c1 : checkM c.up = 0
  ·rw [if_pos c1, if_pos c1]
   refine Eq.trans s2 ?_
   unfold firstE
   by_cases c2 : checkM c.ti = 0
   ·rw [if_pos c2, if_pos c2]
    refine Eq.trans s3 ?_
    unfold firstE
    by_cases c3 : checkM c.fo = 0
    ·rw [if_pos c3, if_pos c3]
     refine Eq.trans s4 ?_
     unfold firstE
     rw [if_pos rfl]
    ·rw [if_neg c3, if_neg c3, if_neg c3]
   ·rw [if_neg c2, if_neg c2, if_neg c2]
  ·rw [if_neg c1, if_neg c1, if_neg c1]
 ·rw [if_neg c0, if_neg c0, if_neg c0]
def optP (o : Option (List Int)) : List Int × Bool := match o with | some x => (x, true) | none => ([], false)
theorem LowerS_len {c : CaseS} (h : okC c = true) (text : List Int) : (LowerS c text).length ≤ 100000 * text.length := lowerA_len (caseData_ok h).1 text _
theorem UpperS_len {c : CaseS} (h : okC c = true) (text : List Int) : (UpperS c text).length ≤ 100000 * text.length := upperA_len (caseData_ok h).2.1 text _
@[irreducible] def plW (d : Nat) : Int := 100000 * (d : Int)
@[irreducible] def plV (d : Nat) : Int := 5000000 * (d : Int)
end Go.Proofs.Ythnkmcfhpjmihaa.Q
end
section
namespace Go.Proofs.Ythnkmcfhpjmihaa.Q
open Go.RowKit Go.Proofs.YthnkmcfhpjmihaaW.PrintWords Go.Proofs.YthnkmcfhpjmihaaW.PrintLast Go.Proofs.YthnkmcfhpjmihaaW.PrintMore
attribute [local go_sem] max2_int min2_int max_two min_two max_three min_three max_four min_four
set_option linter.unusedVariables false
set_option linter.unusedSimpArgs false
mutual
def r01_Compare.l0 : Nat → List Int → List Int → Int → Option (Int)
 | 0, _, _, _ => none
 | k + 1, x0, x1, x5 => if x5 < (x0.length : Int) then (r01_Compare.j1 k x0 x1 x5 (decide (x5 < (x1.length : Int)))) else (r01_Compare.j1 k x0 x1 x5 false)
def r01_Compare.j1 : Nat → List Int → List Int → Int → Bool → Option (Int)
 | 0, _, _, _, _ => none
 | k + 1, x0, x1, x5, x15 => if x15 = true then (if 0 ≤ x5 then (if x5 < (x0.length : Int) then (if x5 < (x1.length : Int) then (if (rd x0 x5) < (rd x1 x5) then (some (-1)) else (if (rd x0 x5) > (rd x1 x5) then (some 1) else (r01_Compare.l0 k x0 x1 (wrap64 (x5 + 1))))) else (none)) else (none)) else (none)) else (if (x0.length : Int) < (x1.length : Int) then (some (-1)) else (if (x0.length : Int) > (x1.length : Int) then (some 1) else (some 0)))
end
def r01_Compare.f (k : Nat) (l0 : List Int) (l1 : List Int) : Option (Int) := r01_Compare.l0 k l0 l1 0
set_option maxHeartbeats 8000000 in
set_option maxRecDepth 100000 in
theorem r01_Compare.calls (k : Nat) (A0 : Option Addr) (c0 : Nat) (l0 : List Int) (A1 : Option Addr) (c1 : Nat) (l1 : List Int) (r : Int) (w : World) (hr0 : Kd.C (Kd.int .i64) w A0 l0.length l0) (hc0 : l0.length ≤ c0) (hr1 : Kd.C (Kd.int .i64) w A1 l1.length l1) (hc1 : l1.length ≤ c1) (h : r01_Compare.f k l0 l1 = some r) :
  Calls Try.prog 35 #[.slice A0 l0.length c0, .slice A1 l1.length c1] w fun e w' => e = .returned (.int .i64 r) ∧ Drawn0 w w' := by
 have HR0 := aM hr0
 have HC0 := aM hc0
 clear hr0 hc0
 have HR1 := aM hr1
 have HC1 := aM hc1
 clear hr1 hc1
 have H : (r01_Compare.l0 k l0 l1 0) = some r := h
 clear h
 have H' := aM H
 clear H
 go_enter Try.func35, Try.ntmps35
 go_wp2
 repeat (go_quiet (fail); try go_wp2)
 go_loopg [5] k (fun kq v5 w' => ∃ (x5_1 : Int), v5 = .int .i64 x5_1 ∧ Aside0 (r01_Compare.l0 kq l0 l1 x5_1 = some r) ∧ Aside0 (kq ≤ k) ∧ Drawn0 w w')
 case atStart => exact ⟨(0), (by first | rfl | (simp; done) | (simp [*]; done)), H', ⟨Nat.le_refl _⟩, by repeat (first | exact Drawn0.refl _ | apply Drawn0.step)⟩
 case round =>
  clear H'
  try clear c1
  try clear p2
  obtain ⟨x5_1, rfl, HA, HK1, ⟨m1, rfl⟩⟩ := hrel
  cases gk with
  | zero => exact absurd HA.out (by simp [r01_Compare.l0])
  | succ k1 =>
   have H := HA.out
   clear HA
   simp only [r01_Compare.l0] at H
   have HC3 := aM H
   clear H
   go_upto_region 2 with (fail)
   repeat (go_quiet (fail); go_upto_region 2 with (fail))
   go_cut [15] (fun v15 wc => ∃ (kq : Nat) (x15_2 : Bool), v15 = .bool x15_2 ∧ Aside0 (r01_Compare.j1 kq l0 l1 x5_1 x15_2 = some r) ∧ Aside0 (kq ≤ k1) ∧ Drawn0 w wc)
   case first =>
    have H := HC3.out
    clear HC3
    by_cases c4 : x5_1 < (l0.length : Int)
    ·rw [if_pos c4] at H
     have c4b0 : decide (x5_1 < (l0.length : Int)) = true := dT c4
     clear c4
     (first | rw [c4b0] | (simp only [i64_w, i32_w]; rw [c4b0]) | skip)
     have H' := aM H
     clear H
     go_wp2
     repeat (go_quiet (fail); try go_wp2)
     go_meet
     case rel => exact ⟨_, (decide (x5_1 < (l1.length : Int))), (by first | rfl | (simp; done) | (simp [*]; done)), H', ⟨by have := HK1.out; first | omega | exact Nat.le_refl _⟩, by repeat (first | exact Drawn0.refl _ | apply Drawn0.step)⟩
    ·rw [if_neg c4] at H
     have c4b0 : decide (x5_1 < (l0.length : Int)) = false := decide_eq_false c4
     clear c4
     (first | rw [c4b0] | (simp only [i64_w, i32_w]; rw [c4b0]) | skip)
     have H' := aM H
     clear H
     go_wp2
     repeat (go_quiet (fail); try go_wp2)
     go_meet
     case rel => exact ⟨_, (false), (by first | rfl | (simp; done) | (simp [*]; done)), H', ⟨by have := HK1.out; first | omega | exact Nat.le_refl _⟩, by repeat (first | exact Drawn0.refl _ | apply Drawn0.step)⟩
   case rest =>
    clear HC3
    try clear c1
    try clear p2
    try clear c3
    try clear c4
    try clear c4b0
    try clear p2
    obtain ⟨kq, x15_2, rfl, HA, HJ2, ⟨mc2, rfl⟩⟩ := hcut
    cases kq with
    | zero => exact absurd HA.out (by simp [r01_Compare.j1])
    | succ kj2 =>
     have H := HA.out
     clear HA
     simp only [r01_Compare.j1] at H
     by_cases c5 : x15_2 = true
     ·subst c5
      have H1 : (if 0 ≤ x5_1 then (if x5_1 < (l0.length : Int) then (if x5_1 < (l1.length : Int) then (if (rd l0 x5_1) < (rd l1 x5_1) then (some (-1)) else (if (rd l0 x5_1) > (rd l1 x5_1) then (some 1) else (r01_Compare.l0 kj2 l0 l1 (wrap64 (x5_1 + 1))))) else (none)) else (none)) else (none)) = some r := by rw [if_pos rfl] at H; exact H
      clear H
      have H := H1
      clear H1
      by_cases c6 : 0 ≤ x5_1
      ·rw [if_pos c6] at H
       have c6b0 : decide (0 ≤ x5_1) = true := dT c6
       clear c6
       by_cases c7 : x5_1 < (l0.length : Int)
       ·rw [if_pos c7] at H
        have c7b0 : decide (x5_1 < (l0.length : Int)) = true := dT c7
        clear c7
        by_cases c8 : x5_1 < (l1.length : Int)
        ·rw [if_pos c8] at H
         have c8b0 : decide (x5_1 < (l1.length : Int)) = true := dT c8
         clear c8
         by_cases c9 : (rd l0 x5_1) < (rd l1 x5_1)
         ·rw [if_pos c9] at H
          have c9b0 : decide ((rd l0 x5_1) < (rd l1 x5_1)) = true := dT c9
          clear c9
          obtain rfl := Option.some.inj H
          have p118 : 0 ≤ (x5_1 : Int) := oD (by first | (with_reducible assumption) | assumption)
          have q118 : x5_1 < (l0.length : Int) := oD (by first | (with_reducible assumption) | assumption)
          obtain ⟨ad118, e118, hx118_0⟩ := Kd.at_int HR0.out x5_1 p118 q118
          cases e118
          replace p118 := eq_true p118
          replace q118 := eq_true q118
          have p119 : 0 ≤ (x5_1 : Int) := oD (by first | (with_reducible assumption) | assumption)
          have q119 : x5_1 < (l1.length : Int) := oD (by first | (with_reducible assumption) | assumption)
          obtain ⟨ad119, e119, hx119_0⟩ := Kd.at_int HR1.out x5_1 p119 q119
          cases e119
          replace p119 := eq_true p119
          replace q119 := eq_true q119
          go_wp2
          repeat (go_quiet (fail); try go_wp2)
          go_ret
          exact ⟨by first | rfl | (simp; done) | (simp [*]; done), by repeat (first | exact Drawn0.refl _ | apply Drawn0.step)⟩
         ·rw [if_neg c9] at H
          have c9b0 : decide ((rd l0 x5_1) < (rd l1 x5_1)) = false := decide_eq_false c9
          clear c9
          by_cases c10 : (rd l0 x5_1) > (rd l1 x5_1)
          ·rw [if_pos c10] at H
           have c10b0 : decide ((rd l1 x5_1) < (rd l0 x5_1)) = true := dT c10
           clear c10
           obtain rfl := Option.some.inj H
           have p118 : 0 ≤ (x5_1 : Int) := oD (by first | (with_reducible assumption) | assumption)
           have q118 : x5_1 < (l0.length : Int) := oD (by first | (with_reducible assumption) | assumption)
           obtain ⟨ad118, e118, hx118_0⟩ := Kd.at_int HR0.out x5_1 p118 q118
           cases e118
           replace p118 := eq_true p118
           replace q118 := eq_true q118
           have p119 : 0 ≤ (x5_1 : Int) := oD (by first | (with_reducible assumption) | assumption)
           have q119 : x5_1 < (l1.length : Int) := oD (by first | (with_reducible assumption) | assumption)
           obtain ⟨ad119, e119, hx119_0⟩ := Kd.at_int HR1.out x5_1 p119 q119
           cases e119
           replace p119 := eq_true p119
           replace q119 := eq_true q119
           have p120 : 0 ≤ (x5_1 : Int) := oD (by first | (with_reducible assumption) | assumption)
           have q120 : x5_1 < (l0.length : Int) := oD (by first | (with_reducible assumption) | assumption)
           obtain ⟨ad120, e120, hx120_0⟩ := Kd.at_int HR0.out x5_1 p120 q120
           obtain rfl : ad118 = ad120 := (by injection e120)
           replace p120 := eq_true p120
           replace q120 := eq_true q120
           have p121 : 0 ≤ (x5_1 : Int) := oD (by first | (with_reducible assumption) | assumption)
           have q121 : x5_1 < (l1.length : Int) := oD (by first | (with_reducible assumption) | assumption)
           obtain ⟨ad121, e121, hx121_0⟩ := Kd.at_int HR1.out x5_1 p121 q121
           obtain rfl : ad119 = ad121 := (by injection e121)
           replace p121 := eq_true p121
           replace q121 := eq_true q121
           go_wp2
           repeat (go_quiet (fail); try go_wp2)
           go_ret
           exact ⟨by first | rfl | (simp; done) | (simp [*]; done), by repeat (first | exact Drawn0.refl _ | apply Drawn0.step)⟩
          ·rw [if_neg c10] at H
           have c10b0 : decide ((rd l1 x5_1) < (rd l0 x5_1)) = false := decide_eq_false c10
           clear c10
           have H' := aM H
           clear H
           have p118 : 0 ≤ (x5_1 : Int) := oD (by first | (with_reducible assumption) | assumption)
           have q118 : x5_1 < (l0.length : Int) := oD (by first | (with_reducible assumption) | assumption)
           obtain ⟨ad118, e118, hx118_0⟩ := Kd.at_int HR0.out x5_1 p118 q118
           cases e118
           replace p118 := eq_true p118
           replace q118 := eq_true q118
           have p119 : 0 ≤ (x5_1 : Int) := oD (by first | (with_reducible assumption) | assumption)
           have q119 : x5_1 < (l1.length : Int) := oD (by first | (with_reducible assumption) | assumption)
           obtain ⟨ad119, e119, hx119_0⟩ := Kd.at_int HR1.out x5_1 p119 q119
           cases e119
           replace p119 := eq_true p119
           replace q119 := eq_true q119
           have p120 : 0 ≤ (x5_1 : Int) := oD (by first | (with_reducible assumption) | assumption)
           have q120 : x5_1 < (l0.length : Int) := oD (by first | (with_reducible assumption) | assumption)
           obtain ⟨ad120, e120, hx120_0⟩ := Kd.at_int HR0.out x5_1 p120 q120
           obtain rfl : ad118 = ad120 := (by injection e120)
           replace p120 := eq_true p120
           replace q120 := eq_true q120
           have p121 : 0 ≤ (x5_1 : Int) := oD (by first | (with_reducible assumption) | assumption)
           have q121 : x5_1 < (l1.length : Int) := oD (by first | (with_reducible assumption) | assumption)
           obtain ⟨ad121, e121, hx121_0⟩ := Kd.at_int HR1.out x5_1 p121 q121
           obtain rfl : ad119 = ad121 := (by injection e121)
           replace p121 := eq_true p121
           replace q121 := eq_true q121
           go_wp2
           repeat (go_quiet (fail); try go_wp2)
           go_roundg kj2
           case measure => have := HK1.out; have := HJ2.out; omega
           case rel => exact ⟨(wrap64 (x5_1 + 1)), (by first | rfl | (simp; done) | (simp [*]; done)), H', ⟨by have := HK1.out; have := HJ2.out; omega⟩, by repeat (first | exact Drawn0.refl _ | apply Drawn0.step)⟩
        ·rw [if_neg c8] at H
         exact absurd H (by simp)
       ·rw [if_neg c7] at H
        exact absurd H (by simp)
      ·rw [if_neg c6] at H
       exact absurd H (by simp)
     ·replace c5 := Bool.eq_false_iff.mpr c5
      subst c5
      have H1 : (if (l0.length : Int) < (l1.length : Int) then (some (-1)) else (if (l0.length : Int) > (l1.length : Int) then (some 1) else (some 0))) = some r := by rw [if_neg (show ¬ (false = true) by decide)] at H; exact H
      clear H
      have H := H1
      clear H1
      by_cases c11 : (l0.length : Int) < (l1.length : Int)
      ·rw [if_pos c11] at H
       have c11b0 : decide ((l0.length : Int) < (l1.length : Int)) = true := dT c11
       have c11b1 : decide (l0.length < l1.length) = true := dT (Int.ofNat_lt.mp c11)
       clear c11
       obtain rfl := Option.some.inj H
       go_wp2
       repeat (go_quiet (fail); try go_wp2)
       go_ret
       exact ⟨by first | rfl | (simp; done) | (simp [*]; done), by repeat (first | exact Drawn0.refl _ | apply Drawn0.step)⟩
      ·rw [if_neg c11] at H
       have c11b0 : decide ((l0.length : Int) < (l1.length : Int)) = false := decide_eq_false c11
       have c11b1 : decide (l0.length < l1.length) = false := decide_eq_false (fun h => c11 (Int.ofNat_lt.mpr h))
       clear c11
       by_cases c12 : (l0.length : Int) > (l1.length : Int)
       ·rw [if_pos c12] at H
        have c12b0 : decide ((l1.length : Int) < (l0.length : Int)) = true := dT c12
        have c12b1 : decide (l1.length < l0.length) = true := dT (Int.ofNat_lt.mp c12)
        clear c12
        obtain rfl := Option.some.inj H
        go_wp2
        repeat (go_quiet (fail); try go_wp2)
        go_ret
        exact ⟨by first | rfl | (simp; done) | (simp [*]; done), by repeat (first | exact Drawn0.refl _ | apply Drawn0.step)⟩
       ·rw [if_neg c12] at H
        have c12b0 : decide ((l1.length : Int) < (l0.length : Int)) = false := decide_eq_false c12
        have c12b1 : decide (l1.length < l0.length) = false := decide_eq_false (fun h => c12 (Int.ofNat_lt.mpr h))
        clear c12
        obtain rfl := Option.some.inj H
        go_wp2
        repeat (go_quiet (fail); try go_wp2)
        go_ret
        exact ⟨by first | rfl | (simp; done) | (simp [*]; done), by repeat (first | exact Drawn0.refl _ | apply Drawn0.step)⟩
def r01_Equal.f (k : Nat) (l0 : List Int) (l1 : List Int) : Option (Bool) := (r01_Compare.f k l0 l1).bind fun t122 => (some (t122 == 0))
set_option maxHeartbeats 8000000 in
set_option maxRecDepth 100000 in
theorem r01_Equal.calls (k : Nat) (A0 : Option Addr) (c0 : Nat) (l0 : List Int) (A1 : Option Addr) (c1 : Nat) (l1 : List Int) (r : Bool) (w : World) (hr0 : Kd.C (Kd.int .i64) w A0 l0.length l0) (hc0 : l0.length ≤ c0) (hr1 : Kd.C (Kd.int .i64) w A1 l1.length l1) (hc1 : l1.length ≤ c1) (h : r01_Equal.f k l0 l1 = some r) :
  Calls Try.prog 16 #[.slice A0 l0.length c0, .slice A1 l1.length c1] w fun e w' => e = .returned (.bool r) ∧ Drawn0 w w' := by
 have HR0 := aM hr0
 have HC0 := aM hc0
 clear hr0 hc0
 have HR1 := aM hr1
 have HC1 := aM hc1
 clear hr1 hc1
 have H : ((r01_Compare.f k l0 l1).bind fun t122 => (some (t122 == 0))) = some r := h
 clear h
 replace H := Option.bind_eq_some_iff.mp H
 obtain ⟨t122, A30, H⟩ := H
 replace H : (some (t122 == 0)) = some r := H
 have A3 := aM A30
 clear A30
 obtain rfl := Option.some.inj H
 go_enter Try.func16, Try.ntmps16
 go_wp2_with (first | ((with_reducible refine gate_callee (f := 35) rfl ?_); refine goesL_ (some 7) rfl rfl Try.func35 (by kernel_rfl) rfl #[.slice A0 l0.length c0, .slice A1 l1.length c1] rfl (by (try simp only [List.map_toArray, List.map_cons, List.map_nil]); first | done | rfl | (simp only [List.length_drop, List.length_take]; rfl)) ?_; (with_reducible refine (r01_Compare.calls k _ _ l0 _ _ l1 t122 _ ?side1 ?side2 ?side3 ?side4 A3.out).mono ?_); (case side1 => repeat (first | exact HR0.out | (with_reducible refine Kd.C_alloc ?_ _) | (with_reducible refine Kd.C_drewN ?_ _) | (with_reducible refine Kd.C_drew ?_))); (case side2 => exact HC0.out); (case side3 => repeat (first | exact HR1.out | (with_reducible refine Kd.C_alloc ?_ _) | (with_reducible refine Kd.C_drewN ?_ _) | (with_reducible refine Kd.C_drew ?_))); (case side4 => exact HC1.out); rintro e w' ⟨rfl, ⟨nd, rfl⟩⟩; refine ⟨_, rfl, ?_⟩))
 go_ret
 exact ⟨by first | rfl | (simp; done) | (simp [*]; done), by repeat (first | exact Drawn0.refl _ | apply Drawn0.step)⟩
end Go.Proofs.Ythnkmcfhpjmihaa.Q
end
