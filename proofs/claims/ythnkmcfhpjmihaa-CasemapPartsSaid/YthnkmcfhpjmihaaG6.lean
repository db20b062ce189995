/- Lemmas, printed and written for this claim: part 6. -/
import Derived.WalkKit
import Derived.Test.YthnkmcfhpjmihaaG2
import Derived.Test.YthnkmcfhpjmihaaG5
import Derived.Test.YthnkmcfhpjmihaaG3
import Derived.Test.YthnkmcfhpjmihaaG4
import Derived.WalkSpells
import Derived.IntWalk
import Derived.Deep.RegionHeld3
import Derived.Deep.RegionLaw
section
namespace Go.Proofs.Ythnkmcfhpjmihaa.Q
open Go.RowKit Go.Proofs.YthnkmcfhpjmihaaW.PrintWords Go.Proofs.YthnkmcfhpjmihaaW.PrintLast Go.Proofs.YthnkmcfhpjmihaaW.PrintMore
attribute [local go_sem] max2_int min2_int max_two min_two max_three min_three max_four min_four
set_option linter.unusedVariables false
set_option linter.unusedSimpArgs false
def w37_alive.f : Option Bool := some true
theorem plCmp_go : ∀ (xs ys px py : List Int) (k : Nat), px.length = py.length → (px ++ xs).length < 1000000000 → 2 * xs.length + 2 ≤ k →
  ∃ c, r01_Compare.l0 k (px ++ xs) (py ++ ys) (px.length : Int) = some c ∧ (c = 0 ↔ xs = ys)
 | [], [], px, py, k, h1, h2, h3 => by
  obtain ⟨k, rfl⟩ : ∃ j, k = j + 2 := ⟨k - 2, by omega⟩
  rw [r01_Compare.l0, if_neg (by simp), r01_Compare.j1, if_neg (by decide), if_neg (by simp [h1]), if_neg (by simp [h1])]
  exact ⟨0, rfl, by simp⟩
 | [], y :: ys, px, py, k, h1, h2, h3 => by
  obtain ⟨k, rfl⟩ : ∃ j, k = j + 2 := ⟨k - 2, by omega⟩
  rw [r01_Compare.l0, if_neg (by simp), r01_Compare.j1, if_neg (by decide), if_pos (by simp [h1]; omega)]
  exact ⟨-1, rfl, by simp⟩
 | x :: xs, [], px, py, k, h1, h2, h3 => by
  obtain ⟨k, rfl⟩ : ∃ j, k = j + 2 := ⟨k - 2, by omega⟩
  rw [r01_Compare.l0, if_pos (by simp; omega), decide_eq_false (by simp [h1]), r01_Compare.j1, if_neg (by decide), if_neg (by simp [h1]; omega), if_pos (by simp [h1]; omega)]
  exact ⟨1, rfl, by simp⟩
 | x :: xs, y :: ys, px, py, k, h1, h2, h3 => by
  obtain ⟨k, rfl⟩ : ∃ j, k = j + 2 := ⟨k - 2, by omega⟩
  have hp : px.length < 1000000000 := by simp at h2; omega
  obtain ⟨c, ih, hc⟩ := plCmp_go xs ys (px ++ [x]) (py ++ [y]) k (by simp [h1]) (by simpa using h2) (by simp at h3; omega)
  have ex : (px ++ [x]) ++ xs = px ++ x :: xs := by simp
  have ey : (py ++ [y]) ++ ys = py ++ y :: ys := by simp
  have el : ((px ++ [x]).length : Int) = ((px.length + 1 : Nat) : Int) := by simp
  rw [ex, ey, el] at ih
  have e1 : rd (py ++ y :: ys) (px.length : Int) = y := by rw [h1]; exact rd_mid _ _ _
  rw [r01_Compare.l0, if_pos (by simp; omega), dT (by simp [h1]; omega), r01_Compare.j1, if_pos rfl, if_pos (by omega), if_pos (by simp; omega), if_pos (by simp [h1]; omega), rd_mid, e1, wrap_suc hp, ih]
  by_cases a : x < y
  ·rw [if_pos a]
   exact ⟨-1, rfl, ⟨fun h => absurd h (by decide), fun h => by injection h with h; omega⟩⟩
  ·rw [if_neg a]
   by_cases b : x > y
   ·rw [if_pos b]
    exact ⟨1, rfl, ⟨fun h => absurd h (by decide), fun h => by injection h with h; omega⟩⟩
   ·rw [if_neg b]
    obtain rfl : x = y := by omega
    exact ⟨c, rfl, by rw [hc]; simp⟩
theorem plEqual_ok (a b : List Int) (k : Nat) (h : a.length < 1000000000) (hk : 2 * a.length + 2 ≤ k) : r01_Equal.f k a b = some (decide (a = b)) := by
 obtain ⟨c, e, hc⟩ := plCmp_go a b [] [] k rfl (by simpa using h) hk
 unfold r01_Equal.f r01_Compare.f
 refine (congrArg (fun o => Option.bind o _) e).trans ?_
 show some (c == 0) = _
 congr 1
 rw [Bool.eq_iff_iff]
 simp [hc]
def plEx : List Mp := [⟨931, [963], ⟨#[]⟩⟩, ⟨931, [962], ⟨#[102, 105, 110, 97, 108]⟩⟩]
def plExR : List Rg := [⟨913, 937⟩]
theorem plAlive1 : casemap_Lower.f plEx [] [] [] plExR [] [913, 931] = some [913, 962] := by kernel_rfl
theorem plAlive2 : casemap_Lower.f plEx [] [] [] plExR [] [931] = some [963] := by kernel_rfl
theorem plAlive3 : casemap_Final.f plEx [] [] [] plExR [] [913, 931] 1 = some true := by kernel_rfl
def aliveP (k : Nat)  : Option (Bool) := (some (([(⟨931, (([963] : List Int)), (⟨#[]⟩ : ByteArray)⟩ : S43), (⟨931, (([962] : List Int)), (⟨#[102, 105, 110, 97, 108]⟩ : ByteArray)⟩ : S43)] : List (S43)) : List (S43))).bind fun y143 => ((some (([(⟨913, 937⟩ : S33)] : List (S33)) : List (S33))).bind fun y146 => ((casemap_Lower.f y143 ([] : List (S43)) ([] : List (S43)) ([] : List (S43)) y146 ([] : List (S33)) (([913, 931] : List Int))).bind fun t153 => ((r01_Equal.f k t153 (([913, 962] : List Int))).bind fun t159 => (if t159 = true then ((casemap_Lower.f y143 ([] : List (S43)) ([] : List (S43)) ([] : List (S43)) y146 ([] : List (S33)) (([931] : List Int))).bind fun t163 => ((r01_Equal.f k t163 (([963] : List Int))).bind fun t169 => (if t169 = true then ((casemap_Final.f y143 ([] : List (S43)) ([] : List (S43)) ([] : List (S43)) y146 ([] : List (S33)) (([913, 931] : List Int)) 1).bind fun t173 => (some t173)) else (some false)))) else (some false)))))
theorem aliveP_ok : aliveP 20 = some true := by
 show (casemap_Lower.f plEx [] [] [] plExR [] [913, 931]).bind (fun t153 => (r01_Equal.f 20 t153 [913, 962]).bind fun t159 => if t159 = true then (casemap_Lower.f plEx [] [] [] plExR [] [931]).bind (fun t163 => (r01_Equal.f 20 t163 [963]).bind fun t169 => if t169 = true then (casemap_Final.f plEx [] [] [] plExR [] [913, 931] 1).bind (fun t173 => some t173) else some false) else some false) = some true
 rw [plAlive1, plAlive2, plAlive3]
 simp only [Option.bind_some]
 rw [plEqual_ok _ _ _ (by decide) (by simp), plEqual_ok _ _ _ (by decide) (by simp)]
 rfl
set_option maxHeartbeats 8000000 in
set_option maxRecDepth 100000 in
theorem aliveP_calls (k : Nat) (w : World) (h : aliveP k = some true) :
  Calls Try.prog 14 #[] w fun e w' => e = .returned (.bool true) ∧ Below w.heap.size w w' := by
 have hu43 := Try.underlying43
 have hu33 := Try.underlying33
 have hu25 := Try.underlying25
 have hu27 := Try.underlying27
 have HB := aM (Below.refl w.heap.size w)
 have H : ((some (([(⟨931, (([963] : List Int)), (⟨#[]⟩ : ByteArray)⟩ : S43), (⟨931, (([962] : List Int)), (⟨#[102, 105, 110, 97, 108]⟩ : ByteArray)⟩ : S43)] : List (S43)) : List (S43))).bind fun y143 => ((some (([(⟨913, 937⟩ : S33)] : List (S33)) : List (S33))).bind fun y146 => ((casemap_Lower.f y143 ([] : List (S43)) ([] : List (S43)) ([] : List (S43)) y146 ([] : List (S33)) (([913, 931] : List Int))).bind fun t153 => ((r01_Equal.f k t153 (([913, 962] : List Int))).bind fun t159 => (if t159 = true then ((casemap_Lower.f y143 ([] : List (S43)) ([] : List (S43)) ([] : List (S43)) y146 ([] : List (S33)) (([931] : List Int))).bind fun t163 => ((r01_Equal.f k t163 (([963] : List Int))).bind fun t169 => (if t169 = true then ((casemap_Final.f y143 ([] : List (S43)) ([] : List (S43)) ([] : List (S43)) y146 ([] : List (S33)) (([913, 931] : List Int)) 1).bind fun t173 => (some t173)) else (some false)))) else (some false)))))) = some true := h
 clear h
 obtain ⟨y137, hy137⟩ : ∃ y_ : List Int, y_ = (([963] : List Int)) := ⟨_, rfl⟩
 replace H : ((some (([(⟨931, y137, (⟨#[]⟩ : ByteArray)⟩ : S43), (⟨931, (([962] : List Int)), (⟨#[102, 105, 110, 97, 108]⟩ : ByteArray)⟩ : S43)] : List (S43)) : List (S43))).bind fun y143 => ((some (([(⟨913, 937⟩ : S33)] : List (S33)) : List (S33))).bind fun y146 => ((casemap_Lower.f y143 ([] : List (S43)) ([] : List (S43)) ([] : List (S43)) y146 ([] : List (S33)) (([913, 931] : List Int))).bind fun t153 => ((r01_Equal.f k t153 (([913, 962] : List Int))).bind fun t159 => (if t159 = true then ((casemap_Lower.f y143 ([] : List (S43)) ([] : List (S43)) ([] : List (S43)) y146 ([] : List (S33)) (([931] : List Int))).bind fun t163 => ((r01_Equal.f k t163 (([963] : List Int))).bind fun t169 => (if t169 = true then ((casemap_Final.f y143 ([] : List (S43)) ([] : List (S43)) ([] : List (S43)) y146 ([] : List (S33)) (([913, 931] : List Int)) 1).bind fun t173 => (some t173)) else (some false)))) else (some false)))))) = some true := by first | (rw [hy137]; with_reducible exact H) | (have H2_ := (Option.bind_some _ _).symm.trans H; rw [hy137]; with_reducible exact H2_) | (have H2_ := (Option.bind_some _ _).symm.trans H; with_reducible exact H2_) | with_reducible exact H | (rw [hy137]; exact H) | exact H
 have Ny137 := aM hy137
 clear hy137
 obtain ⟨y140, hy140⟩ : ∃ y_ : List Int, y_ = (([962] : List Int)) := ⟨_, rfl⟩
 replace H : ((some (([(⟨931, y137, (⟨#[]⟩ : ByteArray)⟩ : S43), (⟨931, y140, (⟨#[102, 105, 110, 97, 108]⟩ : ByteArray)⟩ : S43)] : List (S43)) : List (S43))).bind fun y143 => ((some (([(⟨913, 937⟩ : S33)] : List (S33)) : List (S33))).bind fun y146 => ((casemap_Lower.f y143 ([] : List (S43)) ([] : List (S43)) ([] : List (S43)) y146 ([] : List (S33)) (([913, 931] : List Int))).bind fun t153 => ((r01_Equal.f k t153 (([913, 962] : List Int))).bind fun t159 => (if t159 = true then ((casemap_Lower.f y143 ([] : List (S43)) ([] : List (S43)) ([] : List (S43)) y146 ([] : List (S33)) (([931] : List Int))).bind fun t163 => ((r01_Equal.f k t163 (([963] : List Int))).bind fun t169 => (if t169 = true then ((casemap_Final.f y143 ([] : List (S43)) ([] : List (S43)) ([] : List (S43)) y146 ([] : List (S33)) (([913, 931] : List Int)) 1).bind fun t173 => (some t173)) else (some false)))) else (some false)))))) = some true := by first | (rw [hy140]; with_reducible exact H) | (have H2_ := (Option.bind_some _ _).symm.trans H; rw [hy140]; with_reducible exact H2_) | (have H2_ := (Option.bind_some _ _).symm.trans H; with_reducible exact H2_) | with_reducible exact H | (rw [hy140]; exact H) | exact H
 have Ny140 := aM hy140
 clear hy140
 obtain ⟨y143, hy143⟩ : ∃ y_ : List (S43), y_ = (([(⟨931, y137, (⟨#[]⟩ : ByteArray)⟩ : S43), (⟨931, y140, (⟨#[102, 105, 110, 97, 108]⟩ : ByteArray)⟩ : S43)] : List (S43))) := ⟨_, rfl⟩
 replace H : ((some (([(⟨913, 937⟩ : S33)] : List (S33)) : List (S33))).bind fun y146 => ((casemap_Lower.f y143 ([] : List (S43)) ([] : List (S43)) ([] : List (S43)) y146 ([] : List (S33)) (([913, 931] : List Int))).bind fun t153 => ((r01_Equal.f k t153 (([913, 962] : List Int))).bind fun t159 => (if t159 = true then ((casemap_Lower.f y143 ([] : List (S43)) ([] : List (S43)) ([] : List (S43)) y146 ([] : List (S33)) (([931] : List Int))).bind fun t163 => ((r01_Equal.f k t163 (([963] : List Int))).bind fun t169 => (if t169 = true then ((casemap_Final.f y143 ([] : List (S43)) ([] : List (S43)) ([] : List (S43)) y146 ([] : List (S33)) (([913, 931] : List Int)) 1).bind fun t173 => (some t173)) else (some false)))) else (some false))))) = some true := by first | (rw [hy143]; with_reducible exact H) | (have H2_ := (Option.bind_some _ _).symm.trans H; rw [hy143]; with_reducible exact H2_) | (have H2_ := (Option.bind_some _ _).symm.trans H; with_reducible exact H2_) | with_reducible exact H | (rw [hy143]; exact H) | exact H
 have Ny143 := aM hy143
 clear hy143
 obtain ⟨y146, hy146⟩ : ∃ y_ : List (S33), y_ = (([(⟨913, 937⟩ : S33)] : List (S33))) := ⟨_, rfl⟩
 replace H : ((casemap_Lower.f y143 ([] : List (S43)) ([] : List (S43)) ([] : List (S43)) y146 ([] : List (S33)) (([913, 931] : List Int))).bind fun t153 => ((r01_Equal.f k t153 (([913, 962] : List Int))).bind fun t159 => (if t159 = true then ((casemap_Lower.f y143 ([] : List (S43)) ([] : List (S43)) ([] : List (S43)) y146 ([] : List (S33)) (([931] : List Int))).bind fun t163 => ((r01_Equal.f k t163 (([963] : List Int))).bind fun t169 => (if t169 = true then ((casemap_Final.f y143 ([] : List (S43)) ([] : List (S43)) ([] : List (S43)) y146 ([] : List (S33)) (([913, 931] : List Int)) 1).bind fun t173 => (some t173)) else (some false)))) else (some false)))) = some true := by first | (rw [hy146]; with_reducible exact H) | (have H2_ := (Option.bind_some _ _).symm.trans H; rw [hy146]; with_reducible exact H2_) | (have H2_ := (Option.bind_some _ _).symm.trans H; with_reducible exact H2_) | with_reducible exact H | (rw [hy146]; exact H) | exact H
 have Ny146 := aM hy146
 clear hy146
 obtain ⟨y150, hy150⟩ : ∃ y_ : List Int, y_ = (([913, 931] : List Int)) := ⟨_, rfl⟩
 replace H : ((casemap_Lower.f y143 ([] : List (S43)) ([] : List (S43)) ([] : List (S43)) y146 ([] : List (S33)) y150).bind fun t153 => ((r01_Equal.f k t153 (([913, 962] : List Int))).bind fun t159 => (if t159 = true then ((casemap_Lower.f y143 ([] : List (S43)) ([] : List (S43)) ([] : List (S43)) y146 ([] : List (S33)) (([931] : List Int))).bind fun t163 => ((r01_Equal.f k t163 (([963] : List Int))).bind fun t169 => (if t169 = true then ((casemap_Final.f y143 ([] : List (S43)) ([] : List (S43)) ([] : List (S43)) y146 ([] : List (S33)) (([913, 931] : List Int)) 1).bind fun t173 => (some t173)) else (some false)))) else (some false)))) = some true := by first | (rw [hy150]; with_reducible exact H) | (have H2_ := (Option.bind_some _ _).symm.trans H; rw [hy150]; with_reducible exact H2_) | (have H2_ := (Option.bind_some _ _).symm.trans H; with_reducible exact H2_) | with_reducible exact H | (rw [hy150]; exact H) | exact H
 have Ny150 := aM hy150
 clear hy150
 replace H := Option.bind_eq_some_iff.mp H
 obtain ⟨t153, A10, H⟩ := H
 replace H : ((r01_Equal.f k t153 (([913, 962] : List Int))).bind fun t159 => (if t159 = true then ((casemap_Lower.f y143 ([] : List (S43)) ([] : List (S43)) ([] : List (S43)) y146 ([] : List (S33)) (([931] : List Int))).bind fun t163 => ((r01_Equal.f k t163 (([963] : List Int))).bind fun t169 => (if t169 = true then ((casemap_Final.f y143 ([] : List (S43)) ([] : List (S43)) ([] : List (S43)) y146 ([] : List (S33)) (([913, 931] : List Int)) 1).bind fun t173 => (some t173)) else (some false)))) else (some false))) = some true := H
 have A1 := aM A10
 clear A10
 obtain ⟨y156, hy156⟩ : ∃ y_ : List Int, y_ = (([913, 962] : List Int)) := ⟨_, rfl⟩
 replace H : ((r01_Equal.f k t153 y156).bind fun t159 => (if t159 = true then ((casemap_Lower.f y143 ([] : List (S43)) ([] : List (S43)) ([] : List (S43)) y146 ([] : List (S33)) (([931] : List Int))).bind fun t163 => ((r01_Equal.f k t163 (([963] : List Int))).bind fun t169 => (if t169 = true then ((casemap_Final.f y143 ([] : List (S43)) ([] : List (S43)) ([] : List (S43)) y146 ([] : List (S33)) (([913, 931] : List Int)) 1).bind fun t173 => (some t173)) else (some false)))) else (some false))) = some true := by first | (rw [hy156]; with_reducible exact H) | (have H2_ := (Option.bind_some _ _).symm.trans H; rw [hy156]; with_reducible exact H2_) | (have H2_ := (Option.bind_some _ _).symm.trans H; with_reducible exact H2_) | with_reducible exact H | (rw [hy156]; exact H) | exact H
 have Ny156 := aM hy156
 clear hy156
 replace H := Option.bind_eq_some_iff.mp H
 obtain ⟨t159, A20, H⟩ := H
 replace H : (if t159 = true then ((casemap_Lower.f y143 ([] : List (S43)) ([] : List (S43)) ([] : List (S43)) y146 ([] : List (S33)) (([931] : List Int))).bind fun t163 => ((r01_Equal.f k t163 (([963] : List Int))).bind fun t169 => (if t169 = true then ((casemap_Final.f y143 ([] : List (S43)) ([] : List (S43)) ([] : List (S43)) y146 ([] : List (S33)) (([913, 931] : List Int)) 1).bind fun t173 => (some t173)) else (some false)))) else (some false)) = some true := H
 have A2 := aM A20
 clear A20
 by_cases c3 : t159 = true
 ·subst c3
  have H1 : ((casemap_Lower.f y143 ([] : List (S43)) ([] : List (S43)) ([] : List (S43)) y146 ([] : List (S33)) (([931] : List Int))).bind fun t163 => ((r01_Equal.f k t163 (([963] : List Int))).bind fun t169 => (if t169 = true then ((casemap_Final.f y143 ([] : List (S43)) ([] : List (S43)) ([] : List (S43)) y146 ([] : List (S33)) (([913, 931] : List Int)) 1).bind fun t173 => (some t173)) else (some false)))) = some true := by rw [if_pos rfl] at H; exact H
  clear H
  have H := H1
  clear H1
  obtain ⟨y160, hy160⟩ : ∃ y_ : List Int, y_ = (([931] : List Int)) := ⟨_, rfl⟩
  replace H : ((casemap_Lower.f y143 ([] : List (S43)) ([] : List (S43)) ([] : List (S43)) y146 ([] : List (S33)) y160).bind fun t163 => ((r01_Equal.f k t163 (([963] : List Int))).bind fun t169 => (if t169 = true then ((casemap_Final.f y143 ([] : List (S43)) ([] : List (S43)) ([] : List (S43)) y146 ([] : List (S33)) (([913, 931] : List Int)) 1).bind fun t173 => (some t173)) else (some false)))) = some true := by first | (rw [hy160]; with_reducible exact H) | (have H2_ := (Option.bind_some _ _).symm.trans H; rw [hy160]; with_reducible exact H2_) | (have H2_ := (Option.bind_some _ _).symm.trans H; with_reducible exact H2_) | with_reducible exact H | (rw [hy160]; exact H) | exact H
  have Ny160 := aM hy160
  clear hy160
  replace H := Option.bind_eq_some_iff.mp H
  obtain ⟨t163, A40, H⟩ := H
  replace H : ((r01_Equal.f k t163 (([963] : List Int))).bind fun t169 => (if t169 = true then ((casemap_Final.f y143 ([] : List (S43)) ([] : List (S43)) ([] : List (S43)) y146 ([] : List (S33)) (([913, 931] : List Int)) 1).bind fun t173 => (some t173)) else (some false))) = some true := H
  have A4 := aM A40
  clear A40
  obtain ⟨y166, hy166⟩ : ∃ y_ : List Int, y_ = (([963] : List Int)) := ⟨_, rfl⟩
  replace H : ((r01_Equal.f k t163 y166).bind fun t169 => (if t169 = true then ((casemap_Final.f y143 ([] : List (S43)) ([] : List (S43)) ([] : List (S43)) y146 ([] : List (S33)) (([913, 931] : List Int)) 1).bind fun t173 => (some t173)) else (some false))) = some true := by first | (rw [hy166]; with_reducible exact H) | (have H2_ := (Option.bind_some _ _).symm.trans H; rw [hy166]; with_reducible exact H2_) | (have H2_ := (Option.bind_some _ _).symm.trans H; with_reducible exact H2_) | with_reducible exact H | (rw [hy166]; exact H) | exact H
  have Ny166 := aM hy166
  clear hy166
  replace H := Option.bind_eq_some_iff.mp H
  obtain ⟨t169, A50, H⟩ := H
  replace H : (if t169 = true then ((casemap_Final.f y143 ([] : List (S43)) ([] : List (S43)) ([] : List (S43)) y146 ([] : List (S33)) (([913, 931] : List Int)) 1).bind fun t173 => (some t173)) else (some false)) = some true := H
  have A5 := aM A50
  clear A50
  by_cases c6 : t169 = true
  ·subst c6
   have H1 : ((casemap_Final.f y143 ([] : List (S43)) ([] : List (S43)) ([] : List (S43)) y146 ([] : List (S33)) (([913, 931] : List Int)) 1).bind fun t173 => (some t173)) = some true := by rw [if_pos rfl] at H; exact H
   clear H
   have H := H1
   clear H1
   obtain ⟨y170, hy170⟩ : ∃ y_ : List Int, y_ = (([913, 931] : List Int)) := ⟨_, rfl⟩
   replace H : ((casemap_Final.f y143 ([] : List (S43)) ([] : List (S43)) ([] : List (S43)) y146 ([] : List (S33)) y170 1).bind fun t173 => (some t173)) = some true := by first | (rw [hy170]; with_reducible exact H) | (have H2_ := (Option.bind_some _ _).symm.trans H; rw [hy170]; with_reducible exact H2_) | (have H2_ := (Option.bind_some _ _).symm.trans H; with_reducible exact H2_) | with_reducible exact H | (rw [hy170]; exact H) | exact H
   have Ny170 := aM hy170
   clear hy170
   replace H := Option.bind_eq_some_iff.mp H
   obtain ⟨t173, A70, H⟩ := H
   obtain rfl : t173 = true := Option.some.inj H
   have A7 := aM A70
   clear A70 H
   go_enter Try.func14, Try.ntmps14
   go_wp2_with (first | ((with_reducible refine gate_dst (N := 2) rfl ?_); (try (refine gate_guard (by rfl) ?_; dsimp only)); refine Kd.R_lit (Kd.int .i64) _ 3 ?hg (N := 2) ?hd (xs := ([963] : List Int)) (inner := [.int .i64 963]) (ok := fun _ => True) (okp := fun _ => True) ?hr ?hp (fun _ hk => hk) trivial (Below.refl _ _) (Nat.le_refl _) (by simp) ?_; (case hd => rfl); (case hg => rfl); (case hr => first | (go_simp; done) | (go_simp; rfl)); (case hp => exact (Reps.one (show Kd.M (Kd.int .i64) _ _ _ 963 [.int .i64 963] from rfl) (Reps.none _ _))); intro v138 w8 ho9 hb hg_ hnew_; clear hg_ hnew_; (first | rw [← Ny137.out] at ho9 | (simp only [Int.reduceToNat] at ho9; rw [← Ny137.out] at ho9)); have n0_ := aM (Kd.R_lower ho9 (bSz (by repeat (first | (with_reducible first | exact HB.out | apply bAl | apply pbN | apply bD1) | exact HB.out)))); have n1_ := aM (bSp (by repeat (first | (with_reducible first | exact HB.out | apply bAl | apply pbN | apply bD1) | exact HB.out)) hb); clear HB; have HO139 := n0_; have HB := n1_; clear n0_ n1_; clear hb ho9; obtain ⟨Ao10, co10, eo10⟩ := Kd.R_slice HO139.out; subst eo10) | ((with_reducible refine gate_dst (N := 4) rfl ?_); (try (refine gate_guard (by rfl) ?_; dsimp only)); refine Kd.R_lit (Kd.int .i64) _ 3 ?hg (N := 4) ?hd (xs := ([962] : List Int)) (inner := [.int .i64 962]) (ok := fun _ => True) (okp := fun _ => True) ?hr ?hp (fun _ hk => hk) trivial (Below.refl _ _) (Nat.le_refl _) (by simp) ?_; (case hd => rfl); (case hg => rfl); (case hr => first | (go_simp; done) | (go_simp; rfl)); (case hp => exact (Reps.one (show Kd.M (Kd.int .i64) _ _ _ 962 [.int .i64 962] from rfl) (Reps.none _ _))); intro v141 w11 ho12 hb hg_ hnew_; clear hg_ hnew_; (first | rw [← Ny140.out] at ho12 | (simp only [Int.reduceToNat] at ho12; rw [← Ny140.out] at ho12)); have n0_ := aM (Kd.R_elder' (by (with_reducible repeat (first | apply Kd.R_alloc | apply Kd.R_drewN | apply Kd.R_drew)); exact HO139.out) (Kd.R_base ho12) hb); have n1_ := aM (Kd.R_lower (Kd.R_new' ho12 (Kd.R_lt (by (with_reducible repeat (first | apply Kd.R_alloc | apply Kd.R_drewN | apply Kd.R_drew)); exact HO139.out))) (bSz (by repeat (first | (with_reducible first | exact HB.out | apply bAl | apply pbN | apply bD1) | exact HB.out)))); have n2_ := aM (bSp (by repeat (first | (with_reducible first | exact HB.out | apply bAl | apply pbN | apply bD1) | exact HB.out)) hb); clear HO139; clear HB; have HO139 := n0_; have HO142 := n1_; have HB := n2_; clear n0_ n1_ n2_; clear hb ho12; obtain ⟨Ao13, co13, eo13⟩ := Kd.R_slice HO142.out; subst eo13) | ((with_reducible refine gate_dst (N := 6) rfl ?_); (try (refine gate_guard (by rfl) ?_; dsimp only)); refine Kd.N_lit k43 _ 43 ?hg (N' := 6) ?hd (xs := ([(⟨931, y137, (⟨#[]⟩ : ByteArray)⟩ : S43), (⟨931, y140, (⟨#[102, 105, 110, 97, 108]⟩ : ByteArray)⟩ : S43)] : List (S43))) (inner := [.int .i64 931, .slice Ao10 y137.length co10, .string (⟨#[]⟩ : ByteArray), .int .i64 931, .slice Ao13 y140.length co13, .string (⟨#[102, 105, 110, 97, 108]⟩ : ByteArray)]) (ok := (fun _ => True)) (okp := (fun _ => True)) ?hr ?hp (fun _ hk => hk) ((show ∀ k_, w11.heap.size ≤ k_ → (fun _ => True) k_ from fun k_ hk => trivial) _ (Nat.le_refl _)) (Below.refl _ _) (Nat.le_refl _) (by simp) ?_; (case hd => rfl); (case hg => rfl); (case hr => first | (go_simp; done) | (go_simp; rfl)); (case hp => exact (Reps.c3 (show Kd.FK k43 _ _ (⟨931, y137, (⟨#[]⟩ : ByteArray)⟩ : S43) [.int .i64 931, .slice Ao10 y137.length co10, .string (⟨#[]⟩ : ByteArray)] from (k43_mkF _ _ (⟨931, y137, (⟨#[]⟩ : ByteArray)⟩ : S43) (Kd.R_reads' (Kd.R_mono (ok' := (fun _ => True)) (HO139.out) (fun k_ hk => trivial))).2.1 (Kd.R_F (Kd.R_mono (ok' := (fun _ => True)) (HO139.out) (fun k_ hk => trivial))))) (Reps.c3 (show Kd.FK k43 _ _ (⟨931, y140, (⟨#[102, 105, 110, 97, 108]⟩ : ByteArray)⟩ : S43) [.int .i64 931, .slice Ao13 y140.length co13, .string (⟨#[102, 105, 110, 97, 108]⟩ : ByteArray)] from (k43_mkF _ _ (⟨931, y140, (⟨#[102, 105, 110, 97, 108]⟩ : ByteArray)⟩ : S43) (Kd.R_reads' (Kd.R_mono (ok' := (fun _ => True)) (HO142.out) (fun k_ hk => trivial))).2.1 (Kd.R_F (Kd.R_mono (ok' := (fun _ => True)) (HO142.out) (fun k_ hk => trivial))))) (Reps.none _ _)))); intro v144 w14 ho15 hb hg_ hnew_; clear hg_ hnew_; (first | rw [← Ny143.out] at ho15 | (simp only [Int.reduceToNat] at ho15; rw [← Ny143.out] at ho15)); have n0_ := aM (Kd.N_lower ho15 (bSz (by repeat (first | (with_reducible first | exact HB.out | apply bAl | apply pbN | apply bD1) | exact HB.out)))); have n1_ := aM (bSp (by repeat (first | (with_reducible first | exact HB.out | apply bAl | apply pbN | apply bD1) | exact HB.out)) hb); clear HB; clear HO139; clear HO142; have HO145 := n0_; have HB := n1_; clear n0_ n1_; clear hb ho15) | ((with_reducible refine gate_dst (N := 8) rfl ?_); (try (refine gate_guard (by rfl) ?_; dsimp only)); refine Kd.R_lit k33 _ 33 ?hg (N := 8) ?hd (xs := ([(⟨913, 937⟩ : S33)] : List (S33))) (inner := [.int .i64 913, .int .i64 937]) (ok := fun _ => True) (okp := fun _ => True) ?hr ?hp (fun _ hk => hk) trivial (Below.refl _ _) (Nat.le_refl _) (by simp) ?_; (case hd => rfl); (case hg => rfl); (case hr => first | (go_simp; done) | (go_simp; rfl)); (case hp => exact (Reps.c2 (show Kd.M k33 _ _ _ (⟨913, 937⟩ : S33) [.int .i64 913, .int .i64 937] from (k33_mkM _ _ _ (⟨913, 937⟩ : S33) )) (Reps.none _ _))); intro v147 w16 ho17 hb hg_ hnew_; clear hg_ hnew_; (first | rw [← Ny146.out] at ho17 | (simp only [Int.reduceToNat] at ho17; rw [← Ny146.out] at ho17)); have n0_ := aM (Kd.N_elder' (by (with_reducible repeat (first | apply Kd.N_alloc | apply Kd.N_drewN | apply Kd.N_drew)); exact HO145.out) (Kd.R_base ho17) hb); have n1_ := aM (Kd.R_lower ho17 (bSz (by repeat (first | (with_reducible first | exact HB.out | apply bAl | apply pbN | apply bD1) | exact HB.out)))); have n2_ := aM (bSp (by repeat (first | (with_reducible first | exact HB.out | apply bAl | apply pbN | apply bD1) | exact HB.out)) hb); clear HO145; clear HB; have HO145 := n0_; have HO148 := n1_; have HB := n2_; clear n0_ n1_ n2_; clear hb ho17; obtain ⟨Ao18, co18, eo18⟩ := Kd.R_slice HO148.out; subst eo18; obtain ⟨Ao19, co19, eo19⟩ := Kd.N_slice HO145.out; subst eo19) | ((with_reducible refine gate_dst (N := 1) rfl ?_); (try (refine gate_guard (by rfl) ?_; dsimp only)); refine box_event ?hg (N := 1) ?hd (cs := #[.slice none 0 0, .slice none 0 0, .slice none 0 0, .slice none 0 0, .slice none 0 0, .slice none 0 0]) (t := 27) ?hr ?_; (case hd => rfl); (case hg => rfl); (case hr => first | (go_simp; done) | (go_simp; rfl)); intro gb149 hg w20 hbox hb; have n0_ := aM (Kd.N_below (Kd.N_elderB (by (with_reducible repeat (first | apply Kd.N_alloc | apply Kd.N_drewN | apply Kd.N_drew)); exact HO145.out) gb149 (Nat.le_of_eq hg.symm)) hb); have n1_ := aM (Kd.R_below (by (with_reducible repeat (first | apply Kd.R_alloc | apply Kd.R_drewN | apply Kd.R_drew)); exact HO148.out) hb); have n2_ := aM (bSp (by repeat (first | (with_reducible first | exact HB.out | apply bAl | apply pbN | apply bD1) | exact HB.out)) hb); have n3_ := aM (hbox); have n4_ := aM ((by rw [hg]; exact (bSz (by repeat (first | (with_reducible first | exact HB.out | apply bAl | apply pbN | apply bD1) | exact HB.out))) : w.heap.size ≤ gb149)); have n5_ := aM ((by rw [hg]; exact (bSz (by repeat (first | (with_reducible first | exact HB.out | apply bAl | apply pbN | apply bD1) | exact HB.out))) : w.heap.size ≤ gb149)); clear HO145; clear HO148; clear HB; have HO145 := n0_; have HO148 := n1_; have HB := n2_; have BK149 := n3_; have GW149 := n4_; have GE149 := n5_; clear n0_ n1_ n2_ n3_ n4_ n5_; clear hb hbox hg; have hcz21_0 : w20.cell? ⟨gb149, 0, none⟩ = some (.slice none 0 0) := (bkC BK149.out 0).trans rfl; have hcz21_1 : w20.cell? ⟨gb149, 1, none⟩ = some (.slice none 0 0) := (bkC BK149.out 1).trans rfl; have hcz21_2 : w20.cell? ⟨gb149, 2, none⟩ = some (.slice none 0 0) := (bkC BK149.out 2).trans rfl; have hcz21_3 : w20.cell? ⟨gb149, 3, none⟩ = some (.slice none 0 0) := (bkC BK149.out 3).trans rfl; have hcz21_4 : w20.cell? ⟨gb149, 4, none⟩ = some (.slice none 0 0) := (bkC BK149.out 4).trans rfl; have hcz21_5 : w20.cell? ⟨gb149, 5, none⟩ = some (.slice none 0 0) := (bkC BK149.out 5).trans rfl; have hfz21_0 := bkF BK149.out 0; have hfz21_1 := bkF BK149.out 1; have hfz21_2 := bkF BK149.out 2; have hfz21_3 := bkF BK149.out 3; have hfz21_4 := bkF BK149.out 4; have hfz21_5 := bkF BK149.out 5) | ((with_reducible refine gate_dst (N := 12) rfl ?_); (try (refine gate_guard (by rfl) ?_; dsimp only)); refine Kd.R_lit (Kd.int .i64) _ 3 ?hg (N := 12) ?hd (xs := ([913, 931] : List Int)) (inner := [.int .i64 913, .int .i64 931]) (ok := fun _ => True) (okp := fun _ => True) ?hr ?hp (fun _ hk => hk) trivial (Below.refl _ _) (Nat.le_refl _) (by simp) ?_; (case hd => rfl); (case hg => rfl); (case hr => first | (go_simp; done) | (go_simp; rfl)); (case hp => exact (Reps.one (show Kd.M (Kd.int .i64) _ _ _ 913 [.int .i64 913] from rfl) (Reps.one (show Kd.M (Kd.int .i64) _ _ _ 931 [.int .i64 931] from rfl) (Reps.none _ _)))); intro v151 w22 ho23 hb hg_ hnew_; clear hg_ hnew_; (first | rw [← Ny150.out] at ho23 | (simp only [Int.reduceToNat] at ho23; rw [← Ny150.out] at ho23)); have n0_ := aM (Kd.N_elder' (by (with_reducible repeat (first | apply Kd.N_alloc | apply Kd.N_drewN | apply Kd.N_drew)); exact (Kd.N_mono (Kd.N_far (p := ⟨gb149, 5, none⟩) (Kd.N_far (p := ⟨gb149, 4, none⟩) (Kd.N_far (p := ⟨gb149, 3, none⟩) (Kd.N_far (p := ⟨gb149, 2, none⟩) (Kd.N_far (p := ⟨gb149, 1, none⟩) (Kd.N_far (p := ⟨gb149, 0, none⟩) (Kd.N_mono HO145.out (fun k_ hk => (⟨hk, hk.2⟩ : _ ∧ k_ ≠ gb149))) (fun _ hk => hk.2) (.slice Ao19 y143.length co19)) (fun _ hk => hk.2) (.slice none 0 0)) (fun _ hk => hk.2) (.slice none 0 0)) (fun _ hk => hk.2) (.slice none 0 0)) (fun _ hk => hk.2) (.slice Ao18 y146.length co18)) (fun _ hk => hk.2) (.slice none 0 0)) (fun _ h_ => h_.1))) (Kd.R_base ho23) hb); have n1_ := aM (Kd.R_below (by (with_reducible repeat (first | apply Kd.R_alloc | apply Kd.R_drewN | apply Kd.R_drew)); exact (Kd.R_mono (Kd.R_far (p := ⟨gb149, 5, none⟩) (Kd.R_far (p := ⟨gb149, 4, none⟩) (Kd.R_far (p := ⟨gb149, 3, none⟩) (Kd.R_far (p := ⟨gb149, 2, none⟩) (Kd.R_far (p := ⟨gb149, 1, none⟩) (Kd.R_far (p := ⟨gb149, 0, none⟩) (Kd.R_types HO148.out BK149.out (by decide)) (fun _ hk => hk.2) (.slice Ao19 y143.length co19)) (fun _ hk => hk.2) (.slice none 0 0)) (fun _ hk => hk.2) (.slice none 0 0)) (fun _ hk => hk.2) (.slice none 0 0)) (fun _ hk => hk.2) (.slice Ao18 y146.length co18)) (fun _ hk => hk.2) (.slice none 0 0)) (fun _ h_ => h_.1))) hb); have n2_ := aM (Kd.R_lower ho23 (bSz (by repeat (first | (with_reducible first | exact HB.out | apply bAl | apply pbN | apply bD1 | refine bSt ?_ GE149.out) | exact HB.out)))); have n3_ := aM (blk_below (g := gb149) (o := .cells #[.slice Ao19 y143.length co19, .slice none 0 0, .slice none 0 0, .slice none 0 0, .slice Ao18 y146.length co18, .slice none 0 0] 27 (0, 0)) (by (with_reducible repeat (first | refine bkN ?_ _ | refine bkD ?_ | refine bkA ?_ _)); refine blk_put (cs := #[.slice Ao19 y143.length co19, .slice none 0 0, .slice none 0 0, .slice none 0 0, .slice Ao18 y146.length co18, .slice none 0 0]) ?_ 5 _ rfl; (with_reducible repeat (first | refine bkN ?_ _ | refine bkD ?_ | refine bkA ?_ _)); refine blk_put (cs := #[.slice Ao19 y143.length co19, .slice none 0 0, .slice none 0 0, .slice none 0 0, .slice none 0 0, .slice none 0 0]) ?_ 4 _ rfl; (with_reducible repeat (first | refine bkN ?_ _ | refine bkD ?_ | refine bkA ?_ _)); refine blk_put (cs := #[.slice Ao19 y143.length co19, .slice none 0 0, .slice none 0 0, .slice none 0 0, .slice none 0 0, .slice none 0 0]) ?_ 3 _ rfl; (with_reducible repeat (first | refine bkN ?_ _ | refine bkD ?_ | refine bkA ?_ _)); refine blk_put (cs := #[.slice Ao19 y143.length co19, .slice none 0 0, .slice none 0 0, .slice none 0 0, .slice none 0 0, .slice none 0 0]) ?_ 2 _ rfl; (with_reducible repeat (first | refine bkN ?_ _ | refine bkD ?_ | refine bkA ?_ _)); refine blk_put (cs := #[.slice Ao19 y143.length co19, .slice none 0 0, .slice none 0 0, .slice none 0 0, .slice none 0 0, .slice none 0 0]) ?_ 1 _ rfl; (with_reducible repeat (first | refine bkN ?_ _ | refine bkD ?_ | refine bkA ?_ _)); refine blk_put (cs := #[.slice none 0 0, .slice none 0 0, .slice none 0 0, .slice none 0 0, .slice none 0 0, .slice none 0 0]) ?_ 0 _ rfl; (with_reducible repeat (first | refine bkN ?_ _ | refine bkD ?_ | refine bkA ?_ _)); exact BK149.out) hb); have n4_ := aM (bSp (by repeat (first | (with_reducible first | exact HB.out | apply bAl | apply pbN | apply bD1 | refine bSt ?_ GE149.out) | exact HB.out)) hb); clear HO145; clear HO148; clear BK149; clear HB; have HO145 := n0_; have HO148 := n1_; have HO152 := n2_; have BK149 := n3_; have HB := n4_; clear n0_ n1_ n2_ n3_ n4_; clear hb ho23; obtain ⟨Ao24, co24, eo24⟩ := Kd.R_slice HO152.out; subst eo24) | ((with_reducible refine gate_callee (f := 18) rfl ?_); refine goesL_ (some 13) rfl rfl Try.func18 (by kernel_rfl) rfl #[.agg #[.slice Ao19 y143.length co19, .slice none 0 0, .slice none 0 0, .slice none 0 0, .slice Ao18 y146.length co18, .slice none 0 0], .slice Ao24 y150.length co24] rfl (by (try simp only [List.map_toArray, List.map_cons, List.map_nil]); first | done | rfl | (simp only [List.length_drop, List.length_take]; rfl)) ?_; (refine (casemap_Lower.calls _ _ y143 _ _ ([] : List (S43)) _ _ ([] : List (S43)) _ _ ([] : List (S43)) _ _ y146 _ _ ([] : List (S33)) _ _ y150 t153 _ ?side1 ?side2 ?side3 ?side4 ?side5 ?side6 ?side7 ?side8 ?side9 ?side10 ?side11 ?side12 ?side13 ?side14 A1.out).mono ?_); (case side1 => repeat (first | exact (Kd.N_reads' HO145.out).2.2 | (with_reducible refine Kd.C_alloc ?_ _) | (with_reducible refine Kd.C_drewN ?_ _) | (with_reducible refine Kd.C_drew ?_))); (case side2 => exact (Kd.N_reads' HO145.out).2.1); (case side3 => exact Kd.C_nil _ _); (case side4 => exact Nat.le_refl _); (case side5 => exact Kd.C_nil _ _); (case side6 => exact Nat.le_refl _); (case side7 => exact Kd.C_nil _ _); (case side8 => exact Nat.le_refl _); (case side9 => repeat (first | exact (Kd.R_reads' HO148.out).2.2 | (with_reducible refine Kd.C_alloc ?_ _) | (with_reducible refine Kd.C_drewN ?_ _) | (with_reducible refine Kd.C_drew ?_))); (case side10 => exact (Kd.R_reads' HO148.out).2.1); (case side11 => exact Kd.C_nil _ _); (case side12 => exact Nat.le_refl _); (case side13 => repeat (first | exact (Kd.R_reads' HO152.out).2.2 | (with_reducible refine Kd.C_alloc ?_ _) | (with_reducible refine Kd.C_drewN ?_ _) | (with_reducible refine Kd.C_drew ?_))); (case side14 => exact (Kd.R_reads' HO152.out).2.1); rintro e w25 ⟨v154, rfl, ho0, hb⟩; refine ⟨_, rfl, ?_⟩; have n0_ := aM (Kd.N_elder' (by (with_reducible repeat (first | apply Kd.N_alloc | apply Kd.N_drewN | apply Kd.N_drew)); exact HO145.out) (Kd.R_base ho0) hb); have n1_ := aM (Kd.R_below (by (with_reducible repeat (first | apply Kd.R_alloc | apply Kd.R_drewN | apply Kd.R_drew)); exact HO148.out) hb); have n2_ := aM (Kd.R_elder' (by (with_reducible repeat (first | apply Kd.R_alloc | apply Kd.R_drewN | apply Kd.R_drew)); exact HO152.out) (Kd.R_base ho0) hb); have n3_ := aM (Kd.R_lower (Kd.R_new' ho0 (Kd.R_lt (by (with_reducible repeat (first | apply Kd.R_alloc | apply Kd.R_drewN | apply Kd.R_drew)); exact HO152.out))) (bSz (by repeat (first | (with_reducible first | exact HB.out | apply bAl | apply pbN | apply bD1 | refine bSt ?_ GE149.out) | exact HB.out)))); have n4_ := aM (blk_below (g := gb149) (o := .cells #[.slice Ao19 y143.length co19, .slice none 0 0, .slice none 0 0, .slice none 0 0, .slice Ao18 y146.length co18, .slice none 0 0] 27 (0, 0)) (by (with_reducible repeat (first | refine bkN ?_ _ | refine bkD ?_ | refine bkA ?_ _)); exact BK149.out) hb); have n5_ := aM (bSp (by repeat (first | (with_reducible first | exact HB.out | apply bAl | apply pbN | apply bD1 | refine bSt ?_ GE149.out) | exact HB.out)) hb); clear HO145; clear HO148; clear HO152; clear BK149; clear HB; have HO145 := n0_; have HO148 := n1_; have HO152 := n2_; have HO155 := n3_; have BK149 := n4_; have HB := n5_; clear n0_ n1_ n2_ n3_ n4_ n5_; (try clear hb); (try clear hb2); (try clear hk); (try clear hi); (try clear ho0)) | ((with_reducible refine gate_dst (N := 14) rfl ?_); (try (refine gate_guard (by rfl) ?_; dsimp only)); refine Kd.R_lit (Kd.int .i64) _ 3 ?hg (N := 14) ?hd (xs := ([913, 962] : List Int)) (inner := [.int .i64 913, .int .i64 962]) (ok := fun _ => True) (okp := fun _ => True) ?hr ?hp (fun _ hk => hk) trivial (Below.refl _ _) (Nat.le_refl _) (by simp) ?_; (case hd => rfl); (case hg => rfl); (case hr => first | (go_simp; done) | (go_simp; rfl)); (case hp => exact (Reps.one (show Kd.M (Kd.int .i64) _ _ _ 913 [.int .i64 913] from rfl) (Reps.one (show Kd.M (Kd.int .i64) _ _ _ 962 [.int .i64 962] from rfl) (Reps.none _ _)))); intro v157 w26 ho27 hb hg_ hnew_; clear hg_ hnew_; (first | rw [← Ny156.out] at ho27 | (simp only [Int.reduceToNat] at ho27; rw [← Ny156.out] at ho27)); have n0_ := aM (Kd.N_elder' (by (with_reducible repeat (first | apply Kd.N_alloc | apply Kd.N_drewN | apply Kd.N_drew)); exact HO145.out) (Kd.R_base ho27) hb); have n1_ := aM (Kd.R_below (by (with_reducible repeat (first | apply Kd.R_alloc | apply Kd.R_drewN | apply Kd.R_drew)); exact HO148.out) hb); have n2_ := aM (Kd.R_elder' (by (with_reducible repeat (first | apply Kd.R_alloc | apply Kd.R_drewN | apply Kd.R_drew)); exact HO152.out) (Kd.R_base ho27) hb); have n3_ := aM (Kd.R_elder' (by (with_reducible repeat (first | apply Kd.R_alloc | apply Kd.R_drewN | apply Kd.R_drew)); exact HO155.out) (Kd.R_base ho27) hb); have n4_ := aM (Kd.R_lower (Kd.R_new' (Kd.R_new' ho27 (Kd.R_lt (by (with_reducible repeat (first | apply Kd.R_alloc | apply Kd.R_drewN | apply Kd.R_drew)); exact HO152.out))) (Kd.R_lt (by (with_reducible repeat (first | apply Kd.R_alloc | apply Kd.R_drewN | apply Kd.R_drew)); exact HO155.out))) (bSz (by repeat (first | (with_reducible first | exact HB.out | apply bAl | apply pbN | apply bD1 | refine bSt ?_ GE149.out) | exact HB.out)))); have n5_ := aM (blk_below (g := gb149) (o := .cells #[.slice Ao19 y143.length co19, .slice none 0 0, .slice none 0 0, .slice none 0 0, .slice Ao18 y146.length co18, .slice none 0 0] 27 (0, 0)) (by (with_reducible repeat (first | refine bkN ?_ _ | refine bkD ?_ | refine bkA ?_ _)); exact BK149.out) hb); have n6_ := aM (bSp (by repeat (first | (with_reducible first | exact HB.out | apply bAl | apply pbN | apply bD1 | refine bSt ?_ GE149.out) | exact HB.out)) hb); clear HO145; clear HO148; clear HO152; clear HO155; clear BK149; clear HB; have HO145 := n0_; have HO148 := n1_; have HO152 := n2_; have HO155 := n3_; have HO158 := n4_; have BK149 := n5_; have HB := n6_; clear n0_ n1_ n2_ n3_ n4_ n5_ n6_; clear hb ho27; obtain ⟨Ao28, co28, eo28⟩ := Kd.R_slice HO155.out; subst eo28; obtain ⟨Ao29, co29, eo29⟩ := Kd.R_slice HO158.out; subst eo29) | ((with_reducible refine gate_callee (f := 16) rfl ?_); refine goesL_ (some 15) rfl rfl Try.func16 (by kernel_rfl) rfl #[.slice Ao28 t153.length co28, .slice Ao29 y156.length co29] rfl (by (try simp only [List.map_toArray, List.map_cons, List.map_nil]); first | done | rfl | (simp only [List.length_drop, List.length_take]; rfl)) ?_; (with_reducible refine (r01_Equal.calls k _ _ t153 _ _ y156 true _ ?side1 ?side2 ?side3 ?side4 A2.out).mono ?_); (case side1 => repeat (first | exact (Kd.R_reads' HO155.out).2.2 | (with_reducible refine Kd.C_alloc ?_ _) | (with_reducible refine Kd.C_drewN ?_ _) | (with_reducible refine Kd.C_drew ?_))); (case side2 => exact (Kd.R_reads' HO155.out).2.1); (case side3 => repeat (first | exact (Kd.R_reads' HO158.out).2.2 | (with_reducible refine Kd.C_alloc ?_ _) | (with_reducible refine Kd.C_drewN ?_ _) | (with_reducible refine Kd.C_drew ?_))); (case side4 => exact (Kd.R_reads' HO158.out).2.1); rintro e w' ⟨rfl, ⟨nd, rfl⟩⟩; refine ⟨_, rfl, ?_⟩; have hcz30_0 : w26.cell? ⟨gb149, 0, none⟩ = some (.slice Ao19 y143.length co19) := (bkC BK149.out 0).trans rfl; have hcz30_1 : w26.cell? ⟨gb149, 1, none⟩ = some (.slice none 0 0) := (bkC BK149.out 1).trans rfl; have hcz30_2 : w26.cell? ⟨gb149, 2, none⟩ = some (.slice none 0 0) := (bkC BK149.out 2).trans rfl; have hcz30_3 : w26.cell? ⟨gb149, 3, none⟩ = some (.slice none 0 0) := (bkC BK149.out 3).trans rfl; have hcz30_4 : w26.cell? ⟨gb149, 4, none⟩ = some (.slice Ao18 y146.length co18) := (bkC BK149.out 4).trans rfl; have hcz30_5 : w26.cell? ⟨gb149, 5, none⟩ = some (.slice none 0 0) := (bkC BK149.out 5).trans rfl; have hfz30_0 := bkF BK149.out 0; have hfz30_1 := bkF BK149.out 1; have hfz30_2 := bkF BK149.out 2; have hfz30_3 := bkF BK149.out 3; have hfz30_4 := bkF BK149.out 4; have hfz30_5 := bkF BK149.out 5) | ((with_reducible refine gate_dst (N := 18) rfl ?_); (try (refine gate_guard (by rfl) ?_; dsimp only)); refine Kd.R_lit (Kd.int .i64) _ 3 ?hg (N := 18) ?hd (xs := ([931] : List Int)) (inner := [.int .i64 931]) (ok := fun _ => True) (okp := fun _ => True) ?hr ?hp (fun _ hk => hk) trivial (Below.refl _ _) (Nat.le_refl _) (by simp) ?_; (case hd => rfl); (case hg => rfl); (case hr => first | (go_simp; done) | (go_simp; rfl)); (case hp => exact (Reps.one (show Kd.M (Kd.int .i64) _ _ _ 931 [.int .i64 931] from rfl) (Reps.none _ _))); intro v161 w31 ho32 hb hg_ hnew_; clear hg_ hnew_; (first | rw [← Ny160.out] at ho32 | (simp only [Int.reduceToNat] at ho32; rw [← Ny160.out] at ho32)); have n0_ := aM (Kd.N_elder' (by (with_reducible repeat (first | apply Kd.N_alloc | apply Kd.N_drewN | apply Kd.N_drew)); exact HO145.out) (Kd.R_base ho32) hb); have n1_ := aM (Kd.R_below (by (with_reducible repeat (first | apply Kd.R_alloc | apply Kd.R_drewN | apply Kd.R_drew)); exact HO148.out) hb); have n2_ := aM (Kd.R_elder' (by (with_reducible repeat (first | apply Kd.R_alloc | apply Kd.R_drewN | apply Kd.R_drew)); exact HO152.out) (Kd.R_base ho32) hb); have n3_ := aM (Kd.R_elder' (by (with_reducible repeat (first | apply Kd.R_alloc | apply Kd.R_drewN | apply Kd.R_drew)); exact HO155.out) (Kd.R_base ho32) hb); have n4_ := aM (Kd.R_elder' (by (with_reducible repeat (first | apply Kd.R_alloc | apply Kd.R_drewN | apply Kd.R_drew)); exact HO158.out) (Kd.R_base ho32) hb); have n5_ := aM (Kd.R_lower (Kd.R_new' (Kd.R_new' (Kd.R_new' ho32 (Kd.R_lt (by (with_reducible repeat (first | apply Kd.R_alloc | apply Kd.R_drewN | apply Kd.R_drew)); exact HO152.out))) (Kd.R_lt (by (with_reducible repeat (first | apply Kd.R_alloc | apply Kd.R_drewN | apply Kd.R_drew)); exact HO155.out))) (Kd.R_lt (by (with_reducible repeat (first | apply Kd.R_alloc | apply Kd.R_drewN | apply Kd.R_drew)); exact HO158.out))) (bSz (by repeat (first | (with_reducible first | exact HB.out | apply bAl | apply pbN | apply bD1 | refine bSt ?_ GE149.out) | exact HB.out)))); have n6_ := aM (blk_below (g := gb149) (o := .cells #[.slice Ao19 y143.length co19, .slice none 0 0, .slice none 0 0, .slice none 0 0, .slice Ao18 y146.length co18, .slice none 0 0] 27 (0, 0)) (by (with_reducible repeat (first | refine bkN ?_ _ | refine bkD ?_ | refine bkA ?_ _)); exact BK149.out) hb); have n7_ := aM (bSp (by repeat (first | (with_reducible first | exact HB.out | apply bAl | apply pbN | apply bD1 | refine bSt ?_ GE149.out) | exact HB.out)) hb); clear HO145; clear HO148; clear HO152; clear HO155; clear HO158; clear BK149; clear HB; have HO145 := n0_; have HO148 := n1_; have HO152 := n2_; have HO155 := n3_; have HO158 := n4_; have HO162 := n5_; have BK149 := n6_; have HB := n7_; clear n0_ n1_ n2_ n3_ n4_ n5_ n6_ n7_; clear hb ho32; obtain ⟨Ao33, co33, eo33⟩ := Kd.R_slice HO162.out; subst eo33) | (go_at_call 18; (refine (casemap_Lower.calls _ _ y143 _ _ ([] : List (S43)) _ _ ([] : List (S43)) _ _ ([] : List (S43)) _ _ y146 _ _ ([] : List (S33)) _ _ y160 t163 _ ?side1 ?side2 ?side3 ?side4 ?side5 ?side6 ?side7 ?side8 ?side9 ?side10 ?side11 ?side12 ?side13 ?side14 A4.out).mono ?_); (case side1 => repeat (first | exact (Kd.N_reads' HO145.out).2.2 | (with_reducible refine Kd.C_alloc ?_ _) | (with_reducible refine Kd.C_drewN ?_ _) | (with_reducible refine Kd.C_drew ?_))); (case side2 => exact (Kd.N_reads' HO145.out).2.1); (case side3 => exact Kd.C_nil _ _); (case side4 => exact Nat.le_refl _); (case side5 => exact Kd.C_nil _ _); (case side6 => exact Nat.le_refl _); (case side7 => exact Kd.C_nil _ _); (case side8 => exact Nat.le_refl _); (case side9 => repeat (first | exact (Kd.R_reads' HO148.out).2.2 | (with_reducible refine Kd.C_alloc ?_ _) | (with_reducible refine Kd.C_drewN ?_ _) | (with_reducible refine Kd.C_drew ?_))); (case side10 => exact (Kd.R_reads' HO148.out).2.1); (case side11 => exact Kd.C_nil _ _); (case side12 => exact Nat.le_refl _); (case side13 => repeat (first | exact (Kd.R_reads' HO162.out).2.2 | (with_reducible refine Kd.C_alloc ?_ _) | (with_reducible refine Kd.C_drewN ?_ _) | (with_reducible refine Kd.C_drew ?_))); (case side14 => exact (Kd.R_reads' HO162.out).2.1); rintro e w34 ⟨v164, rfl, ho0, hb⟩; have n0_ := aM (Kd.N_elder' (by (with_reducible repeat (first | apply Kd.N_alloc | apply Kd.N_drewN | apply Kd.N_drew)); exact HO145.out) (Kd.R_base ho0) hb); have n1_ := aM (Kd.R_below (by (with_reducible repeat (first | apply Kd.R_alloc | apply Kd.R_drewN | apply Kd.R_drew)); exact HO148.out) hb); have n2_ := aM (Kd.R_elder' (by (with_reducible repeat (first | apply Kd.R_alloc | apply Kd.R_drewN | apply Kd.R_drew)); exact HO152.out) (Kd.R_base ho0) hb); have n3_ := aM (Kd.R_elder' (by (with_reducible repeat (first | apply Kd.R_alloc | apply Kd.R_drewN | apply Kd.R_drew)); exact HO155.out) (Kd.R_base ho0) hb); have n4_ := aM (Kd.R_elder' (by (with_reducible repeat (first | apply Kd.R_alloc | apply Kd.R_drewN | apply Kd.R_drew)); exact HO158.out) (Kd.R_base ho0) hb); have n5_ := aM (Kd.R_elder' (by (with_reducible repeat (first | apply Kd.R_alloc | apply Kd.R_drewN | apply Kd.R_drew)); exact HO162.out) (Kd.R_base ho0) hb); have n6_ := aM (Kd.R_lower (Kd.R_new' (Kd.R_new' (Kd.R_new' (Kd.R_new' ho0 (Kd.R_lt (by (with_reducible repeat (first | apply Kd.R_alloc | apply Kd.R_drewN | apply Kd.R_drew)); exact HO152.out))) (Kd.R_lt (by (with_reducible repeat (first | apply Kd.R_alloc | apply Kd.R_drewN | apply Kd.R_drew)); exact HO155.out))) (Kd.R_lt (by (with_reducible repeat (first | apply Kd.R_alloc | apply Kd.R_drewN | apply Kd.R_drew)); exact HO158.out))) (Kd.R_lt (by (with_reducible repeat (first | apply Kd.R_alloc | apply Kd.R_drewN | apply Kd.R_drew)); exact HO162.out))) (bSz (by repeat (first | (with_reducible first | exact HB.out | apply bAl | apply pbN | apply bD1 | refine bSt ?_ GE149.out) | exact HB.out)))); have n7_ := aM (blk_below (g := gb149) (o := .cells #[.slice Ao19 y143.length co19, .slice none 0 0, .slice none 0 0, .slice none 0 0, .slice Ao18 y146.length co18, .slice none 0 0] 27 (0, 0)) (by (with_reducible repeat (first | refine bkN ?_ _ | refine bkD ?_ | refine bkA ?_ _)); exact BK149.out) hb); have n8_ := aM (bSp (by repeat (first | (with_reducible first | exact HB.out | apply bAl | apply pbN | apply bD1 | refine bSt ?_ GE149.out) | exact HB.out)) hb); clear HO145; clear HO148; clear HO152; clear HO155; clear HO158; clear HO162; clear BK149; clear HB; have HO145 := n0_; have HO148 := n1_; have HO152 := n2_; have HO155 := n3_; have HO158 := n4_; have HO162 := n5_; have HO165 := n6_; have BK149 := n7_; have HB := n8_; clear n0_ n1_ n2_ n3_ n4_ n5_ n6_ n7_ n8_; (try clear hb); (try clear hb2); (try clear hk); (try clear hi); (try clear ho0)) | ((with_reducible refine gate_dst (N := 20) rfl ?_); (try (refine gate_guard (by rfl) ?_; dsimp only)); refine Kd.R_lit (Kd.int .i64) _ 3 ?hg (N := 20) ?hd (xs := ([963] : List Int)) (inner := [.int .i64 963]) (ok := fun _ => True) (okp := fun _ => True) ?hr ?hp (fun _ hk => hk) trivial (Below.refl _ _) (Nat.le_refl _) (by simp) ?_; (case hd => rfl); (case hg => rfl); (case hr => first | (go_simp; done) | (go_simp; rfl)); (case hp => exact (Reps.one (show Kd.M (Kd.int .i64) _ _ _ 963 [.int .i64 963] from rfl) (Reps.none _ _))); intro v167 w35 ho36 hb hg_ hnew_; clear hg_ hnew_; (first | rw [← Ny166.out] at ho36 | (simp only [Int.reduceToNat] at ho36; rw [← Ny166.out] at ho36)); have n0_ := aM (Kd.N_elder' (by (with_reducible repeat (first | apply Kd.N_alloc | apply Kd.N_drewN | apply Kd.N_drew)); exact HO145.out) (Kd.R_base ho36) hb); have n1_ := aM (Kd.R_below (by (with_reducible repeat (first | apply Kd.R_alloc | apply Kd.R_drewN | apply Kd.R_drew)); exact HO148.out) hb); have n2_ := aM (Kd.R_elder' (by (with_reducible repeat (first | apply Kd.R_alloc | apply Kd.R_drewN | apply Kd.R_drew)); exact HO152.out) (Kd.R_base ho36) hb); have n3_ := aM (Kd.R_elder' (by (with_reducible repeat (first | apply Kd.R_alloc | apply Kd.R_drewN | apply Kd.R_drew)); exact HO155.out) (Kd.R_base ho36) hb); have n4_ := aM (Kd.R_elder' (by (with_reducible repeat (first | apply Kd.R_alloc | apply Kd.R_drewN | apply Kd.R_drew)); exact HO158.out) (Kd.R_base ho36) hb); have n5_ := aM (Kd.R_elder' (by (with_reducible repeat (first | apply Kd.R_alloc | apply Kd.R_drewN | apply Kd.R_drew)); exact HO162.out) (Kd.R_base ho36) hb); have n6_ := aM (Kd.R_elder' (by (with_reducible repeat (first | apply Kd.R_alloc | apply Kd.R_drewN | apply Kd.R_drew)); exact HO165.out) (Kd.R_base ho36) hb); have n7_ := aM (Kd.R_lower (Kd.R_new' (Kd.R_new' (Kd.R_new' (Kd.R_new' (Kd.R_new' ho36 (Kd.R_lt (by (with_reducible repeat (first | apply Kd.R_alloc | apply Kd.R_drewN | apply Kd.R_drew)); exact HO152.out))) (Kd.R_lt (by (with_reducible repeat (first | apply Kd.R_alloc | apply Kd.R_drewN | apply Kd.R_drew)); exact HO155.out))) (Kd.R_lt (by (with_reducible repeat (first | apply Kd.R_alloc | apply Kd.R_drewN | apply Kd.R_drew)); exact HO158.out))) (Kd.R_lt (by (with_reducible repeat (first | apply Kd.R_alloc | apply Kd.R_drewN | apply Kd.R_drew)); exact HO162.out))) (Kd.R_lt (by (with_reducible repeat (first | apply Kd.R_alloc | apply Kd.R_drewN | apply Kd.R_drew)); exact HO165.out))) (bSz (by repeat (first | (with_reducible first | exact HB.out | apply bAl | apply pbN | apply bD1 | refine bSt ?_ GE149.out) | exact HB.out)))); have n8_ := aM (blk_below (g := gb149) (o := .cells #[.slice Ao19 y143.length co19, .slice none 0 0, .slice none 0 0, .slice none 0 0, .slice Ao18 y146.length co18, .slice none 0 0] 27 (0, 0)) (by (with_reducible repeat (first | refine bkN ?_ _ | refine bkD ?_ | refine bkA ?_ _)); exact BK149.out) hb); have n9_ := aM (bSp (by repeat (first | (with_reducible first | exact HB.out | apply bAl | apply pbN | apply bD1 | refine bSt ?_ GE149.out) | exact HB.out)) hb); clear HO145; clear HO148; clear HO152; clear HO155; clear HO158; clear HO162; clear HO165; clear BK149; clear HB; have HO145 := n0_; have HO148 := n1_; have HO152 := n2_; have HO155 := n3_; have HO158 := n4_; have HO162 := n5_; have HO165 := n6_; have HO168 := n7_; have BK149 := n8_; have HB := n9_; clear n0_ n1_ n2_ n3_ n4_ n5_ n6_ n7_ n8_ n9_; clear hb ho36; obtain ⟨Ao37, co37, eo37⟩ := Kd.R_slice HO165.out; subst eo37; obtain ⟨Ao38, co38, eo38⟩ := Kd.R_slice HO168.out; subst eo38) | (go_at_call 16; (with_reducible refine (r01_Equal.calls k _ _ t163 _ _ y166 true _ ?side1 ?side2 ?side3 ?side4 A5.out).mono ?_); (case side1 => repeat (first | exact (Kd.R_reads' HO165.out).2.2 | (with_reducible refine Kd.C_alloc ?_ _) | (with_reducible refine Kd.C_drewN ?_ _) | (with_reducible refine Kd.C_drew ?_))); (case side2 => exact (Kd.R_reads' HO165.out).2.1); (case side3 => repeat (first | exact (Kd.R_reads' HO168.out).2.2 | (with_reducible refine Kd.C_alloc ?_ _) | (with_reducible refine Kd.C_drewN ?_ _) | (with_reducible refine Kd.C_drew ?_))); (case side4 => exact (Kd.R_reads' HO168.out).2.1); rintro e w' ⟨rfl, ⟨nd, rfl⟩⟩; have hcz39_0 : w35.cell? ⟨gb149, 0, none⟩ = some (.slice Ao19 y143.length co19) := (bkC BK149.out 0).trans rfl; have hcz39_1 : w35.cell? ⟨gb149, 1, none⟩ = some (.slice none 0 0) := (bkC BK149.out 1).trans rfl; have hcz39_2 : w35.cell? ⟨gb149, 2, none⟩ = some (.slice none 0 0) := (bkC BK149.out 2).trans rfl; have hcz39_3 : w35.cell? ⟨gb149, 3, none⟩ = some (.slice none 0 0) := (bkC BK149.out 3).trans rfl; have hcz39_4 : w35.cell? ⟨gb149, 4, none⟩ = some (.slice Ao18 y146.length co18) := (bkC BK149.out 4).trans rfl; have hcz39_5 : w35.cell? ⟨gb149, 5, none⟩ = some (.slice none 0 0) := (bkC BK149.out 5).trans rfl; have hfz39_0 := bkF BK149.out 0; have hfz39_1 := bkF BK149.out 1; have hfz39_2 := bkF BK149.out 2; have hfz39_3 := bkF BK149.out 3; have hfz39_4 := bkF BK149.out 4; have hfz39_5 := bkF BK149.out 5) | ((with_reducible refine gate_dst (N := 25) rfl ?_); (try (refine gate_guard (by rfl) ?_; dsimp only)); refine Kd.R_lit (Kd.int .i64) _ 3 ?hg (N := 25) ?hd (xs := ([913, 931] : List Int)) (inner := [.int .i64 913, .int .i64 931]) (ok := fun _ => True) (okp := fun _ => True) ?hr ?hp (fun _ hk => hk) trivial (Below.refl _ _) (Nat.le_refl _) (by simp) ?_; (case hd => rfl); (case hg => rfl); (case hr => first | (go_simp; done) | (go_simp; rfl)); (case hp => exact (Reps.one (show Kd.M (Kd.int .i64) _ _ _ 913 [.int .i64 913] from rfl) (Reps.one (show Kd.M (Kd.int .i64) _ _ _ 931 [.int .i64 931] from rfl) (Reps.none _ _)))); intro v171 w40 ho41 hb hg_ hnew_; clear hg_ hnew_; (first | rw [← Ny170.out] at ho41 | (simp only [Int.reduceToNat] at ho41; rw [← Ny170.out] at ho41)); have n0_ := aM (Kd.N_elder' (by (with_reducible repeat (first | apply Kd.N_alloc | apply Kd.N_drewN | apply Kd.N_drew)); exact HO145.out) (Kd.R_base ho41) hb); have n1_ := aM (Kd.R_below (by (with_reducible repeat (first | apply Kd.R_alloc | apply Kd.R_drewN | apply Kd.R_drew)); exact HO148.out) hb); have n2_ := aM (Kd.R_elder' (by (with_reducible repeat (first | apply Kd.R_alloc | apply Kd.R_drewN | apply Kd.R_drew)); exact HO152.out) (Kd.R_base ho41) hb); have n3_ := aM (Kd.R_elder' (by (with_reducible repeat (first | apply Kd.R_alloc | apply Kd.R_drewN | apply Kd.R_drew)); exact HO155.out) (Kd.R_base ho41) hb); have n4_ := aM (Kd.R_elder' (by (with_reducible repeat (first | apply Kd.R_alloc | apply Kd.R_drewN | apply Kd.R_drew)); exact HO158.out) (Kd.R_base ho41) hb); have n5_ := aM (Kd.R_elder' (by (with_reducible repeat (first | apply Kd.R_alloc | apply Kd.R_drewN | apply Kd.R_drew)); exact HO162.out) (Kd.R_base ho41) hb); have n6_ := aM (Kd.R_elder' (by (with_reducible repeat (first | apply Kd.R_alloc | apply Kd.R_drewN | apply Kd.R_drew)); exact HO165.out) (Kd.R_base ho41) hb); have n7_ := aM (Kd.R_elder' (by (with_reducible repeat (first | apply Kd.R_alloc | apply Kd.R_drewN | apply Kd.R_drew)); exact HO168.out) (Kd.R_base ho41) hb); have n8_ := aM (Kd.R_lower (Kd.R_new' (Kd.R_new' (Kd.R_new' (Kd.R_new' (Kd.R_new' (Kd.R_new' ho41 (Kd.R_lt (by (with_reducible repeat (first | apply Kd.R_alloc | apply Kd.R_drewN | apply Kd.R_drew)); exact HO152.out))) (Kd.R_lt (by (with_reducible repeat (first | apply Kd.R_alloc | apply Kd.R_drewN | apply Kd.R_drew)); exact HO155.out))) (Kd.R_lt (by (with_reducible repeat (first | apply Kd.R_alloc | apply Kd.R_drewN | apply Kd.R_drew)); exact HO158.out))) (Kd.R_lt (by (with_reducible repeat (first | apply Kd.R_alloc | apply Kd.R_drewN | apply Kd.R_drew)); exact HO162.out))) (Kd.R_lt (by (with_reducible repeat (first | apply Kd.R_alloc | apply Kd.R_drewN | apply Kd.R_drew)); exact HO165.out))) (Kd.R_lt (by (with_reducible repeat (first | apply Kd.R_alloc | apply Kd.R_drewN | apply Kd.R_drew)); exact HO168.out))) (bSz (by repeat (first | (with_reducible first | exact HB.out | apply bAl | apply pbN | apply bD1 | refine bSt ?_ GE149.out) | exact HB.out)))); have n9_ := aM (blk_below (g := gb149) (o := .cells #[.slice Ao19 y143.length co19, .slice none 0 0, .slice none 0 0, .slice none 0 0, .slice Ao18 y146.length co18, .slice none 0 0] 27 (0, 0)) (by (with_reducible repeat (first | refine bkN ?_ _ | refine bkD ?_ | refine bkA ?_ _)); exact BK149.out) hb); have n10_ := aM (bSp (by repeat (first | (with_reducible first | exact HB.out | apply bAl | apply pbN | apply bD1 | refine bSt ?_ GE149.out) | exact HB.out)) hb); clear HO145; clear HO148; clear HO152; clear HO155; clear HO158; clear HO162; clear HO165; clear HO168; clear BK149; clear HB; have HO145 := n0_; have HO148 := n1_; have HO152 := n2_; have HO155 := n3_; have HO158 := n4_; have HO162 := n5_; have HO165 := n6_; have HO168 := n7_; have HO172 := n8_; have BK149 := n9_; have HB := n10_; clear n0_ n1_ n2_ n3_ n4_ n5_ n6_ n7_ n8_ n9_ n10_; clear hb ho41; obtain ⟨Ao42, co42, eo42⟩ := Kd.R_slice HO172.out; subst eo42) | (go_at_call 22; (refine (casemap_Final.calls _ _ y143 _ _ ([] : List (S43)) _ _ ([] : List (S43)) _ _ ([] : List (S43)) _ _ y146 _ _ ([] : List (S33)) _ _ y170 1 true _ ?side1 ?side2 ?side3 ?side4 ?side5 ?side6 ?side7 ?side8 ?side9 ?side10 ?side11 ?side12 ?side13 ?side14 A7.out).mono ?_); (case side1 => repeat (first | exact (Kd.N_reads' HO145.out).2.2 | (with_reducible refine Kd.C_alloc ?_ _) | (with_reducible refine Kd.C_drewN ?_ _) | (with_reducible refine Kd.C_drew ?_))); (case side2 => exact (Kd.N_reads' HO145.out).2.1); (case side3 => exact Kd.C_nil _ _); (case side4 => exact Nat.le_refl _); (case side5 => exact Kd.C_nil _ _); (case side6 => exact Nat.le_refl _); (case side7 => exact Kd.C_nil _ _); (case side8 => exact Nat.le_refl _); (case side9 => repeat (first | exact (Kd.R_reads' HO148.out).2.2 | (with_reducible refine Kd.C_alloc ?_ _) | (with_reducible refine Kd.C_drewN ?_ _) | (with_reducible refine Kd.C_drew ?_))); (case side10 => exact (Kd.R_reads' HO148.out).2.1); (case side11 => exact Kd.C_nil _ _); (case side12 => exact Nat.le_refl _); (case side13 => repeat (first | exact (Kd.R_reads' HO172.out).2.2 | (with_reducible refine Kd.C_alloc ?_ _) | (with_reducible refine Kd.C_drewN ?_ _) | (with_reducible refine Kd.C_drew ?_))); (case side14 => exact (Kd.R_reads' HO172.out).2.1); rintro e w43 ⟨rfl, hb⟩; have n0_ := aM (Kd.N_below (by (with_reducible repeat (first | apply Kd.N_alloc | apply Kd.N_drewN | apply Kd.N_drew)); exact HO145.out) hb); have n1_ := aM (Kd.R_below (by (with_reducible repeat (first | apply Kd.R_alloc | apply Kd.R_drewN | apply Kd.R_drew)); exact HO148.out) hb); have n2_ := aM (Kd.R_below (by (with_reducible repeat (first | apply Kd.R_alloc | apply Kd.R_drewN | apply Kd.R_drew)); exact HO152.out) hb); have n3_ := aM (Kd.R_below (by (with_reducible repeat (first | apply Kd.R_alloc | apply Kd.R_drewN | apply Kd.R_drew)); exact HO155.out) hb); have n4_ := aM (Kd.R_below (by (with_reducible repeat (first | apply Kd.R_alloc | apply Kd.R_drewN | apply Kd.R_drew)); exact HO158.out) hb); have n5_ := aM (Kd.R_below (by (with_reducible repeat (first | apply Kd.R_alloc | apply Kd.R_drewN | apply Kd.R_drew)); exact HO162.out) hb); have n6_ := aM (Kd.R_below (by (with_reducible repeat (first | apply Kd.R_alloc | apply Kd.R_drewN | apply Kd.R_drew)); exact HO165.out) hb); have n7_ := aM (Kd.R_below (by (with_reducible repeat (first | apply Kd.R_alloc | apply Kd.R_drewN | apply Kd.R_drew)); exact HO168.out) hb); have n8_ := aM (Kd.R_below (by (with_reducible repeat (first | apply Kd.R_alloc | apply Kd.R_drewN | apply Kd.R_drew)); exact HO172.out) hb); have n9_ := aM (blk_below (g := gb149) (o := .cells #[.slice Ao19 y143.length co19, .slice none 0 0, .slice none 0 0, .slice none 0 0, .slice Ao18 y146.length co18, .slice none 0 0] 27 (0, 0)) (by (with_reducible repeat (first | refine bkN ?_ _ | refine bkD ?_ | refine bkA ?_ _)); exact BK149.out) hb); have n10_ := aM (bSp (by repeat (first | (with_reducible first | exact HB.out | apply bAl | apply pbN | apply bD1 | refine bSt ?_ GE149.out) | exact HB.out)) hb); clear HO145; clear HO148; clear HO152; clear HO155; clear HO158; clear HO162; clear HO165; clear HO168; clear HO172; clear BK149; clear HB; have HO145 := n0_; have HO148 := n1_; have HO152 := n2_; have HO155 := n3_; have HO158 := n4_; have HO162 := n5_; have HO165 := n6_; have HO168 := n7_; have HO172 := n8_; have BK149 := n9_; have HB := n10_; clear n0_ n1_ n2_ n3_ n4_ n5_ n6_ n7_ n8_ n9_ n10_; (try clear hb); (try clear hb2); (try clear hk); (try clear hi)))
   go_ret
   exact ⟨by first | rfl | (simp [eN, eS] <;> rfl) | (simp [*, eN, eS] <;> rfl), by repeat (first | (with_reducible first | exact HB.out | apply bAl | apply pbN | apply bD1 | refine bSt ?_ GE149.out) | exact HB.out)⟩
  ·replace c6 := Bool.eq_false_iff.mpr c6
   subst c6
   rw [if_neg (show ¬ (false = true) by decide)] at H
   cases H
 ·replace c3 := Bool.eq_false_iff.mpr c3
  subst c3
  rw [if_neg (show ¬ (false = true) by decide)] at H
  cases H
theorem w37_alive.calls (r : Bool) (w : World) (h : w37_alive.f = some r) : Calls Try.prog 14 #[] w fun e w' => e = .returned (.bool r) ∧ Below w.heap.size w w' := by
 obtain rfl : true = r := Option.some.inj h
 exact aliveP_calls 20 w aliveP_ok
end Go.Proofs.Ythnkmcfhpjmihaa.Q
end
section
namespace Go.Proofs.Ythnkmcfhpjmihaa.Q
open Go.RowKit Go.Proofs.YthnkmcfhpjmihaaW.PrintWords Go.Proofs.YthnkmcfhpjmihaaW.PrintLast Go.Proofs.YthnkmcfhpjmihaaW.PrintMore
set_option linter.unusedVariables false
/-- The first cased position from i on, m positions at most. -/
def firstN (c : CaseS) (text : List Int) : Nat → Nat → Nat
 | 0, i => i
 | m + 1, i => if hasL c.ca (text.getD i 0) then i else firstN c text m (i + 1)
def tailN (c : CaseS) (text : List Int) : Nat → Nat → List Int
 | 0, _ => []
 | m + 1, j => mapdS c.ti (text.getD j 0) ++ titledS c text m (j + 1) true
theorem firstN_bounds (c : CaseS) (text : List Int) : ∀ m i, i ≤ firstN c text m i ∧ firstN c text m i ≤ i + m
 | 0, i => ⟨Nat.le_refl _, Nat.le_refl _⟩
 | m + 1, i => by
  have := firstN_bounds c text m (i + 1)
  unfold firstN
  split <;> omega
theorem titled_first (c : CaseS) (text : List Int) : ∀ m i, i + m ≤ text.length → titledS c text m i false = (text.take (firstN c text m i)).drop i ++ tailN c text (i + m - firstN c text m i) (firstN c text m i)
 | 0, i, h => by
  unfold firstN titledS
  rw [Nat.add_zero, Nat.sub_self]
  simp [tailN]
 | m + 1, i, h => by
  have hb := firstN_bounds c text m (i + 1)
  have hlt : i < text.length := by omega
  unfold firstN titledS
  by_cases hh : hasL c.ca (text.getD i 0) = true
  ·rw [if_neg (by decide), if_pos hh, if_pos hh]
   have e : i + (m + 1) - i = m + 1 := by omega
   rw [e, tailN]
   have : (text.take i).drop i = [] := List.drop_eq_nil_of_le (by rw [List.length_take]; omega)
   rw [this, List.nil_append]
  ·rw [if_neg (by decide), if_neg hh, if_neg hh, titled_first c text m (i + 1) (by omega)]
   have e : i + (m + 1) = i + 1 + m := by omega
   rw [e, ← List.cons_append]
   congr 1
   have hl : i < (text.take (firstN c text m (i + 1))).length := by rw [List.length_take]; omega
   rw [List.drop_eq_getElem_cons hl]
   congr 1
   rw [List.getElem_take, List.getD_eq_getElem?_getD, List.getElem?_eq_getElem hlt]
   rfl
/-- What is still to be written of a part whose first cased position is f, from j on. -/
def remN (c : CaseS) (text : List Int) (f hi j : Nat) : List Int := if j = f then tailN c text (hi - f) f else titledS c text (hi - j) j true
theorem remN_first (c : CaseS) (text : List Int) (f hi : Nat) (h : f < hi) : remN c text f hi f = mapdS c.ti (text.getD f 0) ++ remN c text f hi (f + 1) := by
 unfold remN
 obtain ⟨m, hm⟩ : ∃ m, hi - f = m + 1 := ⟨hi - f - 1, by omega⟩
 rw [if_pos rfl, if_neg (by omega), hm, tailN, show hi - (f + 1) = m by omega]
theorem remN_next (c : CaseS) (text : List Int) (f hi j : Nat) (h : j < hi) (hne : f < j) : remN c text f hi j = lowerS c text j ++ remN c text f hi (j + 1) := by
 unfold remN
 obtain ⟨m, hm⟩ : ∃ m, hi - j = m + 1 := ⟨hi - j - 1, by omega⟩
 rw [if_neg (by omega), if_neg (by omega), hm, titledS, if_pos rfl, show hi - (j + 1) = m by omega]
theorem remN_end (c : CaseS) (text : List Int) (f hi : Nat) : remN c text f hi hi = [] := by
 unfold remN
 split
 ·rename_i h; rw [h, Nat.sub_self]; rfl
 ·rw [Nat.sub_self]; rfl
/-- A part, written. -/
theorem title_part (c : CaseS) (text : List Int) (a lo hi : Nat) (h1 : a ≤ lo) (h2 : lo ≤ hi) (h3 : hi ≤ text.length) (f : Nat) (hf : firstN c text (hi - lo) lo = f) :
  (text.take lo).drop a ++ titledS c text (hi - lo) lo false = (text.take f).drop a ++ remN c text f hi f := by
 have hb := firstN_bounds c text (hi - lo) lo
 rw [hf] at hb
 rw [titled_first c text (hi - lo) lo (by omega), hf]
 unfold remN
 rw [if_pos rfl, show lo + (hi - lo) - f = hi - f by omega, ← List.append_assoc]
 congr 1
 have e : text.take f = text.take lo ++ (text.take f).drop lo := by
  have h := (List.take_append_drop lo (text.take f)).symm
  rw [List.take_take, Nat.min_eq_left (by omega)] at h
  exact h
 have e2 : (text.take f).drop a = (text.take lo).drop a ++ (text.take f).drop lo := by
  conv => lhs; rw [e]
  rw [List.drop_append_of_le_length (by rw [List.length_take]; omega)]
 exact e2.symm
theorem firstN_next (c : CaseS) (text : List Int) (f hi : Nat) (h : f < hi) (hh : hasL c.ca (text.getD f 0) = false) : firstN c text (hi - f) f = firstN c text (hi - (f + 1)) (f + 1) := by
 obtain ⟨m, hm⟩ : ∃ m, hi - f = m + 1 := ⟨hi - f - 1, by omega⟩
 rw [hm, firstN, hh, if_neg (by decide), show hi - (f + 1) = m by omega]
theorem firstN_hit (c : CaseS) (text : List Int) (f hi : Nat) (h : f < hi) (hh : hasL c.ca (text.getD f 0) = true) : firstN c text (hi - f) f = f := by
 obtain ⟨m, hm⟩ : ∃ m, hi - f = m + 1 := ⟨hi - f - 1, by omega⟩
 rw [hm, firstN, hh, if_pos rfl]
theorem firstN_end (c : CaseS) (text : List Int) (hi : Nat) : firstN c text (hi - hi) hi = hi := by rw [Nat.sub_self]; rfl
theorem rowNe {w : World} {b : Nat} {cs : Array Value} {t : TypeId} {base : Nat} {ok : Nat → Prop} {v : Value} {xs : List Int} (h : w.heap[b]? = some (.cells cs t (0, 0))) (ht : t ≠ 3) (hr : Kd.R (Kd.int .i64) 3 w base ok v xs) : some b ≠ v.ownBlock := fun e => by
 obtain ⟨cells, hc⟩ := Kd.R_typed hr b e.symm
 rw [h] at hc
 injection hc with hc
 injection hc with _ hc2
 exact ht hc2
theorem within_cons (p : Rg) (l : List Rg) (a : Int) (n : Nat) : withinS (p :: l) a n = (decide (a ≤ p.f0) && decide (p.f0 ≤ p.f1) && decide (p.f1 ≤ (n : Int)) && withinS l p.f1 n) := rfl
theorem drop_rdG (l : List Rg) (k : Nat) (h : k < l.length) : l.drop k = rd_T33 l (k : Int) :: l.drop (k + 1) := by
 rw [List.drop_eq_getElem_cons h]
 unfold rd_T33
 rw [Int.toNat_natCast, List.getD_eq_getElem?_getD, List.getElem?_eq_getElem h]; rfl
theorem titleA_len {c : CaseS} (text : List Int) (p : Rg) (l : List Rg) (a lo hi : Nat) (h0 : p.f0 = (lo : Int)) (h1 : p.f1 = (hi : Int)) : titleA c text (p :: l) a = (text.take lo).drop a ++ titledS c text (hi - lo) lo false ++ titleA c text l hi := by
 rw [titleA, h0, h1, Int.toNat_natCast, Int.toNat_natCast]
set_option maxHeartbeats 16000000 in
set_option maxRecDepth 100000 in
theorem casemap_Title.calls (A0_0 : Option Addr) (c0_0 : Nat) (l0_0 : List Mp) (A0_1 : Option Addr) (c0_1 : Nat) (l0_1 : List Mp) (A0_2 : Option Addr) (c0_2 : Nat) (l0_2 : List Mp) (A0_3 : Option Addr) (c0_3 : Nat) (l0_3 : List Mp) (A0_4 : Option Addr) (c0_4 : Nat) (l0_4 : List Rg) (A0_5 : Option Addr) (c0_5 : Nat) (l0_5 : List Rg) (A1 : Option Addr) (c1 : Nat) (l1 : List Int) (A2 : Option Addr) (c2 : Nat) (l2 : List Rg) (r : List Int) (w : World) (hr0_0 : Kd.C k43 w A0_0 l0_0.length l0_0) (hc0_0 : l0_0.length ≤ c0_0) (hr0_1 : Kd.C k43 w A0_1 l0_1.length l0_1) (hc0_1 : l0_1.length ≤ c0_1) (hr0_2 : Kd.C k43 w A0_2 l0_2.length l0_2) (hc0_2 : l0_2.length ≤ c0_2) (hr0_3 : Kd.C k43 w A0_3 l0_3.length l0_3) (hc0_3 : l0_3.length ≤ c0_3) (hr0_4 : Kd.C k33 w A0_4 l0_4.length l0_4) (hc0_4 : l0_4.length ≤ c0_4) (hr0_5 : Kd.C k33 w A0_5 l0_5.length l0_5) (hc0_5 : l0_5.length ≤ c0_5) (hr1 : Kd.C (Kd.int .i64) w A1 l1.length l1) (hc1 : l1.length ≤ c1) (hr2 : Kd.C k33 w A2 l2.length l2) (hc2 : l2.length ≤ c2) (h : casemap_Title.f l0_0 l0_1 l0_2 l0_3 l0_4 l0_5 l1 l2 = some r) :
  Calls Try.prog 15 #[.agg #[.slice A0_0 l0_0.length c0_0, .slice A0_1 l0_1.length c0_1, .slice A0_2 l0_2.length c0_2, .slice A0_3 l0_3.length c0_3, .slice A0_4 l0_4.length c0_4, .slice A0_5 l0_5.length c0_5], .slice A1 l1.length c1, .slice A2 l2.length c2] w fun e w' => ∃ v0_ : Value, e = .returned (v0_) ∧ Kd.R (Kd.int .i64) 3 w' w.heap.size (fun _ => True) v0_ r ∧ Below w.heap.size w w' := by
 unfold casemap_Title.f at h
 by_cases hok : okC ⟨l0_0, l0_1, l0_2, l0_3, l0_4, l0_5⟩ = true ∧ okT l1 = true ∧ l2.length < 100000
 ·rw [if_pos hok] at h
  injection h with h
  obtain ⟨hok, hot, hl2⟩ := hok
  have hlt : l1.length < 100000 := by unfold okT at hot; exact oD hot
  obtain ⟨d1, d2, d3, d4, d5⟩ := caseData_ok hok
  have HTS := aM (show r = if withinS l2 0 l1.length then titleA (caseData ⟨l0_0, l0_1, l0_2, l0_3, l0_4, l0_5⟩) l1 l2 0 else l1 from h.symm)
  have HBX := aM (bAl (Below.refl w.heap.size w) (Obj.cells #[Value.slice A0_0 l0_0.length c0_0, Value.slice A0_1 l0_1.length c0_1, Value.slice A0_2 l0_2.length c0_2, Value.slice A0_3 l0_3.length c0_3, Value.slice A0_4 l0_4.length c0_4, Value.slice A0_5 l0_5.length c0_5] 27))
  have HOK := aM hok
  have HRT := aM hr1
  have HCT := aM hc1
  have HRP := aM hr2
  have HCP := aM hc2
  have HLT := aM hlt
  have HL2 := aM hl2
  have HD := aM (And.intro d1 (And.intro d2 (And.intro d3 (And.intro d4 d5))))
  have hu := Try.underlying27
  have HR0 := aM hr0_0
  have HC0 := aM hc0_0
  have HR1 := aM hr0_1
  have HC1 := aM hc0_1
  have HR2 := aM hr0_2
  have HC2 := aM hc0_2
  have HR3 := aM hr0_3
  have HC3 := aM hc0_3
  have HR4 := aM hr0_4
  have HC4 := aM hc0_4
  have HR5 := aM hr0_5
  have HC5 := aM hc0_5
  clear h hok hot hl2 hlt d1 d2 d3 d4 d5 hr1 hc1 hr2 hc2 hr0_0 hc0_0 hr0_1 hc0_1 hr0_2 hc0_2 hr0_3 hc0_3 hr0_4 hc0_4 hr0_5 hc0_5
  have HCLF : Aside0 (slices_Clone_int_int.f l1 = some l1) := ⟨by unfold slices_Clone_int_int.f; rw [if_pos (by have := HLT.out; omega)]⟩
  go_enter Try.func15, Try.ntmps15
  go_upto_region 2 with (go_at_call 30; (with_reducible refine (open_calls A0_0 c0_0 l0_0 A0_1 c0_1 l0_1 A0_2 c0_2 l0_2 A0_3 c0_3 l0_3 A0_4 c0_4 l0_4 A0_5 c0_5 l0_5 A1 c1 l1 _ (Kd.C_below HR0.out HBX.out) HC0.out (Kd.C_below HR1.out HBX.out) HC1.out (Kd.C_below HR2.out HBX.out) HC2.out (Kd.C_below HR3.out HBX.out) HC3.out (Kd.C_below HR4.out HBX.out) HC4.out (Kd.C_below HR5.out HBX.out) HC5.out (Kd.C_below HRT.out HBX.out) HCT.out HOK.out).mono ?_); rintro e w2 ⟨b, rfl, hm, hb⟩; have HM := aM hm; have HB2 := aM (bSp HBX.out hb); clear hm hb)
  generalize caseData ⟨l0_0, l0_1, l0_2, l0_3, l0_4, l0_5⟩ = d at *
  go_wp2
  go_loopw [8, 22] (fun av i wr => ∃ (k : Nat) (a : Int), av = .int .i64 a ∧ i = .int .i64 k ∧ Aside0 (k ≤ l2.length ∧ 0 ≤ a) ∧ Aside0 (withinS l2 0 l1.length = withinS (l2.drop k) a l1.length) ∧ Aside0 (Mpr wr b d l1) ∧ Aside0 (Below w.heap.size w wr)) (fun _ i _ => l2.length - (intOf i).toNat)
  case atStart => exact ⟨0, 0, rfl, rfl, ⟨Nat.zero_le _, Int.le_refl _⟩, ⟨rfl⟩, HM, HB2⟩
  case round =>
   clear HB2 HM
   obtain ⟨k, a, rfl, rfl, HK, HWI, HM, HB⟩ := hrel
   by_cases hlt : k < l2.length
   ·have hwi := HWI.out
    obtain ⟨ad, e, x0, x1⟩ := at_T33 (Kd.C_below HRP.out HB.out) (k : Int) (by omega) (by omega)
    cases e
    rw [Int.toNat_natCast] at x0 x1
    have hp1 : (0 ≤ (k : Int)) = True := eq_true (by omega)
    have hp2 : ((k : Int) < (l2.length : Int)) = True := eq_true (by omega)
    have hdl : decide ((k : Int) < (l2.length : Int)) = true := dT (by omega)
    have hw : wrap64 ((k : Int) + 1) = (k : Int) + 1 := by have := HL2.out; unfold wrap64; omega
    have hdr := drop_rdG l2 k hlt
    have HLK := aM hlt
    generalize rd_T33 l2 (k : Int) = p at *
    rw [hdr, within_cons] at hwi
    by_cases g0 : p.f0 < a
    ·have y0 : decide (p.f0 < a) = true := dT g0
     have HF := aM (show withinS l2 0 l1.length = false by rw [hwi]; rw [decide_eq_false (by omega)]; rfl)
     clear hwi hdr hlt
     go_wp2_with (first | (go_at_call 31; (with_reducible refine (slices_Clone_int_int.calls A1 c1 l1 l1 _ ?s1 HCT.out HCLF.out).mono ?_); (case s1 => exact Kd.C_below HRT.out (by repeat (first | (with_reducible first | exact HB.out | apply bAl | apply pbN | apply bD1) | exact HB.out))); rintro e w3 ⟨v3, rfl, hv, hb⟩; have HV := aM (Kd.R_lower hv (bSz (show Below w.heap.size w _ from (by repeat (first | (with_reducible first | exact HB.out | apply bAl | apply pbN | apply bD1) | exact HB.out))))); have HB3 := aM (bSp (show Below w.heap.size w _ from (by repeat (first | (with_reducible first | exact HB.out | apply bAl | apply pbN | apply bD1) | exact HB.out))) hb); clear hv hb))
     go_ret
     rw [HTS.out, HF.out, if_neg (by decide)]
     exact ⟨v3, rfl, HV.out, HB3.out⟩
    ·have y0 : decide (p.f0 < a) = false := decide_eq_false g0
     by_cases g1 : p.f1 < p.f0
     ·have y1 : decide (p.f1 < p.f0) = true := dT g1
      have HF := aM (show withinS l2 0 l1.length = false by rw [hwi]; rw [decide_eq_false (by omega : ¬ p.f0 ≤ p.f1)]; simp)
      clear hwi hdr hlt
      go_wp2_with (first | (go_at_call 31; (with_reducible refine (slices_Clone_int_int.calls A1 c1 l1 l1 _ ?s1 HCT.out HCLF.out).mono ?_); (case s1 => exact Kd.C_below HRT.out (by repeat (first | (with_reducible first | exact HB.out | apply bAl | apply pbN | apply bD1) | exact HB.out))); rintro e w3 ⟨v3, rfl, hv, hb⟩; have HV := aM (Kd.R_lower hv (bSz (show Below w.heap.size w _ from (by repeat (first | (with_reducible first | exact HB.out | apply bAl | apply pbN | apply bD1) | exact HB.out))))); have HB3 := aM (bSp (show Below w.heap.size w _ from (by repeat (first | (with_reducible first | exact HB.out | apply bAl | apply pbN | apply bD1) | exact HB.out))) hb); clear hv hb))
      go_ret
      rw [HTS.out, HF.out, if_neg (by decide)]
      exact ⟨v3, rfl, HV.out, HB3.out⟩
     ·have y1 : decide (p.f1 < p.f0) = false := decide_eq_false g1
      by_cases g2 : (l1.length : Int) < p.f1
      ·have y2 : decide (p.f1 > (l1.length : Int)) = true := dT g2
       have HF := aM (show withinS l2 0 l1.length = false by rw [hwi]; rw [decide_eq_false (by omega : ¬ p.f1 ≤ (l1.length : Int))]; simp)
       clear hwi hdr hlt
       go_wp2_with (first | (go_at_call 31; (with_reducible refine (slices_Clone_int_int.calls A1 c1 l1 l1 _ ?s1 HCT.out HCLF.out).mono ?_); (case s1 => exact Kd.C_below HRT.out (by repeat (first | (with_reducible first | exact HB.out | apply bAl | apply pbN | apply bD1) | exact HB.out))); rintro e w3 ⟨v3, rfl, hv, hb⟩; have HV := aM (Kd.R_lower hv (bSz (show Below w.heap.size w _ from (by repeat (first | (with_reducible first | exact HB.out | apply bAl | apply pbN | apply bD1) | exact HB.out))))); have HB3 := aM (bSp (show Below w.heap.size w _ from (by repeat (first | (with_reducible first | exact HB.out | apply bAl | apply pbN | apply bD1) | exact HB.out))) hb); clear hv hb))
       go_ret
       rw [HTS.out, HF.out, if_neg (by decide)]
       exact ⟨v3, rfl, HV.out, HB3.out⟩
      ·have y2 : decide (p.f1 > (l1.length : Int)) = false := decide_eq_false g2
       have HWN := aM (show withinS l2 0 l1.length = withinS (l2.drop (k + 1)) p.f1 l1.length by rw [hwi, dT (by omega), dT (by omega), dT (by omega)]; rfl)
       have HPOS := aM (show 0 ≤ p.f1 by have := HK.out.2; omega)
       clear hwi hdr hlt g0 g1 g2
       go_wp2
       go_roundw
       case rel => exact ⟨k + 1, p.f1, rfl, by rw [hw]; rfl, ⟨HLK.out, HPOS.out⟩, HWN, ⟨HM.out.below (bAl (Below.refl _ _) _)⟩, ⟨bAl HB.out _⟩⟩
       case measure => rw [hw]; simp only [intOf]; have := HLK.out; omega
   ·obtain rfl : k = l2.length := by have := HK.out; omega
    have hdl : decide ((l2.length : Int) < (l2.length : Int)) = false := decide_eq_false (by omega)
    have hwi := HWI.out
    rw [List.drop_length] at hwi
    have HW1 := aM (show withinS l2 0 l1.length = true from hwi)
    clear hwi hlt HWI HK
    have HTA := aM (show r = titleA d l1 l2 0 by rw [HTS.out, HW1.out, if_pos rfl])
    clear HTS
    go_wp2
    obtain ⟨WB, hWB⟩ : ∃ WB, WB = wr := ⟨_, rfl⟩
    rw [← hWB]
    rw [← hWB] at HM HB
    have HB0 := HB
    have HM0 := HM
    clear HB HM hWB
    have HBW := HB0
    clear HB0
    have HTY := aM HM0.out
    go_loopw [8, 11, 51] (fun av ov i wr => ∃ (k a : Nat) (O : List Int), av = .int .i64 a ∧ i = .int .i64 k ∧ Aside0 (k ≤ l2.length ∧ a ≤ l1.length ∧ withinS (l2.drop k) (a : Int) l1.length = true) ∧ Aside0 (O ++ titleA d l1 (l2.drop k) a = r ∧ O.length ≤ 100000 * a) ∧ Aside0 (Kd.R (Kd.int .i64) 3 wr WB.heap.size (fun _ => True) ov O) ∧ Aside0 (Below WB.heap.size WB wr)) (fun _ _ i _ => l2.length - (intOf i).toNat)
    case atStart => exact ⟨0, 0, [], rfl, rfl, ⟨Nat.zero_le _, Nat.zero_le _, HW1.out⟩, ⟨HTA.out.symm, Nat.zero_le _⟩, ⟨Kd.R_nil _ _ _ _ _⟩, ⟨Below.refl _ _⟩⟩
    case round =>
     obtain ⟨k, a, O, rfl, rfl, HK, HEQ, HO, HB⟩ := hrel
     by_cases hlt : k < l2.length
     ·rename World => W3
      have HBK := aM (bSp HBW.out HB.out)
      obtain ⟨ad, e, x0, x1⟩ := at_T33 (Kd.C_below HRP.out HBK.out) (k : Int) (by omega) (by omega)
      cases e
      rw [Int.toNat_natCast] at x0 x1
      have hp1 : (0 ≤ (k : Int)) = True := eq_true (by omega)
      have hp2 : ((k : Int) < (l2.length : Int)) = True := eq_true (by omega)
      have hdl : decide ((k : Int) < (l2.length : Int)) = true := dT (by omega)
      have hw : wrap64 ((k : Int) + 1) = (k : Int) + 1 := by have := HL2.out; unfold wrap64; omega
      have hdr := drop_rdG l2 k hlt
      have HLK := aM hlt
      generalize rd_T33 l2 (k : Int) = p at *
      have hwk := HK.out.2.2
      rw [hdr, within_cons] at hwk
      simp only [Bool.and_eq_true, decide_eq_true_eq] at hwk
      obtain ⟨⟨⟨b1, b2⟩, b3⟩, b4⟩ := hwk
      obtain ⟨lo, hlo⟩ : ∃ lo : Nat, p.f0 = (lo : Int) := ⟨p.f0.toNat, by omega⟩
      obtain ⟨hi, hhi⟩ : ∃ hi : Nat, p.f1 = (hi : Int) := ⟨p.f1.toNat, by omega⟩
      have heq := HEQ.out.1
      rw [hdr, titleA_len l1 p (l2.drop (k + 1)) a lo hi hlo hhi] at heq
      rw [hlo] at x0 b1 b2
      rw [hhi] at x1 b2 b3 b4
      have HLH := aM (And.intro (show a ≤ lo by omega) (And.intro (show lo ≤ hi by omega) (show hi ≤ l1.length by omega)))
      have HW4 := aM b4
      have HEQ2 := aM heq
      clear hlt hdr b1 b2 b3 b4 hlo hhi heq
      go_wp2
      obtain ⟨g, hg⟩ : ∃ g, g = W3.heap.size := ⟨_, rfl⟩
      have hgk := blk_new W3 (Obj.cells #[Value.int IntKind.i64 lo, Value.int IntKind.i64 hi] 33)
      rw [← hg] at hgk
      rw [← hg]
      have HGK := aM hgk
      have HB1 := aM (bAl HB.out (Obj.cells #[Value.int IntKind.i64 lo, Value.int IntKind.i64 hi] 33))
      have HO1 := aM (Kd.R_alloc HO.out (Obj.cells #[Value.int IntKind.i64 lo, Value.int IntKind.i64 hi] 33))
      generalize W3.alloc (Obj.cells #[Value.int IntKind.i64 lo, Value.int IntKind.i64 hi] 33) = W1 at *
      clear hgk hg x0 x1
      go_loopw [14] (fun fv w4 => ∃ f : Nat, fv = .int .i64 f ∧ Aside0 (lo ≤ f ∧ f ≤ hi) ∧ Aside0 (firstN d l1 (hi - lo) lo = firstN d l1 (hi - f) f) ∧ Aside0 (Below W1.heap.size W1 w4)) (fun fv _ => hi - (intOf fv).toNat)
      case atStart => exact ⟨lo, rfl, ⟨Nat.le_refl _, HLH.out.2.1⟩, ⟨rfl⟩, ⟨Below.refl _ _⟩⟩
      case round =>
       obtain ⟨f, rfl, HF, HFN, HBF⟩ := hrel
       obtain ⟨Q0, n0, Q1, n1, Q2, n2, Q3, n3, Q4, n4, Q5, n5, Qt, nt, hA⟩ := HM0.out
       have HMA := aM hA
       have c4 := pcb (bSp HB1.out HBF.out) hA.c4
       have g1 := pcb HBF.out ((bkC HGK.out 1).trans (show _ = some (Value.int IntKind.i64 (hi : Int)) from rfl))
       clear hA
       by_cases hfl : f < hi
       ·have hca : ¬ c1 = a := by have h1 := HLH.out; have h2 := HF.out; have h3 := HCT.out; omega
        have hft : f < l1.length := by have := HLH.out; omega
        obtain ⟨adx, e, t1⟩ := Kd.at_int HRT.out (f : Int) (by omega) (by omega)
        cases e
        rw [Int.toNat_natCast] at t1
        have t0 := pcb (bSp HBW.out (bSp HB1.out HBF.out)) t1
        have hrd : rd l1 (f : Int) = l1.getD f 0 := by unfold rd; rw [Int.toNat_natCast]
        rw [hrd] at t0
        have z1 : decide ((f : Int) < (hi : Int)) = true := dT (by omega)
        have z2 : decide (f < hi) = true := dT hfl
        have z3 : (f < hi) = True := eq_true hfl
        have z4 : (0 ≤ (f : Int)) = True := eq_true (by omega)
        have z5 : ((f : Int) < (l1.length : Int)) = True := eq_true (by omega)
        have z6 : (f < l1.length) = True := eq_true hft
        have z7 : (0 : Int) ≤ (f : Int) := by omega
        have z8 : (f : Int) < (l1.length : Int) := by omega
        have hw5 : wrap64 ((f : Int) + 1) = (f : Int) + 1 := by have := HLT.out; unfold wrap64; omega
        have HFL := aM hfl
        cases hh : hasL d.ca (l1.getD f 0) with
        | false =>
         have HNX := aM (HFN.out.trans (firstN_next d l1 f hi hfl hh))
         have HHF := aM (hasF d.ca (l1.getD f 0) HD.out.2.2.2.1)
         rw [hh] at HHF
         generalize l1.getD f 0 = x at *
         clear hfl hft t1 hrd hh hca
         go_wp2
         go_region_held3 (fun w' => w'.cell? ⟨b, 4, none⟩ = some (.slice Q4 d.ca.length n4) ∧ w'.cell? (adx.add f) = some (.int .i64 x) ∧ w'.cell? ⟨g, 1, none⟩ = some (.int .i64 hi)) (first | go_keep | (go_split_ands; refine ⟨?_, ?_, ?_⟩; (refine pcb hb ?_; assumption); (refine pcb hb ?_; assumption); (refine pcb hb ?_; assumption)))
          (first | (go_at_call 32; (with_reducible refine (cpset_Has.calls Q4 n4 d.ca x false _ ?s1 HMA.out.l4 HHF.out).mono ?_); (case s1 => exact Kd.C_below HMA.out.r4 (bSp HB1.out (by repeat (first | (with_reducible first | exact HBF.out | apply bAl | apply pbN | apply bD1) | exact HBF.out)))); rintro e WR ⟨rfl, hb⟩; have HBR := aM (bSp (show Below W1.heap.size W1 _ from (by repeat (first | (with_reducible first | exact HBF.out | apply bAl | apply pbN | apply bD1) | exact HBF.out))) hb)))
         clear hb
         go_wp2
         go_roundw
         case rel => exact ⟨f + 1, by rw [hw5]; rfl, ⟨by have := HF.out; omega, HFL.out⟩, HNX, HBR⟩
         case measure => rw [hw5]; simp only [intOf]; have := HFL.out; omega
        | true =>
         have HFF := aM (HFN.out.trans (firstN_hit d l1 f hi hfl hh))
         have HHF := aM (hasF d.ca (l1.getD f 0) HD.out.2.2.2.1)
         rw [hh] at HHF
         generalize hxx : l1.getD f 0 = x at *
         clear hfl hft t1 hrd hh hxx
         go_wp2
         go_region_held3 (fun w' => w'.cell? ⟨b, 4, none⟩ = some (.slice Q4 d.ca.length n4) ∧ w'.cell? (adx.add f) = some (.int .i64 x) ∧ w'.cell? ⟨g, 1, none⟩ = some (.int .i64 hi)) (first | go_keep | (go_split_ands; refine ⟨?_, ?_, ?_⟩; (refine pcb hb ?_; assumption); (refine pcb hb ?_; assumption); (refine pcb hb ?_; assumption)))
          (first | (go_at_call 32; (with_reducible refine (cpset_Has.calls Q4 n4 d.ca x true _ ?s1 HMA.out.l4 HHF.out).mono ?_); (case s1 => exact Kd.C_below HMA.out.r4 (bSp HB1.out (by repeat (first | (with_reducible first | exact HBF.out | apply bAl | apply pbN | apply bD1) | exact HBF.out)))); rintro e WR ⟨rfl, hb⟩; have HBR := aM (bSp (show Below W1.heap.size W1 _ from (by repeat (first | (with_reducible first | exact HBF.out | apply bAl | apply pbN | apply bD1) | exact HBF.out))) hb)))
         clear hb
         clear c4 g1 t0
         have HPT := aM (title_part d l1 a lo hi HLH.out.1 HLH.out.2.1 HLH.out.2.2 f HFF.out)
         have hbr1 := bSp HB1.out HBR.out
         have hgb : WR.heap[g]? = some (Obj.cells #[Value.int IntKind.i64 lo, Value.int IntKind.i64 hi] 33 (0, 0)) := (HBR.out.block _ (blk_lt HGK.out)).trans HGK.out
         have HGB := aM hgb
         have HG5 := aM ((bkC hgb 1).trans (show _ = some (Value.int IntKind.i64 (hi : Int)) from rfl))
         have hf1 := HF.out
         have hl1 := HLH.out
         have hsl : ((l1.take f).drop a).length = f - a := by rw [List.length_drop, List.length_take]; omega
         have HSL := aM hsl
         have hseg := Kd.C_mid (lo := a) (hi := f) (Kd.C_below HRT.out (bSp HBW.out hbr1)) (by omega) (by omega) HCT.out
         rw [hsl, show a * (Kd.int .i64).sz = a from Nat.mul_one _] at hseg
         have hs1 : (0 ≤ (a : Int)) = True := eq_true (by omega)
         have hs2 : ((a : Int) ≤ (f : Int)) = True := eq_true (by omega)
         have hs3 : ((f : Int) ≤ (c1 : Int)) = True := eq_true (by have := HCT.out; omega)
         have hs4 : (a ≤ f) = True := eq_true (by omega)
         have hs5 : (f ≤ c1) = True := eq_true (by have := HCT.out; omega)
         have hs6 : (0 ≤ (f : Int)) = True := eq_true (by omega)
         rw [if_neg hca] at hseg
         have hcF : (c1 = a) = False := eq_false hca
         have HSEG := aM hseg
         have HSEG0 := HSEG
         clear hbr1 hgb hf1 hl1 hsl hseg hca
         go_upto_region 19 with (at_builtin; refine Kd.R_append_rows (Kd.int .i64) (w0 := WB) WB.heap.size rfl (.tmp 76) (.tmp 80) 28 3 (.int .i64 0) 8 rfl Try.underlying28 info3 rfl (by decide) (by omega) u11 (O) ((l1.take f).drop a) _ _ _ (fun _ => True) (fun _ => False) rfl rfl ?aO ?aR (fun _ _ h => h) (fun _ h => h.elim) ?aF ?aB ?aS ?aL ?_; (case aR => first | exact HSEG.out | exact HSEG0.out); (case aB => exact (bSp HB1.out HBR.out)); (case aF => exact (fun _ _ => trivial)); (case aO => exact (Kd.R_below HO1.out HBR.out)); (case aS => exact ((bSp HB1.out HBR.out)).size); (case aL => have h1_ := HEQ.out.2; have h2_ := HLT.out; have h3_ := HK.out.2.1; have h4_ := HSL.out; have h5_ := HF.out; have h6_ := HLH.out; omega); intro v6 w6 ho hb hg2 hat; have HO6 := aM ho; have HB6 := aM hb; have HGB6 := aM ((hg2.block g (blk_lt HGB.out) (rowNe HGB.out (by decide) (Kd.R_below HO1.out HBR.out))).trans HGB.out); clear ho hb hg2 hat)
         have g6 := (bkC HGB6.out 1).trans (show _ = some (Value.int IntKind.i64 (hi : Int)) from rfl)
         go_wp2
         clear g6
         go_loopw [11, 15, 16] (fun ov fv i w7 => ∃ (j : Nat) (Q : List Int), i = .int .i64 j ∧ fv = (if j = f then Value.func (.func 33) #[.pointer (some ⟨b, 0, none⟩)] #[] else Value.func (.func 34) #[.pointer (some ⟨b, 0, none⟩)] #[]) ∧ Aside0 (f ≤ j ∧ j ≤ hi) ∧ Aside0 (Q ++ remN d l1 f hi j = (O ++ (l1.take f).drop a) ++ remN d l1 f hi f) ∧ Aside0 (Q.length ≤ 100000 * j) ∧ Aside0 (Kd.R (Kd.int .i64) 3 w7 WB.heap.size (fun _ => True) ov Q) ∧ Aside0 (w7.heap[g]? = some (Obj.cells #[Value.int IntKind.i64 lo, Value.int IntKind.i64 hi] 33 (0, 0))) ∧ Aside0 (Below WB.heap.size WB w7)) (fun _ _ i _ => hi - (intOf i).toNat)
         case atStart => exact ⟨f, _, rfl, by rw [if_pos rfl], ⟨Nat.le_refl _, HF.out.2⟩, ⟨rfl⟩, ⟨by rw [List.length_append, HSL.out]; have h1_ := HEQ.out.2; have h2_ := HF.out; have h3_ := HLH.out; omega⟩, HO6, HGB6, HB6⟩
         case round =>
          obtain ⟨j, Q, rfl, rfl, HJ, HQ, HQL, HO7, HGB7, HB7⟩ := hrel
          have g7 := (bkC HGB7.out 1).trans (show _ = some (Value.int IntKind.i64 (hi : Int)) from rfl)
          by_cases hjl : j < hi
          ·have HJL := aM hjl
           have HJT := aM (show j < l1.length by have := HLH.out; omega)
           have y1 : decide ((j : Int) < (hi : Int)) = true := dT (by omega)
           have y2 : decide (j < hi) = true := dT hjl
           have y3 : (j < hi) = True := eq_true hjl
           have hw6 : wrap64 ((j : Int) + 1) = (j : Int) + 1 := by have := HLT.out; have := HJT.out; unfold wrap64; omega
           by_cases hjf : j = f
           ·have hnx := remN_first d l1 j hi hjl
            rw [hjf, if_pos rfl]
            rw [hjf] at hnx
            have hpc : mapdS d.ti (l1.getD j 0) = mapdS d.ti (l1.getD f 0) := by rw [hjf]
            have HWL := aM (mapdS_len HD.out.2.2.1 (l1.getD f 0))
            generalize mapdS d.ti (l1.getD f 0) = wl at *
            have HPC := aM hpc
            have HNX := aM hnx
            have HJF := aM hjf
            clear hjl hjf hpc hnx
            rw [← HJF.out]
            go_wp2_with (first | (go_at_call 33; (with_reducible refine (title_calls b d l1 j _ (HM0.out.below HB7.out) HJT.out HD.out.2.2.1).mono ?_); rw [HPC.out]; rintro e w8 ⟨v8, rfl, hv, hb⟩; obtain ⟨A8, c8, rfl⟩ := Kd.R_slice hv; have HV8 := aM hv; have HO8 := aM (Kd.R_below HO7.out hb); have HB8 := aM (bSp HB7.out hb); have HGB8 := aM ((hb.block _ (blk_lt HGB7.out)).trans HGB7.out); clear hv hb) | (at_builtin; refine Kd.R_append_rows (Kd.int .i64) (w0 := WB) WB.heap.size rfl (.tmp 93) (.tmp 96) 28 3 (.int .i64 0) 8 rfl Try.underlying28 info3 rfl (by decide) (by omega) u11 (Q) (wl) _ _ _ (fun _ => True) (fun _ => False) rfl rfl ?aO ?aR (fun _ _ h => h) (fun _ h => h.elim) ?aF ?aB ?aS ?aL ?_; (case aR => exact (Kd.R_reads' HV8.out).2.2); (case aB => exact HB8.out); (case aF => exact (fun _ _ => trivial)); (case aO => exact HO8.out); (case aS => exact (HB8.out).size); (case aL => have h1_ := HQL.out; have h2_ := HWL.out; have h3_ := HLT.out; have h4_ := HJT.out; omega); intro v9 w9 ho hb hg2 hat; have HO9 := aM ho; have HB9 := aM hb; have HGB9 := aM ((hg2.block g (blk_lt HGB8.out) (rowNe HGB8.out (by decide) HO8.out)).trans HGB8.out); clear ho hb hg2 hat))
            go_roundw
            case rel => exact ⟨j + 1, Q ++ wl, by rw [hw6]; rfl, by rw [if_neg (by have := HJF.out; omega)], ⟨by have := HJ.out; omega, HJL.out⟩, ⟨by have h1 := HQ.out; rw [HJF.out] at h1 ⊢; rw [← h1, HNX.out, List.append_assoc]⟩, ⟨by rw [List.length_append]; have h1_ := HQL.out; have h2_ := HWL.out; omega⟩, HO9, HGB9, HB9⟩
            case measure => rw [hw6]; simp only [intOf]; have := HJL.out; omega
           ·have hnx := remN_next d l1 f hi j hjl (by have := HJ.out; omega)
            rw [if_neg hjf]
            have HWL := aM (lowerS_len HD.out.1 l1 j)
            obtain ⟨wl, hwl⟩ : ∃ wl, wl = lowerS d l1 j := ⟨_, rfl⟩
            rw [← hwl] at hnx HWL
            have HPC := aM hwl.symm
            have HNX := aM hnx
            have HJF := aM hjf
            clear hjl hjf hwl hnx
            go_wp2_with (first | (go_at_call 34; (with_reducible refine (lower_calls b d l1 j _ (HM0.out.below HB7.out) HJT.out HD.out.1 (by have := HLT.out; omega) HD.out.2.2.2).mono ?_); rw [HPC.out]; rintro e w8 ⟨v8, rfl, hv, hb⟩; obtain ⟨A8, c8, rfl⟩ := Kd.R_slice hv; have HV8 := aM hv; have HO8 := aM (Kd.R_below HO7.out hb); have HB8 := aM (bSp HB7.out hb); have HGB8 := aM ((hb.block _ (blk_lt HGB7.out)).trans HGB7.out); clear hv hb) | (at_builtin; refine Kd.R_append_rows (Kd.int .i64) (w0 := WB) WB.heap.size rfl (.tmp 93) (.tmp 96) 28 3 (.int .i64 0) 8 rfl Try.underlying28 info3 rfl (by decide) (by omega) u11 (Q) (wl) _ _ _ (fun _ => True) (fun _ => False) rfl rfl ?aO ?aR (fun _ _ h => h) (fun _ h => h.elim) ?aF ?aB ?aS ?aL ?_; (case aR => exact (Kd.R_reads' HV8.out).2.2); (case aB => exact HB8.out); (case aF => exact (fun _ _ => trivial)); (case aO => exact HO8.out); (case aS => exact (HB8.out).size); (case aL => have h1_ := HQL.out; have h2_ := HWL.out; have h3_ := HLT.out; have h4_ := HJT.out; omega); intro v9 w9 ho hb hg2 hat; have HO9 := aM ho; have HB9 := aM hb; have HGB9 := aM ((hg2.block g (blk_lt HGB8.out) (rowNe HGB8.out (by decide) HO8.out)).trans HGB8.out); clear ho hb hg2 hat))
            go_roundw
            case rel => exact ⟨j + 1, Q ++ wl, by rw [hw6]; rfl, by rw [if_neg (by have := HJ.out; omega)], ⟨by have := HJ.out; omega, HJL.out⟩, ⟨by rw [← HQ.out, HNX.out, List.append_assoc]⟩, ⟨by rw [List.length_append]; have h1_ := HQL.out; have h2_ := HWL.out; omega⟩, HO9, HGB9, HB9⟩
            case measure => rw [hw6]; simp only [intOf]; have := HJL.out; omega
          ·have hje : j = hi := by have := HJ.out; omega
           have y1 : decide ((j : Int) < (hi : Int)) = false := decide_eq_false (by omega)
           have y2 : decide (j < hi) = false := decide_eq_false hjl
           have y3 : (j < hi) = False := eq_false hjl
           have HFIN := aM (show Q ++ titleA d l1 (l2.drop (k + 1)) hi = r by
            have h1 := HQ.out
            rw [hje, remN_end, List.append_nil] at h1
            rw [h1, ← HEQ2.out, HPT.out]
            simp only [List.append_assoc])
           have HQL2 := aM (show Q.length ≤ 100000 * hi by rw [← hje]; exact HQL.out)
           clear hjl hje
           go_wp2
           go_roundw
           case rel => exact ⟨k + 1, hi, Q, rfl, by rw [hw]; rfl, ⟨HLK.out, HLH.out.2.2, HW4.out⟩, ⟨HFIN.out, HQL2.out⟩, HO7, HB7⟩
           case measure => rw [hw]; simp only [intOf]; have := HLK.out; omega
       ·have hfe : f = hi := by have := HF.out; omega
        have z1 : decide ((f : Int) < (hi : Int)) = false := decide_eq_false (by omega)
        have z2 : decide (f < hi) = false := decide_eq_false hfl
        have z3 : (f < hi) = False := eq_false hfl
        have HFF := aM (show firstN d l1 (hi - lo) lo = f by rw [HFN.out, hfe, firstN_end])
        clear hfl hfe
        go_wp2
        go_quiet (fail)
        have HBR := aM (pbN HBF.out nq)
        generalize wr.drewN nq = WR at *
        clear c4 g1
        by_cases hca : c1 = a
        ·have HPT := aM (title_part d l1 a lo hi HLH.out.1 HLH.out.2.1 HLH.out.2.2 f HFF.out)
         have hbr1 := bSp HB1.out HBR.out
         have hgb : WR.heap[g]? = some (Obj.cells #[Value.int IntKind.i64 lo, Value.int IntKind.i64 hi] 33 (0, 0)) := (HBR.out.block _ (blk_lt HGK.out)).trans HGK.out
         have HGB := aM hgb
         have HG5 := aM ((bkC hgb 1).trans (show _ = some (Value.int IntKind.i64 (hi : Int)) from rfl))
         have hf1 := HF.out
         have hl1 := HLH.out
         have hsl : ((l1.take f).drop a).length = f - a := by rw [List.length_drop, List.length_take]; omega
         have HSL := aM hsl
         have hseg := Kd.C_mid (lo := a) (hi := f) (Kd.C_below HRT.out (bSp HBW.out hbr1)) (by omega) (by omega) HCT.out
         rw [hsl, show a * (Kd.int .i64).sz = a from Nat.mul_one _] at hseg
         have hs1 : (0 ≤ (a : Int)) = True := eq_true (by omega)
         have hs2 : ((a : Int) ≤ (f : Int)) = True := eq_true (by omega)
         have hs3 : ((f : Int) ≤ (c1 : Int)) = True := eq_true (by have := HCT.out; omega)
         have hs4 : (a ≤ f) = True := eq_true (by omega)
         have hs5 : (f ≤ c1) = True := eq_true (by have := HCT.out; omega)
         have hs6 : (0 ≤ (f : Int)) = True := eq_true (by omega)
         rw [if_pos hca] at hseg
         have hcT : (c1 = a) = True := eq_true hca
         have hc0 : c1 - a = 0 := by omega
         have hfa : f - a = 0 := by have := HCT.out; omega
         have HSEG := aM hseg
         rw [hfa] at hseg
         have HSEG0 := aM hseg
         clear hbr1 hgb hf1 hl1 hsl hseg hca
         go_upto_region 19 with (at_builtin; refine Kd.R_append_rows (Kd.int .i64) (w0 := WB) WB.heap.size rfl (.tmp 76) (.tmp 80) 28 3 (.int .i64 0) 8 rfl Try.underlying28 info3 rfl (by decide) (by omega) u11 (O) ((l1.take f).drop a) _ _ _ (fun _ => True) (fun _ => False) rfl rfl ?aO ?aR (fun _ _ h => h) (fun _ h => h.elim) ?aF ?aB ?aS ?aL ?_; (case aR => first | exact HSEG.out | exact HSEG0.out); (case aB => exact (bSp HB1.out HBR.out)); (case aF => exact (fun _ _ => trivial)); (case aO => exact (Kd.R_below HO1.out HBR.out)); (case aS => exact ((bSp HB1.out HBR.out)).size); (case aL => have h1_ := HEQ.out.2; have h2_ := HLT.out; have h3_ := HK.out.2.1; have h4_ := HSL.out; have h5_ := HF.out; have h6_ := HLH.out; omega); intro v6 w6 ho hb hg2 hat; have HO6 := aM ho; have HB6 := aM hb; have HGB6 := aM ((hg2.block g (blk_lt HGB.out) (rowNe HGB.out (by decide) (Kd.R_below HO1.out HBR.out))).trans HGB.out); clear ho hb hg2 hat)
         have g6 := (bkC HGB6.out 1).trans (show _ = some (Value.int IntKind.i64 (hi : Int)) from rfl)
         go_wp2
         clear g6
         go_loopw [11, 15, 16] (fun ov fv i w7 => ∃ (j : Nat) (Q : List Int), i = .int .i64 j ∧ fv = (if j = f then Value.func (.func 33) #[.pointer (some ⟨b, 0, none⟩)] #[] else Value.func (.func 34) #[.pointer (some ⟨b, 0, none⟩)] #[]) ∧ Aside0 (f ≤ j ∧ j ≤ hi) ∧ Aside0 (Q ++ remN d l1 f hi j = (O ++ (l1.take f).drop a) ++ remN d l1 f hi f) ∧ Aside0 (Q.length ≤ 100000 * j) ∧ Aside0 (Kd.R (Kd.int .i64) 3 w7 WB.heap.size (fun _ => True) ov Q) ∧ Aside0 (w7.heap[g]? = some (Obj.cells #[Value.int IntKind.i64 lo, Value.int IntKind.i64 hi] 33 (0, 0))) ∧ Aside0 (Below WB.heap.size WB w7)) (fun _ _ i _ => hi - (intOf i).toNat)
         case atStart => exact ⟨f, _, rfl, by rw [if_pos rfl], ⟨Nat.le_refl _, HF.out.2⟩, ⟨rfl⟩, ⟨by rw [List.length_append, HSL.out]; have h1_ := HEQ.out.2; have h2_ := HF.out; have h3_ := HLH.out; omega⟩, HO6, HGB6, HB6⟩
         case round =>
          obtain ⟨j, Q, rfl, rfl, HJ, HQ, HQL, HO7, HGB7, HB7⟩ := hrel
          have g7 := (bkC HGB7.out 1).trans (show _ = some (Value.int IntKind.i64 (hi : Int)) from rfl)
          by_cases hjl : j < hi
          ·have HJL := aM hjl
           have HJT := aM (show j < l1.length by have := HLH.out; omega)
           have y1 : decide ((j : Int) < (hi : Int)) = true := dT (by omega)
           have y2 : decide (j < hi) = true := dT hjl
           have y3 : (j < hi) = True := eq_true hjl
           have hw6 : wrap64 ((j : Int) + 1) = (j : Int) + 1 := by have := HLT.out; have := HJT.out; unfold wrap64; omega
           by_cases hjf : j = f
           ·have hnx := remN_first d l1 j hi hjl
            rw [hjf, if_pos rfl]
            rw [hjf] at hnx
            have hpc : mapdS d.ti (l1.getD j 0) = mapdS d.ti (l1.getD f 0) := by rw [hjf]
            have HWL := aM (mapdS_len HD.out.2.2.1 (l1.getD f 0))
            generalize mapdS d.ti (l1.getD f 0) = wl at *
            have HPC := aM hpc
            have HNX := aM hnx
            have HJF := aM hjf
            clear hjl hjf hpc hnx
            rw [← HJF.out]
            go_wp2_with (first | (go_at_call 33; (with_reducible refine (title_calls b d l1 j _ (HM0.out.below HB7.out) HJT.out HD.out.2.2.1).mono ?_); rw [HPC.out]; rintro e w8 ⟨v8, rfl, hv, hb⟩; obtain ⟨A8, c8, rfl⟩ := Kd.R_slice hv; have HV8 := aM hv; have HO8 := aM (Kd.R_below HO7.out hb); have HB8 := aM (bSp HB7.out hb); have HGB8 := aM ((hb.block _ (blk_lt HGB7.out)).trans HGB7.out); clear hv hb) | (at_builtin; refine Kd.R_append_rows (Kd.int .i64) (w0 := WB) WB.heap.size rfl (.tmp 93) (.tmp 96) 28 3 (.int .i64 0) 8 rfl Try.underlying28 info3 rfl (by decide) (by omega) u11 (Q) (wl) _ _ _ (fun _ => True) (fun _ => False) rfl rfl ?aO ?aR (fun _ _ h => h) (fun _ h => h.elim) ?aF ?aB ?aS ?aL ?_; (case aR => exact (Kd.R_reads' HV8.out).2.2); (case aB => exact HB8.out); (case aF => exact (fun _ _ => trivial)); (case aO => exact HO8.out); (case aS => exact (HB8.out).size); (case aL => have h1_ := HQL.out; have h2_ := HWL.out; have h3_ := HLT.out; have h4_ := HJT.out; omega); intro v9 w9 ho hb hg2 hat; have HO9 := aM ho; have HB9 := aM hb; have HGB9 := aM ((hg2.block g (blk_lt HGB8.out) (rowNe HGB8.out (by decide) HO8.out)).trans HGB8.out); clear ho hb hg2 hat))
            go_roundw
            case rel => exact ⟨j + 1, Q ++ wl, by rw [hw6]; rfl, by rw [if_neg (by have := HJF.out; omega)], ⟨by have := HJ.out; omega, HJL.out⟩, ⟨by have h1 := HQ.out; rw [HJF.out] at h1 ⊢; rw [← h1, HNX.out, List.append_assoc]⟩, ⟨by rw [List.length_append]; have h1_ := HQL.out; have h2_ := HWL.out; omega⟩, HO9, HGB9, HB9⟩
            case measure => rw [hw6]; simp only [intOf]; have := HJL.out; omega
           ·have hnx := remN_next d l1 f hi j hjl (by have := HJ.out; omega)
            rw [if_neg hjf]
            have HWL := aM (lowerS_len HD.out.1 l1 j)
            obtain ⟨wl, hwl⟩ : ∃ wl, wl = lowerS d l1 j := ⟨_, rfl⟩
            rw [← hwl] at hnx HWL
            have HPC := aM hwl.symm
            have HNX := aM hnx
            have HJF := aM hjf
            clear hjl hjf hwl hnx
            go_wp2_with (first | (go_at_call 34; (with_reducible refine (lower_calls b d l1 j _ (HM0.out.below HB7.out) HJT.out HD.out.1 (by have := HLT.out; omega) HD.out.2.2.2).mono ?_); rw [HPC.out]; rintro e w8 ⟨v8, rfl, hv, hb⟩; obtain ⟨A8, c8, rfl⟩ := Kd.R_slice hv; have HV8 := aM hv; have HO8 := aM (Kd.R_below HO7.out hb); have HB8 := aM (bSp HB7.out hb); have HGB8 := aM ((hb.block _ (blk_lt HGB7.out)).trans HGB7.out); clear hv hb) | (at_builtin; refine Kd.R_append_rows (Kd.int .i64) (w0 := WB) WB.heap.size rfl (.tmp 93) (.tmp 96) 28 3 (.int .i64 0) 8 rfl Try.underlying28 info3 rfl (by decide) (by omega) u11 (Q) (wl) _ _ _ (fun _ => True) (fun _ => False) rfl rfl ?aO ?aR (fun _ _ h => h) (fun _ h => h.elim) ?aF ?aB ?aS ?aL ?_; (case aR => exact (Kd.R_reads' HV8.out).2.2); (case aB => exact HB8.out); (case aF => exact (fun _ _ => trivial)); (case aO => exact HO8.out); (case aS => exact (HB8.out).size); (case aL => have h1_ := HQL.out; have h2_ := HWL.out; have h3_ := HLT.out; have h4_ := HJT.out; omega); intro v9 w9 ho hb hg2 hat; have HO9 := aM ho; have HB9 := aM hb; have HGB9 := aM ((hg2.block g (blk_lt HGB8.out) (rowNe HGB8.out (by decide) HO8.out)).trans HGB8.out); clear ho hb hg2 hat))
            go_roundw
            case rel => exact ⟨j + 1, Q ++ wl, by rw [hw6]; rfl, by rw [if_neg (by have := HJ.out; omega)], ⟨by have := HJ.out; omega, HJL.out⟩, ⟨by rw [← HQ.out, HNX.out, List.append_assoc]⟩, ⟨by rw [List.length_append]; have h1_ := HQL.out; have h2_ := HWL.out; omega⟩, HO9, HGB9, HB9⟩
            case measure => rw [hw6]; simp only [intOf]; have := HJL.out; omega
          ·have hje : j = hi := by have := HJ.out; omega
           have y1 : decide ((j : Int) < (hi : Int)) = false := decide_eq_false (by omega)
           have y2 : decide (j < hi) = false := decide_eq_false hjl
           have y3 : (j < hi) = False := eq_false hjl
           have HFIN := aM (show Q ++ titleA d l1 (l2.drop (k + 1)) hi = r by
            have h1 := HQ.out
            rw [hje, remN_end, List.append_nil] at h1
            rw [h1, ← HEQ2.out, HPT.out]
            simp only [List.append_assoc])
           have HQL2 := aM (show Q.length ≤ 100000 * hi by rw [← hje]; exact HQL.out)
           clear hjl hje
           go_wp2
           go_roundw
           case rel => exact ⟨k + 1, hi, Q, rfl, by rw [hw]; rfl, ⟨HLK.out, HLH.out.2.2, HW4.out⟩, ⟨HFIN.out, HQL2.out⟩, HO7, HB7⟩
           case measure => rw [hw]; simp only [intOf]; have := HLK.out; omega
        ·have HPT := aM (title_part d l1 a lo hi HLH.out.1 HLH.out.2.1 HLH.out.2.2 f HFF.out)
         have hbr1 := bSp HB1.out HBR.out
         have hgb : WR.heap[g]? = some (Obj.cells #[Value.int IntKind.i64 lo, Value.int IntKind.i64 hi] 33 (0, 0)) := (HBR.out.block _ (blk_lt HGK.out)).trans HGK.out
         have HGB := aM hgb
         have HG5 := aM ((bkC hgb 1).trans (show _ = some (Value.int IntKind.i64 (hi : Int)) from rfl))
         have hf1 := HF.out
         have hl1 := HLH.out
         have hsl : ((l1.take f).drop a).length = f - a := by rw [List.length_drop, List.length_take]; omega
         have HSL := aM hsl
         have hseg := Kd.C_mid (lo := a) (hi := f) (Kd.C_below HRT.out (bSp HBW.out hbr1)) (by omega) (by omega) HCT.out
         rw [hsl, show a * (Kd.int .i64).sz = a from Nat.mul_one _] at hseg
         have hs1 : (0 ≤ (a : Int)) = True := eq_true (by omega)
         have hs2 : ((a : Int) ≤ (f : Int)) = True := eq_true (by omega)
         have hs3 : ((f : Int) ≤ (c1 : Int)) = True := eq_true (by have := HCT.out; omega)
         have hs4 : (a ≤ f) = True := eq_true (by omega)
         have hs5 : (f ≤ c1) = True := eq_true (by have := HCT.out; omega)
         have hs6 : (0 ≤ (f : Int)) = True := eq_true (by omega)
         rw [if_neg hca] at hseg
         have hcF : (c1 = a) = False := eq_false hca
         have HSEG := aM hseg
         have HSEG0 := HSEG
         clear hbr1 hgb hf1 hl1 hsl hseg hca
         go_upto_region 19 with (at_builtin; refine Kd.R_append_rows (Kd.int .i64) (w0 := WB) WB.heap.size rfl (.tmp 76) (.tmp 80) 28 3 (.int .i64 0) 8 rfl Try.underlying28 info3 rfl (by decide) (by omega) u11 (O) ((l1.take f).drop a) _ _ _ (fun _ => True) (fun _ => False) rfl rfl ?aO ?aR (fun _ _ h => h) (fun _ h => h.elim) ?aF ?aB ?aS ?aL ?_; (case aR => first | exact HSEG.out | exact HSEG0.out); (case aB => exact (bSp HB1.out HBR.out)); (case aF => exact (fun _ _ => trivial)); (case aO => exact (Kd.R_below HO1.out HBR.out)); (case aS => exact ((bSp HB1.out HBR.out)).size); (case aL => have h1_ := HEQ.out.2; have h2_ := HLT.out; have h3_ := HK.out.2.1; have h4_ := HSL.out; have h5_ := HF.out; have h6_ := HLH.out; omega); intro v6 w6 ho hb hg2 hat; have HO6 := aM ho; have HB6 := aM hb; have HGB6 := aM ((hg2.block g (blk_lt HGB.out) (rowNe HGB.out (by decide) (Kd.R_below HO1.out HBR.out))).trans HGB.out); clear ho hb hg2 hat)
         have g6 := (bkC HGB6.out 1).trans (show _ = some (Value.int IntKind.i64 (hi : Int)) from rfl)
         go_wp2
         clear g6
         go_loopw [11, 15, 16] (fun ov fv i w7 => ∃ (j : Nat) (Q : List Int), i = .int .i64 j ∧ fv = (if j = f then Value.func (.func 33) #[.pointer (some ⟨b, 0, none⟩)] #[] else Value.func (.func 34) #[.pointer (some ⟨b, 0, none⟩)] #[]) ∧ Aside0 (f ≤ j ∧ j ≤ hi) ∧ Aside0 (Q ++ remN d l1 f hi j = (O ++ (l1.take f).drop a) ++ remN d l1 f hi f) ∧ Aside0 (Q.length ≤ 100000 * j) ∧ Aside0 (Kd.R (Kd.int .i64) 3 w7 WB.heap.size (fun _ => True) ov Q) ∧ Aside0 (w7.heap[g]? = some (Obj.cells #[Value.int IntKind.i64 lo, Value.int IntKind.i64 hi] 33 (0, 0))) ∧ Aside0 (Below WB.heap.size WB w7)) (fun _ _ i _ => hi - (intOf i).toNat)
         case atStart => exact ⟨f, _, rfl, by rw [if_pos rfl], ⟨Nat.le_refl _, HF.out.2⟩, ⟨rfl⟩, ⟨by rw [List.length_append, HSL.out]; have h1_ := HEQ.out.2; have h2_ := HF.out; have h3_ := HLH.out; omega⟩, HO6, HGB6, HB6⟩
         case round =>
          obtain ⟨j, Q, rfl, rfl, HJ, HQ, HQL, HO7, HGB7, HB7⟩ := hrel
          have g7 := (bkC HGB7.out 1).trans (show _ = some (Value.int IntKind.i64 (hi : Int)) from rfl)
          by_cases hjl : j < hi
          ·have HJL := aM hjl
           have HJT := aM (show j < l1.length by have := HLH.out; omega)
           have y1 : decide ((j : Int) < (hi : Int)) = true := dT (by omega)
           have y2 : decide (j < hi) = true := dT hjl
           have y3 : (j < hi) = True := eq_true hjl
           have hw6 : wrap64 ((j : Int) + 1) = (j : Int) + 1 := by have := HLT.out; have := HJT.out; unfold wrap64; omega
           by_cases hjf : j = f
           ·have hnx := remN_first d l1 j hi hjl
            rw [hjf, if_pos rfl]
            rw [hjf] at hnx
            have hpc : mapdS d.ti (l1.getD j 0) = mapdS d.ti (l1.getD f 0) := by rw [hjf]
            have HWL := aM (mapdS_len HD.out.2.2.1 (l1.getD f 0))
            generalize mapdS d.ti (l1.getD f 0) = wl at *
            have HPC := aM hpc
            have HNX := aM hnx
            have HJF := aM hjf
            clear hjl hjf hpc hnx
            rw [← HJF.out]
            go_wp2_with (first | (go_at_call 33; (with_reducible refine (title_calls b d l1 j _ (HM0.out.below HB7.out) HJT.out HD.out.2.2.1).mono ?_); rw [HPC.out]; rintro e w8 ⟨v8, rfl, hv, hb⟩; obtain ⟨A8, c8, rfl⟩ := Kd.R_slice hv; have HV8 := aM hv; have HO8 := aM (Kd.R_below HO7.out hb); have HB8 := aM (bSp HB7.out hb); have HGB8 := aM ((hb.block _ (blk_lt HGB7.out)).trans HGB7.out); clear hv hb) | (at_builtin; refine Kd.R_append_rows (Kd.int .i64) (w0 := WB) WB.heap.size rfl (.tmp 93) (.tmp 96) 28 3 (.int .i64 0) 8 rfl Try.underlying28 info3 rfl (by decide) (by omega) u11 (Q) (wl) _ _ _ (fun _ => True) (fun _ => False) rfl rfl ?aO ?aR (fun _ _ h => h) (fun _ h => h.elim) ?aF ?aB ?aS ?aL ?_; (case aR => exact (Kd.R_reads' HV8.out).2.2); (case aB => exact HB8.out); (case aF => exact (fun _ _ => trivial)); (case aO => exact HO8.out); (case aS => exact (HB8.out).size); (case aL => have h1_ := HQL.out; have h2_ := HWL.out; have h3_ := HLT.out; have h4_ := HJT.out; omega); intro v9 w9 ho hb hg2 hat; have HO9 := aM ho; have HB9 := aM hb; have HGB9 := aM ((hg2.block g (blk_lt HGB8.out) (rowNe HGB8.out (by decide) HO8.out)).trans HGB8.out); clear ho hb hg2 hat))
            go_roundw
            case rel => exact ⟨j + 1, Q ++ wl, by rw [hw6]; rfl, by rw [if_neg (by have := HJF.out; omega)], ⟨by have := HJ.out; omega, HJL.out⟩, ⟨by have h1 := HQ.out; rw [HJF.out] at h1 ⊢; rw [← h1, HNX.out, List.append_assoc]⟩, ⟨by rw [List.length_append]; have h1_ := HQL.out; have h2_ := HWL.out; omega⟩, HO9, HGB9, HB9⟩
            case measure => rw [hw6]; simp only [intOf]; have := HJL.out; omega
           ·have hnx := remN_next d l1 f hi j hjl (by have := HJ.out; omega)
            rw [if_neg hjf]
            have HWL := aM (lowerS_len HD.out.1 l1 j)
            obtain ⟨wl, hwl⟩ : ∃ wl, wl = lowerS d l1 j := ⟨_, rfl⟩
            rw [← hwl] at hnx HWL
            have HPC := aM hwl.symm
            have HNX := aM hnx
            have HJF := aM hjf
            clear hjl hjf hwl hnx
            go_wp2_with (first | (go_at_call 34; (with_reducible refine (lower_calls b d l1 j _ (HM0.out.below HB7.out) HJT.out HD.out.1 (by have := HLT.out; omega) HD.out.2.2.2).mono ?_); rw [HPC.out]; rintro e w8 ⟨v8, rfl, hv, hb⟩; obtain ⟨A8, c8, rfl⟩ := Kd.R_slice hv; have HV8 := aM hv; have HO8 := aM (Kd.R_below HO7.out hb); have HB8 := aM (bSp HB7.out hb); have HGB8 := aM ((hb.block _ (blk_lt HGB7.out)).trans HGB7.out); clear hv hb) | (at_builtin; refine Kd.R_append_rows (Kd.int .i64) (w0 := WB) WB.heap.size rfl (.tmp 93) (.tmp 96) 28 3 (.int .i64 0) 8 rfl Try.underlying28 info3 rfl (by decide) (by omega) u11 (Q) (wl) _ _ _ (fun _ => True) (fun _ => False) rfl rfl ?aO ?aR (fun _ _ h => h) (fun _ h => h.elim) ?aF ?aB ?aS ?aL ?_; (case aR => exact (Kd.R_reads' HV8.out).2.2); (case aB => exact HB8.out); (case aF => exact (fun _ _ => trivial)); (case aO => exact HO8.out); (case aS => exact (HB8.out).size); (case aL => have h1_ := HQL.out; have h2_ := HWL.out; have h3_ := HLT.out; have h4_ := HJT.out; omega); intro v9 w9 ho hb hg2 hat; have HO9 := aM ho; have HB9 := aM hb; have HGB9 := aM ((hg2.block g (blk_lt HGB8.out) (rowNe HGB8.out (by decide) HO8.out)).trans HGB8.out); clear ho hb hg2 hat))
            go_roundw
            case rel => exact ⟨j + 1, Q ++ wl, by rw [hw6]; rfl, by rw [if_neg (by have := HJ.out; omega)], ⟨by have := HJ.out; omega, HJL.out⟩, ⟨by rw [← HQ.out, HNX.out, List.append_assoc]⟩, ⟨by rw [List.length_append]; have h1_ := HQL.out; have h2_ := HWL.out; omega⟩, HO9, HGB9, HB9⟩
            case measure => rw [hw6]; simp only [intOf]; have := HJL.out; omega
          ·have hje : j = hi := by have := HJ.out; omega
           have y1 : decide ((j : Int) < (hi : Int)) = false := decide_eq_false (by omega)
           have y2 : decide (j < hi) = false := decide_eq_false hjl
           have y3 : (j < hi) = False := eq_false hjl
           have HFIN := aM (show Q ++ titleA d l1 (l2.drop (k + 1)) hi = r by
            have h1 := HQ.out
            rw [hje, remN_end, List.append_nil] at h1
            rw [h1, ← HEQ2.out, HPT.out]
            simp only [List.append_assoc])
           have HQL2 := aM (show Q.length ≤ 100000 * hi by rw [← hje]; exact HQL.out)
           clear hjl hje
           go_wp2
           go_roundw
           case rel => exact ⟨k + 1, hi, Q, rfl, by rw [hw]; rfl, ⟨HLK.out, HLH.out.2.2, HW4.out⟩, ⟨HFIN.out, HQL2.out⟩, HO7, HB7⟩
           case measure => rw [hw]; simp only [intOf]; have := HLK.out; omega
     ·obtain rfl : k = l2.length := by have := HK.out; omega
      have hdl : decide ((l2.length : Int) < (l2.length : Int)) = false := decide_eq_false (by omega)
      have heq := HEQ.out.1
      rw [List.drop_length] at heq
      have HEQ3 := aM (show O ++ l1.drop a = r from heq)
      have hsl : (l1.drop a).length = l1.length - a := List.length_drop
      have HSL := aM hsl
      have hseg := Kd.C_drop (m := a) (Kd.C_below HRT.out (bSp HBW.out HB.out)) HK.out.2.1 HCT.out
      rw [hsl, show a * (Kd.int .i64).sz = a from Nat.mul_one _] at hseg
      have hs1 : (0 ≤ (a : Int)) = True := eq_true (by omega)
      have hs2 : ((a : Int) ≤ (l1.length : Int)) = True := eq_true (by have := HK.out.2.1; omega)
      have hs4 : (a ≤ l1.length) = True := eq_true HK.out.2.1
      by_cases hca : c1 = a
      ·rw [if_pos hca] at hseg
       have hcT : (c1 = a) = True := eq_true hca
       have hc0 : c1 - a = 0 := by omega
       have hfa : l1.length - a = 0 := by have := HCT.out; omega
       have HSEG := aM hseg
       rw [hfa] at hseg
       have HSEG0 := aM hseg
       clear heq hlt hsl hseg hca
       go_wp2_with (first | (at_builtin; refine Kd.R_append_rows (Kd.int .i64) (w0 := WB) WB.heap.size rfl (.tmp 101) (.tmp 104) 28 3 (.int .i64 0) 8 rfl Try.underlying28 info3 rfl (by decide) (by omega) u11 (O) (l1.drop a) _ _ _ (fun _ => True) (fun _ => False) rfl rfl ?aO ?aR (fun _ _ h => h) (fun _ h => h.elim) ?aF ?aB ?aS ?aL ?_; (case aR => first | exact HSEG.out | exact HSEG0.out); (case aB => exact HB.out); (case aF => exact (fun _ _ => trivial)); (case aO => exact HO.out); (case aS => exact (HB.out).size); (case aL => have h1_ := HEQ.out.2; have h2_ := HLT.out; have h3_ := HK.out.2.1; omega); intro v9 w9 ho hb hg2 hat; rw [HEQ3.out] at ho; have HO9 := aM ho; have HB9 := aM hb; clear ho hb hg2 hat))
       go_ret
       exact ⟨v9, rfl, Kd.R_lower HO9.out HBW.out.size, bSp HBW.out HB9.out⟩
      ·rw [if_neg hca] at hseg
       have hcF : (c1 = a) = False := eq_false hca
       have HSEG := aM hseg
       have HSEG0 := HSEG
       clear heq hlt hsl hseg hca
       go_wp2_with (first | (at_builtin; refine Kd.R_append_rows (Kd.int .i64) (w0 := WB) WB.heap.size rfl (.tmp 101) (.tmp 104) 28 3 (.int .i64 0) 8 rfl Try.underlying28 info3 rfl (by decide) (by omega) u11 (O) (l1.drop a) _ _ _ (fun _ => True) (fun _ => False) rfl rfl ?aO ?aR (fun _ _ h => h) (fun _ h => h.elim) ?aF ?aB ?aS ?aL ?_; (case aR => first | exact HSEG.out | exact HSEG0.out); (case aB => exact HB.out); (case aF => exact (fun _ _ => trivial)); (case aO => exact HO.out); (case aS => exact (HB.out).size); (case aL => have h1_ := HEQ.out.2; have h2_ := HLT.out; have h3_ := HK.out.2.1; omega); intro v9 w9 ho hb hg2 hat; rw [HEQ3.out] at ho; have HO9 := aM ho; have HB9 := aM hb; clear ho hb hg2 hat))
       go_ret
       exact ⟨v9, rfl, Kd.R_lower HO9.out HBW.out.size, bSp HBW.out HB9.out⟩
 ·rw [if_neg hok] at h; cases h
end Go.Proofs.Ythnkmcfhpjmihaa.Q
end
section
namespace Go.Proofs.Ythnkmcfhpjmihaa.Q
open Go.RowKit Go.Proofs.YthnkmcfhpjmihaaW.PrintWords Go.Proofs.YthnkmcfhpjmihaaW.PrintLast Go.Proofs.YthnkmcfhpjmihaaW.PrintMore
attribute [local go_sem] max2_int min2_int max_two min_two max_three min_three max_four min_four
set_option linter.unusedVariables false
set_option linter.unusedSimpArgs false
def w37_CasemapRefuses.j0 : Nat → List Int → Bool → List (S43) → List (S43) → List (S43) → List (S43) → List (S33) → List (S33) → Option (Bool)
 | 0, _, _, _, _, _, _, _, _ => none
 | k + 1, x1, x14, x255000, x255001, x255002, x255003, x255004, x255005 => if x14 = true then ((w37_alive.f).bind fun t257 => (some t257)) else ((casemap_Lower.f x255000 x255001 x255002 x255003 x255004 x255005 x1).bind fun t261 => ((r01_Equal.f k t261 x1).bind fun t264 => (if t264 = true then ((casemap_Upper.f x255000 x255001 x255002 x255003 x255004 x255005 x1).bind fun t265 => ((r01_Equal.f k t265 x1).bind fun t268 => (if t268 = true then ((casemap_Title.f x255000 x255001 x255002 x255003 x255004 x255005 x1 (([(⟨0, (x1.length : Int)⟩ : S33)] : List (S33)))).bind fun t269 => ((r01_Equal.f k t269 x1).bind fun t272 => (if t272 = true then ((w37_alive.f).bind fun t273 => (some t273)) else (some false)))) else (some false)))) else (some false))))
def w37_CasemapRefuses.f (k : Nat) (l0_0 : List (S43)) (l0_1 : List (S43)) (l0_2 : List (S43)) (l0_3 : List (S43)) (l0_4 : List (S33)) (l0_5 : List (S33)) (l1 : List Int) : Option (Bool) := (w37_few.f k l0_0 l0_1 l0_2 l0_3 l0_4 l0_5 l1).bind fun t255 => (if t255 = true then ((r37_Check.f k l0_0 l0_1 l0_2 l0_3 l0_4 l0_5).bind fun t256 => (w37_CasemapRefuses.j0 k l1 (t256 == 0) l0_0 l0_1 l0_2 l0_3 l0_4 l0_5)) else (w37_CasemapRefuses.j0 k l1 true l0_0 l0_1 l0_2 l0_3 l0_4 l0_5))
attribute [local go_sem] max2_int min2_int max_two min_two max_three min_three max_four min_four
set_option linter.unusedVariables false
set_option linter.unusedSimpArgs false
def w37_CasemapChecks.f (k : Nat) (l0_0 : List (S43)) (l0_1 : List (S43)) (l0_2 : List (S43)) (l0_3 : List (S43)) (l0_4 : List (S33)) (l0_5 : List (S33)) : Option (Bool) := (r37_Small.f k l0_0 l0_1 l0_2 l0_3 l0_4 l0_5).bind fun t275 => (if t275 = true then ((casemap_Check.f l0_0 l0_1 l0_2 l0_3 l0_4 l0_5).bind fun t276 => ((r37_Check.f k l0_0 l0_1 l0_2 l0_3 l0_4 l0_5).bind fun t277 => (if t276 = t277 then ((w37_alive.f).bind fun t278 => (some t278)) else (some false)))) else ((w37_alive.f).bind fun t279 => (some t279)))
def w37_CasemapChecks.T1 : Bool × List (List Nat × List Nat) := (true, [([], []), ([0], [0]), ([1], [1]), ([2, 1], [2]), ([3], [3]), ([4, 3, 3], [3, 4]), ([3], [3]), ([6, 5, 3], [3, 6]), ([5, 7, 3], [3, 5, 7]), ([3, 8], [3, 8]), ([9, 7], [9]), ([10, 10], [10]), ([10, 11], [10, 11]), ([12, 11, 0, 1, 2, 3, 4, 5, 6, 7, 8, 9, 10, 11, 12], [12])])
def w37_CasemapChecks.B1 : List Nat := [0, 1, 3, 7, 15, 31, 15, 127, 255, 511, 1023, 2047, 4095, 8191]
attribute [local go_sem] max2_int min2_int max_two min_two max_three min_three max_four min_four
set_option linter.unusedVariables false
set_option linter.unusedSimpArgs false
def w37_CasemapFinals.f (k : Nat) (l0_0 : List (S43)) (l0_1 : List (S43)) (l0_2 : List (S43)) (l0_3 : List (S43)) (l0_4 : List (S33)) (l0_5 : List (S33)) (l1 : List Int) (a2 : Int) : Option (Bool) := (w37_few.f k l0_0 l0_1 l0_2 l0_3 l0_4 l0_5 l1).bind fun t309 => (if t309 = true then ((casemap_Final.f l0_0 l0_1 l0_2 l0_3 l0_4 l0_5 l1 a2).bind fun t310 => ((r37_Final.f k l0_0 l0_1 l0_2 l0_3 l0_4 l0_5 l1 a2).bind fun t311 => (if (t310 == t311) = true then ((w37_alive.f).bind fun t312 => (some t312)) else (some false)))) else ((w37_alive.f).bind fun t313 => (some t313)))
def w37_CasemapFinals.T1 : Bool × List (List Nat × List Nat) := (true, [([], []), ([], []), ([0, 1], [0, 1]), ([2], [2]), ([3, 2], [3]), ([4], [4]), ([4], [4]), ([4], [4]), ([5, 6, 7, 4, 4], [4, 5, 6, 7]), ([4], [4]), ([4], [4]), ([4], [4]), ([9, 10, 11, 8, 4], [4, 9, 10, 11]), ([8, 12, 4], [4, 8, 12]), ([4, 13], [4, 13]), ([14, 12], [14]), ([15, 15], [15]), ([15, 16], [15, 16]), ([17, 16, 0, 1, 2, 3, 4, 5, 6, 7, 8, 9, 10, 11, 12, 13, 14, 15, 16, 17], [17])])
def w37_CasemapFinals.B1 : List Nat := [0, 0, 3, 7, 15, 31, 31, 31, 255, 31, 31, 31, 4095, 8191, 16383, 32767, 65535, 131071, 262143]
attribute [local go_sem] max2_int min2_int max_two min_two max_three min_three max_four min_four
set_option linter.unusedVariables false
set_option linter.unusedSimpArgs false
def w37_CasemapTexts.f (k : Nat) (l0_0 : List (S43)) (l0_1 : List (S43)) (l0_2 : List (S43)) (l0_3 : List (S43)) (l0_4 : List (S33)) (l0_5 : List (S33)) (l1 : List Int) : Option (Bool) := (w37_few.f k l0_0 l0_1 l0_2 l0_3 l0_4 l0_5 l1).bind fun t406 => (if t406 = true then ((casemap_Lower.f l0_0 l0_1 l0_2 l0_3 l0_4 l0_5 l1).bind fun t408 => ((r37_Lower.f k l0_0 l0_1 l0_2 l0_3 l0_4 l0_5 l1).bind fun t411 => ((r01_Equal.f k t408 t411).bind fun t414 => (if t414 = true then ((casemap_Upper.f l0_0 l0_1 l0_2 l0_3 l0_4 l0_5 l1).bind fun t415 => ((r37_Upper.f k l0_0 l0_1 l0_2 l0_3 l0_4 l0_5 l1).bind fun t418 => ((r01_Equal.f k t415 t418).bind fun t421 => (if t421 = true then ((w37_alive.f).bind fun t422 => (some t422)) else (some false))))) else (some false))))) else ((w37_alive.f).bind fun t407 => (some t407)))
def w37_CasemapTexts.T3 : Bool × List (List Nat × List Nat) := (true, [([], []), ([], []), ([0, 1], [0, 1]), ([], []), ([], []), ([3, 4, 2], [3, 4]), ([2, 5, 5], [2, 5]), ([6, 6], [6]), ([7], [7]), ([7], [7]), ([8, 9, 7, 7], [7, 8, 9]), ([7], [7]), ([7], [7]), ([11, 12, 10, 7], [7, 11, 12]), ([10, 13, 13, 7], [7, 10, 13]), ([7, 14], [7, 14]), ([15, 14], [15]), ([16, 16], [16]), ([16, 17], [16, 17]), ([18, 17, 0, 1, 2, 3, 4, 5, 6, 7, 8, 9, 10, 11, 12, 13, 14, 15, 16, 17, 18], [18])])
def w37_CasemapTexts.B3 : List Nat := [0, 0, 3, 0, 0, 31, 63, 127, 255, 255, 1023, 255, 255, 8191, 16383, 32767, 65535, 131071, 262143, 524287]
attribute [local go_sem] max2_int min2_int max_two min_two max_three min_three max_four min_four
set_option linter.unusedVariables false
set_option linter.unusedSimpArgs false
def w37_CasemapTitles.j0 : Nat → List Int → List (S33) → Bool → List (S43) → List (S43) → List (S43) → List (S43) → List (S33) → List (S33) → Option (Bool)
 | 0, _, _, _, _, _, _, _, _, _ => none
 | k + 1, x1, x2, x15, x605000, x605001, x605002, x605003, x605004, x605005 => if x15 = true then ((w37_alive.f).bind fun t606 => (some t606)) else ((casemap_Title.f x605000 x605001 x605002 x605003 x605004 x605005 x1 x2).bind fun t607 => ((r37_Title.f k x605000 x605001 x605002 x605003 x605004 x605005 x1 x2).bind fun t610 => ((r01_Equal.f k t607 t610).bind fun t613 => (if t613 = true then ((w37_alive.f).bind fun t614 => (some t614)) else (some false)))))
def w37_CasemapTitles.f (k : Nat) (l0_0 : List (S43)) (l0_1 : List (S43)) (l0_2 : List (S43)) (l0_3 : List (S43)) (l0_4 : List (S33)) (l0_5 : List (S33)) (l1 : List Int) (l2 : List (S33)) : Option (Bool) := (w37_few.f k l0_0 l0_1 l0_2 l0_3 l0_4 l0_5 l1).bind fun t605 => (if t605 = true then (w37_CasemapTitles.j0 k l1 l2 (decide ((l2.length : Int) > 40)) l0_0 l0_1 l0_2 l0_3 l0_4 l0_5) else (w37_CasemapTitles.j0 k l1 l2 true l0_0 l0_1 l0_2 l0_3 l0_4 l0_5))
def w37_CasemapTitles.T3 : Bool × List (List Nat × List Nat) := (true, [([], []), ([], []), ([], []), ([0, 1, 2], [0, 1, 2]), ([], []), ([], []), ([], []), ([4, 5, 6, 3], [4, 5, 6]), ([3, 7, 7], [3, 7]), ([8, 8], [8]), ([9, 9], [9]), ([9, 10], [9, 10]), ([11, 10, 0, 1, 2, 3, 4, 5, 6, 7, 8, 9, 10, 11], [11])])
def w37_CasemapTitles.B3 : List Nat := [0, 0, 0, 7, 0, 0, 0, 127, 255, 511, 1023, 2047, 4095]
attribute [local go_sem] max2_int min2_int max_two min_two max_three min_three max_four min_four
set_option linter.unusedVariables false
set_option linter.unusedSimpArgs false
mutual
def w37_CasemapUncased.j0 : Nat → List Int → List (S33) → Bool → List (S43) → List (S43) → List (S43) → List (S43) → List (S33) → List (S33) → Option (Bool)
 | 0, _, _, _, _, _, _, _, _, _ => none
 | k + 1, x1, x2, x17, x616000, x616001, x616002, x616003, x616004, x616005 => if x17 = true then ((w37_alive.f).bind fun t617 => (some t617)) else (w37_CasemapUncased.l0 k x1 x2 0 x616000 x616001 x616002 x616003 x616004 x616005)
def w37_CasemapUncased.l0 : Nat → List Int → List (S33) → Int → List (S43) → List (S43) → List (S43) → List (S43) → List (S33) → List (S33) → Option (Bool)
 | 0, _, _, _, _, _, _, _, _, _ => none
 | k + 1, x1, x2, x7, x616000, x616001, x616002, x616003, x616004, x616005 => if x7 < (x1.length : Int) then (if 0 ≤ x7 then ((r02_Has.f k x616004 (rd x1 x7)).bind fun t619 => (if t619 = true then ((w37_alive.f).bind fun t620 => (some t620)) else (w37_CasemapUncased.l0 k x1 x2 (wrap64 (x7 + 1)) x616000 x616001 x616002 x616003 x616004 x616005))) else (none)) else (w37_CasemapUncased.l1 k x1 x2 0 x616000 x616001 x616002 x616003 x616004 x616005)
def w37_CasemapUncased.l1 : Nat → List Int → List (S33) → Int → List (S43) → List (S43) → List (S43) → List (S43) → List (S33) → List (S33) → Option (Bool)
 | 0, _, _, _, _, _, _, _, _, _ => none
 | k + 1, x1, x2, x8, x616000, x616001, x616002, x616003, x616004, x616005 => if x8 < (x1.length : Int) then ((casemap_Final.f x616000 x616001 x616002 x616003 x616004 x616005 x1 x8).bind fun t621 => (if t621 = true then (some false) else (w37_CasemapUncased.l1 k x1 x2 (wrap64 (x8 + 1)) x616000 x616001 x616002 x616003 x616004 x616005))) else ((casemap_Title.f x616000 x616001 x616002 x616003 x616004 x616005 x1 x2).bind fun t622 => ((r01_Equal.f k t622 x1).bind fun t625 => (if t625 = true then ((w37_alive.f).bind fun t626 => (some t626)) else (some false))))
end
def w37_CasemapUncased.f (k : Nat) (l0_0 : List (S43)) (l0_1 : List (S43)) (l0_2 : List (S43)) (l0_3 : List (S43)) (l0_4 : List (S33)) (l0_5 : List (S33)) (l1 : List Int) (l2 : List (S33)) : Option (Bool) := (w37_few.f k l0_0 l0_1 l0_2 l0_3 l0_4 l0_5 l1).bind fun t616 => (if t616 = true then (w37_CasemapUncased.j0 k l1 l2 (decide ((l2.length : Int) > 40)) l0_0 l0_1 l0_2 l0_3 l0_4 l0_5) else (w37_CasemapUncased.j0 k l1 l2 true l0_0 l0_1 l0_2 l0_3 l0_4 l0_5))
end Go.Proofs.Ythnkmcfhpjmihaa.Q
end
section
namespace Go.Proofs.Ythnkmcfhpjmihaa.Q
open Go.RowKit Go.Proofs.YthnkmcfhpjmihaaW.PrintWords Go.Proofs.YthnkmcfhpjmihaaW.PrintLast Go.Proofs.YthnkmcfhpjmihaaW.PrintMore
set_option linter.unusedVariables false
theorem plEq_self (a : List Int) (k : Nat) (h : a.length < 1000000000) (hk : 2 * a.length + 2 ≤ k) : r01_Equal.f k a a = some true := by
 rw [plEqual_ok a a k h hk, dT rfl]
theorem plOkT {t : List Int} (h : t.length ≤ 40) : okT t = true := dT (by omega)
theorem plTi {c : CaseS} {t : List Int} {ps : List Rg} (h : plFewC c) (ht : t.length ≤ 40) (hp : ps.length ≤ 40) : casemap_Title.f c.lo c.up c.ti c.fo c.ca c.ig t ps = some (TitleS c t ps) := if_pos ⟨plOkC h, plOkT ht, by omega⟩
@[irreducible] def plBig : Nat := 40000000
theorem plBig_eq : plBig = 40000000 := by unfold plBig; rfl
theorem titleA_le {c : CaseS} (h0 : okM c.lo = true) (h2 : okM c.ti = true) (t : List Int) : ∀ (ps : List Rg) (a : Nat), withinS ps (a : Int) t.length = true → a ≤ t.length → (titleA c t ps a).length + 100001 * a ≤ 100001 * t.length
 | [], a, hw, ha => by
  rw [titleA, List.length_drop]
  omega
 | p :: ps, a, hw, ha => by
  rw [withinS] at hw
  simp only [Bool.and_eq_true, decide_eq_true_eq] at hw
  obtain ⟨⟨⟨w1, w2⟩, w3⟩, w4⟩ := hw
  obtain ⟨lo, hlo⟩ : ∃ n : Nat, p.f0 = (n : Int) := ⟨p.f0.toNat, by omega⟩
  obtain ⟨hi, hhi⟩ : ∃ n : Nat, p.f1 = (n : Int) := ⟨p.f1.toNat, by omega⟩
  rw [hlo] at w1 w2
  rw [hhi] at w2 w3 w4
  have ih := titleA_le h0 h2 t ps hi w4 (by omega)
  have tl := plTitled_len h0 h2 t (hi - lo) lo false
  rw [titleA, hlo, hhi, Int.toNat_natCast, Int.toNat_natCast]
  simp only [List.length_append, List.length_drop, List.length_take]
  omega
theorem TitleS_le {c : CaseS} (h : okC c = true) (t : List Int) (ps : List Rg) : (TitleS c t ps).length ≤ 100001 * t.length := by
 unfold TitleS
 split
 ·rename_i hw
  have := titleA_le (caseData_ok h).1 (caseData_ok h).2.2.1 t ps 0 hw (Nat.zero_le _)
  omega
 ·omega
def plNo : CaseS := ⟨[], [], [], [], [], []⟩
end Go.Proofs.Ythnkmcfhpjmihaa.Q
end
