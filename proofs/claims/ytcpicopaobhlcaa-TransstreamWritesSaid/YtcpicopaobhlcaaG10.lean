/- Lemmas, printed and written for this claim: part 10. -/
import Derived.WalkKit
import Derived.WalkSpells
import Derived.Test.YtcpicopaobhlcaaG9
import Derived.Test.YtcpicopaobhlcaaG2
import Derived.Test.YtcpicopaobhlcaaG8
import Derived.Deep.RegionHeld3
import Derived.Deep.RegionLaw
import Derived.IntWalk
import Derived.Test.YtcpicopaobhlcaaG5
import Derived.Deep.LoopGhost
import Derived.LaidEqlPtr
import Derived.Test.YtcpicopaobhlcaaG3
section
namespace Go.Proofs.Ytcpicopaobhlcaa.Q
open Go.RowKit Go.Proofs.YtcpicopaobhlcaaW.PrintWords Go.Proofs.YtcpicopaobhlcaaW.PrintLast Go.Proofs.YtcpicopaobhlcaaW.PrintMore
set_option linter.unusedVariables false
/-- A stream that was given T so far, with a elements done. -/
def SpSt (w : World) (b : Nat) (ok : Nat → Prop) (T : List Int) (a : Nat) (l : List Ru) : Prop :=
  ∃ s : List Int × Nat, SpRel (spBe l) T a s ∧ Strm w b ok s.1 s.2 l (spBe l) (spAh l) ∧ okText T = true ∧ T.length < 100000
theorem okText_drop {T : List Int} (d : Nat) (h : okText T = true) : okText (T.drop d) = true := by
  unfold okText at h ⊢
  simp only [Bool.and_eq_true, decide_eq_true_eq, List.all_eq_true, List.length_drop] at h ⊢
  exact ⟨by omega, fun x hx => h.2 x (List.mem_of_mem_drop hx)⟩
theorem okText_app {T U : List Int} (h : okText T = true) (hU : okText U = true) (hl : (T ++ U).length < 100000000) : okText (T ++ U) = true := by
  unfold okText at h hU ⊢
  simp only [Bool.and_eq_true, decide_eq_true_eq, List.all_eq_true] at h hU ⊢
  exact ⟨hl, fun x hx => (List.mem_append.1 hx).elim (h.2 x) (hU.2 x)⟩
theorem okText_wf {l : List Int} (h : wfT l) (hl : l.length < 100000000) : okText l = true := by
  unfold okText
  rw [decide_eq_true hl, Bool.true_and, List.all_eq_true]
  exact h.2
theorem spSmall_ah (l : List Ru) (hf : plFewL l) : spAh l < 1000000 ∧ spBe l < 1000000 ∧ 1 ≤ spAh l := by
  obtain ⟨⟨b1, b2⟩, ⟨f1, f2⟩, _⟩ := plReach_bounds l hf
  unfold spAh spBe
  omega
theorem SpSt.new {w w' : World} {b : Nat} {l : List Ru} (h : Strm w' b (fun k => w.heap.size ≤ k ∧ k ≠ b) [] 0 l (spBe l) (spAh l)) : SpSt w' b (fun k => w.heap.size ≤ k ∧ k ≠ b) [] 0 l :=
  ⟨([], 0), SpRel.start _, h, by kernel_rfl, by decide⟩
theorem SpSt.step {w w' : World} {b : Nat} {ok : Nat → Prop} {T : List Int} {a : Nat} {l : List Ru} (h : SpSt w b ok T a l) (hb : w'.heap[b]? = w.heap[b]?) (hk : ∀ k, ok k → k < w.heap.size → w'.heap[k]? = w.heap[k]?) : SpSt w' b ok T a l := by
  obtain ⟨s, h1, h2, h3⟩ := h
  exact ⟨s, h1, h2.step hb hk, h3⟩
theorem SpSt.below {w w' : World} {b : Nat} {ok : Nat → Prop} {T : List Int} {a : Nat} {l : List Ru} (h : SpSt w b ok T a l) (hb : Below w.heap.size w w') : SpSt w' b ok T a l := by
  obtain ⟨s, h1, h2, h3⟩ := h
  exact ⟨s, h1, h2.below hb, h3⟩
theorem SpSt.grown {w w' : World} {b : Nat} {ok : Nat → Prop} {T : List Int} {a : Nat} {l : List Ru} (h : SpSt w b ok T a l) {row : Option Nat} (hg : w.grownBy w' row) (hb : some b ≠ row) (hk : ∀ k, ok k → some k ≠ row) : SpSt w' b ok T a l := by
  obtain ⟨s, h1, h2, h3⟩ := h
  exact ⟨s, h1, h2.grown hg hb hk, h3⟩
theorem SpSt.mono {w : World} {b : Nat} {ok ok' : Nat → Prop} {T : List Int} {a : Nat} {l : List Ru} (h : SpSt w b ok T a l) (hk : ∀ k, ok k → ok' k) : SpSt w b ok' T a l := by
  obtain ⟨s, h1, h2, h3⟩ := h
  exact ⟨s, h1, h2.mono hk, h3⟩
theorem SpSt.after {w w1 : World} {b : Nat} {ok : Nat → Prop} {T : List Int} {a : Nat} {l : List Ru} {v v1 : Value} (h : SpSt w b (fun k => ok k ∧ some k ≠ v.ownBlock) T a l) (hg : w.grownBy w1 v.ownBlock) (hat : v1.ownBlock = v.ownBlock ∨ ∃ c, v1.ownBlock = some c ∧ w.heap.size ≤ c) (hb : some b ≠ v.ownBlock) : SpSt w1 b (fun k => ok k ∧ some k ≠ v1.ownBlock) T a l := by
  obtain ⟨s, h1, h2, h3⟩ := h
  exact ⟨s, h1, h2.after hg hat hb, h3⟩
theorem SpSt.notrow {w : World} {b : Nat} {ok ok' : Nat → Prop} {T : List Int} {a : Nat} {l : List Ru} (h : SpSt w b ok T a l) {base : Nat} {v : Value} {xs : List Int} (hr : Kd.R (Kd.int .i64) 3 w base ok' v xs) : some b ≠ v.ownBlock := by
  obtain ⟨s, h1, h2, h3⟩ := h
  exact h2.notrow hr
theorem SpSt.lt {w : World} {b : Nat} {ok : Nat → Prop} {T : List Int} {a : Nat} {l : List Ru} (h : SpSt w b ok T a l) : b < w.heap.size := by
  obtain ⟨s, h1, h2, h3⟩ := h
  exact h2.lt
theorem spNotB (b : Nat) : ¬ ((fun k : Nat => k ≠ b) b) := fun h => h rfl
theorem spStNew (A0 : Option Addr) (c0 : Nat) (l : List Ru) (w : World) (hf : plFewL l) (hr : Kd.C k41 w A0 l.length l) (hc : l.length ≤ c0) (hd : checkS l = 0) :
    Calls Try.prog 13 #[.slice A0 l.length c0] w fun e w' => ∃ b, e = .returned (.tuple #[.pointer (some ⟨b, 0, none⟩), .int .i64 0]) ∧ SpSt w' b (fun k => w.heap.size ≤ k ∧ k ≠ b) [] 0 l ∧ w.heap.size ≤ b ∧ Below w.heap.size w w' := by
  refine (sNew_calls A0 c0 l w hf hr hc hd).mono ?_
  rintro e w' ⟨b, rfl, hs, hlb, hb⟩
  exact ⟨b, rfl, SpSt.new hs, hlb, hb⟩
theorem spDataS {l : List Ru} (hd : checkS l = 0) : dataS l = l := by unfold dataS; rw [if_pos hd]
theorem spStWrite (b : Nat) (ok : Nat → Prop) (T : List Int) (a : Nat) (l : List Ru) (A1 : Option Addr) (c1 : Nat) (text : List Int) (w : World) (hf : plFewL l) (hd : checkS l = 0) (hS : SpSt w b ok T a l) (hok : ¬ ok b) (hnew : ∀ k, w.heap.size ≤ k → ok k) (htx : okText text = true) (hl : (T ++ text).length < 100000)
    (hT : Kd.C (Kd.int .i64) w A1 text.length text) (hc1 : text.length ≤ c1) :
    Calls Try.prog 14 #[.pointer (some ⟨b, 0, none⟩), .slice A1 text.length c1] w fun e w' => ∃ v, e = .returned (.tuple #[v, .int .i64 0]) ∧ Kd.R (Kd.int .i64) 3 w' w.heap.size (fun _ => True) v (spRun l (T ++ text) (spAh l) a).1 ∧ SpSt w' b ok (T ++ text) (spRun l (T ++ text) (spAh l) a).2 l ∧ w.grownBy w' (some b) := by
  obtain ⟨s, h1, h2, h3, h4⟩ := hS
  have hsp := spOk l hf (spDataS hd)
  obtain ⟨ha1, ha2, ha3⟩ := spSmall_ah l hf
  have hrel := h1.write hsp text
  have hall := okText_app h3 htx (by omega)
  have hb := h1
  obtain ⟨d, e1, e2, e3, e4, e5⟩ := hb
  have hlen : s.1.length + text.length < 10000000 := by rw [e1, List.length_drop]; simp only [List.length_append] at hl; omega
  refine (sWrite_calls b ok s.1 s.2 l (spBe l) (spAh l) A1 c1 text w h2 hok hnew hlen (by rw [e1, e2, List.length_drop]; omega) ?_ (plOkRules hf) (spDataS hd) hsp ha1 ha2 hT hc1).mono ?_
  · rw [e1]
    exact okText_app (okText_drop d h3) htx (by rw [e1] at hlen; rw [List.length_append]; omega)
  · rintro e w' ⟨v, rfl, hv, hs, hg⟩
    rw [show (s.1, s.2) = s from rfl, hrel.1] at hv
    exact ⟨v, rfl, hv, ⟨_, hrel.2, hs, hall, hl⟩, hg⟩
theorem spStClose (b : Nat) (ok : Nat → Prop) (T : List Int) (a : Nat) (l : List Ru) (w : World) (hf : plFewL l) (hd : checkS l = 0) (hS : SpSt w b ok T a l) (hok : ¬ ok b) (hnew : ∀ k, w.heap.size ≤ k → ok k) :
    Calls Try.prog 15 #[.pointer (some ⟨b, 0, none⟩)] w fun e w' => ∃ v, e = .returned (.tuple #[v, .int .i64 0]) ∧ Kd.R (Kd.int .i64) 3 w' w.heap.size (fun _ => True) v (spRun l T 1 a).1 ∧ StrmZ w' b ∧ w.grownBy w' (some b) := by
  obtain ⟨s, h1, h2, h3, h4⟩ := hS
  have hsp := spOk l hf (spDataS hd)
  obtain ⟨ha1, ha2, ha3⟩ := spSmall_ah l hf
  have hrel := h1.run hsp 1 (Nat.le_refl _) []
  rw [List.append_nil, List.append_nil] at hrel
  have hb := h1
  obtain ⟨d, e1, e2, e3, e4, e5⟩ := hb
  refine (sClose_calls b ok s.1 s.2 l (spBe l) (spAh l) w h2 hok hnew (by rw [e1, List.length_drop]; omega) (by rw [e1, e2, List.length_drop]; omega) (by rw [e1]; exact okText_drop d h3) (plOkRules hf) (spDataS hd) hsp ha2).mono ?_
  rintro e w' ⟨v, rfl, hv, hz, hg⟩
  rw [hrel] at hv
  exact ⟨v, rfl, hv, hz, hg⟩
theorem spStPend (b : Nat) (ok : Nat → Prop) (T : List Int) (a : Nat) (l : List Ru) (w : World) (hf : plFewL l) (hS : SpSt w b ok T a l) :
    Calls Try.prog 20 #[.pointer (some ⟨b, 0, none⟩)] w fun e w' => ∃ v, e = .returned v ∧ Kd.R (Kd.int .i64) 3 w' w.heap.size (fun _ => True) v (T.drop a) ∧ Below w.heap.size w w' := by
  obtain ⟨s, h1, h2, h3, h4⟩ := hS
  obtain ⟨ha1, ha2, ha3⟩ := spSmall_ah l hf
  have hp := h1.pend
  obtain ⟨d, e1, e2, e3, e4, e5⟩ := h1
  rw [← hp]
  exact sPend_calls b ok s.1 s.2 l (spBe l) (spAh l) w h2 ha3 (by rw [e1, List.length_drop]; omega) (by rw [e1, e2, List.length_drop]; omega)
def spFewB (l : List (List Int)) : Bool := decide (l.length ≤ 8) && l.all fun x => decide (x.length ≤ 30)
theorem spRd_mid (pre : List (List Int)) (x : List Int) (rest : List (List Int)) : rd_L10 (pre ++ x :: rest) (pre.length : Int) = x := by
  unfold rd_L10
  rw [Int.toNat_natCast, List.getD_eq_getElem?_getD, List.getElem?_append_right (Nat.le_refl _), Nat.sub_self]
  rfl
theorem spFew_go : ∀ (rest pre : List (List Int)) (k : Nat), (pre ++ rest).length < 1000000 → rest.length + 1 ≤ k → unicodetextlaw52_few.l0 k (pre ++ rest) (pre.length : Int) = some (rest.all fun x => decide (x.length ≤ 30))
  | [], pre, k, h1, h2 => by
    obtain ⟨k, rfl⟩ : ∃ j, k = j + 1 := ⟨k - 1, by omega⟩
    rw [unicodetextlaw52_few.l0, if_neg (by simp)]
    rfl
  | x :: rest, pre, k, h1, h2 => by
    simp only [List.length_append, List.length_cons] at h1 h2
    obtain ⟨k, rfl⟩ : ∃ j, k = j + 1 := ⟨k - 1, by omega⟩
    have ih := spFew_go rest (pre ++ [x]) k (by simp; omega) (by omega)
    rw [List.append_assoc, List.singleton_append] at ih
    have hw : wrap64 ((pre.length : Int) + 1) = ((pre ++ [x]).length : Int) := by simp only [List.length_append, List.length_cons, List.length_nil]; unfold wrap64; omega
    rw [unicodetextlaw52_few.l0, if_pos (by simp; omega), if_pos (by omega), spRd_mid, hw, ih]
    by_cases h : x.length ≤ 30
    · rw [if_neg (by omega), List.all_cons, decide_eq_true h, Bool.true_and]
    · rw [if_pos (by omega), List.all_cons, decide_eq_false h, Bool.false_and]
theorem spFew_ok (l : List (List Int)) : unicodetextlaw52_few.f 20 l = some (spFewB l) := by
  unfold unicodetextlaw52_few.f spFewB
  by_cases h : l.length ≤ 8
  · rw [if_neg (by omega), decide_eq_true h, Bool.true_and]
    have := spFew_go l [] 20 (by simp; omega) (by omega)
    simpa using this
  · rw [if_pos (by omega), decide_eq_false h, Bool.false_and]
theorem spFewB_spec {l : List (List Int)} (h : spFewB l = true) : l.length ≤ 8 ∧ ∀ x ∈ l, x.length ≤ 30 := by
  unfold spFewB at h
  simpa using h
def wfTs (l : List (List Int)) : Prop := l.length ≤ maxLen ∧ ∀ x ∈ l, wfT x
theorem opens_texts : Opens (Kd.slice 31 (Kd.slice 3 (Kd.int .i64))) wfTs 23 := opens_slice Try.underlying23 (by kernel_rfl) opens_ints
/-- What few texts, one after the other, are. -/
theorem spTexts {l : List (List Int)} (hw : wfTs l) (hf : spFewB l = true) : ∀ i, i ≤ l.length → okText (l.take i).flatten = true ∧ (l.take i).flatten.length ≤ 30 * i
  | 0, _ => ⟨by rw [List.take_zero]; kernel_rfl, by simp⟩
  | i + 1, h => by
    obtain ⟨h1, h2⟩ := spTexts hw hf i (by omega)
    obtain ⟨q1, q2⟩ := spFewB_spec hf
    have hi : i < l.length := by omega
    have hm : l[i] ∈ l := List.getElem_mem hi
    have e : (l.take (i + 1)).flatten = (l.take i).flatten ++ l[i] := by
      rw [List.take_succ_eq_append_getElem hi, List.flatten_append]; simp
    have := q2 _ hm
    rw [e]
    exact ⟨okText_app h1 (okText_wf (hw.2 _ hm) (by omega)) (by rw [List.length_append]; omega), by rw [List.length_append]; omega⟩
/-- One more text. -/
theorem spText_at {l : List (List Int)} (hw : wfTs l) (hf : spFewB l = true) (i : Nat) (hi : i < l.length) : (l.take (i + 1)).flatten = (l.take i).flatten ++ rd_L10 l (i : Int) ∧ okText (rd_L10 l (i : Int)) = true ∧ (rd_L10 l (i : Int)).length ≤ 30 ∧ ((l.take i).flatten ++ rd_L10 l (i : Int)).length < 1000 := by
  obtain ⟨q1, q2⟩ := spFewB_spec hf
  have hm : l[i] ∈ l := List.getElem_mem hi
  have e2 : rd_L10 l (i : Int) = l[i] := by
    unfold rd_L10
    rw [Int.toNat_natCast, List.getD_eq_getElem?_getD, List.getElem?_eq_getElem hi]; rfl
  have e : (l.take (i + 1)).flatten = (l.take i).flatten ++ l[i] := by
    rw [List.take_succ_eq_append_getElem hi, List.flatten_append]; simp
  have := q2 _ hm
  have := (spTexts hw hf i (by omega)).2
  rw [e2]
  exact ⟨e, okText_wf (hw.2 _ hm) (by omega), by omega, by rw [List.length_append]; omega⟩
end Go.Proofs.Ytcpicopaobhlcaa.Q
end
section
namespace Go.Proofs.Ytcpicopaobhlcaa.Q
open Go.RowKit Go.Proofs.YtcpicopaobhlcaaW.PrintWords Go.Proofs.YtcpicopaobhlcaaW.PrintLast Go.Proofs.YtcpicopaobhlcaaW.PrintMore
set_option linter.unusedVariables false
abbrev RI (w : World) (base : Nat) (v : Value) (xs : List Int) : Prop := Kd.R (Kd.int .i64) 3 w base (fun _ => True) v xs
def okB (b : Nat) (u7 u8 : Value) : Nat → Prop := fun k => k ≠ b ∧ some k ≠ u7.ownBlock ∧ some k ≠ u8.ownBlock
structure St2 (w wr : World) (b : Nat) (u7 u8 : Value) (I O : List Int) (T : List Int) (a : Nat) (l : List Ru) : Prop where
  h7 : RI wr w.heap.size u7 I
  h8 : RI wr w.heap.size u8 O
  far : ∀ k, u7.ownBlock = some k → u8.ownBlock ≠ some k
  str : SpSt wr b (okB b u7 u8) T a l
  low : w.heap.size ≤ b
  bel : Below w.heap.size w wr
theorem St2.start {w wr : World} {b : Nat} {T : List Int} {a : Nat} {l : List Ru} (h : SpSt wr b (fun k => k ≠ b) T a l) (hl : w.heap.size ≤ b) (hb : Below w.heap.size w wr) : St2 w wr b (.slice none 0 0) (.slice none 0 0) [] [] T a l :=
  ⟨Kd.R_nil _ _ _ _ _, Kd.R_nil _ _ _ _ _, fun k hk => by simp [Value.ownBlock] at hk, h.mono (fun k hk => ⟨hk, by simp [Value.ownBlock], by simp [Value.ownBlock]⟩), hl, hb⟩
theorem St2.below {w wr w2 : World} {b : Nat} {u7 u8 : Value} {I O T : List Int} {a : Nat} {l : List Ru} (h : St2 w wr b u7 u8 I O T a l) (hb : Below wr.heap.size wr w2) : St2 w w2 b u7 u8 I O T a l :=
  ⟨Kd.R_below h.h7 hb, Kd.R_below h.h8 hb, h.far, h.str.below hb, h.low, below_step h.bel hb⟩
theorem St2.new {w wr : World} {b : Nat} {u7 u8 : Value} {I O T : List Int} {a : Nat} {l : List Ru} (h : St2 w wr b u7 u8 I O T a l) : ∀ k, wr.heap.size ≤ k → okB b u7 u8 k := fun k hk =>
  ⟨fun e => by have := h.str.lt; omega, fun e => by have := Kd.R_lt h.h7 k e.symm; omega, fun e => by have := Kd.R_lt h.h8 k e.symm; omega⟩
theorem St2.write {w wr w2 : World} {b : Nat} {u7 u8 : Value} {I O T T2 : List Int} {a a2 : Nat} {l : List Ru} (h : St2 w wr b u7 u8 I O T a l) (hg : wr.grownBy w2 (some b)) (hs : SpSt w2 b (okB b u7 u8) T2 a2 l) : St2 w w2 b u7 u8 I O T2 a2 l :=
  ⟨rowKeep h.h7 hg (h.str.notrow h.h7), rowKeep h.h8 hg (h.str.notrow h.h8), h.far, hs, h.low, belowGrown h.bel hg h.low⟩
/-- How much is written: at most 16 elements for each one that is done. -/
theorem spRun_len (l : List Ru) (T : List Int) (m : Nat) (h1 : ∀ x ∈ l, 1 ≤ x.f1.length) (hp : ∀ x ∈ l, x.f3.length ≤ 16 ∧ ∀ p ∈ x.f3, p.f1 ≤ (x.f1.length : Int)) (hm : 1 ≤ m) (a : Nat) : (spRun l T m a).1.length + 16 * a ≤ 16 * (spRun l T m a).2 :=
  spRun_ind l T m h1 hm (fun a r => r.1.length + 16 * a ≤ 16 * r.2) (fun a h => by simp) (fun a n r h hs hn hn2 hc hr hP => by
    have := (resV_written l T a n _ hn hn2 hp hc).2
    simp only [List.length_append]
    omega) _ a (Nat.le_refl _)
end Go.Proofs.Ytcpicopaobhlcaa.Q
end
section
namespace Go.Proofs.Ytcpicopaobhlcaa.Q
open Go.RowKit Go.Proofs.YtcpicopaobhlcaaW.PrintWords Go.Proofs.YtcpicopaobhlcaaW.PrintLast Go.Proofs.YtcpicopaobhlcaaW.PrintMore
set_option linter.unusedVariables false
theorem SpSt.bound {w : World} {b : Nat} {ok : Nat → Prop} {T : List Int} {a : Nat} {l : List Ru} (h : SpSt w b ok T a l) : SpSt w b (fun k => ok k ∧ k < w.heap.size) T a l := by
  obtain ⟨s, h1, ⟨At, ct, Al, cl, g1, g2, g3, g4, g5⟩, h3⟩ := h
  exact ⟨s, h1, ⟨At, ct, Al, cl, g1, g2, Kd.F_bound g3, g4, Kd.F_bound g5⟩, h3⟩
def okB3 (b1 b2 : Nat) (u : Value) : Nat → Prop := fun k => (k ≠ b1 ∧ k ≠ b2) ∧ some k ≠ u.ownBlock
structure St3 (w wr : World) (b1 b2 : Nat) (u : Value) (I T1 : List Int) (a1 : Nat) (T2 : List Int) (a2 : Nat) (l : List Ru) : Prop where
  row : RI wr w.heap.size u I
  s1 : SpSt wr b1 (okB3 b1 b2 u) T1 a1 l
  s2 : SpSt wr b2 (okB3 b1 b2 u) T2 a2 l
  ne : b1 ≠ b2
  low1 : w.heap.size ≤ b1
  low2 : w.heap.size ≤ b2
  bel : Below w.heap.size w wr
theorem St3.start {w w1 w2 : World} {b1 b2 : Nat} {l : List Ru} (h1 : SpSt w1 b1 (fun k => k ≠ b1) [] 0 l) (hl1 : w.heap.size ≤ b1) (hb1 : Below w.heap.size w w1) (h2 : SpSt w2 b2 (fun k => w1.heap.size ≤ k ∧ k ≠ b2) [] 0 l) (hl2 : w1.heap.size ≤ b2) (hb2 : Below w1.heap.size w1 w2) : St3 w w2 b1 b2 (.slice none 0 0) [] [] 0 [] 0 l := by
  have hlt := h1.lt
  refine ⟨Kd.R_nil _ _ _ _ _, (h1.bound.below hb2).mono (fun k hk => ⟨⟨hk.1, by omega⟩, by simp [Value.ownBlock]⟩), h2.mono (fun k hk => ⟨⟨by omega, hk.2⟩, by simp [Value.ownBlock]⟩), by omega, hl1, Nat.le_trans hb1.size hl2, below_step hb1 hb2⟩
theorem St3.below {w wr w2 : World} {b1 b2 : Nat} {u : Value} {I T1 T2 : List Int} {a1 a2 : Nat} {l : List Ru} (h : St3 w wr b1 b2 u I T1 a1 T2 a2 l) (hb : Below wr.heap.size wr w2) : St3 w w2 b1 b2 u I T1 a1 T2 a2 l :=
  ⟨Kd.R_below h.row hb, h.s1.below hb, h.s2.below hb, h.ne, h.low1, h.low2, below_step h.bel hb⟩
theorem St3.new {w wr : World} {b1 b2 : Nat} {u : Value} {I T1 T2 : List Int} {a1 a2 : Nat} {l : List Ru} (h : St3 w wr b1 b2 u I T1 a1 T2 a2 l) : ∀ k, wr.heap.size ≤ k → okB3 b1 b2 u k := fun k hk =>
  ⟨⟨fun e => by have := h.s1.lt; omega, fun e => by have := h.s2.lt; omega⟩, fun e => by have := Kd.R_lt h.row k e.symm; omega⟩
end Go.Proofs.Ytcpicopaobhlcaa.Q
end
section
namespace Go.Proofs.Ytcpicopaobhlcaa.Q
open Go.RowKit Go.Proofs.YtcpicopaobhlcaaW.PrintWords Go.Proofs.YtcpicopaobhlcaaW.PrintLast Go.Proofs.YtcpicopaobhlcaaW.PrintMore
set_option linter.unusedVariables false
def RStB (w : World) (b : Nat) (Al : Option Addr) (nl cl : Nat) (ah : Int) (At : Option Addr) (nt ct : Nat) (a : Int) (op : Bool) : Prop :=
  w.heap[b]? = some (.cells #[.slice Al nl cl, .int .i64 ah, .slice At nt ct, .int .i64 a, .bool op] 71 (0, 0))
/-- The reference's stream: the rules, the input, the position; its rows lie in blocks of ok. -/
def RSt (w : World) (b : Nat) (ok : Nat → Prop) (t : List Int) (a : Nat) (l : List Ru) (ah : Nat) : Prop :=
  ∃ At ct Al cl, RStB w b Al l.length cl ah At t.length ct a true ∧ t.length ≤ ct ∧ Kd.F (Kd.int .i64) w ok At t.length t ∧ l.length ≤ cl ∧ Kd.F k41 w ok Al l.length l
theorem RSt.step {w w' : World} {b : Nat} {ok : Nat → Prop} {t : List Int} {a : Nat} {l : List Ru} {ah : Nat} (h : RSt w b ok t a l ah) (hb : w'.heap[b]? = w.heap[b]?) (hk : ∀ k, ok k → k < w.heap.size → w'.heap[k]? = w.heap[k]?) : RSt w' b ok t a l ah := by
  obtain ⟨At, ct, Al, cl, h1, h2, h3, h4, h5⟩ := h
  exact ⟨At, ct, Al, cl, hb.trans h1, h2, Kd.F_step h3 hk, h4, Kd.F_step h5 hk⟩
theorem RSt.lt {w : World} {b : Nat} {ok : Nat → Prop} {t : List Int} {a : Nat} {l : List Ru} {ah : Nat} (h : RSt w b ok t a l ah) : b < w.heap.size := by
  obtain ⟨At, ct, Al, cl, h1, _⟩ := h
  exact blk_lt h1
theorem RSt.below {w w' : World} {b : Nat} {ok : Nat → Prop} {t : List Int} {a : Nat} {l : List Ru} {ah : Nat} (h : RSt w b ok t a l ah) (hb : Below w.heap.size w w') : RSt w' b ok t a l ah :=
  h.step (hb.block b h.lt) (fun k _ hlt => hb.block k hlt)
theorem RSt.grown {w w' : World} {b : Nat} {ok : Nat → Prop} {t : List Int} {a : Nat} {l : List Ru} {ah : Nat} (h : RSt w b ok t a l ah) {row : Option Nat} (hg : w.grownBy w' row) (hb : some b ≠ row) (hk : ∀ k, ok k → some k ≠ row) : RSt w' b ok t a l ah :=
  h.step (hg.block b h.lt hb) (fun k hok hlt => hg.block k hlt (hk k hok))
theorem RSt.mono {w : World} {b : Nat} {ok ok' : Nat → Prop} {t : List Int} {a : Nat} {l : List Ru} {ah : Nat} (h : RSt w b ok t a l ah) (hk : ∀ k, ok k → ok' k) : RSt w b ok' t a l ah := by
  obtain ⟨At, ct, Al, cl, h1, h2, h3, h4, h5⟩ := h
  exact ⟨At, ct, Al, cl, h1, h2, Kd.F_mono h3 hk, h4, Kd.F_mono h5 hk⟩
theorem RSt.after {w w1 : World} {b : Nat} {ok : Nat → Prop} {t : List Int} {a : Nat} {l : List Ru} {ah : Nat} {v v1 : Value} (h : RSt w b (fun k => ok k ∧ some k ≠ v.ownBlock) t a l ah) (hg : w.grownBy w1 v.ownBlock) (hat : v1.ownBlock = v.ownBlock ∨ ∃ c, v1.ownBlock = some c ∧ w.heap.size ≤ c) (hb : some b ≠ v.ownBlock) : RSt w1 b (fun k => ok k ∧ some k ≠ v1.ownBlock) t a l ah := by
  obtain ⟨At, ct, Al, cl, h1, h2, h3, h4, h5⟩ := h
  exact ⟨At, ct, Al, cl, blk_grown h1 hg hb, h2, Kd.F_after h3 hg hat, h4, Kd.F_after h5 hg hat⟩
theorem RSt.notrow {w : World} {b : Nat} {ok ok' : Nat → Prop} {t : List Int} {a : Nat} {l : List Ru} {ah : Nat} (h : RSt w b ok t a l ah) {base : Nat} {v : Value} {xs : List Int} (hr : Kd.R (Kd.int .i64) 3 w base ok' v xs) : some b ≠ v.ownBlock := fun e => by
  obtain ⟨At, ct, Al, cl, h1, _⟩ := h
  obtain ⟨cells, hc⟩ := Kd.R_typed hr b e.symm
  rw [show w.heap[b]? = _ from h1] at hc
  injection hc with hc
  injection hc with _ hc2
  exact absurd hc2 (by decide)
theorem RStB.c0 {w : World} {b : Nat} {Al : Option Addr} {nl cl : Nat} {ah : Int} {At : Option Addr} {nt ct : Nat} {a : Int} {op : Bool} (h : RStB w b Al nl cl ah At nt ct a op) : w.cell? ⟨b, 0, none⟩ = some (.slice Al nl cl) := (blk_cell h 0).trans rfl
theorem RStB.c1 {w : World} {b : Nat} {Al : Option Addr} {nl cl : Nat} {ah : Int} {At : Option Addr} {nt ct : Nat} {a : Int} {op : Bool} (h : RStB w b Al nl cl ah At nt ct a op) : w.cell? ⟨b, 1, none⟩ = some (.int .i64 ah) := (blk_cell h 1).trans rfl
theorem RStB.c2 {w : World} {b : Nat} {Al : Option Addr} {nl cl : Nat} {ah : Int} {At : Option Addr} {nt ct : Nat} {a : Int} {op : Bool} (h : RStB w b Al nl cl ah At nt ct a op) : w.cell? ⟨b, 2, none⟩ = some (.slice At nt ct) := (blk_cell h 2).trans rfl
theorem RStB.c3 {w : World} {b : Nat} {Al : Option Addr} {nl cl : Nat} {ah : Int} {At : Option Addr} {nt ct : Nat} {a : Int} {op : Bool} (h : RStB w b Al nl cl ah At nt ct a op) : w.cell? ⟨b, 3, none⟩ = some (.int .i64 a) := (blk_cell h 3).trans rfl
theorem RStB.c4 {w : World} {b : Nat} {Al : Option Addr} {nl cl : Nat} {ah : Int} {At : Option Addr} {nt ct : Nat} {a : Int} {op : Bool} (h : RStB w b Al nl cl ah At nt ct a op) : w.cell? ⟨b, 4, none⟩ = some (.bool op) := (blk_cell h 4).trans rfl
theorem RStB.fz {w : World} {b : Nat} {Al : Option Addr} {nl cl : Nat} {ah : Int} {At : Option Addr} {nt ct : Nat} {a : Int} {op : Bool} (h : RStB w b Al nl cl ah At nt ct a op) (i : Nat) : w.frozen? ⟨b, i, none⟩ = false := blk_frozen h i
theorem RStB.set2 {w : World} {b : Nat} {Al : Option Addr} {nl cl : Nat} {ah : Int} {At : Option Addr} {nt ct : Nat} {a : Int} {op : Bool} (h : RStB w b Al nl cl ah At nt ct a op) (At' : Option Addr) (nt' ct' : Nat) : RStB (w.setCell ⟨b, 2, none⟩ (.slice At' nt' ct')) b Al nl cl ah At' nt' ct' a op := blk_put h 2 _ rfl
theorem RStB.set3 {w : World} {b : Nat} {Al : Option Addr} {nl cl : Nat} {ah : Int} {At : Option Addr} {nt ct : Nat} {a : Int} {op : Bool} (h : RStB w b Al nl cl ah At nt ct a op) (a' : Int) : RStB (w.setCell ⟨b, 3, none⟩ (.int .i64 a')) b Al nl cl ah At nt ct a' op := blk_put h 3 _ rfl
theorem RStB.below {w w' : World} {b : Nat} {Al : Option Addr} {nl cl : Nat} {ah : Int} {At : Option Addr} {nt ct : Nat} {a : Int} {op : Bool} (h : RStB w b Al nl cl ah At nt ct a op) (hb : Below w.heap.size w w') : RStB w' b Al nl cl ah At nt ct a op := blk_below h hb
attribute [local go_sem] max2_int max_two
set_option maxHeartbeats 4000000 in
set_option maxRecDepth 100000 in
theorem rNew_bad (A0 : Option Addr) (c0 : Nat) (l : List Ru) (w : World) (hf : plFewL l) (hr : Kd.C k41 w A0 l.length l) (hc : l.length ≤ c0) (hd : checkS l ≠ 0) :
    Calls Try.prog 19 #[.slice A0 l.length c0] w fun e w' => e = .returned (.tuple #[.pointer none, .int .i64 (checkS l)]) ∧ Below w.heap.size w w' := by
  have HR := Aside0.mk hr
  have HC := Aside0.mk hc
  have HCK := Aside0.mk (plCheck_ok l 1000 hf (by decide))
  have hq : (checkS l != 0) = true := by simpa using hd
  have hq2 : (!decide (checkS l = 0)) = true := by simpa using hd
  have hq3 : decide (checkS l = 0) = false := decide_eq_false hd
  have hq4 : (checkS l == 0) = false := by simpa using hd
  clear hr hc hd hf
  generalize checkS l = e0 at *
  go_enter Try.func19, Try.ntmps19
  go_wp2_with (go_at_call 38; (with_reducible refine (unicodetextref50_Check.calls 1000 A0 c0 l e0 _ HR.out HC.out HCK.out).mono ?_); rintro e w1 ⟨rfl, hb⟩; have HB := Aside0.mk hb; clear hb)
  go_ret2
  exact ⟨rfl, HB.out⟩
set_option maxHeartbeats 4000000 in
set_option maxRecDepth 100000 in
theorem rNew_calls (A0 : Option Addr) (c0 : Nat) (l : List Ru) (w : World) (hf : plFewL l) (hr : Kd.C k41 w A0 l.length l) (hc : l.length ≤ c0) (hd : checkS l = 0) :
    Calls Try.prog 19 #[.slice A0 l.length c0] w fun e w' => ∃ b, e = .returned (.tuple #[.pointer (some ⟨b, 0, none⟩), .int .i64 0]) ∧ RStB w' b A0 l.length c0 (spAh l) none 0 0 0 true ∧ w.heap.size ≤ b ∧ Below w.heap.size w w' := by
  have HR := Aside0.mk hr
  have HC := Aside0.mk hc
  have hck := plCheck_ok l 1000 hf (by decide)
  rw [hd] at hck
  have HCK := Aside0.mk hck
  have hde : dataS l = l := by unfold dataS; rw [if_pos hd]
  have hre : unicodetextref51_Reach.f 1000 l = some ((reachS l).1, (reachS l).2) := by
    rw [plReach_ok l 1000 hf (by decide), hde]
  have hmx : (if (reachS l).2 < (1 : Int) then 1 else (reachS l).2) = (spAh l : Int) := by
    obtain ⟨⟨b1, b2⟩, ⟨f1, f2⟩, _⟩ := plReach_bounds l hf
    unfold spAh; split <;> omega
  have HRE := Aside0.mk hre
  have HMX := Aside0.mk hmx
  clear hr hc hd hck hde hre hmx hf
  generalize (reachS l).2 = ahead at *
  generalize (reachS l).1 = beh at *
  have hu1 := Try.underlying71
  go_enter Try.func19, Try.ntmps19
  by_cases h1 : ahead < (1 : Int)
  · have HAH : Aside0 ((1 : Int) = (spAh l : Int)) := ⟨by have := HMX.out; rwa [if_pos h1] at this⟩
    go_wp2_with (first | (go_at_call 38; (with_reducible refine (unicodetextref50_Check.calls 1000 A0 c0 l 0 _ HR.out HC.out HCK.out).mono ?_); rintro e w1 ⟨rfl, hb⟩; have HB := Aside0.mk hb; clear hb) | (go_at_call 24; (with_reducible refine (unicodetextref51_Reach.calls 1000 A0 c0 l beh ahead _ (Kd.C_below HR.out HB.out) HC.out HRE.out).mono ?_); rintro e w2 ⟨rfl, hb⟩; have HB2 := Aside0.mk (below_step HB.out hb); clear hb))
    go_ret2
    have hbk := heap_alloc_new w2 (.cells #[.slice A0 l.length c0, .int .i64 1, .slice none 0 0, .int .i64 0, .bool true] 71)
    refine ⟨w2.heap.size, rfl, ?_, HB2.out.size, below_alloc HB2.out _⟩
    unfold RStB
    rw [← HAH.out]
    exact hbk
  · have HAH : Aside0 (ahead = (spAh l : Int)) := ⟨by have := HMX.out; rwa [if_neg h1] at this⟩
    go_wp2_with (first | (go_at_call 38; (with_reducible refine (unicodetextref50_Check.calls 1000 A0 c0 l 0 _ HR.out HC.out HCK.out).mono ?_); rintro e w1 ⟨rfl, hb⟩; have HB := Aside0.mk hb; clear hb) | (go_at_call 24; (with_reducible refine (unicodetextref51_Reach.calls 1000 A0 c0 l beh ahead _ (Kd.C_below HR.out HB.out) HC.out HRE.out).mono ?_); rintro e w2 ⟨rfl, hb⟩; have HB2 := Aside0.mk (below_step HB.out hb); clear hb))
    go_ret2
    have hbk := heap_alloc_new w2 (.cells #[.slice A0 l.length c0, .int .i64 ahead, .slice none 0 0, .int .i64 0, .bool true] 71)
    refine ⟨w2.heap.size, rfl, ?_, HB2.out.size, below_alloc HB2.out _⟩
    unfold RStB
    rw [← HAH.out]
    exact hbk
end Go.Proofs.Ytcpicopaobhlcaa.Q
end
section
namespace Go.Proofs.Ytcpicopaobhlcaa.Q
open Go.RowKit Go.Proofs.YtcpicopaobhlcaaW.PrintWords Go.Proofs.YtcpicopaobhlcaaW.PrintLast Go.Proofs.YtcpicopaobhlcaaW.PrintMore
set_option linter.unusedVariables false
set_option maxHeartbeats 4000000 in
set_option maxRecDepth 100000 in
theorem rStep_calls (b : Nat) (ok : Nat → Prop) (t : List Int) (a : Nat) (l : List Ru) (ah n : Nat) (w : World) (hS : RSt w b ok t a l ah) (hok : ¬ ok b) (hnew : ∀ k, w.heap.size ≤ k → ok k) (ht : t.length < 10000000) (ha : a < t.length) (hfl : plFewL l) (hd : dataS l = l) (hs : (stepS l t (a : Int)).2 = (n : Int)) (hn1 : 1 ≤ n) (hn2 : a + n ≤ t.length)
    (hpc : ∀ x ∈ l, x.f3.length ≤ 16 ∧ ∀ p ∈ x.f3, p.f1 ≤ (x.f1.length : Int)) (hcase : (stepS l t (a : Int)).1 = -1 ∧ n = 1 ∨ ∃ j : Nat, (stepS l t (a : Int)).1 = (j : Int) ∧ j < l.length ∧ n = (l.getD j z41).f1.length) :
    Calls Try.prog 40 #[.pointer (some ⟨b, 0, none⟩)] w fun e w' => ∃ A' c', e = .returned (.slice A' (writtenS l t (a : Int) (stepS l t (a : Int)).1).length c') ∧ (writtenS l t (a : Int) (stepS l t (a : Int)).1).length ≤ c' ∧ Kd.F (Kd.int .i64) w' ok A' (writtenS l t (a : Int) (stepS l t (a : Int)).1).length (writtenS l t (a : Int) (stepS l t (a : Int)).1) ∧ RSt w' b ok t (a + n) l ah ∧ w.grownBy w' (some b) := by
  obtain ⟨At, ct, Al, cl, hB, h2, h3, h4, h5⟩ := hS
  obtain ⟨i, hi⟩ : ∃ i, i = (stepS l t (a : Int)).1 := ⟨_, rfl⟩
  have hpair : stepS l t (a : Int) = (i, (n : Int)) := by rw [hi, ← hs]
  have hsf : unicodetextref51_Step.f 1000 l t (a : Int) = some (i, (n : Int)) := by
    rw [plRefStep_ok l t (a : Int) 1000 hfl (by omega) (by decide), hd, hpair]
  rw [← hi] at hcase ⊢
  have c0 := hB.c0
  have c2 := hB.c2
  have c3 := hB.c3
  have HBK := Aside0.mk hB
  have H3 := Aside0.mk h3
  have H5 := Aside0.mk h5
  have H2 := Aside0.mk h2
  have H4 := Aside0.mk h4
  have HSF := Aside0.mk hsf
  have HNEW := Aside0.mk hnew
  have HPC := Aside0.mk hpc
  have HCS := Aside0.mk hcase
  have HN := Aside0.mk (And.intro ha hn2)
  have HTL := Aside0.mk ht
  have HOKB : Aside0 (∀ k, ok k → k ≠ b) := ⟨fun k hk e => hok (e ▸ hk)⟩
  have HBX := Aside0.mk (Below.refl w.heap.size w)
  clear hB h3 h5 h2 h4 hsf hnew hpc hcase hs hd hfl hi hpair hok ht ha hn2
  go_enter Try.func40, Try.ntmps40
  go_wp2
  go_region_held3 (fun w' => w'.cell? ⟨b, 0, none⟩ = some (.slice Al l.length cl) ∧ w'.cell? ⟨b, 2, none⟩ = some (.slice At t.length ct) ∧ w'.cell? ⟨b, 3, none⟩ = some (.int .i64 a)) (first | go_keep | (go_split_ands; refine ⟨?_, ?_, ?_⟩; (refine pw_cell_below hb ?_; assumption); (refine pw_cell_below hb ?_; assumption); (refine pw_cell_below hb ?_; assumption)))
    (first | (go_at_call 50; (with_reducible refine (unicodetextref51_Step.calls 1000 Al cl l At ct t (a : Int) i (n : Int) _ ?s1 H4.out ?s2 H2.out HSF.out).mono ?_); (case s1 => exact Kd.C_below (Kd.F_now H5.out) (by repeat (first | (with_reducible first | exact HBX.out | apply below_alloc | apply pw_below_drewN | apply below_drew1) | exact HBX.out))); (case s2 => exact Kd.C_below (Kd.F_now H3.out) (by repeat (first | (with_reducible first | exact HBX.out | apply below_alloc | apply pw_below_drewN | apply below_drew1) | exact HBX.out))); rintro e w1 ⟨rfl, hb⟩; have HB1 := Aside0.mk (below_step (by repeat (first | (with_reducible first | exact HBX.out | apply below_alloc | apply pw_below_drewN | apply below_drew1) | exact HBX.out)) hb)))
  have HBK1 := Aside0.mk (HBK.out.below HB1.out)
  have d0 := HBK1.out.c0
  have d2 := HBK1.out.c2
  have d3 := HBK1.out.c3
  have f3 := HBK1.out.fz 3
  clear c0 c2 c3 hb
  have HF3 := Aside0.mk (Kd.F_below H3.out HB1.out)
  have HF5 := Aside0.mk (Kd.F_below H5.out HB1.out)
  have HCV := Kd.F_mid (lo := a) (hi := a + n) HF3.out (by omega) HN.out.2 H2.out
  rw [cov_len _ _ _ HN.out.2, if_neg (by have := H2.out; have := HN.out.1; omega), show a * (Kd.int .i64).sz = a from Nat.mul_one a] at HCV
  obtain ⟨ad, e, _⟩ := Kd.at_int (Kd.F_now HF3.out) (a : Int) (by omega) (by have := HN.out.1; omega)
  cases e
  have HCV := Aside0.mk HCV
  have hw : wrap64 ((a : Int) + (n : Int)) = (a : Int) + (n : Int) := by have := HTL.out; have := HN.out.2; unfold wrap64; omega
  have hx1 : (ct = a) = False := eq_false (by have := H2.out; have := HN.out.1; omega)
  have hx2 : (0 ≤ (a : Int) + (n : Int)) = True := eq_true (by omega)
  have hx3 : ((a : Int) + (n : Int) ≤ (ct : Int)) = True := eq_true (by have := H2.out; have := HN.out.2; omega)
  have hx4 : ((a : Int) ≤ (a : Int) + (n : Int)) = True := eq_true (by omega)
  have hx5 : a + n - a = n := by omega
  rcases HCS.out with ⟨rfl, hn1'⟩ | ⟨j, rfl, hj, hnj⟩
  · have HWE := Aside0.mk (resV_written l t a n (-1) (by omega) HN.out.2 HPC.out (.inl ⟨rfl, hn1'⟩)).1
    clear hn1 hn1'
    go_wp2
    go_quiet (fail)
    go_wp2
    go_ret
    have hWc : writtenS l t (a : Int) (-1) = (t.take (a + n)).drop a := by rw [← HWE.out]; exact if_pos (by decide)
    rw [hWc, cov_len _ _ _ HN.out.2]
    refine ⟨some (ad.add a), ct - a, ?_, by have := H2.out; have := HN.out.2; omega, Kd.F_far (Kd.F_drewN HCV.out nq) HOKB.out _, ⟨some ad, ct, Al, cl, (HBK1.out.below (pw_below_drewN (Below.refl _ _) nq)).set3 _, H2.out, Kd.F_far (Kd.F_drewN HF3.out nq) HOKB.out _, H4.out, Kd.F_far (Kd.F_drewN HF5.out nq) HOKB.out _⟩, (grown_of_below (pw_below_drewN HB1.out nq) _).trans (gbSet _ _ _ _)⟩
    show Ending.returned (Value.slice (some (ad.add a)) (a + n - a) (ct - a)) = _
    rw [hx5]
  · have hm : l.getD j z41 ∈ l := by
      rw [List.getD_eq_getElem?_getD, List.getElem?_eq_getElem hj]; exact List.getElem_mem hj
    have hpj := HPC.out _ hm
    have e : rd_T41 l (j : Int) = l.getD j z41 := by
      unfold rd_T41
      rw [Int.toNat_natCast]
    rw [← e] at hpj hnj
    have HWE := Aside0.mk (resV_written l t a n (j : Int) hn1 HN.out.2 HPC.out (.inr ⟨j, rfl, hj, by rw [hnj, e]⟩)).1
    have hWc : writtenS l t (a : Int) (j : Int) = (rd_T41 l (j : Int)).f3.map (pieceV ((t.take (a + n)).drop a)) := by rw [← HWE.out]; exact if_neg (by omega)
    have HWC := Aside0.mk hWc
    have HL3 : Aside0 ((rd_T41 l (j : Int)).f3.length < 1000000) := ⟨by omega⟩
    have HP : Aside0 (∀ p ∈ (rd_T41 l (j : Int)).f3, p.f1 ≤ (n : Int)) := ⟨by rw [hnj]; exact hpj.2⟩
    have HJ := Aside0.mk hj
    clear hpj hnj hm e hWc hj hn1
    go_wp2
    go_quiet (fail)
    go_upto_region 4 with (fail)
    obtain ⟨w2, hw2⟩ : ∃ w2, w2 = (w1.drewN nq).setCell ⟨b, 3, none⟩ (.int .i64 ((a : Int) + (n : Int))) := ⟨_, rfl⟩
    rw [← hw2, hx5]
    simp only [hw]
    have hB2 : RStB w2 b Al l.length cl ah (some ad) t.length ct ((a : Int) + (n : Int)) true := by rw [hw2]; exact (HBK1.out.below (pw_below_drewN (Below.refl _ _) nq)).set3 _
    have hF3 : Kd.F (Kd.int .i64) w2 ok (some ad) t.length t := by rw [hw2]; exact Kd.F_far (Kd.F_drewN HF3.out nq) HOKB.out _
    have hF5 : Kd.F k41 w2 ok Al l.length l := by rw [hw2]; exact Kd.F_far (Kd.F_drewN HF5.out nq) HOKB.out _
    have hCV : Kd.F (Kd.int .i64) w2 ok (some (ad.add a)) n ((t.take (a + n)).drop a) := by rw [hw2]; exact Kd.F_far (Kd.F_drewN HCV.out nq) HOKB.out _
    have hg2 : w.grownBy w2 (some b) := by rw [hw2]; exact (grown_of_below (pw_below_drewN HB1.out nq) _).trans (gbSet _ _ _ _)
    have HBK2 := Aside0.mk hB2
    have G3 := Aside0.mk hF3
    have G5 := Aside0.mk hF5
    have GC := Aside0.mk (Kd.F_now hCV)
    have GG := Aside0.mk hg2
    clear HBK1 d0 d2 d3 f3 HF3 HF5 HCV hB2 hF3 hF5 hCV hg2 hw2
    have q0 := HBK2.out.c0
    obtain ⟨adr, D0, g0, D1, g1, D2, g2, D3, g3, er, y0, y1, y2, y3, u0, v0, u1, v1, u2, v2, u3, v3⟩ := at_T41 (Kd.F_now G5.out) (j : Int) (by omega) (by have := HJ.out; omega)
    cases er
    rw [Int.toNat_natCast] at y0 y1 y2 y3
    have H3P := Aside0.mk v3
    clear y0 y1 y2 u0 v0 u1 v1 u2 v2 u3 v3
    have hp3 : (0 ≤ (j : Int)) = True := eq_true (by omega)
    have hp4 : ((j : Int) < (l.length : Int)) = True := eq_true (by have := HJ.out; omega)
    have hq5 : decide ((j : Int) < 0) = false := decide_eq_false (by omega)
    generalize rd_T41 l (j : Int) = x at *
    generalize hcov : (t.take (a + n)).drop a = cov at *
    have HCL : Aside0 (cov.length = n) := ⟨by rw [← hcov]; exact cov_len _ _ _ HN.out.2⟩
    clear hcov
    go_wp2
    go_loopw [6, 8] (fun lv j wr => ∃ k : Nat, j = .int .i64 k ∧ Aside0 (k ≤ x.f3.length) ∧ Aside0 (Kd.R (Kd.int .i64) 3 wr w2.heap.size (fun _ => True) lv ((x.f3.take k).map (pieceV cov))) ∧ Aside0 (Below w2.heap.size w2 wr)) (fun _ j _ => x.f3.length - (intOf j).toNat)
    case atStart => exact ⟨0, rfl, ⟨Nat.zero_le _⟩, ⟨Kd.R_nil _ _ _ _ _⟩, ⟨Below.refl _ _⟩⟩
    case round =>
      obtain ⟨k, rfl, HK, HO, HB⟩ := hrel
      by_cases hlt : k < x.f3.length
      · obtain ⟨adp, e, hy0, hy1⟩ := at_T59 H3P.out (k : Int) (by omega) (by omega)
        cases e
        rw [Int.toNat_natCast] at hy0 hy1
        have hc0 := (HB.out.cell (World.block_lt_of_cell? w2 _ hy0)).trans hy0
        have hc1 := (HB.out.cell (World.block_lt_of_cell? w2 _ hy1)).trans hy1
        have hmem : rd_T59 x.f3 (k : Int) ∈ x.f3 := by unfold rd_T59; rw [Int.toNat_natCast, List.getD_eq_getElem?_getD, List.getElem?_eq_getElem hlt]; exact List.getElem_mem hlt
        have hst : (x.f3.take (k + 1)).map (pieceV cov) = (x.f3.take k).map (pieceV cov) ++ [pieceV cov (rd_T59 x.f3 (k : Int))] := by
          unfold rd_T59
          rw [Int.toNat_natCast, List.getD_eq_getElem?_getD, List.take_add_one, List.getElem?_eq_getElem hlt, List.map_append]
          rfl
        have hpl := HP.out _ hmem
        have HST := Aside0.mk hst
        clear hy0 hy1 hst hmem
        generalize rd_T59 x.f3 (k : Int) = p at *
        have hp1 : (0 ≤ (k : Int)) = True := eq_true (by omega)
        have hw : wrap64 ((k : Int) + 1) = (k : Int) + 1 := by have := HL3.out; unfold wrap64; omega
        have HLN : Aside0 (((x.f3.take k).map (pieceV cov)).length < 1000000) := ⟨by rw [List.length_map, List.length_take]; have := HL3.out; omega⟩
        by_cases hg : 0 < p.f1
        · obtain ⟨adc, e2, hz⟩ := Kd.at_int (Kd.C_below GC.out HB.out) (p.f1 - 1) (by omega) (by have := HCL.out; omega)
          cases e2
          rw [show (p.f1 - 1).toNat = p.f1.toNat - 1 by omega] at hz
          have hdg : decide (p.f1 > 0) = true := decide_eq_true hg
          have hpv : pieceV cov p = rd cov (p.f1 - 1) := by unfold pieceV; rw [if_pos hg]
          have hwp : wrap64 (p.f1 - 1) = p.f1 - 1 := by have := HTL.out; have := HN.out.2; unfold wrap64; omega
          have hq1 : (0 ≤ p.f1 - 1) = True := eq_true (by omega)
          have hq3 : (1 ≤ p.f1) = True := eq_true (by omega)
          have hq4 : (p.f1 < 1) = False := eq_false (by omega)
          have hq2 : (p.f1 - 1 < (n : Int)) = True := eq_true (by omega)
          rw [hpv] at HST
          clear hpv hg
          generalize rd cov (p.f1 - 1) = q at *
          go_wp2_with (at_builtin; refine Kd.R_append (Kd.int .i64) (w0 := w2) w2.heap.size rfl (.tmp 72) (.tmp 82) 31 3 (.int .i64 0) 8 rfl Try.underlying31 info3 rfl (by decide) (by omega) _ ((x.f3.take k).map (pieceV cov)) q [.int .i64 q] (fun _ => True) (fun _ => False) rfl (by first | (go_simp; done) | (go_simp; rfl)) ?aP (fun _ hk => hk.elim) ?aF ?aO ?aB ?aS ?aL ?_; (case aP => exact rfl); (case aB => exact (by repeat (first | (with_reducible first | exact HB.out | apply below_alloc | apply pw_below_drewN | apply below_drew1) | exact HB.out))); (case aF => exact (fun _ _ => trivial)); (case aO => exact (by (with_reducible repeat (first | apply Kd.R_alloc | apply Kd.R_drewN | apply Kd.R_drew)); exact HO.out)); (case aS => exact (below_size (by repeat (first | (with_reducible first | exact HB.out | apply below_alloc | apply pw_below_drewN | apply below_drew1) | exact HB.out)))); (case aL => have h1_ := HLN.out; omega); intro v3 w4 ho hb hg hat; have HB4 := Aside0.mk hb; have HO4 := Aside0.mk ho; clear ho hb hg hat)
          go_roundw
          case rel => exact ⟨k + 1, by rw [hw]; rfl, ⟨hlt⟩, ⟨by rw [HST.out]; exact HO4.out⟩, HB4⟩
          case measure => rw [hw]; simp only [intOf]; omega
        · have hdg : decide (p.f1 > 0) = false := decide_eq_false hg
          have hpv : pieceV cov p = p.f0 := by unfold pieceV; rw [if_neg hg]
          rw [hpv] at HST
          clear hpv hg
          go_wp2_with (at_builtin; refine Kd.R_append (Kd.int .i64) (w0 := w2) w2.heap.size rfl (.tmp 84) (.tmp 90) 31 3 (.int .i64 0) 8 rfl Try.underlying31 info3 rfl (by decide) (by omega) _ ((x.f3.take k).map (pieceV cov)) p.f0 [.int .i64 p.f0] (fun _ => True) (fun _ => False) rfl (by first | (go_simp; done) | (go_simp; rfl)) ?aP (fun _ hk => hk.elim) ?aF ?aO ?aB ?aS ?aL ?_; (case aP => exact rfl); (case aB => exact (by repeat (first | (with_reducible first | exact HB.out | apply below_alloc | apply pw_below_drewN | apply below_drew1) | exact HB.out))); (case aF => exact (fun _ _ => trivial)); (case aO => exact (by (with_reducible repeat (first | apply Kd.R_alloc | apply Kd.R_drewN | apply Kd.R_drew)); exact HO.out)); (case aS => exact (below_size (by repeat (first | (with_reducible first | exact HB.out | apply below_alloc | apply pw_below_drewN | apply below_drew1) | exact HB.out)))); (case aL => have h1_ := HLN.out; omega); intro v3 w4 ho hb hg hat; have HB4 := Aside0.mk hb; have HO4 := Aside0.mk ho; clear ho hb hg hat)
          go_roundw
          case rel => exact ⟨k + 1, by rw [hw]; rfl, ⟨hlt⟩, ⟨by rw [HST.out]; exact HO4.out⟩, HB4⟩
          case measure => rw [hw]; simp only [intOf]; omega
      · obtain rfl : k = x.f3.length := by have := HK.out; omega
        rw [List.take_length] at HO
        go_wp2
        go_ret
        rw [HWC.out]
        obtain ⟨A6, c6, rfl⟩ := Kd.R_slice HO.out
        refine ⟨A6, c6, rfl, (Kd.R_reads' HO.out).2.1, Kd.F_mono (Kd.R_F (Kd.R_bound HO.out)) (fun k hk => HNEW.out k (Nat.le_trans GG.out.size hk.2.1)), ?_, gbBelow GG.out HB.out⟩
        exact RSt.below ⟨some ad, ct, _, cl, HBK2.out, H2.out, G3.out, H4.out, G5.out⟩ HB.out
end Go.Proofs.Ytcpicopaobhlcaa.Q
end
section
namespace Go.Proofs.Ytcpicopaobhlcaa.Q
open Go.RowKit Go.Proofs.YtcpicopaobhlcaaW.PrintWords Go.Proofs.YtcpicopaobhlcaaW.PrintLast Go.Proofs.YtcpicopaobhlcaaW.PrintMore
set_option linter.unusedVariables false
set_option maxHeartbeats 4000000 in
set_option maxRecDepth 100000 in
theorem rWrite_calls (b : Nat) (ok : Nat → Prop) (t : List Int) (a : Nat) (l : List Ru) (be ah : Nat) (A1 : Option Addr) (c1 : Nat) (text : List Int) (w : World) (hS : RSt w b ok t a l ah) (hok : ¬ ok b) (hnew : ∀ k, w.heap.size ≤ k → ok k) (ht : t.length + text.length < 1000000) (ha : a ≤ t.length)
    (hfl : plFewL l) (hd : dataS l = l) (hsp : SpOk l be ah) (hah : ah < 1000000) (hT : Kd.C (Kd.int .i64) w A1 text.length text) (hc1 : text.length ≤ c1) :
    Calls Try.prog 21 #[.pointer (some ⟨b, 0, none⟩), .slice A1 text.length c1] w fun e w' => ∃ v, e = .returned (.tuple #[v, .int .i64 0]) ∧ Kd.R (Kd.int .i64) 3 w' w.heap.size (fun _ => True) v (spRun l (t ++ text) ah a).1 ∧ RSt w' b ok (t ++ text) (spRun l (t ++ text) ah a).2 l ah ∧ w.grownBy w' (some b) := by
  obtain ⟨At, ct, Al, cl, hB, h2, h3, h4, h5⟩ := hS
  have c2 := hB.c2
  have c4 := hB.c4
  have HBK := Aside0.mk hB
  have H3 := Aside0.mk h3
  have H5 := Aside0.mk h5
  have H2 := Aside0.mk h2
  have H4 := Aside0.mk h4
  have HT := Aside0.mk hT
  have HC1 := Aside0.mk hc1
  have HOK := Aside0.mk hok
  have HOKB : Aside0 (∀ k, ok k → k ≠ b) := ⟨fun k hk e => hok (e ▸ hk)⟩
  have HNEW := Aside0.mk hnew
  have HTL := Aside0.mk ht
  have HA := Aside0.mk ha
  have HFL := Aside0.mk hfl
  have HD := Aside0.mk hd
  have HSP := Aside0.mk hsp
  have HAH := Aside0.mk hah
  clear hB h3 h5 h2 h4 hT hc1 hok hnew ht ha hfl hd hsp hah
  go_enter Try.func21, Try.ntmps21
  go_upto_region 6 with (first
    | (at_builtin; refine Kd.R_append_rows (Kd.int .i64) (w0 := w) w.heap.size rfl (.tmp 13) (.tmp 17) 31 3 (.int .i64 0) 8 rfl Try.underlying31 info3 rfl (by decide) (by omega) (.slice none 0 0) [] t _ _ _ (fun _ => True) (fun _ => False) rfl rfl ?aO ?aR (fun _ _ h => h) (fun _ h => h.elim) ?aF ?aB ?aS ?aL ?_; (case aR => exact Kd.F_now H3.out); (case aB => exact Below.refl _ _); (case aF => exact (fun _ _ => trivial)); (case aO => exact Kd.R_nil _ _ _ _ _); (case aS => exact Nat.le_refl _); (case aL => have h1_ := HTL.out; simp only [List.length_nil]; omega); intro v1 w1 ho hb hg hat; rw [List.nil_append] at ho; have HV1 := Aside0.mk ho; have HB1 := Aside0.mk hb; clear ho hb hg hat)
    | (at_builtin; refine Kd.R_append_rows (Kd.int .i64) (w0 := w) w.heap.size rfl (.tmp 19) (.tmp 20) 31 3 (.int .i64 0) 8 rfl Try.underlying31 info3 rfl (by decide) (by omega) v1 t text _ _ _ (fun _ => True) (fun _ => False) rfl rfl ?aO ?aR (fun _ _ h => h) (fun _ h => h.elim) ?aF ?aB ?aS ?aL ?_; (case aR => exact Kd.C_below HT.out HB1.out); (case aB => exact HB1.out); (case aF => exact (fun _ _ => trivial)); (case aO => exact HV1.out); (case aS => exact HB1.out.size); (case aL => have h1_ := HTL.out; omega); intro v2 w2 ho hb hg hat; obtain ⟨A2, k2, rfl⟩ := Kd.R_slice ho; have HO2 := Aside0.mk ho; have HBK2 := Aside0.mk (HBK.out.below hb); have HB2 := Aside0.mk hb; clear ho hb hg hat))
  clear c2 c4
  have f2 := HBK2.out.fz 2
  have d2 := HBK2.out.c2
  go_upto_region 7 with (fail)
  obtain ⟨w3, hw3⟩ : ∃ w3, w3 = w2.setCell ⟨b, 2, none⟩ (.slice A2 (t.length + text.length) k2) := ⟨_, rfl⟩
  rw [← hw3]
  have hS3 : RSt w3 b ok (t ++ text) a l ah := by
    rw [hw3, ← List.length_append]
    exact ⟨A2, k2, Al, cl, HBK2.out.set2 _ _ _, (Kd.R_reads' HO2.out).2.1, Kd.F_far (Kd.F_mono (Kd.R_F (Kd.R_bound HO2.out)) (fun k hk => HNEW.out k hk.2.1)) HOKB.out _, H4.out, Kd.F_far (Kd.F_below H5.out HB2.out) HOKB.out _⟩
  have HG3 : Aside0 (w.grownBy w3 (some b)) := ⟨by rw [hw3]; exact (grown_of_below HB2.out _).trans (gbSet _ _ _ _)⟩
  have HS := Aside0.mk hS3
  have HTT := Aside0.mk (show (t ++ text).length < 1000000 by rw [List.length_append]; exact HTL.out)
  have HA2 := Aside0.mk (show a ≤ (t ++ text).length by rw [List.length_append]; have := HA.out; omega)
  clear hS3 f2 d2 hw3 HBK2 HO2 HB2 HV1 HB1
  generalize hTE : t ++ text = T at *
  have HTE := Aside0.mk hTE
  clear hTE
  go_wp2
  go_loopg [7] (T.length + 1) (fun kq ov wr => ∃ (c : Nat) (out : List Int), Aside0 (c ≤ T.length ∧ T.length + 1 ≤ c + kq) ∧ Aside0 (spRun l T ah a = (out ++ (spRun l T ah c).1, (spRun l T ah c).2) ∧ out.length ≤ 16 * c) ∧ Aside0 (Kd.R (Kd.int .i64) 3 wr w.heap.size (fun _ => True) ov out) ∧ Aside0 (RSt wr b (fun k => ok k ∧ some k ≠ ov.ownBlock) T c l ah) ∧ Aside0 (w.grownBy wr (some b)))
  case atStart => exact ⟨a, [], ⟨HA2.out, by omega⟩, ⟨by simp, Nat.zero_le _⟩, ⟨Kd.R_nil _ _ _ _ _⟩, ⟨HS.out.mono (fun k hk => ⟨hk, by simp [Value.ownBlock]⟩)⟩, HG3⟩
  case round =>
    obtain ⟨c, out, HK, HEQ, HO, HS2, HG⟩ := hrel
    have hnb := HS2.out.notrow HO.out
    obtain ⟨Ax, cx, Ay, cy, hB, _⟩ := HS2.out
    have q1 := hB.c1
    have q2 := hB.c2
    have q3 := hB.c3
    clear hB
    have hwr : wrap64 ((T.length : Int) - (c : Int)) = (T.length : Int) - (c : Int) := by have := HTT.out; have := HK.out; unfold wrap64; omega
    by_cases hc : c + ah ≤ T.length
    · cases gk with
      | zero => have := HK.out; have := HSP.out.ahp; omega
      | succ k1 =>
        have hcl : c < T.length := by have := HSP.out.ahp; omega
        obtain ⟨n, hs, hn1, hn2, hcase⟩ := stepS_bounds l T c hcl HSP.out.one
        have hst := spRun_step l T ah HSP.out.one HSP.out.ahp c n hc hs hn1
        have hwl : (writtenS l T (c : Int) (stepS l T (c : Int)).1).length ≤ 16 * n := (resV_written l T c n _ hn1 hn2 HSP.out.pcs hcase).2
        have hd1 : decide ((T.length : Int) - (c : Int) ≥ (ah : Int)) = true := decide_eq_true (by omega)
        have hlt := Kd.R_lt HO.out
        have HSC := Aside0.mk (rStep_calls b (fun k => ok k ∧ some k ≠ u7.ownBlock) T c l ah n)
        have HSCF := Aside0.mk (And.intro hcl (And.intro hs (And.intro hn1 (And.intro hn2 hcase))))
        have HST := Aside0.mk hst
        have HWL := Aside0.mk hwl
        have HN := Aside0.mk (And.intro hn1 hn2)
        have HNB := Aside0.mk hnb
        have HLT := Aside0.mk hlt
        have HB2 := Aside0.mk (Below.refl wr.heap.size wr)
        have HT1 := Aside0.mk (show T.length < 10000000 by have := HTT.out; omega)
        clear hst hs hcase hwl hc hlt hnb hn1 hn2 hcl
        generalize writtenS l T (c : Int) (stepS l T (c : Int)).1 = wl at *
        go_wp2
        go_quiet (fail)
        clear q1 q2 q3
        go_wp2_with (first | (go_at_call 40; (with_reducible refine (HSC.out _ (HS2.out.below ?s1) (fun h => absurd h.1 HOK.out) ?s2 HT1.out HSCF.out.1 HFL.out HD.out HSCF.out.2.1 HSCF.out.2.2.1 HSCF.out.2.2.2.1 HSP.out.pcs HSCF.out.2.2.2.2).mono ?_); (case s1 => exact (pw_below_drewN HB2.out _)); (case s2 => exact (fun k hk => ⟨HNEW.out k (Nat.le_trans HG.out.size hk), fun e => by have := HLT.out k e.symm; have hk2 : wr.heap.size ≤ k := hk; omega⟩)); rintro e w3 ⟨A3, c3, rfl, h3a, h3b, h3s, h3g⟩; have HF3 := Aside0.mk h3b; have HS3 := Aside0.mk h3s; have HG3 := Aside0.mk h3g; have HO3 := Aside0.mk (rowKeep (Kd.R_drewN HO.out _) h3g HNB.out); clear h3a h3b h3s h3g) | (at_builtin; refine Kd.R_append_rows (Kd.int .i64) (w0 := w3) w.heap.size rfl (.tmp 41) (.tmp 43) 31 3 (.int .i64 0) 8 rfl Try.underlying31 info3 rfl (by decide) (by omega) u7 out wl _ _ _ (fun _ => True) (fun _ => False) rfl rfl ?aO ?aR (fun _ _ h => h) (fun _ h => h.elim) ?aF ?aB ?aS ?aL ?_; (case aR => exact Kd.F_now HF3.out); (case aB => exact Below.refl _ _); (case aF => exact (fun _ _ => trivial)); (case aO => exact HO3.out); (case aS => exact Nat.le_trans HG.out.size HG3.out.size); (case aL => have h1_ := HEQ.out.2; have h2_ := HWL.out; have h3_ := HTT.out; have h4_ := HK.out; have h5_ := HN.out; omega); intro v4 w4 ho hb hg hat; have HO4 := Aside0.mk ho; have HB4 := Aside0.mk hb; have HG4 := Aside0.mk hg; have HAT := Aside0.mk hat; clear ho hb hg hat))
        go_roundg k1
        case measure => omega
        case rel => exact ⟨c + n, out ++ wl, ⟨HN.out.2, by have := HK.out; have := HN.out; omega⟩, ⟨by rw [HEQ.out.1, HST.out, List.append_assoc], by rw [List.length_append]; have := HEQ.out.2; have := HWL.out; omega⟩, HO4, ⟨HS3.out.after HG4.out HAT.out HNB.out⟩, ⟨World.grownBy.andThen ((gbBelow HG.out (pw_below_drewN HB2.out _)).trans HG3.out) HG4.out (fun k hk => .inl (Kd.R_base HO.out k hk))⟩⟩
    · have hst := spRun_stop l T ah c (by omega)
      have hfin : spRun l T ah a = (out, c) := by rw [HEQ.out.1, hst, List.append_nil]
      have hd1 : decide ((T.length : Int) - (c : Int) ≥ (ah : Int)) = false := decide_eq_false (by omega)
      have HF := Aside0.mk hfin
      have HNB := Aside0.mk hnb
      clear hst hfin hc hnb
      go_wp2
      go_quiet (fail)
      go_wp2
      go_ret2
      rw [HTE.out, HF.out]
      exact ⟨u7, rfl, Kd.R_drewN HO.out _, (HS2.out.below (pw_below_drewN (Below.refl _ _) _)).mono (fun k h => h.1), gbBelow HG.out (pw_below_drewN (Below.refl _ _) _)⟩
set_option maxHeartbeats 4000000 in
set_option maxRecDepth 100000 in
theorem rClose_calls (b : Nat) (ok : Nat → Prop) (T : List Int) (a : Nat) (l : List Ru) (be ah : Nat) (w : World) (hS : RSt w b ok T a l ah) (hok : ¬ ok b) (hnew : ∀ k, w.heap.size ≤ k → ok k) (ht : T.length < 1000000) (ha : a ≤ T.length)
    (hfl : plFewL l) (hd : dataS l = l) (hsp : SpOk l be ah) (hah : ah < 1000000) :
    Calls Try.prog 23 #[.pointer (some ⟨b, 0, none⟩)] w fun e w' => ∃ v, e = .returned (.tuple #[v, .int .i64 0]) ∧ Kd.R (Kd.int .i64) 3 w' w.heap.size (fun _ => True) v (spRun l T 1 a).1 ∧ w.grownBy w' (some b) := by
  have HS := Aside0.mk hS
  obtain ⟨At, ct, Al, cl, hB, h2, h3, h4, h5⟩ := hS
  have c4 := hB.c4
  have HOK := Aside0.mk hok
  have HNEW := Aside0.mk hnew
  have HTT := Aside0.mk ht
  have HA2 := Aside0.mk ha
  have HFL := Aside0.mk hfl
  have HD := Aside0.mk hd
  have HSP := Aside0.mk hsp
  have HG3 := Aside0.mk (World.grownBy.refl w (some b))
  clear hB h3 h5 h2 h4 hok hnew ht ha hfl hd hsp hah
  go_enter Try.func23, Try.ntmps23
  go_upto_region 4 with (fail)
  clear c4
  go_loopg [4] (T.length + 1) (fun kq ov wr => ∃ (c : Nat) (out : List Int), Aside0 (c ≤ T.length ∧ T.length + 1 ≤ c + kq) ∧ Aside0 (spRun l T 1 a = (out ++ (spRun l T 1 c).1, (spRun l T 1 c).2) ∧ out.length ≤ 16 * c) ∧ Aside0 (Kd.R (Kd.int .i64) 3 wr w.heap.size (fun _ => True) ov out) ∧ Aside0 (RSt wr b (fun k => ok k ∧ some k ≠ ov.ownBlock) T c l ah) ∧ Aside0 (w.grownBy wr (some b)))
  case atStart => exact ⟨a, [], ⟨HA2.out, by omega⟩, ⟨by simp, Nat.zero_le _⟩, ⟨Kd.R_nil _ _ _ _ _⟩, ⟨HS.out.mono (fun k hk => ⟨hk, by simp [Value.ownBlock]⟩)⟩, HG3⟩
  case round =>
    obtain ⟨c, out, HK, HEQ, HO, HS2, HG⟩ := hrel
    have hnb := HS2.out.notrow HO.out
    obtain ⟨Ax, cx, Ay, cy, hB, _⟩ := HS2.out
    have HRB := Aside0.mk hB
    have q2 := hB.c2
    have q3 := hB.c3
    clear hB
    by_cases hc : c + 1 ≤ T.length
    · cases gk with
      | zero => have := HK.out; omega
      | succ k1 =>
        have hcl : c < T.length := by omega
        obtain ⟨n, hs, hn1, hn2, hcase⟩ := stepS_bounds l T c hcl HSP.out.one
        have hst := spRun_step l T 1 HSP.out.one (Nat.le_refl _) c n hc hs hn1
        have hwl : (writtenS l T (c : Int) (stepS l T (c : Int)).1).length ≤ 16 * n := (resV_written l T c n _ hn1 hn2 HSP.out.pcs hcase).2
        have hd1 : decide ((c : Int) < (T.length : Int)) = true := decide_eq_true (by omega)
        have hd2 : decide (c < T.length) = true := decide_eq_true (by omega)
        have hd3 : (c < T.length) = True := eq_true (by omega)
        have hlt := Kd.R_lt HO.out
        have HSC := Aside0.mk (rStep_calls b (fun k => ok k ∧ some k ≠ u4.ownBlock) T c l ah n)
        have HSCF := Aside0.mk (And.intro hcl (And.intro hs (And.intro hn1 (And.intro hn2 hcase))))
        have HST := Aside0.mk hst
        have HWL := Aside0.mk hwl
        have HN := Aside0.mk (And.intro hn1 hn2)
        have HNB := Aside0.mk hnb
        have HLT := Aside0.mk hlt
        have HB2 := Aside0.mk (Below.refl wr.heap.size wr)
        have HT1 := Aside0.mk (show T.length < 10000000 by have := HTT.out; omega)
        clear hst hs hcase hwl hc hlt hnb hn1 hn2 hcl
        generalize writtenS l T (c : Int) (stepS l T (c : Int)).1 = wl at *
        go_wp2
        go_quiet (fail)
        clear q2 q3
        go_wp2_with (first | (go_at_call 40; (with_reducible refine (HSC.out _ (HS2.out.below ?s1) (fun h => absurd h.1 HOK.out) ?s2 HT1.out HSCF.out.1 HFL.out HD.out HSCF.out.2.1 HSCF.out.2.2.1 HSCF.out.2.2.2.1 HSP.out.pcs HSCF.out.2.2.2.2).mono ?_); (case s1 => exact (pw_below_drewN HB2.out _)); (case s2 => exact (fun k hk => ⟨HNEW.out k (Nat.le_trans HG.out.size hk), fun e => by have := HLT.out k e.symm; have hk2 : wr.heap.size ≤ k := hk; omega⟩)); rintro e w3 ⟨A3, c3, rfl, h3a, h3b, h3s, h3g⟩; have HF3 := Aside0.mk h3b; have HS3 := Aside0.mk h3s; have HG3 := Aside0.mk h3g; have HO3 := Aside0.mk (rowKeep (Kd.R_drewN HO.out _) h3g HNB.out); clear h3a h3b h3s h3g) | (at_builtin; refine Kd.R_append_rows (Kd.int .i64) (w0 := w3) w.heap.size rfl (.tmp 20) (.tmp 22) 31 3 (.int .i64 0) 8 rfl Try.underlying31 info3 rfl (by decide) (by omega) u4 out wl _ _ _ (fun _ => True) (fun _ => False) rfl rfl ?aO ?aR (fun _ _ h => h) (fun _ h => h.elim) ?aF ?aB ?aS ?aL ?_; (case aR => exact Kd.F_now HF3.out); (case aB => exact Below.refl _ _); (case aF => exact (fun _ _ => trivial)); (case aO => exact HO3.out); (case aS => exact Nat.le_trans HG.out.size HG3.out.size); (case aL => have h1_ := HEQ.out.2; have h2_ := HWL.out; have h3_ := HTT.out; have h4_ := HK.out; have h5_ := HN.out; omega); intro v4 w4 ho hb hg hat; have HO4 := Aside0.mk ho; have HB4 := Aside0.mk hb; have HG4 := Aside0.mk hg; have HAT := Aside0.mk hat; clear ho hb hg hat))
        go_roundg k1
        case measure => omega
        case rel => exact ⟨c + n, out ++ wl, ⟨HN.out.2, by have := HK.out; have := HN.out; omega⟩, ⟨by rw [HEQ.out.1, HST.out, List.append_assoc], by rw [List.length_append]; have := HEQ.out.2; have := HWL.out; omega⟩, HO4, ⟨HS3.out.after HG4.out HAT.out HNB.out⟩, ⟨World.grownBy.andThen ((gbBelow HG.out (pw_below_drewN HB2.out _)).trans HG3.out) HG4.out (fun k hk => .inl (Kd.R_base HO.out k hk))⟩⟩
    · have hst := spRun_stop l T 1 c (by omega)
      have hfin : spRun l T 1 a = (out, c) := by rw [HEQ.out.1, hst, List.append_nil]
      have hd1 : decide ((c : Int) < (T.length : Int)) = false := decide_eq_false (by omega)
      have hd2 : decide (c < T.length) = false := decide_eq_false (by omega)
      have hd3 : (c < T.length) = False := eq_false (by omega)
      have HF := Aside0.mk hfin
      have HNB := Aside0.mk hnb
      clear hst hfin hc hnb
      go_wp2
      go_quiet (fail)
      have f4 := HRB.out.fz 4
      have q4 := HRB.out.c4
      clear q2 q3
      go_wp2
      go_ret2
      rw [HF.out]
      exact ⟨u4, rfl, rowKeep (Kd.R_drewN HO.out _) (gbSet _ _ _ _) HNB.out, (gbBelow HG.out (pw_below_drewN (Below.refl _ _) _)).trans (gbSet _ _ _ _)⟩
set_option maxHeartbeats 2000000 in
set_option maxRecDepth 100000 in
theorem rPend_calls (b : Nat) (ok : Nat → Prop) (t : List Int) (a : Nat) (l : List Ru) (ah : Nat) (w : World) (hS : RSt w b ok t a l ah) (ht : t.length < 10000000) (ha : a ≤ t.length) :
    Calls Try.prog 22 #[.pointer (some ⟨b, 0, none⟩)] w fun e w' => ∃ A c, e = .returned (.slice A (t.drop a).length c) ∧ (t.drop a).length ≤ c ∧ Kd.C (Kd.int .i64) w' A (t.drop a).length (t.drop a) ∧ Below w.heap.size w w' := by
  obtain ⟨At, ct, Al, cl, hB, h2, h3, h4, h5⟩ := hS
  have c2 := hB.c2
  have c3 := hB.c3
  have hx1 : (0 ≤ (a : Int)) = True := eq_true (by omega)
  have hx2 : ((a : Int) ≤ (t.length : Int)) = True := eq_true (by omega)
  have hlen : (t.drop a).length = t.length - a := List.length_drop
  have hF := Kd.F_cut (m := a) h3 ha h2
  rw [show a * (Kd.int .i64).sz = a from Nat.mul_one _] at hF
  have HLC : Aside0 ((t.drop a).length ≤ ct - a) := ⟨by rw [hlen]; omega⟩
  clear hB h3 h4 h5 h2 ht ha
  by_cases hct : ct = a
  · rw [if_pos hct] at hF
    rw [hct, Nat.sub_self] at HLC
    have HF := Aside0.mk hF
    have hctT : (ct = a) = True := eq_true hct
    have hcta : ct - a = 0 := by omega
    have HL := Aside0.mk hlen
    clear hF hct hlen
    go_enter Try.func22, Try.ntmps22
    go_wp2
    go_quiet (fail)
    go_wp2
    go_ret
    exact ⟨At, 0, by rw [HL.out]; rfl, HLC.out, Kd.C_below (Kd.F_now HF.out) (pw_below_drewN (Below.refl _ _) _), pw_below_drewN (Below.refl _ _) _⟩
  · rw [if_neg hct] at hF
    have HF := Aside0.mk hF
    have hctF : (ct = a) = False := eq_false hct
    have HL := Aside0.mk hlen
    clear hF hct hlen
    go_enter Try.func22, Try.ntmps22
    go_wp2
    go_quiet (fail)
    go_wp2
    go_ret
    exact ⟨At.map (·.add a), ct - a, by rw [HL.out]; rfl, HLC.out, Kd.C_below (Kd.F_now HF.out) (pw_below_drewN (Below.refl _ _) _), pw_below_drewN (Below.refl _ _) _⟩
end Go.Proofs.Ytcpicopaobhlcaa.Q
end
section
namespace Go.Proofs.Ytcpicopaobhlcaa.Q
open Go.RowKit Go.Proofs.YtcpicopaobhlcaaW.PrintWords Go.Proofs.YtcpicopaobhlcaaW.PrintLast Go.Proofs.YtcpicopaobhlcaaW.PrintMore
set_option linter.unusedVariables false
def okR (b1 b2 : Nat) : Nat → Prop := fun k => k ≠ b1 ∧ k ≠ b2
structure St4 (w wr : World) (b1 b2 : Nat) (T1 : List Int) (a1 : Nat) (T2 : List Int) (a2 : Nat) (l : List Ru) : Prop where
  s1 : SpSt wr b1 (okR b1 b2) T1 a1 l
  s2 : RSt wr b2 (okR b1 b2) T2 a2 l (spAh l)
  ne : b1 ≠ b2
  low1 : w.heap.size ≤ b1
  low2 : w.heap.size ≤ b2
  bel : Below w.heap.size w wr
theorem St4.start {w w1 w2 : World} {b1 b2 : Nat} {l : List Ru} {A0 : Option Addr} {c0 : Nat} (hr : Kd.C k41 w A0 l.length l) (hc : l.length ≤ c0) (h1 : SpSt w1 b1 (fun k => k ≠ b1) [] 0 l) (hl1 : w.heap.size ≤ b1) (hb1 : Below w.heap.size w w1) (h2 : RStB w2 b2 A0 l.length c0 (spAh l) none 0 0 0 true) (hl2 : w1.heap.size ≤ b2) (hb2 : Below w1.heap.size w1 w2) : St4 w w2 b1 b2 [] 0 [] 0 l := by
  have hlt := h1.lt
  have hsz := hb1.size
  refine ⟨(h1.bound.below hb2).mono (fun k hk => ⟨hk.1, by omega⟩), ⟨none, 0, A0, c0, h2, Nat.le_refl _, Kd.F_nil _ _ _, hc, Kd.F_mono (Kd.F_below (Kd.C_F k41_heap hr) (below_step hb1 hb2)) (fun k hk => ⟨by omega, by omega⟩)⟩, by omega, hl1, by omega, below_step hb1 hb2⟩
theorem St4.below {w wr w2 : World} {b1 b2 : Nat} {T1 T2 : List Int} {a1 a2 : Nat} {l : List Ru} (h : St4 w wr b1 b2 T1 a1 T2 a2 l) (hb : Below wr.heap.size wr w2) : St4 w w2 b1 b2 T1 a1 T2 a2 l :=
  ⟨h.s1.below hb, h.s2.below hb, h.ne, h.low1, h.low2, below_step h.bel hb⟩
theorem St4.new {w wr : World} {b1 b2 : Nat} {T1 T2 : List Int} {a1 a2 : Nat} {l : List Ru} (h : St4 w wr b1 b2 T1 a1 T2 a2 l) : ∀ k, wr.heap.size ≤ k → okR b1 b2 k := fun k hk =>
  ⟨fun e => by have := h.s1.lt; omega, fun e => by have := h.s2.lt; omega⟩
theorem okR_1 (b1 b2 : Nat) : ¬ okR b1 b2 b1 := fun h => h.1 rfl
theorem okR_2 (b1 b2 : Nat) : ¬ okR b1 b2 b2 := fun h => h.2 rfl
theorem sp4Write1 {w : World} (b1 b2 : Nat) (T1 : List Int) (a1 : Nat) (T2 : List Int) (a2 : Nat) (l : List Ru) (A1 : Option Addr) (c1 : Nat) (text : List Int) (wr : World) (hf : plFewL l) (hd : checkS l = 0) (h : St4 w wr b1 b2 T1 a1 T2 a2 l) (htx : okText text = true) (hl : (T1 ++ text).length < 100000)
    (hT : Kd.C (Kd.int .i64) wr A1 text.length text) (hc1 : text.length ≤ c1) :
    Calls Try.prog 14 #[.pointer (some ⟨b1, 0, none⟩), .slice A1 text.length c1] wr fun e w' => ∃ A c, e = .returned (.tuple #[.slice A (spRun l (T1 ++ text) (spAh l) a1).1.length c, .int .i64 0]) ∧ RI w' wr.heap.size (.slice A (spRun l (T1 ++ text) (spAh l) a1).1.length c) (spRun l (T1 ++ text) (spAh l) a1).1 ∧ St4 w w' b1 b2 (T1 ++ text) (spRun l (T1 ++ text) (spAh l) a1).2 T2 a2 l := by
  refine (spStWrite b1 (okR b1 b2) T1 a1 l A1 c1 text wr hf hd h.s1 (okR_1 b1 b2) h.new htx hl hT hc1).mono ?_
  rintro e w' ⟨v, rfl, hv, hs, hg⟩
  obtain ⟨A, c, rfl⟩ := Kd.R_slice hv
  exact ⟨A, c, rfl, hv, hs, h.s2.grown hg (fun e => h.ne (by injection e with e; exact e.symm)) (fun k hk e => hk.1 (by injection e)), h.ne, h.low1, h.low2, belowGrown h.bel hg h.low1⟩
theorem sp4Write2 {w : World} (b1 b2 : Nat) (T1 : List Int) (a1 : Nat) (T2 : List Int) (a2 : Nat) (l : List Ru) (A1 : Option Addr) (c1 : Nat) (text : List Int) (wr : World) (hf : plFewL l) (hd : checkS l = 0) (h : St4 w wr b1 b2 T1 a1 T2 a2 l) (ha : a2 ≤ T2.length) (hl : (T2 ++ text).length < 100000)
    (hT : Kd.C (Kd.int .i64) wr A1 text.length text) (hc1 : text.length ≤ c1) :
    Calls Try.prog 21 #[.pointer (some ⟨b2, 0, none⟩), .slice A1 text.length c1] wr fun e w' => ∃ A c, e = .returned (.tuple #[.slice A (spRun l (T2 ++ text) (spAh l) a2).1.length c, .int .i64 0]) ∧ RI w' wr.heap.size (.slice A (spRun l (T2 ++ text) (spAh l) a2).1.length c) (spRun l (T2 ++ text) (spAh l) a2).1 ∧ St4 w w' b1 b2 T1 a1 (T2 ++ text) (spRun l (T2 ++ text) (spAh l) a2).2 l ∧ wr.grownBy w' (some b2) := by
  have hsm := spSmall_ah l hf
  refine (rWrite_calls b2 (okR b1 b2) T2 a2 l (spBe l) (spAh l) A1 c1 text wr h.s2 (okR_2 b1 b2) h.new (by rw [List.length_append] at hl; omega) ha hf (spDataS hd) (spOk l hf (spDataS hd)) hsm.1 hT hc1).mono ?_
  rintro e w' ⟨v, rfl, hv, hs, hg⟩
  obtain ⟨A, c, rfl⟩ := Kd.R_slice hv
  exact ⟨A, c, rfl, hv, ⟨h.s1.grown hg (fun e => h.ne (by injection e)) (fun k hk e => hk.2 (by injection e)), hs, h.ne, h.low1, h.low2, belowGrown h.bel hg h.low2⟩, hg⟩
theorem sp4Pend1 {w : World} (b1 b2 : Nat) (T1 : List Int) (a1 : Nat) (T2 : List Int) (a2 : Nat) (l : List Ru) (wr : World) (hf : plFewL l) (h : St4 w wr b1 b2 T1 a1 T2 a2 l) :
    Calls Try.prog 20 #[.pointer (some ⟨b1, 0, none⟩)] wr fun e w' => ∃ A c, e = .returned (.slice A (T1.drop a1).length c) ∧ RI w' wr.heap.size (.slice A (T1.drop a1).length c) (T1.drop a1) ∧ St4 w w' b1 b2 T1 a1 T2 a2 l := by
  refine (spStPend b1 _ T1 a1 l wr hf h.s1).mono ?_
  rintro e w' ⟨v, rfl, hv, hb⟩
  obtain ⟨A, c, rfl⟩ := Kd.R_slice hv
  exact ⟨A, c, rfl, hv, h.below hb⟩
theorem sp4Pend2 {w : World} (b1 b2 : Nat) (T1 : List Int) (a1 : Nat) (T2 : List Int) (a2 : Nat) (l : List Ru) (wr : World) (h : St4 w wr b1 b2 T1 a1 T2 a2 l) (ha : a2 ≤ T2.length) (hl : T2.length < 100000) :
    Calls Try.prog 22 #[.pointer (some ⟨b2, 0, none⟩)] wr fun e w' => ∃ A c, e = .returned (.slice A (T2.drop a2).length c) ∧ (T2.drop a2).length ≤ c ∧ Kd.C (Kd.int .i64) w' A (T2.drop a2).length (T2.drop a2) ∧ St4 w w' b1 b2 T1 a1 T2 a2 l ∧ Below wr.heap.size wr w' := by
  refine (rPend_calls b2 (okR b1 b2) T2 a2 l (spAh l) wr h.s2 (by omega) ha).mono ?_
  rintro e w' ⟨A, c, rfl, hc, hC, hb⟩
  exact ⟨A, c, rfl, hc, hC, h.below hb, hb⟩
theorem sp4Close1 {w : World} (b1 b2 : Nat) (T1 : List Int) (a1 : Nat) (T2 : List Int) (a2 : Nat) (l : List Ru) (wr : World) (hf : plFewL l) (hd : checkS l = 0) (h : St4 w wr b1 b2 T1 a1 T2 a2 l) :
    Calls Try.prog 15 #[.pointer (some ⟨b1, 0, none⟩)] wr fun e w' => ∃ A c, e = .returned (.tuple #[.slice A (spRun l T1 1 a1).1.length c, .int .i64 0]) ∧ RI w' wr.heap.size (.slice A (spRun l T1 1 a1).1.length c) (spRun l T1 1 a1).1 ∧ RSt w' b2 (fun k => k ≠ b2) T2 a2 l (spAh l) ∧ StrmZ w' b1 ∧ Below w.heap.size w w' := by
  refine (spStClose b1 (okR b1 b2) T1 a1 l wr hf hd h.s1 (okR_1 b1 b2) h.new).mono ?_
  rintro e w' ⟨v, rfl, hv, hz, hg⟩
  obtain ⟨A, c, rfl⟩ := Kd.R_slice hv
  exact ⟨A, c, rfl, hv, (h.s2.grown hg (fun e => h.ne (by injection e with e; exact e.symm)) (fun k hk e => hk.1 (by injection e))).mono (fun k hk => hk.2), hz, belowGrown h.bel hg h.low1⟩
theorem StrmZ.grown {w w' : World} {b : Nat} (h : StrmZ w b) {row : Option Nat} (hg : w.grownBy w' row) (hb : some b ≠ row) : StrmZ w' b := by
  rcases h with h | ⟨_, _, _, _, _, _, _, _, h⟩
  · exact .inl (blk_grown h hg hb)
  · exact .inr ⟨_, _, _, _, _, _, _, _, blk_grown h hg hb⟩
theorem sp4Close2 {w : World} (b1 b2 : Nat) (T2 : List Int) (a2 : Nat) (l : List Ru) (wr : World) (hf : plFewL l) (hd : checkS l = 0) (h : RSt wr b2 (fun k => k ≠ b2) T2 a2 l (spAh l)) (hz : StrmZ wr b1) (hne : b1 ≠ b2) (hlow : w.heap.size ≤ b2) (hb : Below w.heap.size w wr) (ha : a2 ≤ T2.length) (hl : T2.length < 100000) :
    Calls Try.prog 23 #[.pointer (some ⟨b2, 0, none⟩)] wr fun e w' => ∃ A c, e = .returned (.tuple #[.slice A (spRun l T2 1 a2).1.length c, .int .i64 0]) ∧ RI w' wr.heap.size (.slice A (spRun l T2 1 a2).1.length c) (spRun l T2 1 a2).1 ∧ StrmZ w' b1 ∧ Below w.heap.size w w' ∧ wr.grownBy w' (some b2) := by
  have hsm := spSmall_ah l hf
  have hlt := h.lt
  refine (rClose_calls b2 (fun k => k ≠ b2) T2 a2 l (spBe l) (spAh l) wr h (spNotB b2) (fun k hk e => by omega) (by omega) ha hf (spDataS hd) (spOk l hf (spDataS hd)) hsm.1).mono ?_
  rintro e w' ⟨v, rfl, hv, hg⟩
  obtain ⟨A, c, rfl⟩ := Kd.R_slice hv
  exact ⟨A, c, rfl, hv, hz.grown hg (fun e => hne (by injection e)), belowGrown hb hg hlow, hg⟩
end Go.Proofs.Ytcpicopaobhlcaa.Q
end
section
namespace Go.Proofs.Ytcpicopaobhlcaa.Q
open Go.RowKit Go.Proofs.YtcpicopaobhlcaaW.PrintWords Go.Proofs.YtcpicopaobhlcaaW.PrintLast Go.Proofs.YtcpicopaobhlcaaW.PrintMore
set_option linter.unusedVariables false
set_option maxHeartbeats 8000000 in
set_option maxRecDepth 100000 in
theorem transstreamWrites_law (A0 : Option Addr) (c0 : Nat) (l0 : List Ru) (A1 : Option Addr) (c1 : Nat) (l1 : List (List Int)) (w : World) (h0 : wfL l0) (h1 : wfTs l1) (hr0 : Kd.C k41 w A0 l0.length l0) (hc0 : l0.length ≤ c0) (hr1 : Kd.C (Kd.slice 3 (Kd.int .i64)) w A1 l1.length l1) (hc1 : l1.length ≤ c1) :
    Calls Try.prog 6 #[.slice A0 l0.length c0, .slice A1 l1.length c1] w fun e w' => e = .returned (.bool true) ∧ Below w.heap.size w w' := by
  have HR := Aside0.mk hr0
  have HC := Aside0.mk hc0
  have HT := Aside0.mk hr1
  have HC1 := Aside0.mk hc1
  have hsm := sSmall_calls A0 c0 l0
  have hfw := unicodetextlaw52_few.calls 20 A1 c1 l1
  clear hr0 hc0 hr1 hc1 h0
  cases hb0 : spSmallB l0 with
  | false =>
    rw [hb0] at hsm
    have HSM := Aside0.mk hsm
    clear hsm hb0 h1 hfw
    go_enter Try.func6, Try.ntmps6
    go_wp2_with (first | (go_at_call 10; (with_reducible refine (HSM.out _ HR.out HC.out).mono ?_); rintro e w1 ⟨rfl, hb⟩; have HB := Aside0.mk hb; clear hb) | (go_at_call 12; (with_reducible refine (awake_calls _).mono ?_); rintro e wz ⟨rfl, hb⟩; have HBA := Aside0.mk hb; clear hb))
    go_ret
    exact ⟨rfl, below_step HB.out HBA.out⟩
  | true =>
    rw [hb0] at hsm
    have HSM := Aside0.mk hsm
    have hf := spSmall_few l0 hb0
    clear hsm hb0
    cases hb1 : spFewB l1 with
    | false =>
      have HFEW := Aside0.mk (hfw false)
      have HFQ := Aside0.mk (show unicodetextlaw52_few.f 20 l1 = some false by rw [spFew_ok, hb1])
      clear hfw hb1 hf h1
      go_enter Try.func6, Try.ntmps6
      go_wp2_with (first | (go_at_call 10; (with_reducible refine (HSM.out _ HR.out HC.out).mono ?_); rintro e w1 ⟨rfl, hb⟩; have HB := Aside0.mk hb; clear hb) | (go_at_call 11; (with_reducible refine (HFEW.out _ (Kd.C_below HT.out HB.out) HC1.out HFQ.out).mono ?_); rintro e w2 ⟨rfl, hb⟩; have HB1 := Aside0.mk (below_step HB.out hb.below); clear hb) | (go_at_call 12; (with_reducible refine (awake_calls _).mono ?_); rintro e wz ⟨rfl, hb⟩; have HBA := Aside0.mk hb; clear hb))
      go_ret
      exact ⟨rfl, below_step HB1.out HBA.out⟩
    | true =>
      have HFEW := Aside0.mk (hfw true)
      have HFQ := Aside0.mk (show unicodetextlaw52_few.f 20 l1 = some true by rw [spFew_ok, hb1])
      have HTX := Aside0.mk (And.intro h1 hb1)
      have HF := Aside0.mk hf
      clear hfw hb1 hf h1
      by_cases hd : checkS l0 = 0
      · have HD := Aside0.mk hd
        clear hd
        go_enter Try.func6, Try.ntmps6
        go_wp2_with (first | (go_at_call 10; (with_reducible refine (HSM.out _ HR.out HC.out).mono ?_); rintro e w1 ⟨rfl, hb⟩; have HB := Aside0.mk hb; clear hb) | (go_at_call 11; (with_reducible refine (HFEW.out _ (Kd.C_below HT.out HB.out) HC1.out HFQ.out).mono ?_); rintro e w2 ⟨rfl, hb⟩; have HB1 := Aside0.mk (below_step HB.out hb.below); clear hb) | (go_at_call 13; (with_reducible refine (spStNew A0 c0 l0 _ HF.out (Kd.C_below HR.out HB1.out) HC.out HD.out).mono ?_); rintro e w3 ⟨b, rfl, hs, hlb, hb⟩; have HS := Aside0.mk (hs.mono (fun k hk => hk.2)); have HLB := Aside0.mk (Nat.le_trans HB1.out.size hlb); have HB3 := Aside0.mk (below_step HB1.out hb); clear hb hs hlb) | (go_at_call 19; (with_reducible refine (rNew_calls A0 c0 l0 _ HF.out (Kd.C_below HR.out HB3.out) HC.out HD.out).mono ?_); rintro e w4 ⟨b2, rfl, h4, hl4, hb⟩; have HS0 := Aside0.mk (St4.start HR.out HC.out HS.out HLB.out HB3.out h4 hl4 hb); clear hb hl4 h4) | (go_at_call 12; (with_reducible refine (awake_calls _).mono ?_); rintro e wz ⟨rfl, hb⟩; have HBA := Aside0.mk hb; clear hb))
        go_loopg [9] (l1.length + 1) (fun kq iv wr => ∃ (i a : Nat), iv = .int .i64 i ∧ Aside0 (i ≤ l1.length ∧ l1.length + 1 ≤ i + kq) ∧ Aside0 (St4 w wr b b2 (l1.take i).flatten a (l1.take i).flatten a l0) ∧ Aside0 (a ≤ (l1.take i).flatten.length))
        case atStart => exact ⟨0, 0, rfl, ⟨Nat.zero_le _, by omega⟩, HS0, ⟨Nat.zero_le _⟩⟩
        case round =>
          obtain ⟨i, a, rfl, HK, HST, HO⟩ := hrel
          have hsp := spOk l0 HF.out (spDataS HD.out)
          by_cases hlt : i < l1.length
          · cases gk with
            | zero => have := HK.out; omega
            | succ k1 =>
              have hbd : l1.length ≤ 8 := (spFewB_spec HTX.out.2).1
              have hdl : decide ((i : Int) < (l1.length : Int)) = true := decide_eq_true (by omega)
              have hwi : wrap64 ((i : Int) + 1) = ((i + 1 : Nat) : Int) := by unfold wrap64; omega
              have hp1 : (0 ≤ (i : Int)) = True := eq_true (by omega)
              have hp2 : ((i : Int) < (l1.length : Int)) = True := eq_true (by omega)
              obtain ⟨e1, e2, e3, e4⟩ := spText_at HTX.out.1 HTX.out.2 i hlt
              obtain ⟨ad, A2, c2, e5, x0, x1, x2⟩ := at_L10 (Kd.C_below HT.out HST.out.bel) (i : Int) (by omega) (by omega)
              cases e5
              rw [Int.toNat_natCast] at x0
              obtain ⟨T, hTT⟩ : ∃ T, T = (l1.take i).flatten := ⟨_, rfl⟩
              rw [← hTT] at HST HO e1 e4
              have hwr := sp4Write1 (w := w) b b2 T a T a l0 A2 c2 (rd_L10 l1 (i : Int)) wr HF.out HD.out HST.out e2 (by omega) x2 x1
              have hws := fun A9 c9 w5 => sp4Write2 (w := w) b b2 (T ++ rd_L10 l1 (i : Int)) (spRun l0 (T ++ rd_L10 l1 (i : Int)) (spAh l0) a).2 T a l0 A9 c9 (rd_L10 l1 (i : Int)) w5 HF.out HD.out
              have hend := spRun_end l0 (T ++ rd_L10 l1 (i : Int)) (spAh l0) hsp.one hsp.ahp a (by rw [List.length_append]; have := HO.out; omega)
              have hlen := spRun_len l0 (T ++ rd_L10 l1 (i : Int)) (spAh l0) hsp.one hsp.pcs hsp.ahp a
              obtain ⟨wl, a2, hrun⟩ : ∃ wl a2, spRun l0 (T ++ rd_L10 l1 (i : Int)) (spAh l0) a = (wl, a2) := ⟨_, _, rfl⟩
              rw [hrun] at hwr hws hend hlen
              have hwl : wl.length + 16 * a ≤ 16 * a2 := hlen
              have ha2 : a2 ≤ (T ++ rd_L10 l1 (i : Int)).length := hend.2.2
              have HQW := Aside0.mk (show unicodetextref01_Equal.f 100000 wl wl = some true by rw [plEqual_ok _ _ _ (by omega) (by omega)]; simp)
              have HWR := Aside0.mk hwr
              have HWS := Aside0.mk hws
              have HAT := HO
              have HE4 := Aside0.mk (show (T ++ rd_L10 l1 (i : Int)).length < 100000 by omega)
              obtain ⟨T2, hT2⟩ : ∃ T2, T2 = T ++ rd_L10 l1 (i : Int) := ⟨_, rfl⟩
              rw [← hT2] at HWR HWS e1 e4 ha2
              have HE1 := Aside0.mk e1
              have HEND := Aside0.mk ha2
              have HE5 := Aside0.mk (show T2.length < 100000 by omega)
              have hpd1 := sp4Pend1 (w := w) b b2 T2 a2 T2 a2 l0
              have hpd2 := sp4Pend2 (w := w) b b2 T2 a2 T2 a2 l0
              obtain ⟨P, hP⟩ : ∃ P, P = T2.drop a2 := ⟨_, rfl⟩
              rw [← hP] at hpd1 hpd2
              have hPl : P.length ≤ 1000 := by rw [hP, List.length_drop]; omega
              have HPD1 := Aside0.mk hpd1
              have HPD2 := Aside0.mk hpd2
              have HQP := Aside0.mk (show unicodetextref01_Equal.f 100000 P P = some true by rw [plEqual_ok _ _ _ (by omega) (by omega)]; simp)
              clear e1 e2 e3 e4 x1 x2 hwr hws hend hlen hrun hwl ha2 hbd hsp hTT hT2 hP hPl hpd1 hpd2
              go_wp2_with (first | (go_at_call 14; (with_reducible refine HWR.out.mono ?_); rintro e w5 ⟨A5, c5, rfl, hv5, hs5⟩; obtain ⟨ad5, A9, c9, e9, y0, y1, y2⟩ := at_L10 (Kd.C_below HT.out hs5.bel) (i : Int) (by omega) (by omega); cases e9; rw [Int.toNat_natCast] at y0; have HW2 := Aside0.mk (HWS.out A9 c9 w5 hs5 HAT.out HE5.out y2 y1); have HV5 := Aside0.mk hv5; have HN5 := Aside0.mk (hs5.s2.notrow hv5); clear hv5 hs5 x0 y1 y2) | (go_at_call 21; (with_reducible refine HW2.out.mono ?_); rintro e w6 ⟨A6, c6, rfl, hv6, hs6, hg6⟩; have HV6 := Aside0.mk hv6; have HS6 := Aside0.mk hs6; have HV5b := Aside0.mk (rowKeep HV5.out hg6 HN5.out); clear hv6 hs6 hg6 y0) | (go_at_call 16; (with_reducible refine (unicodetextref01_Equal.calls 100000 _ _ wl _ _ wl true _ (Kd.R_reads' HV5b.out).2.2 (Kd.R_reads' HV5b.out).2.1 (Kd.R_reads' HV6.out).2.2 (Kd.R_reads' HV6.out).2.1 HQW.out).mono ?_); rintro e w7 ⟨rfl, hde⟩; have HS7 := Aside0.mk (HS6.out.below hde.below); clear hde) | (go_at_call 20; (with_reducible refine (HPD1.out _ HF.out HS7.out).mono ?_); rintro e w8 ⟨A8, c8, rfl, hv8, hs8⟩; have HV8 := Aside0.mk hv8; have HS8 := Aside0.mk hs8; clear hv8 hs8) | (go_at_call 22; (with_reducible refine (HPD2.out _ HS8.out HEND.out HE5.out).mono ?_); rintro e w9 ⟨B9, d9, rfl, hc9, hC9, hs9, hb9⟩; have HV8b := Aside0.mk (Kd.R_below HV8.out hb9); have HC9 := Aside0.mk hc9; have HK9 := Aside0.mk hC9; have HS9 := Aside0.mk hs9; clear hc9 hC9 hs9 hb9) | (go_at_call 16; (with_reducible refine (unicodetextref01_Equal.calls 100000 _ _ P _ _ P true _ (Kd.R_reads' HV8b.out).2.2 (Kd.R_reads' HV8b.out).2.1 HK9.out HC9.out HQP.out).mono ?_); rintro e wa ⟨rfl, hde⟩; have HS10 := Aside0.mk (HS9.out.below hde.below); clear hde))
              go_roundg k1
              case measure => omega
              case rel => exact ⟨i + 1, a2, by rw [hwi], ⟨hlt, by have := HK.out; omega⟩, ⟨by rw [HE1.out]; exact HS10.out⟩, ⟨by rw [HE1.out]; exact HEND.out⟩⟩
          · obtain rfl : i = l1.length := by have := HK.out; omega
            have hdl : decide ((l1.length : Int) < (l1.length : Int)) = false := decide_eq_false (by omega)
            have hbd : l1.length ≤ 8 := (spFewB_spec HTX.out.2).1
            have htl := (spTexts HTX.out.1 HTX.out.2 l1.length (Nat.le_refl _)).2
            obtain ⟨T, hTT⟩ : ∃ T, T = (l1.take l1.length).flatten := ⟨_, rfl⟩
            rw [← hTT] at HST HO htl
            have hcl1 := sp4Close1 (w := w) b b2 T a T a l0
            have hcl2 := sp4Close2 (w := w) b b2 T a l0
            have hlen := spRun_len l0 T 1 hsp.one hsp.pcs (Nat.le_refl _) a
            have hend := spRun_end l0 T 1 hsp.one (Nat.le_refl _) a HO.out
            obtain ⟨X, a3, hrun⟩ : ∃ X a3, spRun l0 T 1 a = (X, a3) := ⟨_, _, rfl⟩
            rw [hrun] at hcl1 hcl2 hlen hend
            have hxl : X.length ≤ 16 * 240 := by have h1 : X.length + 16 * a ≤ 16 * a3 := hlen; have h2 : a3 ≤ T.length := hend.2.2; omega
            have HCL1 := Aside0.mk hcl1
            have HCL2 := Aside0.mk hcl2
            have HTL := Aside0.mk (show T.length < 100000 by omega)
            have HQX := Aside0.mk (show unicodetextref01_Equal.f 100000 X X = some true by rw [plEqual_ok _ _ _ (by omega) (by omega)]; simp)
            clear hbd htl hTT hcl1 hcl2 hlen hend hrun hxl hsp hlt
            go_wp2_with (first | (go_at_call 15; (with_reducible refine (HCL1.out _ HF.out HD.out HST.out).mono ?_); rintro e wc ⟨Ac, cc, rfl, hvc, hsc, hzc, hbc⟩; have HVC := Aside0.mk hvc; have HSC := Aside0.mk hsc; have HZC := Aside0.mk hzc; have HBC := Aside0.mk hbc; clear hvc hsc hzc hbc) | (go_at_call 23; (with_reducible refine (HCL2.out _ HF.out HD.out HSC.out HZC.out HST.out.ne HST.out.low2 HBC.out HO.out HTL.out).mono ?_); rintro e wd ⟨Ad, cd, rfl, hvd, hzd, hbd, hgd⟩; have HVD := Aside0.mk hvd; have HZD := Aside0.mk hzd; have HVC2 := Aside0.mk (rowKeep HVC.out hgd (HSC.out.notrow HVC.out)); have HBD := Aside0.mk hbd; have HRF := Aside0.mk (Below.refl wd.heap.size wd); clear hvd hzd hbd hgd) | (go_at_call 14; (with_reducible refine (sWrite_closed b _ _ ?z).mono ?_); (case z => exact HZD.out.below (by repeat (first | (with_reducible first | exact HRF.out | apply below_alloc | apply pw_below_drewN | apply below_drew1) | exact HRF.out))); rintro e we ⟨rfl, hb⟩; have hbx : Below wd.heap.size wd we := below_step (by repeat (first | (with_reducible first | exact HRF.out | apply below_alloc | apply pw_below_drewN | apply below_drew1) | exact HRF.out)) hb; have HZE := Aside0.mk (HZD.out.below hbx); have HVE := Aside0.mk (Kd.R_below HVD.out hbx); have HVE2 := Aside0.mk (Kd.R_below HVC2.out hbx); have HBE := Aside0.mk (below_step HBD.out hbx); clear hb hbx) | (go_at_call 15; (with_reducible refine (sClose_closed b _ HZE.out).mono ?_); rintro e wf ⟨rfl, hb⟩; have HZF := Aside0.mk (HZE.out.below hb); have HVF := Aside0.mk (Kd.R_below HVE.out hb); have HVF2 := Aside0.mk (Kd.R_below HVE2.out hb); have HBF := Aside0.mk (below_step HBE.out hb); clear hb) | (go_at_call 16; (with_reducible refine (unicodetextref01_Equal.calls 100000 _ _ X _ _ X true _ (Kd.R_reads' HVF2.out).2.2 (Kd.R_reads' HVF2.out).2.1 (Kd.R_reads' HVF.out).2.2 (Kd.R_reads' HVF.out).2.1 HQX.out).mono ?_); rintro e wg ⟨rfl, hde⟩; have HBG := Aside0.mk (below_step HBF.out hde.below); have HZG := Aside0.mk (HZF.out.below hde.below); clear hde) | (go_at_call 20; (with_reducible refine (sPend_closed b _ HZG.out).mono ?_); rintro e wh ⟨rfl, hb⟩; have HBH := Aside0.mk (below_step HBG.out hb); clear hb) | (go_at_call 12; (with_reducible refine (awake_calls _).mono ?_); rintro e wz ⟨rfl, hb⟩; have HBA := Aside0.mk hb; clear hb))
            go_ret
            exact ⟨rfl, below_step HBH.out HBA.out⟩
      · have HD := Aside0.mk hd
        have hq : (checkS l0 = 0) = False := eq_false hd
        have hq2 : (checkS l0 == 0) = false := by simpa using hd
        have hq3 : decide (checkS l0 = 0) = false := decide_eq_false hd
        clear hd
        go_enter Try.func6, Try.ntmps6
        go_wp2_with (first | (go_at_call 10; (with_reducible refine (HSM.out _ HR.out HC.out).mono ?_); rintro e w1 ⟨rfl, hb⟩; have HB := Aside0.mk hb; clear hb) | (go_at_call 11; (with_reducible refine (HFEW.out _ (Kd.C_below HT.out HB.out) HC1.out HFQ.out).mono ?_); rintro e w2 ⟨rfl, hb⟩; have HB1 := Aside0.mk (below_step HB.out hb.below); clear hb) | (go_at_call 13; (with_reducible refine (sNew_bad A0 c0 l0 _ HF.out (Kd.C_below HR.out HB1.out) HC.out HD.out).mono ?_); rintro e w3 ⟨rfl, hb⟩; have HB3 := Aside0.mk (below_step HB1.out hb); clear hb) | (go_at_call 19; (with_reducible refine (rNew_bad A0 c0 l0 _ HF.out (Kd.C_below HR.out HB3.out) HC.out HD.out).mono ?_); rintro e w4 ⟨rfl, hb⟩; have HB4 := Aside0.mk (below_step HB3.out hb); clear hb) | (go_at_call 12; (with_reducible refine (awake_calls _).mono ?_); rintro e wz ⟨rfl, hb⟩; have HBA := Aside0.mk hb; clear hb))
        go_ret
        exact ⟨rfl, below_step HB4.out HBA.out⟩
end Go.Proofs.Ytcpicopaobhlcaa.Q
end
