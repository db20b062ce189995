/- Lemmas, printed and written for this claim: part 2. -/
import Derived.Test.YtnhagghhficdpaaProg
import Derived.Below
import Derived.Deep.Draws
import Derived.Deep.AppendLies
import Derived.Maps.AppendAt
import Derived.OwnWalk
import Derived.Laws.BytesArg
import Derived.Laws.MakeOwn
import Derived.Laws.OwnMore
import Derived.Deep.OwnRows
import Derived.Tactics
import Derived.Lib.ConvBytes
import Derived.Laws.Slices
import Derived.WalkKit
import Derived.KernelRfl
import Derived.RowKit3
import Derived.Deep.LoopGhost
import Derived.Deep.QuietTactic
import Derived.BigQuiet
import Derived.WideLaws
import Derived.Deep.DeepCutAuto
import Derived.Deep.CutBlock
import Derived.Deep.RegionHeld3
import Derived.Laws.Rows
import Derived.Lib.AppendStr
import Derived.ArgAppend
import Derived.Laws.IdiomCopy
import Derived.OrdersHeld
import Derived.Laws.BitsLemmas
import Derived.RowKit
import Derived.Test.YtnhagghhficdpaaG0
import Derived.Test.YtnhagghhficdpaaG1
import Derived.Deep.Slices
import Derived.ChangeArms
import Derived.Shelf.SlGeneric
import Derived.Ground.NamesProg
import Derived.Ground.SlgcProg
import Derived.Ground.SlsfProg
import Derived.Ground.SlsoProg
import Derived.Shelf.SlicesG.Cmp
import Derived.Shelf.SlSortCmp.WholeK
import Derived.Shelf.SlSortCmp.NoneTotal
import Derived.Shelf.SlSorted.Search
import Derived.IntWalk
section
namespace Go.Proofs.Ytnhagghhficdpaa.Q
open Go.RowKit Go.Proofs.YtnhagghhficdpaaW.PrintWords Go.Proofs.YtnhagghhficdpaaW.PrintLast Go.Proofs.YtnhagghhficdpaaW.PrintMore
attribute [local go_sem] max2_int min2_int max_two min_two max_three min_three max_four min_four   -- for this text's walks alone
set_option linter.unusedVariables false
set_option linter.unusedSimpArgs false
def errW : Option Int → Value
  | none => .nilIface
  | some c => .iface 0 (.int .i64 c)
theorem errW_none : errW none = .nilIface := rfl
theorem errW_some (c : Int) : errW (some c) = .iface 0 (.int .i64 c) := rfl
theorem info3 : (Try.prog.info? 3).map (fun i => (i.zero, i.size, i.bytes)) = some (some (.int .i64 0), 1, 8) := by kernel_rfl
theorem info38 : (Try.prog.info? 38).map (fun i => (i.zero, i.size, i.bytes)) = some (some (.agg #[(.slice none 0 0)]), 1, 24) := by kernel_rfl
theorem info59 : (Try.prog.info? 59).map (fun i => (i.zero, i.size, i.bytes)) = some (some (.agg #[(.int .i64 0), (.int .i64 0)]), 2, 16) := by kernel_rfl
-- the values' own types
structure S59 where
  f0 : Int
  f1 : Int
def z59 : S59 := ⟨(0 : Int), (0 : Int)⟩
def k59 : Kd S59 := Kd.iso (Kd.pair (Kd.int .i64) (Kd.int .i64)) (fun x : S59 => (x.f0, x.f1))
theorem k59_heap : Kd.Heap k59 := Kd.heap_iso _ (Kd.heap_pair (Kd.heap_int .i64) (Kd.heap_int .i64))
theorem k59_open {w : World} {x : S59} {cs : List Value} (h : k59.K w x cs) : cs = [.int .i64 x.f0, .int .i64 x.f1] := by
  obtain ⟨_, _, rfl, rfl, rfl⟩ := h
  exact rfl
theorem k59_openM {w : World} {base : Nat} {ok : Nat → Prop} {x : S59} {cs : List Value} (h : k59.M w base ok x cs) : cs = [.int .i64 x.f0, .int .i64 x.f1] := by
  obtain ⟨_, _, rfl, rfl, rfl⟩ := h
  exact rfl
theorem k59_mk (w : World) (x : S59)  : k59.K w x [.int .i64 x.f0, .int .i64 x.f1] := ⟨[.int .i64 x.f0], [.int .i64 x.f1], rfl, rfl, rfl⟩
theorem k59_mkM (w : World) (base : Nat) (ok : Nat → Prop) (x : S59)  : k59.M w base ok x [.int .i64 x.f0, .int .i64 x.f1] := ⟨[.int .i64 x.f0], [.int .i64 x.f1], rfl, rfl, rfl⟩
def rd_T59 (xs : List S59) (i : Int) : S59 := xs.getD i.toNat z59
theorem at_T59 {w : World} {A : Option Addr} {n : Nat} {xs : List S59} (h : Kd.C k59 w A n xs) (i : Int) (h0 : 0 ≤ i) (h1 : i < n) : ∃ ad , A = some ad ∧ w.cell? (ad.add (i.toNat * 2)) = some (.int .i64 (rd_T59 xs i).f0) ∧ w.cell? ⟨(ad.add (i.toNat * 2)).block, (ad.add (i.toNat * 2)).off + 1, none⟩ = some (.int .i64 (rd_T59 xs i).f1) := by
  obtain ⟨ad, c, e, _, hK, hc0⟩ := Kd.C_get h z59 i h0 h1
  have hc : ∀ j u, c[j]? = some u → w.cell? (ad.add (i.toNat * 2 + j)) = some u := hc0
  obtain rfl := k59_open hK
  exact ⟨ad, e, hc 0 _ rfl, by rw [← add_field _ _ 1 (by omega)]; exact hc 1 _ rfl⟩
def rd_L2 (xs : List (List S59)) (i : Int) : (List S59) := xs.getD i.toNat ([] : List S59)
structure S38 where
  f0 : (List S59)
def z38 : S38 := ⟨([] : List S59)⟩
def k38 : Kd S38 := Kd.iso (Kd.slice 59 k59) (fun x : S38 => x.f0)
theorem k38_heap : Kd.Heap k38 := Kd.heap_iso _ (Kd.heap_slice 59 k59_heap)
theorem k38_open {w : World} {x : S38} {cs : List Value} (h : k38.K w x cs) : ∃ A0 c0, cs = [.slice A0 x.f0.length c0] ∧ x.f0.length ≤ c0 ∧ k59.C w A0 x.f0.length x.f0 := by
  obtain ⟨A0, c0, rfl, l0, g0⟩ := h
  exact ⟨A0, c0, rfl, l0, g0⟩
theorem k38_mk (w : World) (x : S38) {A0 : Option Addr} {c0 : Nat} (l0 : x.f0.length ≤ c0) (g0 : k59.C w A0 x.f0.length x.f0) : k38.K w x [.slice A0 x.f0.length c0] := ⟨A0, c0, rfl, l0, g0⟩
theorem k38_mkF (W : World) (ok : Nat → Prop) (x : S38) {A0 : Option Addr} {c0 : Nat} (l0 : x.f0.length ≤ c0) (g0 : Kd.F k59 W ok A0 x.f0.length x.f0) : Kd.FK k38 W ok x [.slice A0 x.f0.length c0] := fun W2 hW => k38_mk W2 x l0 (g0 W2 hW)
def rd_T38 (xs : List S38) (i : Int) : S38 := xs.getD i.toNat z38
theorem at_T38 {w : World} {A : Option Addr} {n : Nat} {xs : List S38} (h : Kd.C k38 w A n xs) (i : Int) (h0 : 0 ≤ i) (h1 : i < n) : ∃ ad A0 c0, A = some ad ∧ w.cell? (ad.add i.toNat) = some (.slice A0 (rd_T38 xs i).f0.length c0) ∧ (rd_T38 xs i).f0.length ≤ c0 ∧ k59.C w A0 (rd_T38 xs i).f0.length (rd_T38 xs i).f0 := by
  obtain ⟨ad, c, e, _, hK, hc0⟩ := Kd.C_get h z38 i h0 h1
  have hc : ∀ j u, c[j]? = some u → w.cell? (ad.add (i.toNat * 1 + j)) = some u := hc0
  obtain ⟨A0, c0, rfl, l0, g0⟩ := k38_open hK
  exact ⟨ad, A0, c0, e, by have hq := hc 0 _ rfl; rwa [Nat.mul_one, Nat.add_zero] at hq, l0, g0⟩
def rd_L4 (xs : List (List S38)) (i : Int) : (List S38) := xs.getD i.toNat ([] : List S38)
structure S51 where
  f0 : Int
  f1 : Int
def z51 : S51 := ⟨(0 : Int), (0 : Int)⟩
def k51 : Kd S51 := Kd.iso (Kd.pair (Kd.int .i64) (Kd.int .i64)) (fun x : S51 => (x.f0, x.f1))
theorem k51_heap : Kd.Heap k51 := Kd.heap_iso _ (Kd.heap_pair (Kd.heap_int .i64) (Kd.heap_int .i64))
theorem k51_open {w : World} {x : S51} {cs : List Value} (h : k51.K w x cs) : cs = [.int .i64 x.f0, .int .i64 x.f1] := by
  obtain ⟨_, _, rfl, rfl, rfl⟩ := h
  exact rfl
theorem k51_mk (w : World) (x : S51)  : k51.K w x [.int .i64 x.f0, .int .i64 x.f1] := ⟨[.int .i64 x.f0], [.int .i64 x.f1], rfl, rfl, rfl⟩
theorem k51_mkM (w : World) (base : Nat) (ok : Nat → Prop) (x : S51)  : k51.M w base ok x [.int .i64 x.f0, .int .i64 x.f1] := ⟨[.int .i64 x.f0], [.int .i64 x.f1], rfl, rfl, rfl⟩
def rd_T51 (xs : List S51) (i : Int) : S51 := xs.getD i.toNat z51
theorem at_T51 {w : World} {A : Option Addr} {n : Nat} {xs : List S51} (h : Kd.C k51 w A n xs) (i : Int) (h0 : 0 ≤ i) (h1 : i < n) : ∃ ad , A = some ad ∧ w.cell? (ad.add (i.toNat * 2)) = some (.int .i64 (rd_T51 xs i).f0) ∧ w.cell? ⟨(ad.add (i.toNat * 2)).block, (ad.add (i.toNat * 2)).off + 1, none⟩ = some (.int .i64 (rd_T51 xs i).f1) := by
  obtain ⟨ad, c, e, _, hK, hc0⟩ := Kd.C_get h z51 i h0 h1
  have hc : ∀ j u, c[j]? = some u → w.cell? (ad.add (i.toNat * 2 + j)) = some u := hc0
  obtain rfl := k51_open hK
  exact ⟨ad, e, hc 0 _ rfl, by rw [← add_field _ _ 1 (by omega)]; exact hc 1 _ rfl⟩
def rd_L6 (xs : List (List S51)) (i : Int) : (List S51) := xs.getD i.toNat ([] : List S51)
structure S34 where
  f0 : (List S38)
  f1 : (List S38)
  f2 : (List S38)
  f3 : (List S51)
def z34 : S34 := ⟨([] : List S38), ([] : List S38), ([] : List S38), ([] : List S51)⟩
def k34 : Kd S34 := Kd.iso (Kd.pair (Kd.slice 38 k38) (Kd.pair (Kd.slice 38 k38) (Kd.pair (Kd.slice 38 k38) (Kd.slice 51 k51)))) (fun x : S34 => (x.f0, x.f1, x.f2, x.f3))
theorem k34_heap : Kd.Heap k34 := Kd.heap_iso _ (Kd.heap_pair (Kd.heap_slice 38 k38_heap) (Kd.heap_pair (Kd.heap_slice 38 k38_heap) (Kd.heap_pair (Kd.heap_slice 38 k38_heap) (Kd.heap_slice 51 k51_heap))))
theorem k34_open {w : World} {x : S34} {cs : List Value} (h : k34.K w x cs) : ∃ A0 c0 A1 c1 A2 c2 A3 c3, cs = [.slice A0 x.f0.length c0, .slice A1 x.f1.length c1, .slice A2 x.f2.length c2, .slice A3 x.f3.length c3] ∧ x.f0.length ≤ c0 ∧ k38.C w A0 x.f0.length x.f0 ∧ x.f1.length ≤ c1 ∧ k38.C w A1 x.f1.length x.f1 ∧ x.f2.length ≤ c2 ∧ k38.C w A2 x.f2.length x.f2 ∧ x.f3.length ≤ c3 ∧ k51.C w A3 x.f3.length x.f3 := by
  obtain ⟨_, _, rfl, ⟨A0, c0, rfl, l0, g0⟩, ⟨_, _, rfl, ⟨A1, c1, rfl, l1, g1⟩, ⟨_, _, rfl, ⟨A2, c2, rfl, l2, g2⟩, ⟨A3, c3, rfl, l3, g3⟩⟩⟩⟩ := h
  exact ⟨A0, c0, A1, c1, A2, c2, A3, c3, rfl, l0, g0, l1, g1, l2, g2, l3, g3⟩
theorem k34_mk (w : World) (x : S34) {A0 : Option Addr} {c0 : Nat} (l0 : x.f0.length ≤ c0) (g0 : k38.C w A0 x.f0.length x.f0) {A1 : Option Addr} {c1 : Nat} (l1 : x.f1.length ≤ c1) (g1 : k38.C w A1 x.f1.length x.f1) {A2 : Option Addr} {c2 : Nat} (l2 : x.f2.length ≤ c2) (g2 : k38.C w A2 x.f2.length x.f2) {A3 : Option Addr} {c3 : Nat} (l3 : x.f3.length ≤ c3) (g3 : k51.C w A3 x.f3.length x.f3) : k34.K w x [.slice A0 x.f0.length c0, .slice A1 x.f1.length c1, .slice A2 x.f2.length c2, .slice A3 x.f3.length c3] := ⟨[.slice A0 x.f0.length c0], [.slice A1 x.f1.length c1, .slice A2 x.f2.length c2, .slice A3 x.f3.length c3], rfl, ⟨A0, c0, rfl, l0, g0⟩, ⟨[.slice A1 x.f1.length c1], [.slice A2 x.f2.length c2, .slice A3 x.f3.length c3], rfl, ⟨A1, c1, rfl, l1, g1⟩, ⟨[.slice A2 x.f2.length c2], [.slice A3 x.f3.length c3], rfl, ⟨A2, c2, rfl, l2, g2⟩, ⟨A3, c3, rfl, l3, g3⟩⟩⟩⟩
theorem k34_mkF (W : World) (ok : Nat → Prop) (x : S34) {A0 : Option Addr} {c0 : Nat} (l0 : x.f0.length ≤ c0) (g0 : Kd.F k38 W ok A0 x.f0.length x.f0) {A1 : Option Addr} {c1 : Nat} (l1 : x.f1.length ≤ c1) (g1 : Kd.F k38 W ok A1 x.f1.length x.f1) {A2 : Option Addr} {c2 : Nat} (l2 : x.f2.length ≤ c2) (g2 : Kd.F k38 W ok A2 x.f2.length x.f2) {A3 : Option Addr} {c3 : Nat} (l3 : x.f3.length ≤ c3) (g3 : Kd.F k51 W ok A3 x.f3.length x.f3) : Kd.FK k34 W ok x [.slice A0 x.f0.length c0, .slice A1 x.f1.length c1, .slice A2 x.f2.length c2, .slice A3 x.f3.length c3] := fun W2 hW => k34_mk W2 x l0 (g0 W2 hW) l1 (g1 W2 hW) l2 (g2 W2 hW) l3 (g3 W2 hW)
def rd_T34 (xs : List S34) (i : Int) : S34 := xs.getD i.toNat z34
theorem at_T34 {w : World} {A : Option Addr} {n : Nat} {xs : List S34} (h : Kd.C k34 w A n xs) (i : Int) (h0 : 0 ≤ i) (h1 : i < n) : ∃ ad A0 c0 A1 c1 A2 c2 A3 c3, A = some ad ∧ w.cell? (ad.add (i.toNat * 4)) = some (.slice A0 (rd_T34 xs i).f0.length c0) ∧ w.cell? ⟨(ad.add (i.toNat * 4)).block, (ad.add (i.toNat * 4)).off + 1, none⟩ = some (.slice A1 (rd_T34 xs i).f1.length c1) ∧ w.cell? ⟨(ad.add (i.toNat * 4)).block, (ad.add (i.toNat * 4)).off + 2, none⟩ = some (.slice A2 (rd_T34 xs i).f2.length c2) ∧ w.cell? ⟨(ad.add (i.toNat * 4)).block, (ad.add (i.toNat * 4)).off + 3, none⟩ = some (.slice A3 (rd_T34 xs i).f3.length c3) ∧ (rd_T34 xs i).f0.length ≤ c0 ∧ k38.C w A0 (rd_T34 xs i).f0.length (rd_T34 xs i).f0 ∧ (rd_T34 xs i).f1.length ≤ c1 ∧ k38.C w A1 (rd_T34 xs i).f1.length (rd_T34 xs i).f1 ∧ (rd_T34 xs i).f2.length ≤ c2 ∧ k38.C w A2 (rd_T34 xs i).f2.length (rd_T34 xs i).f2 ∧ (rd_T34 xs i).f3.length ≤ c3 ∧ k51.C w A3 (rd_T34 xs i).f3.length (rd_T34 xs i).f3 := by
  obtain ⟨ad, c, e, _, hK, hc0⟩ := Kd.C_get h z34 i h0 h1
  have hc : ∀ j u, c[j]? = some u → w.cell? (ad.add (i.toNat * 4 + j)) = some u := hc0
  obtain ⟨A0, c0, A1, c1, A2, c2, A3, c3, rfl, l0, g0, l1, g1, l2, g2, l3, g3⟩ := k34_open hK
  exact ⟨ad, A0, c0, A1, c1, A2, c2, A3, c3, e, hc 0 _ rfl, by rw [← add_field _ _ 1 (by omega)]; exact hc 1 _ rfl, by rw [← add_field _ _ 2 (by omega)]; exact hc 2 _ rfl, by rw [← add_field _ _ 3 (by omega)]; exact hc 3 _ rfl, l0, g0, l1, g1, l2, g2, l3, g3⟩
def rd_L9 (xs : List (List S34)) (i : Int) : (List S34) := xs.getD i.toNat ([] : List S34)
def rd_L10 (xs : List (List Int)) (i : Int) : (List Int) := xs.getD i.toNat ([] : List Int)
end Go.Proofs.Ytnhagghhficdpaa.Q
end
section
namespace Go.Proofs.Ytnhagghhficdpaa.Q
open Go.RowKit Go.Proofs.YtnhagghhficdpaaW.PrintWords Go.Proofs.YtnhagghhficdpaaW.PrintLast Go.Proofs.YtnhagghhficdpaaW.PrintMore
open Go.ChangeShapes Go.WideShapes
open Go.Deep (choose_lt)
set_option linter.unusedVariables false
def Opens {α : Type} (d : Kd α) (good : α → Prop) (t : TypeId) : Prop :=
  ∀ (H : Type) (enc : TypeId × Value → H) (w : World) (base : Nat) (sp : Nat → Bool) (held : Bool) (fuel : Nat) (cs : List Value) (x : DataW H × List MemPlace), DataW.trod enc Try.prog w base sp held fuel t cs = some x → ∃ v, d.K w v cs ∧ good v
theorem opens_int {t : TypeId} (ht : Try.prog.underlying t = some (.int .i64)) : Opens (Kd.int .i64) (fun c => (Lit.int .i64 c).wf = true) t := by
  intro H enc w base sp held fuel cs x h
  obtain ⟨n, rfl, _, hw⟩ := DataW.trod_int ht h
  exact ⟨n, rfl, hw⟩
theorem opens_slice {α : Type} [Inhabited α] {d : Kd α} {good : α → Prop} {t e : TypeId} (ht : Try.prog.underlying t = some (.slice e)) (hc : Try.prog.cellsOf e = d.sz) (hd : Opens d good e) : Opens (Kd.slice e d) (fun l => l.length ≤ maxLen ∧ ∀ x ∈ l, good x) t := by
  intro H enc w base sp held fuel cs x h
  rcases Go.Deep.open_slice ht h with ⟨rfl, _⟩ | ⟨a, len, cap, m, n, D, Pl, rfl, hb, hl, hm, hmm, _, hx⟩
  · exact ⟨[], ⟨none, 0, rfl, Nat.le_refl _, Kd.C_nil _ _⟩, Nat.zero_le _, fun x hx => by cases hx⟩
  · have hlm : len ≤ m := by rw [hmm]; split <;> omega
    obtain ⟨f, hf⟩ := choose_lt (n := len) (p := fun i v => ∃ cs', w.cells? base (a.add (i * Try.prog.cellsOf e)) (Try.prog.cellsOf e) = some cs' ∧ d.K w v cs' ∧ good v) (fun i hi => by
      obtain ⟨cs', h1, h2⟩ := hx i (by omega)
      obtain ⟨v, h3, h4⟩ := hd H enc w base sp held n cs' _ h2
      exact ⟨v, cs', h1, h3, h4⟩)
    have hlen : ((List.range len).map f).length = len := by rw [List.length_map, List.length_range]
    refine ⟨(List.range len).map f, ⟨some a, cap, by rw [hlen], by rw [hlen]; exact hl, rfl, by rw [hlen]; unfold maxLen at hm; omega, fun h0 => ⟨a, rfl, fun j p hj => ?_⟩⟩, by rw [hlen]; omega, fun p hp => ?_⟩
    · have hjl : j < len := by have := (List.getElem?_eq_some_iff.1 hj).1; omega
      have hp : p = f j := by simpa [hjl] using hj.symm
      subst hp
      obtain ⟨cs', h1, h2, _⟩ := hf j hjl
      have hk := d.K_len h2
      refine ⟨cs', hk, h2, fun i u hu => ?_⟩
      have hi : i < cs'.length := (List.getElem?_eq_some_iff.1 hu).1
      have h3 := (World.cells?_some h1).2.2 i (by rw [hc]; omega)
      rw [Go.Deep.add_add, hc] at h3
      rw [h3]
      exact hu
    · obtain ⟨j, hj, rfl⟩ := List.mem_map.1 hp
      obtain ⟨_, _, _, h4⟩ := hf j (List.mem_range.1 hj)
      exact h4
instance : Inhabited (S59) := ⟨z59⟩
instance : Inhabited (S51) := ⟨z51⟩
instance : Inhabited (S38) := ⟨z38⟩
instance : Inhabited (S34) := ⟨z34⟩
def W64 (c : Int) : Prop := (Lit.int .i64 c).wf = true
def wfR (x : S59) : Prop := W64 x.f0 ∧ W64 x.f1
def wfP (x : S51) : Prop := W64 x.f0 ∧ W64 x.f1
def wfS (x : S38) : Prop := x.f0.length ≤ maxLen ∧ ∀ r ∈ x.f0, wfR r
def wfSs (l : List S38) : Prop := l.length ≤ maxLen ∧ ∀ r ∈ l, wfS r
def wfU (x : S34) : Prop := wfSs x.f0 ∧ wfSs x.f1 ∧ wfSs x.f2 ∧ x.f3.length ≤ maxLen ∧ ∀ p ∈ x.f3, wfP p
def wfL (l : List S34) : Prop := l.length ≤ maxLen ∧ ∀ x ∈ l, wfU x
def wfT (l : List Int) : Prop := l.length ≤ maxLen ∧ ∀ c ∈ l, W64 c
theorem cells_1 {l : List Value} (h : l.length = 1) : ∃ v0, l = [v0] := by
  match l, h with
  | [v0], _ => exact ⟨v0, rfl⟩
theorem cells_2 {l : List Value} (h : l.length = 2) : ∃ v0 v1, l = [v0, v1] := by
  match l, h with
  | [v0, v1], _ => exact ⟨v0, v1, rfl⟩
theorem cells_4 {l : List Value} (h : l.length = 4) : ∃ v0 v1 v2 v3, l = [v0, v1, v2, v3] := by
  match l, h with
  | [v0, v1, v2, v3], _ => exact ⟨v0, v1, v2, v3, rfl⟩
theorem cells3 : Try.prog.cellsOf 3 = 1 := by kernel_rfl
theorem opens_range : Opens k59 wfR 59 := by
  intro H enc w base sp held fuel cs x h
  obtain ⟨xs, n, rfl, _, hl, hxl, hf⟩ := DataW.trod_struct Try.underlying59 h
  have h2 : Try.prog.cellsOf 59 = 2 := by kernel_rfl
  rw [h2] at hl
  obtain ⟨v0, v1, rfl⟩ := cells_2 hl
  have g0 : DataW.trod enc Try.prog w base sp held n 3 (([v0, v1].drop 0).take (Try.prog.cellsOf 3)) = xs[0]? := hf 0 _ rfl
  have g1 : DataW.trod enc Try.prog w base sp held n 3 (([v0, v1].drop 1).take (Try.prog.cellsOf 3)) = xs[1]? := hf 1 _ rfl
  rw [List.getElem?_eq_getElem (by rw [hxl]; decide)] at g0 g1
  rw [cells3] at g0 g1
  obtain ⟨c0, e0, w0⟩ := opens_int Try.underlying3 H enc w base sp held n _ _ g0
  obtain ⟨c1, e1, w1⟩ := opens_int Try.underlying3 H enc w base sp held n _ _ g1
  have e0' : [v0] = [Value.int .i64 c0] := e0
  have e1' : [v1] = [Value.int .i64 c1] := e1
  cases e0'
  cases e1'
  exact ⟨⟨c0, c1⟩, k59_mk w ⟨c0, c1⟩, w0, w1⟩
theorem opens_piece : Opens k51 wfP 51 := by
  intro H enc w base sp held fuel cs x h
  obtain ⟨xs, n, rfl, _, hl, hxl, hf⟩ := DataW.trod_struct Try.underlying51 h
  have h2 : Try.prog.cellsOf 51 = 2 := by kernel_rfl
  rw [h2] at hl
  obtain ⟨v0, v1, rfl⟩ := cells_2 hl
  have g0 : DataW.trod enc Try.prog w base sp held n 3 (([v0, v1].drop 0).take (Try.prog.cellsOf 3)) = xs[0]? := hf 0 _ rfl
  have g1 : DataW.trod enc Try.prog w base sp held n 3 (([v0, v1].drop 1).take (Try.prog.cellsOf 3)) = xs[1]? := hf 1 _ rfl
  rw [List.getElem?_eq_getElem (by rw [hxl]; decide)] at g0 g1
  rw [cells3] at g0 g1
  obtain ⟨c0, e0, w0⟩ := opens_int Try.underlying3 H enc w base sp held n _ _ g0
  obtain ⟨c1, e1, w1⟩ := opens_int Try.underlying3 H enc w base sp held n _ _ g1
  have e0' : [v0] = [Value.int .i64 c0] := e0
  have e1' : [v1] = [Value.int .i64 c1] := e1
  cases e0'
  cases e1'
  exact ⟨⟨c0, c1⟩, k51_mk w ⟨c0, c1⟩, w0, w1⟩
theorem opens_set : Opens k38 wfS 38 := by
  intro H enc w base sp held fuel cs x h
  obtain ⟨xs, n, rfl, _, hl, hxl, hf⟩ := DataW.trod_struct Try.underlying38 h
  have h2 : Try.prog.cellsOf 38 = 1 := by kernel_rfl
  rw [h2] at hl
  obtain ⟨v0, rfl⟩ := cells_1 hl
  have g0 : DataW.trod enc Try.prog w base sp held n 36 (([v0].drop 0).take (Try.prog.cellsOf 36)) = xs[0]? := hf 0 _ rfl
  rw [List.getElem?_eq_getElem (by rw [hxl]; decide)] at g0
  rw [show Try.prog.cellsOf 36 = 1 by kernel_rfl] at g0
  obtain ⟨l0, ⟨A0, c0, e0, i0, j0⟩, w0⟩ := opens_slice (d := k59) (good := wfR) Try.underlying36 (by kernel_rfl) opens_range H enc w base sp held n _ _ g0
  have e0' : [v0] = [Value.slice A0 l0.length c0] := e0
  cases e0'
  exact ⟨⟨l0⟩, k38_mk w ⟨l0⟩ i0 j0, w0⟩
theorem opens_rule : Opens k34 wfU 34 := by
  intro H enc w base sp held fuel cs x h
  obtain ⟨xs, n, rfl, _, hl, hxl, hf⟩ := DataW.trod_struct Try.underlying34 h
  have h2 : Try.prog.cellsOf 34 = 4 := by kernel_rfl
  rw [h2] at hl
  obtain ⟨v0, v1, v2, v3, rfl⟩ := cells_4 hl
  have g0 : DataW.trod enc Try.prog w base sp held n 31 (([v0, v1, v2, v3].drop 0).take (Try.prog.cellsOf 31)) = xs[0]? := hf 0 _ rfl
  have g1 : DataW.trod enc Try.prog w base sp held n 31 (([v0, v1, v2, v3].drop 1).take (Try.prog.cellsOf 31)) = xs[1]? := hf 1 _ rfl
  have g2 : DataW.trod enc Try.prog w base sp held n 31 (([v0, v1, v2, v3].drop 2).take (Try.prog.cellsOf 31)) = xs[2]? := hf 2 _ rfl
  have g3 : DataW.trod enc Try.prog w base sp held n 32 (([v0, v1, v2, v3].drop 3).take (Try.prog.cellsOf 32)) = xs[3]? := hf 3 _ rfl
  rw [List.getElem?_eq_getElem (by rw [hxl]; decide)] at g0 g1 g2 g3
  rw [show Try.prog.cellsOf 31 = 1 by kernel_rfl] at g0 g1 g2
  rw [show Try.prog.cellsOf 32 = 1 by kernel_rfl] at g3
  obtain ⟨l0, ⟨A0, c0, e0, i0, j0⟩, w0⟩ := opens_slice (d := k38) (good := wfS) Try.underlying31 (by kernel_rfl) opens_set H enc w base sp held n _ _ g0
  obtain ⟨l1, ⟨A1, c1, e1, i1, j1⟩, w1⟩ := opens_slice (d := k38) (good := wfS) Try.underlying31 (by kernel_rfl) opens_set H enc w base sp held n _ _ g1
  obtain ⟨l2, ⟨A2, c2, e2, i2, j2⟩, w2⟩ := opens_slice (d := k38) (good := wfS) Try.underlying31 (by kernel_rfl) opens_set H enc w base sp held n _ _ g2
  obtain ⟨l3, ⟨A3, c3, e3, i3, j3⟩, w3⟩ := opens_slice (d := k51) (good := wfP) Try.underlying32 (by kernel_rfl) opens_piece H enc w base sp held n _ _ g3
  have e0' : [v0] = [Value.slice A0 l0.length c0] := e0
  have e1' : [v1] = [Value.slice A1 l1.length c1] := e1
  have e2' : [v2] = [Value.slice A2 l2.length c2] := e2
  have e3' : [v3] = [Value.slice A3 l3.length c3] := e3
  cases e0'
  cases e1'
  cases e2'
  cases e3'
  exact ⟨⟨l0, l1, l2, l3⟩, k34_mk w ⟨l0, l1, l2, l3⟩ i0 j0 i1 j1 i2 j2 i3 j3, w0, w1, w2, w3⟩
theorem opens_rules : Opens (Kd.slice 34 k34) wfL 22 := opens_slice Try.underlying22 (by kernel_rfl) opens_rule
theorem opens_ints : Opens (Kd.slice 3 (Kd.int .i64)) wfT 23 := opens_slice Try.underlying23 (by kernel_rfl) (opens_int Try.underlying3)
def wfLL (l : List (List S34)) : Prop := l.length ≤ maxLen ∧ ∀ x ∈ l, wfL x
end Go.Proofs.Ytnhagghhficdpaa.Q
end
section
namespace Go.Proofs.Ytnhagghhficdpaa.CpM
def mem (l : List (Int × Int)) (c : Int) : Prop := ∃ r, r ∈ l ∧ r.1 ≤ c ∧ c ≤ r.2
def CanonFrom : Int → List (Int × Int) → Prop
  | _, [] => True
  | b, r :: l => b ≤ r.1 ∧ r.1 ≤ r.2 ∧ r.2 ≤ 1114111 ∧ CanonFrom (r.2 + 2) l
def Canon (l : List (Int × Int)) : Prop := CanonFrom 0 l
theorem mem_nil (c : Int) : ¬ mem [] c := by rintro ⟨r, h, _⟩; cases h
theorem mem_cons (r : Int × Int) (l : List (Int × Int)) (c : Int) : mem (r :: l) c ↔ (r.1 ≤ c ∧ c ≤ r.2) ∨ mem l c := by
  constructor
  · rintro ⟨q, hq, h⟩
    rcases List.mem_cons.1 hq with rfl | hq
    · exact .inl h
    · exact .inr ⟨q, hq, h⟩
  · rintro (h | ⟨q, hq, h⟩)
    · exact ⟨r, List.mem_cons_self, h⟩
    · exact ⟨q, List.mem_cons_of_mem _ hq, h⟩
theorem mem_append (l m : List (Int × Int)) (c : Int) : mem (l ++ m) c ↔ mem l c ∨ mem m c := by
  induction l with
  | nil => simp [mem_nil]
  | cons r l ih => rw [List.cons_append, mem_cons, mem_cons, ih, or_assoc]
theorem CanonFrom.mono {b b' : Int} (hb : b' ≤ b) : ∀ {l : List (Int × Int)}, CanonFrom b l → CanonFrom b' l
  | [], _ => trivial
  | _ :: _, ⟨h1, h2⟩ => ⟨Int.le_trans hb h1, h2⟩
theorem CanonFrom.ge {c : Int} : ∀ {b : Int} {l : List (Int × Int)}, CanonFrom b l → mem l c → b ≤ c
  | _, [], _, h => absurd h (mem_nil c)
  | b, r :: l, ⟨h1, h2, h3, h4⟩, h => by
    rcases (mem_cons _ _ _).1 h with h | h
    · omega
    · have := CanonFrom.ge h4 h; omega
/-- Two canonical lists with the same members are one. -/
theorem canon_uniq : ∀ (l m : List (Int × Int)) (b b' : Int), CanonFrom b l → CanonFrom b' m → (∀ c, mem l c ↔ mem m c) → l = m
  | [], [], _, _, _, _, _ => rfl
  | [], r :: m, _, _, _, ⟨_, h2, _⟩, h => absurd ((h r.1).2 ((mem_cons _ _ _).2 (.inl ⟨Int.le_refl _, h2⟩))) (mem_nil _)
  | r :: l, [], _, _, ⟨_, h2, _⟩, _, h => absurd ((h r.1).1 ((mem_cons _ _ _).2 (.inl ⟨Int.le_refl _, h2⟩))) (mem_nil _)
  | r :: l, s :: m, b, b', ⟨h1, h2, h3, h4⟩, ⟨k1, k2, k3, k4⟩, h => by
    have e1 : r.1 = s.1 := by
      have a := (h r.1).1 ((mem_cons _ _ _).2 (.inl ⟨Int.le_refl _, h2⟩))
      have a' := (h s.1).2 ((mem_cons _ _ _).2 (.inl ⟨Int.le_refl _, k2⟩))
      rcases (mem_cons _ _ _).1 a with a | a <;> rcases (mem_cons _ _ _).1 a' with a' | a'
      · omega
      · have := CanonFrom.ge h4 a'; omega
      · have := CanonFrom.ge k4 a; omega
      · have := CanonFrom.ge h4 a'; have := CanonFrom.ge k4 a; omega
    have e2 : r.2 = s.2 := by
      rcases Int.lt_trichotomy r.2 s.2 with q | q | q
      · have a := (h (r.2 + 1)).2 ((mem_cons _ _ _).2 (.inl ⟨by omega, by omega⟩))
        rcases (mem_cons _ _ _).1 a with a | a
        · omega
        · have := CanonFrom.ge h4 a; omega
      · exact q
      · have a := (h (s.2 + 1)).1 ((mem_cons _ _ _).2 (.inl ⟨by omega, by omega⟩))
        rcases (mem_cons _ _ _).1 a with a | a
        · omega
        · have := CanonFrom.ge k4 a; omega
    have e3 : l = m := by
      refine canon_uniq l m _ _ h4 k4 fun c => ⟨fun a => ?_, fun a => ?_⟩
      · rcases (mem_cons _ _ _).1 ((h c).1 ((mem_cons _ _ _).2 (.inr a))) with q | q
        · have := CanonFrom.ge h4 a; omega
        · exact q
      · rcases (mem_cons _ _ _).1 ((h c).2 ((mem_cons _ _ _).2 (.inr a))) with q | q
        · have := CanonFrom.ge k4 a; omega
        · exact q
    rw [e3, Prod.ext e1 e2]
def mergeStep (out : List (Int × Int)) (r : Int × Int) : List (Int × Int) :=
  match out.getLast? with
  | none => [r]
  | some q => if r.1 ≤ q.2 + 1 then out.dropLast ++ [(q.1, if q.2 < r.2 then r.2 else q.2)] else out ++ [r]
def merge1 : Int × Int → List (Int × Int) → List (Int × Int)
  | cur, [] => [cur]
  | cur, r :: rest => if r.1 ≤ cur.2 + 1 then merge1 (cur.1, if cur.2 < r.2 then r.2 else cur.2) rest else cur :: merge1 r rest
def Ok (r : Int × Int) : Prop := 0 ≤ r.1 ∧ r.1 ≤ r.2 ∧ r.2 ≤ 1114111
theorem fold_merge1 : ∀ (s : List (Int × Int)) (pre : List (Int × Int)) (cur : Int × Int), s.foldl mergeStep (pre ++ [cur]) = pre ++ merge1 cur s
  | [], pre, cur => rfl
  | r :: s, pre, cur => by
    rw [List.foldl_cons]
    have : mergeStep (pre ++ [cur]) r = if r.1 ≤ cur.2 + 1 then pre ++ [(cur.1, if cur.2 < r.2 then r.2 else cur.2)] else (pre ++ [cur]) ++ [r] := by
      unfold mergeStep
      rw [List.getLast?_append]
      simp
    rw [this, merge1]
    split
    · rw [fold_merge1]
    · rw [fold_merge1, List.append_assoc]; rfl
theorem merge1_canon : ∀ (s : List (Int × Int)) (cur : Int × Int), Ok cur → (∀ r ∈ s, Ok r) → (∀ r ∈ s, cur.1 ≤ r.1) → s.Pairwise (fun a b => a.1 ≤ b.1) → CanonFrom cur.1 (merge1 cur s)
  | [], cur, h, _, _, _ => ⟨Int.le_refl _, h.2.1, h.2.2, trivial⟩
  | r :: s, cur, h, hs, hc, hp => by
    have hr := hs r List.mem_cons_self
    have hrc := hc r List.mem_cons_self
    rw [List.pairwise_cons] at hp
    unfold Ok at h hr
    rw [merge1]
    split
    · have := merge1_canon s (cur.1, if cur.2 < r.2 then r.2 else cur.2) ⟨h.1, by split <;> simp <;> omega, by split <;> simp <;> omega⟩ (fun q hq => hs q (List.mem_cons_of_mem _ hq)) (fun q hq => hc q (List.mem_cons_of_mem _ hq)) hp.2
      exact this
    · refine ⟨Int.le_refl _, h.2.1, h.2.2, CanonFrom.mono ?_ (merge1_canon s r hr (fun q hq => hs q (List.mem_cons_of_mem _ hq)) hp.1 hp.2)⟩
      omega
theorem merge1_mem (c : Int) : ∀ (s : List (Int × Int)) (cur : Int × Int), Ok cur → (∀ r ∈ s, Ok r) → (∀ r ∈ s, cur.1 ≤ r.1) → s.Pairwise (fun a b => a.1 ≤ b.1) → (mem (merge1 cur s) c ↔ mem (cur :: s) c)
  | [], cur, h, _, _, _ => Iff.rfl
  | r :: s, cur, h, hs, hc, hp => by
    have hr := hs r List.mem_cons_self
    have hrc := hc r List.mem_cons_self
    rw [List.pairwise_cons] at hp
    unfold Ok at h hr
    rw [merge1]
    split
    · rw [merge1_mem c s (cur.1, if cur.2 < r.2 then r.2 else cur.2) ⟨h.1, by split <;> simp <;> omega, by split <;> simp <;> omega⟩ (fun q hq => hs q (List.mem_cons_of_mem _ hq)) (fun q hq => hc q (List.mem_cons_of_mem _ hq)) hp.2]
      rw [mem_cons, mem_cons, mem_cons]
      have : (cur.1 ≤ c ∧ c ≤ (if cur.2 < r.2 then r.2 else cur.2)) ↔ ((cur.1 ≤ c ∧ c ≤ cur.2) ∨ (r.1 ≤ c ∧ c ≤ r.2)) := by
        split <;> omega
      simp only [this, or_assoc]
    · rw [mem_cons, merge1_mem c s r hr (fun q hq => hs q (List.mem_cons_of_mem _ hq)) hp.1 hp.2, mem_cons cur]
theorem fold_ok (s : List (Int × Int)) (hs : ∀ r ∈ s, Ok r) (hp : s.Pairwise (fun a b => a.1 ≤ b.1)) : Canon (s.foldl mergeStep []) ∧ ∀ c, mem (s.foldl mergeStep []) c ↔ mem s c := by
  cases s with
  | nil => exact ⟨trivial, fun c => Iff.rfl⟩
  | cons r s =>
    rw [List.pairwise_cons] at hp
    have e : (r :: s).foldl mergeStep [] = merge1 r s := by
      have := fold_merge1 s [] r
      simpa [mergeStep] using this
    rw [e]
    exact ⟨CanonFrom.mono (hs r List.mem_cons_self).1 (merge1_canon s r (hs r List.mem_cons_self) (fun q hq => hs q (List.mem_cons_of_mem _ hq)) hp.1 hp.2), fun c => merge1_mem c s r (hs r List.mem_cons_self) (fun q hq => hs q (List.mem_cons_of_mem _ hq)) hp.1 hp.2⟩
def clamp1 (r : Int × Int) : Int × Int := (if r.1 < 0 then 0 else r.1, if 1114111 < r.2 then 1114111 else r.2)
def clamp (l : List (Int × Int)) : List (Int × Int) := (l.map clamp1).filter fun r => decide (r.1 ≤ r.2)
theorem clamp_ok (l : List (Int × Int)) : ∀ r ∈ clamp l, Ok r := by
  intro r hr
  unfold clamp at hr
  rw [List.mem_filter, List.mem_map] at hr
  obtain ⟨⟨q, _, rfl⟩, h⟩ := hr
  have h := of_decide_eq_true h
  refine ⟨?_, h, ?_⟩
  · unfold clamp1; simp only; split <;> omega
  · unfold clamp1; simp only; split <;> omega
theorem clamp_mem (l : List (Int × Int)) (c : Int) : mem (clamp l) c ↔ (0 ≤ c ∧ c ≤ 1114111) ∧ mem l c := by
  induction l with
  | nil => simp [clamp, mem_nil]
  | cons r l ih =>
    have e : clamp (r :: l) = if (clamp1 r).1 ≤ (clamp1 r).2 then clamp1 r :: clamp l else clamp l := by
      unfold clamp
      rw [List.map_cons, List.filter_cons]
      by_cases h : (clamp1 r).1 ≤ (clamp1 r).2 <;> simp [h]
    rw [e, mem_cons]
    have k : ((clamp1 r).1 ≤ c ∧ c ≤ (clamp1 r).2) ↔ (0 ≤ c ∧ c ≤ 1114111) ∧ r.1 ≤ c ∧ c ≤ r.2 := by
      unfold clamp1; simp only; split <;> split <;> omega
    split
    · rw [mem_cons, k, ih, ← and_or_left]
    · rename_i h
      rw [ih]
      constructor
      · rintro ⟨a, b⟩; exact ⟨a, .inr b⟩
      · rintro ⟨a, b | b⟩
        · exact absurd (k.2 ⟨a, b⟩) (by omega)
        · exact ⟨a, b⟩
theorem mem_perm {l m : List (Int × Int)} (h : l.Perm m) (c : Int) : mem l c ↔ mem m c :=
  ⟨fun ⟨r, hr, k⟩ => ⟨r, h.mem_iff.1 hr, k⟩, fun ⟨r, hr, k⟩ => ⟨r, h.mem_iff.2 hr, k⟩⟩
/-- Whatever ascending arrangement s of what Make takes in: the fold is the one canonical list with these members. -/
theorem make_of_sorted (l s : List (Int × Int)) (hp : s.Perm (clamp l)) (ho : s.Pairwise (fun a b => a.1 ≤ b.1)) :
    Canon (s.foldl mergeStep []) ∧ ∀ c, mem (s.foldl mergeStep []) c ↔ (0 ≤ c ∧ c ≤ 1114111) ∧ mem l c := by
  obtain ⟨h1, h2⟩ := fold_ok s (fun r hr => clamp_ok l r (hp.mem_iff.1 hr)) ho
  exact ⟨h1, fun c => by rw [h2, mem_perm hp, clamp_mem]⟩
/-- Make, as a function: by an insertion of each range behind those that are not greater. -/
def ins (r : Int × Int) : List (Int × Int) → List (Int × Int)
  | [] => [r]
  | q :: l => if r.1 < q.1 then r :: q :: l else q :: ins r l
def sorted (l : List (Int × Int)) : List (Int × Int) := l.foldl (fun s r => ins r s) []
def make (l : List (Int × Int)) : List (Int × Int) := (sorted (clamp l)).foldl mergeStep []
theorem ins_perm (r : Int × Int) : ∀ l, (ins r l).Perm (r :: l)
  | [] => List.Perm.refl _
  | q :: l => by
    rw [ins]
    split
    · exact List.Perm.refl _
    · exact ((ins_perm r l).cons q).trans (List.Perm.swap r q l)
theorem ins_sorted (r : Int × Int) : ∀ l : List (Int × Int), l.Pairwise (fun a b => a.1 ≤ b.1) → (ins r l).Pairwise (fun a b => a.1 ≤ b.1)
  | [], _ => by simp [ins]
  | q :: l, h => by
    rw [List.pairwise_cons] at h
    rw [ins]
    split
    · rw [List.pairwise_cons, List.pairwise_cons]
      refine ⟨fun x hx => ?_, h⟩
      rcases List.mem_cons.1 hx with rfl | hx
      · omega
      · have := h.1 x hx; omega
    · rw [List.pairwise_cons]
      refine ⟨fun x hx => ?_, ins_sorted r l h.2⟩
      rcases List.mem_cons.1 ((ins_perm r l).mem_iff.1 hx) with rfl | hx
      · omega
      · exact h.1 x hx
theorem sorted_aux : ∀ (l acc : List (Int × Int)), acc.Pairwise (fun a b => a.1 ≤ b.1) → (l.foldl (fun s r => ins r s) acc).Perm (acc ++ l) ∧ (l.foldl (fun s r => ins r s) acc).Pairwise (fun a b => a.1 ≤ b.1)
  | [], acc, h => by simp [h]
  | r :: l, acc, h => by
    rw [List.foldl_cons]
    obtain ⟨a, b⟩ := sorted_aux l (ins r acc) (ins_sorted r acc h)
    refine ⟨a.trans ?_, b⟩
    refine ((ins_perm r acc).append_right l).trans ?_
    exact List.perm_middle.symm
theorem sorted_perm (l : List (Int × Int)) : (sorted l).Perm l := by have := (sorted_aux l [] List.Pairwise.nil).1; rw [List.nil_append] at this; exact this
theorem sorted_asc (l : List (Int × Int)) : (sorted l).Pairwise (fun a b => a.1 ≤ b.1) := (sorted_aux l [] List.Pairwise.nil).2
theorem make_canon (l : List (Int × Int)) : Canon (make l) := (make_of_sorted l _ (sorted_perm _) (sorted_asc _)).1
theorem make_mem (l : List (Int × Int)) (c : Int) : mem (make l) c ↔ (0 ≤ c ∧ c ≤ 1114111) ∧ mem l c := (make_of_sorted l _ (sorted_perm _) (sorted_asc _)).2 c
theorem fold_eq_make (l s : List (Int × Int)) (hp : s.Perm (clamp l)) (ho : s.Pairwise (fun a b => a.1 ≤ b.1)) : s.foldl mergeStep [] = make l :=
  canon_uniq _ _ 0 0 (make_of_sorted l s hp ho).1 (make_canon l) fun c => by rw [(make_of_sorted l s hp ho).2, make_mem]
/-- Any canonical list with these members is Make's. -/
theorem eq_make (l m : List (Int × Int)) (hc : Canon m) (hm : ∀ c, mem m c ↔ (0 ≤ c ∧ c ≤ 1114111) ∧ mem l c) : m = make l :=
  canon_uniq _ _ 0 0 hc (make_canon l) fun c => by rw [hm, make_mem]
def place (n : Int) : List Int → List Int
  | [] => [n]
  | x :: l => if x ≥ n then (if x > n then n :: x :: l else x :: l) else x :: place n l
theorem place_mem (n y : Int) : ∀ l : List Int, y ∈ place n l ↔ y = n ∨ y ∈ l
  | [] => by simp [place]
  | x :: l => by
    rw [place]
    split
    · split
      · rw [List.mem_cons]
      · have : x = n := by omega
        subst this
        simp
    · rw [List.mem_cons, place_mem n y l, List.mem_cons]
      constructor
      · rintro (h | h | h)
        · exact .inr (.inl h)
        · exact .inl h
        · exact .inr (.inr h)
      · rintro (h | h | h)
        · exact .inr (.inl h)
        · exact .inl h
        · exact .inr (.inr h)
theorem place_asc (n : Int) : ∀ l : List Int, l.Pairwise (· < ·) → (place n l).Pairwise (· < ·)
  | [], _ => by simp [place]
  | x :: l, h => by
    have h' := List.pairwise_cons.1 h
    rw [place]
    split
    · split
      · rw [List.pairwise_cons]
        refine ⟨fun y hy => ?_, h⟩
        rcases List.mem_cons.1 hy with rfl | hy
        · omega
        · have := h'.1 y hy; omega
      · exact h
    · rw [List.pairwise_cons]
      refine ⟨fun y hy => ?_, place_asc n l h'.2⟩
      rcases (place_mem n y l).1 hy with rfl | hy
      · omega
      · exact h'.1 y hy
def cut1 (l : List Int) (r : Int × Int) : List Int :=
  let l1 := if 0 ≤ r.1 ∧ r.1 ≤ 1114111 then place r.1 l else l
  if 0 ≤ r.2 ∧ r.2 < 1114111 then place (r.2 + 1) l1 else l1
def cuts (l : List Int) (a : List (Int × Int)) : List Int := place 0 (a.foldl cut1 l)
def InB (l : List Int) : Prop := ∀ y ∈ l, 0 ≤ y ∧ y ≤ 1114111
theorem cut1_ok (l : List Int) (r : Int × Int) (h : l.Pairwise (· < ·)) (hb : InB l) :
    (cut1 l r).Pairwise (· < ·) ∧ InB (cut1 l r) ∧ (∀ y ∈ l, y ∈ cut1 l r) ∧ (0 ≤ r.1 → r.1 ≤ 1114111 → r.1 ∈ cut1 l r) ∧ (0 ≤ r.2 → r.2 < 1114111 → r.2 + 1 ∈ cut1 l r) := by
  have k : ∀ l : List Int, l.Pairwise (· < ·) → InB l → ∀ (p : Prop) [Decidable p] (n : Int), (p → 0 ≤ n ∧ n ≤ 1114111) →
      (if p then place n l else l).Pairwise (· < ·) ∧ InB (if p then place n l else l) ∧ (∀ y ∈ l, y ∈ (if p then place n l else l)) ∧ (p → n ∈ (if p then place n l else l)) := by
    intro l h hb p _ n hn
    split
    · rename_i hp
      refine ⟨place_asc n l h, fun y hy => ?_, fun y hy => (place_mem _ _ _).2 (.inr hy), fun _ => (place_mem _ _ _).2 (.inl rfl)⟩
      rcases (place_mem _ _ _).1 hy with rfl | hy
      · exact hn hp
      · exact hb y hy
    · rename_i hp
      exact ⟨h, hb, fun y hy => hy, fun q => absurd q hp⟩
  obtain ⟨a1, a2, a3, a4⟩ := k l h hb (0 ≤ r.1 ∧ r.1 ≤ 1114111) r.1 id
  obtain ⟨b1, b2, b3, b4⟩ := k _ a1 a2 (0 ≤ r.2 ∧ r.2 < 1114111) (r.2 + 1) (fun q => by omega)
  exact ⟨b1, b2, fun y hy => b3 y (a3 y hy), fun p q => b3 _ (a4 ⟨p, q⟩), fun p q => b4 ⟨p, q⟩⟩
theorem fold_cut1 : ∀ (a : List (Int × Int)) (l : List Int), l.Pairwise (· < ·) → InB l →
    (a.foldl cut1 l).Pairwise (· < ·) ∧ InB (a.foldl cut1 l) ∧ (∀ y ∈ l, y ∈ a.foldl cut1 l) ∧ (∀ r ∈ a, (0 ≤ r.1 → r.1 ≤ 1114111 → r.1 ∈ a.foldl cut1 l) ∧ (0 ≤ r.2 → r.2 < 1114111 → r.2 + 1 ∈ a.foldl cut1 l))
  | [], l, h, hb => ⟨h, hb, fun _ h => h, fun r hr => by cases hr⟩
  | r :: a, l, h, hb => by
    obtain ⟨a1, a2, a3, a4, a5⟩ := cut1_ok l r h hb
    obtain ⟨b1, b2, b3, b4⟩ := fold_cut1 a _ a1 a2
    rw [List.foldl_cons]
    refine ⟨b1, b2, fun y hy => b3 y (a3 y hy), fun q hq => ?_⟩
    rcases List.mem_cons.1 hq with rfl | hq
    · exact ⟨fun x y => b3 _ (a4 x y), fun x y => b3 _ (a5 x y)⟩
    · exact b4 q hq
theorem cuts_ok (a : List (Int × Int)) (l : List Int) (h : l.Pairwise (· < ·)) (hb : InB l) :
    (cuts l a).Pairwise (· < ·) ∧ InB (cuts l a) ∧ 0 ∈ cuts l a ∧ (∀ y ∈ l, y ∈ cuts l a) ∧ (∀ r ∈ a, (0 ≤ r.1 → r.1 ≤ 1114111 → r.1 ∈ cuts l a) ∧ (0 ≤ r.2 → r.2 < 1114111 → r.2 + 1 ∈ cuts l a)) := by
  obtain ⟨b1, b2, b3, b4⟩ := fold_cut1 a l h hb
  unfold cuts
  refine ⟨place_asc _ _ b1, fun y hy => ?_, (place_mem _ _ _).2 (.inl rfl), fun y hy => (place_mem _ _ _).2 (.inr (b3 y hy)), fun r hr => ⟨fun p q => (place_mem _ _ _).2 (.inr ((b4 r hr).1 p q)), fun p q => (place_mem _ _ _).2 (.inr ((b4 r hr).2 p q))⟩⟩
  rcases (place_mem _ _ _).1 hy with rfl | hy
  · omega
  · exact b2 y hy
def segs : List Int → List (Int × Int)
  | [] => []
  | [x] => [(x, 1114111)]
  | x :: y :: l => (x, y - 1) :: segs (y :: l)
def Chain (has : Int → Bool) : Int → List (Int × Int) → Prop
  | _, [] => True
  | b, s :: l => s.1 = b ∧ s.1 ≤ s.2 ∧ s.2 ≤ 1114111 ∧ (∀ c, s.1 ≤ c → c ≤ s.2 → has c = has s.1) ∧ (l = [] → s.2 = 1114111) ∧ Chain has (s.2 + 1) l
theorem segs_ne {x : Int} {l : List Int} : segs (x :: l) ≠ [] := by cases l <;> simp [segs]
theorem chain_segs (has : Int → Bool) : ∀ (x : Int) (l : List Int), (x :: l).Pairwise (· < ·) → InB (x :: l) →
    (∀ c d, x ≤ c → c ≤ d → d ≤ 1114111 → (∀ y ∈ x :: l, y ≤ c ∨ d < y) → has c = has d) → Chain has x (segs (x :: l))
  | x, [], _, hb, hs => by
    have := hb x List.mem_cons_self
    exact ⟨rfl, this.2, Int.le_refl _, fun c h1 h2 => (hs x c (Int.le_refl _) h1 h2 (fun y hy => by simp at hy; omega)).symm, fun _ => rfl, trivial⟩
  | x, y :: l, h, hb, hs => by
    have h' := List.pairwise_cons.1 h
    have hy := hb y (by simp)
    have hxy := h'.1 y (by simp)
    refine ⟨rfl, by show x ≤ y - 1; omega, by show y - 1 ≤ _; omega, fun c h1 h2 => ?_, fun e => absurd e segs_ne, ?_⟩
    · have h1 : x ≤ c := h1
      have h2 : c ≤ y - 1 := h2
      refine (hs x c (Int.le_refl _) h1 (by omega) fun z hz => ?_).symm
      rcases List.mem_cons.1 hz with rfl | hz
      · omega
      · rcases List.mem_cons.1 hz with rfl | hz
        · omega
        · have := (List.pairwise_cons.1 h'.2).1 z hz; omega
    · have e : (x, y - 1).2 + 1 = y := by show y - 1 + 1 = y; omega
      rw [e]
      refine chain_segs has y l h'.2 (fun z hz => hb z (List.mem_cons_of_mem _ hz)) fun c d h1 h2 h3 h4 => hs c d (by omega) h2 h3 fun z hz => ?_
      rcases List.mem_cons.1 hz with rfl | hz
      · omega
      · exact h4 z hz
def runs (has : Int → Bool) : Option (Int × Int) → List (Int × Int) → List (Int × Int)
  | cur, [] => cur.toList
  | none, s :: l => if has s.1 then runs has (some s) l else runs has none l
  | some q, s :: l => if has s.1 then runs has (some (q.1, s.2)) l else q :: runs has none l
theorem runs_canon (has : Int → Bool) : ∀ (l : List (Int × Int)) (b : Int), Chain has b l →
    (CanonFrom b (runs has none l)) ∧ ∀ q : Int × Int, q.1 ≤ q.2 → q.2 + 1 = b → q.2 ≤ 1114111 → CanonFrom q.1 (runs has (some q) l)
  | [], b, _ => ⟨trivial, fun q h1 h2 h3 => ⟨Int.le_refl _, h1, h3, trivial⟩⟩
  | s :: l, b, ⟨h1, h2, h3, h4, h5, h6⟩ => by
    obtain ⟨ih1, ih2⟩ := runs_canon has l _ h6
    constructor
    · rw [runs]
      split
      · rw [← h1]; exact ih2 s h2 rfl h3
      · exact ih1.mono (by omega)
    · intro q k1 k2 k3
      rw [runs]
      split
      · exact ih2 (q.1, s.2) (by show q.1 ≤ s.2; omega) rfl h3
      · exact ⟨Int.le_refl _, k1, k3, ih1.mono (by omega)⟩
theorem runs_mem (has : Int → Bool) (c : Int) : ∀ (l : List (Int × Int)) (b : Int), Chain has b l →
    (mem (runs has none l) c ↔ l ≠ [] ∧ b ≤ c ∧ c ≤ 1114111 ∧ has c = true) ∧ ∀ q : Int × Int, q.1 ≤ q.2 → q.2 + 1 = b → (mem (runs has (some q) l) c ↔ (q.1 ≤ c ∧ c ≤ q.2) ∨ (l ≠ [] ∧ b ≤ c ∧ c ≤ 1114111 ∧ has c = true))
  | [], b, _ => ⟨by simp [runs, mem_nil], fun q h1 h2 => by simp [runs, mem_cons, mem_nil]⟩
  | s :: l, b, ⟨h1, h2, h3, h4, h5, h6⟩ => by
    obtain ⟨ih1, ih2⟩ := runs_mem has c l _ h6
    have hl : ¬ (s :: l = []) := by simp
    have key : (l ≠ [] ∧ s.2 + 1 ≤ c ∧ c ≤ 1114111 ∧ has c = true) ↔ (s.2 + 1 ≤ c ∧ c ≤ 1114111 ∧ has c = true) := by
      refine ⟨fun h => h.2, fun h => ⟨fun e => ?_, h⟩⟩
      have := h5 e
      omega
    rw [key] at ih1
    simp only [key] at ih2
    constructor
    · rw [runs]
      split
      · rename_i hh
        rw [ih2 s h2 rfl]
        constructor
        · rintro (⟨a, d⟩ | ⟨a, d, e⟩)
          · exact ⟨hl, by omega, by omega, by rw [h4 c a d]; exact hh⟩
          · exact ⟨hl, by omega, d, e⟩
        · rintro ⟨_, a, d, e⟩
          by_cases k : c ≤ s.2
          · exact .inl ⟨by omega, k⟩
          · exact .inr ⟨by omega, d, e⟩
      · rename_i hh
        rw [ih1]
        constructor
        · rintro ⟨a, d, e⟩
          exact ⟨hl, by omega, d, e⟩
        · rintro ⟨_, a, d, e⟩
          by_cases k : c ≤ s.2
          · rw [h4 c (by omega) k] at e; exact absurd e hh
          · exact ⟨by omega, d, e⟩
    · intro q k1 k2
      rw [runs]
      split
      · rename_i hh
        rw [ih2 (q.1, s.2) (by show q.1 ≤ s.2; omega) rfl]
        show (q.1 ≤ c ∧ c ≤ s.2) ∨ _ ↔ _
        constructor
        · rintro (⟨a, d⟩ | ⟨a, d, e⟩)
          · by_cases k : c ≤ q.2
            · exact .inl ⟨a, k⟩
            · exact .inr ⟨hl, by omega, by omega, by rw [h4 c (by omega) d]; exact hh⟩
          · exact .inr ⟨hl, by omega, d, e⟩
        · rintro (⟨a, d⟩ | ⟨_, a, d, e⟩)
          · exact .inl ⟨a, by omega⟩
          · by_cases k : c ≤ s.2
            · exact .inl ⟨by omega, k⟩
            · exact .inr ⟨by omega, d, e⟩
      · rename_i hh
        rw [mem_cons, ih1]
        constructor
        · rintro (a | ⟨a, d, e⟩)
          · exact .inl a
          · exact .inr ⟨hl, by omega, d, e⟩
        · rintro (a | ⟨_, a, d, e⟩)
          · exact .inl a
          · by_cases k : c ≤ s.2
            · rw [h4 c (by omega) k] at e; exact absurd e hh
            · exact .inr ⟨by omega, d, e⟩
/-- The reference's Has. -/
def hasB (a : List (Int × Int)) (c : Int) : Bool := a.any fun r => (decide (0 ≤ c) && decide (c ≤ 1114111)) && (decide (r.1 ≤ c) && decide (c ≤ r.2))
theorem hasB_iff (a : List (Int × Int)) (c : Int) : hasB a c = true ↔ (0 ≤ c ∧ c ≤ 1114111) ∧ mem a c := by
  unfold hasB mem
  rw [List.any_eq_true]
  constructor
  · rintro ⟨r, hr, h⟩
    simp only [Bool.and_eq_true, decide_eq_true_eq] at h
    exact ⟨h.1, r, hr, h.2⟩
  · rintro ⟨h, r, hr, k⟩
    exact ⟨r, hr, by simp only [Bool.and_eq_true, decide_eq_true_eq]; exact ⟨h, k⟩⟩
/-- The reference's Make. -/
def rmake (a : List (Int × Int)) : List (Int × Int) := runs (hasB a) none (segs (cuts (cuts [] a) []))
theorem rmake_eq (a : List (Int × Int)) : rmake a = make a := by
  obtain ⟨a1, a2, a3, _, a5⟩ := cuts_ok a [] List.Pairwise.nil (fun y hy => by cases hy)
  obtain ⟨b1, b2, b3, b4, _⟩ := cuts_ok [] _ a1 a2
  unfold rmake
  generalize hC : cuts (cuts [] a) [] = C at *
  cases C with
  | nil => cases b3
  | cons x l =>
    have hx : x = 0 := by
      rcases List.mem_cons.1 b3 with h | h
      · exact h.symm
      · have := (List.pairwise_cons.1 b1).1 0 h
        have := b2 x List.mem_cons_self
        omega
    subst hx
    have hch : Chain (hasB a) 0 (segs (0 :: l)) := by
      refine chain_segs _ 0 l b1 b2 fun c d h1 h2 h3 h4 => ?_
      rw [Bool.eq_iff_iff, hasB_iff, hasB_iff]
      constructor
      · rintro ⟨p, r, hr, q⟩
        refine ⟨by omega, r, hr, by omega, ?_⟩
        by_cases k : d ≤ r.2
        · exact k
        · have := h4 _ (b4 _ ((a5 r hr).2 (by omega) (by omega)))
          omega
      · rintro ⟨p, r, hr, q⟩
        refine ⟨by omega, r, hr, ?_, by omega⟩
        by_cases k : r.1 ≤ c
        · exact k
        · have := h4 _ (b4 _ ((a5 r hr).1 (by omega) (by omega)))
          omega
    refine eq_make a _ (runs_canon _ _ _ hch).1 fun c => ?_
    rw [(runs_mem _ c _ _ hch).1, hasB_iff]
    constructor
    · rintro ⟨_, _, _, h⟩; exact h
    · rintro h
      exact ⟨segs_ne, h.1.1, h.1.2, h⟩
end Go.Proofs.Ytnhagghhficdpaa.CpM
end
section
namespace Go.Proofs.Ytnhagghhficdpaa.Q
open Go.RowKit Go.Proofs.YtnhagghhficdpaaW.PrintWords Go.Proofs.YtnhagghhficdpaaW.PrintLast Go.Proofs.YtnhagghhficdpaaW.PrintMore
attribute [local go_sem] max2_int min2_int max_two min_two max_three min_three max_four min_four   -- for this text's walks alone
set_option linter.unusedVariables false
set_option linter.unusedSimpArgs false
theorem eqA59 (d : Nat) (w : World) (x0 y0 : Int) (x1 y1 : Int) :
    (Op.equalIn (d + 2) 59 (.agg #[.int .i64 x0, .int .i64 x1]) (.agg #[.int .i64 y0, .int .i64 y1])).run Try.prog w = .ok (x0 == y0 && (x1 == y1)) w := by
  refine eqA_of Try.underlying59 (by kernel_rfl) ?_
  refine eqf_cons (by rfl) (by go_simp; rfl) (by go_simp; rfl) (by go_simp) ?_
  exact eqf_last (by rfl) (by go_simp; rfl) (by go_simp; rfl) (by go_simp)
end Go.Proofs.Ytnhagghhficdpaa.Q
end
section
namespace Go.Proofs.Ytnhagghhficdpaa.Q
open Go.RowKit Go.Proofs.YtnhagghhficdpaaW.PrintWords Go.Proofs.YtnhagghhficdpaaW.PrintLast Go.Proofs.YtnhagghhficdpaaW.PrintMore
attribute [local go_sem] max2_int min2_int max_two min_two max_three min_three max_four min_four   -- for this text's walks alone
set_option linter.unusedVariables false
set_option linter.unusedSimpArgs false
mutual
def unicodetextref01_Compare.l0 : Nat → List Int → List Int → Int → Option (Int)
  | 0, _, _, _ => none
  | k + 1, x0, x1, x5 => if x5 < (x0.length : Int) then (unicodetextref01_Compare.j1 k x0 x1 x5 (decide (x5 < (x1.length : Int)))) else (unicodetextref01_Compare.j1 k x0 x1 x5 false)
def unicodetextref01_Compare.j1 : Nat → List Int → List Int → Int → Bool → Option (Int)
  | 0, _, _, _, _ => none
  | k + 1, x0, x1, x5, x15 => if x15 = true then (if 0 ≤ x5 then (if x5 < (x0.length : Int) then (if x5 < (x1.length : Int) then (if (rd x0 x5) < (rd x1 x5) then (some (-1)) else (if (rd x0 x5) > (rd x1 x5) then (some 1) else (unicodetextref01_Compare.l0 k x0 x1 (wrap64 (x5 + 1))))) else (none)) else (none)) else (none)) else (if (x0.length : Int) < (x1.length : Int) then (some (-1)) else (if (x0.length : Int) > (x1.length : Int) then (some 1) else (some 0)))
end
def unicodetextref01_Compare.f (k : Nat) (l0 : List Int) (l1 : List Int) : Option (Int) := unicodetextref01_Compare.l0 k l0 l1 0
set_option maxHeartbeats 8000000 in
set_option maxRecDepth 100000 in
theorem unicodetextref01_Compare.calls (k : Nat) (A0 : Option Addr) (c0 : Nat) (l0 : List Int) (A1 : Option Addr) (c1 : Nat) (l1 : List Int) (r : Int) (w : World) (hr0 : Kd.C (Kd.int .i64) w A0 l0.length l0) (hc0 : l0.length ≤ c0) (hr1 : Kd.C (Kd.int .i64) w A1 l1.length l1) (hc1 : l1.length ≤ c1) (h : unicodetextref01_Compare.f k l0 l1 = some r) :
    Calls Try.prog 31 #[.slice A0 l0.length c0, .slice A1 l1.length c1] w fun e w' => e = .returned (.int .i64 r) ∧ Drawn0 w w' := by
  have HR0 := Aside0.mk hr0
  have HC0 := Aside0.mk hc0
  clear hr0 hc0
  have HR1 := Aside0.mk hr1
  have HC1 := Aside0.mk hc1
  clear hr1 hc1
  have H : (unicodetextref01_Compare.l0 k l0 l1 0) = some r := h
  clear h
  have H' := Aside0.mk H
  clear H
  go_enter Try.func31, Try.ntmps31
  go_wp2
  repeat (go_quiet (fail); try go_wp2)
  go_loopg [5] k (fun kq v5 w' => ∃ (x5_1 : Int), v5 = .int .i64 x5_1 ∧ Aside0 (unicodetextref01_Compare.l0 kq l0 l1 x5_1 = some r) ∧ Aside0 (kq ≤ k) ∧ Drawn0 w w')
  case atStart => exact ⟨(0), (by first | rfl | (simp; done) | (simp [*]; done)), H', ⟨Nat.le_refl _⟩, by repeat (first | exact Drawn0.refl _ | apply Drawn0.step)⟩
  case round =>
    clear H'
    try clear c1
    try clear p2
    obtain ⟨x5_1, rfl, HA, HK1, ⟨m1, rfl⟩⟩ := hrel
    cases gk with
    | zero => exact absurd HA.out (by simp [unicodetextref01_Compare.l0])
    | succ k1 =>
      have H := HA.out
      clear HA
      simp only [unicodetextref01_Compare.l0] at H
      have HC3 := Aside0.mk H
      clear H
      go_upto_region 2 with (fail)
      repeat (go_quiet (fail); go_upto_region 2 with (fail))
      go_cut [15] (fun v15 wc => ∃ (kq : Nat) (x15_2 : Bool), v15 = .bool x15_2 ∧ Aside0 (unicodetextref01_Compare.j1 kq l0 l1 x5_1 x15_2 = some r) ∧ Aside0 (kq ≤ k1) ∧ Drawn0 w wc)
      case first =>
        have H := HC3.out
        clear HC3
        by_cases c4 : x5_1 < (l0.length : Int)
        · rw [if_pos c4] at H
          have c4b0 : decide (x5_1 < (l0.length : Int)) = true := decide_eq_true c4
          clear c4
          (first | rw [c4b0] | (simp only [i64_w, i32_w]; rw [c4b0]) | skip)
          have H' := Aside0.mk H
          clear H
          go_wp2
          repeat (go_quiet (fail); try go_wp2)
          go_meet
          case rel => exact ⟨_, (decide (x5_1 < (l1.length : Int))), (by first | rfl | (simp; done) | (simp [*]; done)), H', ⟨by have := HK1.out; first | omega | exact Nat.le_refl _⟩, by repeat (first | exact Drawn0.refl _ | apply Drawn0.step)⟩
        · rw [if_neg c4] at H
          have c4b0 : decide (x5_1 < (l0.length : Int)) = false := decide_eq_false c4
          clear c4
          (first | rw [c4b0] | (simp only [i64_w, i32_w]; rw [c4b0]) | skip)
          have H' := Aside0.mk H
          clear H
          go_wp2
          repeat (go_quiet (fail); try go_wp2)
          go_meet
          case rel => exact ⟨_, (false), (by first | rfl | (simp; done) | (simp [*]; done)), H', ⟨by have := HK1.out; first | omega | exact Nat.le_refl _⟩, by repeat (first | exact Drawn0.refl _ | apply Drawn0.step)⟩
      case rest =>
        clear HC3
        try clear c1
        try clear p2
        try clear c3
        try clear c4
        try clear c4b0
        try clear p2
        obtain ⟨kq, x15_2, rfl, HA, HJ2, ⟨mc2, rfl⟩⟩ := hcut
        cases kq with
        | zero => exact absurd HA.out (by simp [unicodetextref01_Compare.j1])
        | succ kj2 =>
          have H := HA.out
          clear HA
          simp only [unicodetextref01_Compare.j1] at H
          by_cases c5 : x15_2 = true
          · subst c5
            have H1 : (if 0 ≤ x5_1 then (if x5_1 < (l0.length : Int) then (if x5_1 < (l1.length : Int) then (if (rd l0 x5_1) < (rd l1 x5_1) then (some (-1)) else (if (rd l0 x5_1) > (rd l1 x5_1) then (some 1) else (unicodetextref01_Compare.l0 kj2 l0 l1 (wrap64 (x5_1 + 1))))) else (none)) else (none)) else (none)) = some r := by rw [if_pos rfl] at H; exact H
            clear H
            have H := H1
            clear H1
            by_cases c6 : 0 ≤ x5_1
            · rw [if_pos c6] at H
              have c6b0 : decide (0 ≤ x5_1) = true := decide_eq_true c6
              clear c6
              by_cases c7 : x5_1 < (l0.length : Int)
              · rw [if_pos c7] at H
                have c7b0 : decide (x5_1 < (l0.length : Int)) = true := decide_eq_true c7
                clear c7
                by_cases c8 : x5_1 < (l1.length : Int)
                · rw [if_pos c8] at H
                  have c8b0 : decide (x5_1 < (l1.length : Int)) = true := decide_eq_true c8
                  clear c8
                  by_cases c9 : (rd l0 x5_1) < (rd l1 x5_1)
                  · rw [if_pos c9] at H
                    have c9b0 : decide ((rd l0 x5_1) < (rd l1 x5_1)) = true := decide_eq_true c9
                    clear c9
                    obtain rfl := Option.some.inj H
                    have p130 : 0 ≤ (x5_1 : Int) := of_decide_eq_true (by first | (with_reducible assumption) | assumption)
                    have q130 : x5_1 < (l0.length : Int) := of_decide_eq_true (by first | (with_reducible assumption) | assumption)
                    obtain ⟨ad130, e130, hx130_0⟩ := Kd.at_int HR0.out x5_1 p130 q130
                    cases e130
                    replace p130 := eq_true p130
                    replace q130 := eq_true q130
                    have p131 : 0 ≤ (x5_1 : Int) := of_decide_eq_true (by first | (with_reducible assumption) | assumption)
                    have q131 : x5_1 < (l1.length : Int) := of_decide_eq_true (by first | (with_reducible assumption) | assumption)
                    obtain ⟨ad131, e131, hx131_0⟩ := Kd.at_int HR1.out x5_1 p131 q131
                    cases e131
                    replace p131 := eq_true p131
                    replace q131 := eq_true q131
                    go_wp2
                    repeat (go_quiet (fail); try go_wp2)
                    go_ret
                    exact ⟨by first | rfl | (simp; done) | (simp [*]; done), by repeat (first | exact Drawn0.refl _ | apply Drawn0.step)⟩
                  · rw [if_neg c9] at H
                    have c9b0 : decide ((rd l0 x5_1) < (rd l1 x5_1)) = false := decide_eq_false c9
                    clear c9
                    by_cases c10 : (rd l0 x5_1) > (rd l1 x5_1)
                    · rw [if_pos c10] at H
                      have c10b0 : decide ((rd l1 x5_1) < (rd l0 x5_1)) = true := decide_eq_true c10
                      clear c10
                      obtain rfl := Option.some.inj H
                      have p130 : 0 ≤ (x5_1 : Int) := of_decide_eq_true (by first | (with_reducible assumption) | assumption)
                      have q130 : x5_1 < (l0.length : Int) := of_decide_eq_true (by first | (with_reducible assumption) | assumption)
                      obtain ⟨ad130, e130, hx130_0⟩ := Kd.at_int HR0.out x5_1 p130 q130
                      cases e130
                      replace p130 := eq_true p130
                      replace q130 := eq_true q130
                      have p131 : 0 ≤ (x5_1 : Int) := of_decide_eq_true (by first | (with_reducible assumption) | assumption)
                      have q131 : x5_1 < (l1.length : Int) := of_decide_eq_true (by first | (with_reducible assumption) | assumption)
                      obtain ⟨ad131, e131, hx131_0⟩ := Kd.at_int HR1.out x5_1 p131 q131
                      cases e131
                      replace p131 := eq_true p131
                      replace q131 := eq_true q131
                      have p132 : 0 ≤ (x5_1 : Int) := of_decide_eq_true (by first | (with_reducible assumption) | assumption)
                      have q132 : x5_1 < (l0.length : Int) := of_decide_eq_true (by first | (with_reducible assumption) | assumption)
                      obtain ⟨ad132, e132, hx132_0⟩ := Kd.at_int HR0.out x5_1 p132 q132
                      obtain rfl : ad130 = ad132 := (by injection e132)
                      replace p132 := eq_true p132
                      replace q132 := eq_true q132
                      have p133 : 0 ≤ (x5_1 : Int) := of_decide_eq_true (by first | (with_reducible assumption) | assumption)
                      have q133 : x5_1 < (l1.length : Int) := of_decide_eq_true (by first | (with_reducible assumption) | assumption)
                      obtain ⟨ad133, e133, hx133_0⟩ := Kd.at_int HR1.out x5_1 p133 q133
                      obtain rfl : ad131 = ad133 := (by injection e133)
                      replace p133 := eq_true p133
                      replace q133 := eq_true q133
                      go_wp2
                      repeat (go_quiet (fail); try go_wp2)
                      go_ret
                      exact ⟨by first | rfl | (simp; done) | (simp [*]; done), by repeat (first | exact Drawn0.refl _ | apply Drawn0.step)⟩
                    · rw [if_neg c10] at H
                      have c10b0 : decide ((rd l1 x5_1) < (rd l0 x5_1)) = false := decide_eq_false c10
                      clear c10
                      have H' := Aside0.mk H
                      clear H
                      have p130 : 0 ≤ (x5_1 : Int) := of_decide_eq_true (by first | (with_reducible assumption) | assumption)
                      have q130 : x5_1 < (l0.length : Int) := of_decide_eq_true (by first | (with_reducible assumption) | assumption)
                      obtain ⟨ad130, e130, hx130_0⟩ := Kd.at_int HR0.out x5_1 p130 q130
                      cases e130
                      replace p130 := eq_true p130
                      replace q130 := eq_true q130
                      have p131 : 0 ≤ (x5_1 : Int) := of_decide_eq_true (by first | (with_reducible assumption) | assumption)
                      have q131 : x5_1 < (l1.length : Int) := of_decide_eq_true (by first | (with_reducible assumption) | assumption)
                      obtain ⟨ad131, e131, hx131_0⟩ := Kd.at_int HR1.out x5_1 p131 q131
                      cases e131
                      replace p131 := eq_true p131
                      replace q131 := eq_true q131
                      have p132 : 0 ≤ (x5_1 : Int) := of_decide_eq_true (by first | (with_reducible assumption) | assumption)
                      have q132 : x5_1 < (l0.length : Int) := of_decide_eq_true (by first | (with_reducible assumption) | assumption)
                      obtain ⟨ad132, e132, hx132_0⟩ := Kd.at_int HR0.out x5_1 p132 q132
                      obtain rfl : ad130 = ad132 := (by injection e132)
                      replace p132 := eq_true p132
                      replace q132 := eq_true q132
                      have p133 : 0 ≤ (x5_1 : Int) := of_decide_eq_true (by first | (with_reducible assumption) | assumption)
                      have q133 : x5_1 < (l1.length : Int) := of_decide_eq_true (by first | (with_reducible assumption) | assumption)
                      obtain ⟨ad133, e133, hx133_0⟩ := Kd.at_int HR1.out x5_1 p133 q133
                      obtain rfl : ad131 = ad133 := (by injection e133)
                      replace p133 := eq_true p133
                      replace q133 := eq_true q133
                      go_wp2
                      repeat (go_quiet (fail); try go_wp2)
                      go_roundg kj2
                      case measure => have := HK1.out; have := HJ2.out; omega
                      case rel => exact ⟨(wrap64 (x5_1 + 1)), (by first | rfl | (simp; done) | (simp [*]; done)), H', ⟨by have := HK1.out; have := HJ2.out; omega⟩, by repeat (first | exact Drawn0.refl _ | apply Drawn0.step)⟩
                · rw [if_neg c8] at H
                  exact absurd H (by simp)
              · rw [if_neg c7] at H
                exact absurd H (by simp)
            · rw [if_neg c6] at H
              exact absurd H (by simp)
          · replace c5 := Bool.eq_false_iff.mpr c5
            subst c5
            have H1 : (if (l0.length : Int) < (l1.length : Int) then (some (-1)) else (if (l0.length : Int) > (l1.length : Int) then (some 1) else (some 0))) = some r := by rw [if_neg (show ¬ (false = true) by decide)] at H; exact H
            clear H
            have H := H1
            clear H1
            by_cases c11 : (l0.length : Int) < (l1.length : Int)
            · rw [if_pos c11] at H
              have c11b0 : decide ((l0.length : Int) < (l1.length : Int)) = true := decide_eq_true c11
              have c11b1 : decide (l0.length < l1.length) = true := decide_eq_true (Int.ofNat_lt.mp c11)
              clear c11
              obtain rfl := Option.some.inj H
              go_wp2
              repeat (go_quiet (fail); try go_wp2)
              go_ret
              exact ⟨by first | rfl | (simp; done) | (simp [*]; done), by repeat (first | exact Drawn0.refl _ | apply Drawn0.step)⟩
            · rw [if_neg c11] at H
              have c11b0 : decide ((l0.length : Int) < (l1.length : Int)) = false := decide_eq_false c11
              have c11b1 : decide (l0.length < l1.length) = false := decide_eq_false (fun h => c11 (Int.ofNat_lt.mpr h))
              clear c11
              by_cases c12 : (l0.length : Int) > (l1.length : Int)
              · rw [if_pos c12] at H
                have c12b0 : decide ((l1.length : Int) < (l0.length : Int)) = true := decide_eq_true c12
                have c12b1 : decide (l1.length < l0.length) = true := decide_eq_true (Int.ofNat_lt.mp c12)
                clear c12
                obtain rfl := Option.some.inj H
                go_wp2
                repeat (go_quiet (fail); try go_wp2)
                go_ret
                exact ⟨by first | rfl | (simp; done) | (simp [*]; done), by repeat (first | exact Drawn0.refl _ | apply Drawn0.step)⟩
              · rw [if_neg c12] at H
                have c12b0 : decide ((l1.length : Int) < (l0.length : Int)) = false := decide_eq_false c12
                have c12b1 : decide (l1.length < l0.length) = false := decide_eq_false (fun h => c12 (Int.ofNat_lt.mpr h))
                clear c12
                obtain rfl := Option.some.inj H
                go_wp2
                repeat (go_quiet (fail); try go_wp2)
                go_ret
                exact ⟨by first | rfl | (simp; done) | (simp [*]; done), by repeat (first | exact Drawn0.refl _ | apply Drawn0.step)⟩
def unicodetextref01_Equal.f (k : Nat) (l0 : List Int) (l1 : List Int) : Option (Bool) := (unicodetextref01_Compare.f k l0 l1).bind fun t134 => (some (t134 == 0))
set_option maxHeartbeats 8000000 in
set_option maxRecDepth 100000 in
theorem unicodetextref01_Equal.calls (k : Nat) (A0 : Option Addr) (c0 : Nat) (l0 : List Int) (A1 : Option Addr) (c1 : Nat) (l1 : List Int) (r : Bool) (w : World) (hr0 : Kd.C (Kd.int .i64) w A0 l0.length l0) (hc0 : l0.length ≤ c0) (hr1 : Kd.C (Kd.int .i64) w A1 l1.length l1) (hc1 : l1.length ≤ c1) (h : unicodetextref01_Equal.f k l0 l1 = some r) :
    Calls Try.prog 15 #[.slice A0 l0.length c0, .slice A1 l1.length c1] w fun e w' => e = .returned (.bool r) ∧ Drawn0 w w' := by
  have HR0 := Aside0.mk hr0
  have HC0 := Aside0.mk hc0
  clear hr0 hc0
  have HR1 := Aside0.mk hr1
  have HC1 := Aside0.mk hc1
  clear hr1 hc1
  have H : ((unicodetextref01_Compare.f k l0 l1).bind fun t134 => (some (t134 == 0))) = some r := h
  clear h
  replace H := Option.bind_eq_some_iff.mp H
  obtain ⟨t134, A30, H⟩ := H
  replace H : (some (t134 == 0)) = some r := H
  have A3 := Aside0.mk A30
  clear A30
  obtain rfl := Option.some.inj H
  go_enter Try.func15, Try.ntmps15
  go_wp2_with (first | ((with_reducible refine gate_callee (f := 31) rfl ?_); refine goesL_ (some 7) rfl rfl Try.func31 (by kernel_rfl) rfl #[.slice A0 l0.length c0, .slice A1 l1.length c1] rfl (by (try simp only [List.map_toArray, List.map_cons, List.map_nil]); first | done | rfl | (simp only [List.length_drop, List.length_take]; rfl)) ?_; (with_reducible refine (unicodetextref01_Compare.calls k _ _ l0 _ _ l1 t134 _ ?side1 ?side2 ?side3 ?side4 A3.out).mono ?_); (case side1 => repeat (first | exact HR0.out | (with_reducible refine Kd.C_alloc ?_ _) | (with_reducible refine Kd.C_drewN ?_ _) | (with_reducible refine Kd.C_drew ?_))); (case side2 => exact HC0.out); (case side3 => repeat (first | exact HR1.out | (with_reducible refine Kd.C_alloc ?_ _) | (with_reducible refine Kd.C_drewN ?_ _) | (with_reducible refine Kd.C_drew ?_))); (case side4 => exact HC1.out); rintro e w' ⟨rfl, ⟨nd, rfl⟩⟩; refine ⟨_, rfl, ?_⟩))
  go_ret
  exact ⟨by first | rfl | (simp; done) | (simp [*]; done), by repeat (first | exact Drawn0.refl _ | apply Drawn0.step)⟩
def unicodetextlaw51_one.f (a0 : Int) : Option ((List (S59))) := some (([(⟨a0, a0⟩ : S59)] : List (S59)))
set_option maxHeartbeats 8000000 in
set_option maxRecDepth 100000 in
theorem unicodetextlaw51_one.calls (a0 : Int) (r : List (S59)) (w : World) (h : unicodetextlaw51_one.f a0 = some r) :
    Calls Try.prog 27 #[.int .i64 a0] w fun e w' => ∃ v0_ : Value, e = .returned (.agg #[v0_]) ∧ Kd.R k59 59 w' w.heap.size (fun _ => True) v0_ r ∧ Below w.heap.size w w' := by
  have hu38 := Try.underlying38
  have hu59 := Try.underlying59
  have HB := Aside0.mk (Below.refl w.heap.size w)
  have H : (some (([(⟨a0, a0⟩ : S59)] : List (S59)))) = some r := h
  clear h
  obtain ⟨y136, hy136⟩ : ∃ y_ : List (S59), y_ = (([(⟨a0, a0⟩ : S59)] : List (S59))) := ⟨_, rfl⟩
  replace H : (some y136) = some r := by first | (rw [hy136]; with_reducible exact H) | (have H2_ := (Option.bind_some _ _).symm.trans H; rw [hy136]; with_reducible exact H2_) | (have H2_ := (Option.bind_some _ _).symm.trans H; with_reducible exact H2_) | with_reducible exact H | (rw [hy136]; exact H) | exact H
  have Ny136 := Aside0.mk hy136
  clear hy136
  obtain rfl := Option.some.inj H
  go_enter Try.func27, Try.ntmps27
  go_wp2_with (first | ((with_reducible refine gate_dst (N := 2) rfl ?_); refine box_event ?hg (N := 2) ?hd (cs := #[.slice none 0 0]) (t := 38) ?hr ?_; (case hd => rfl); (case hg => rfl); (case hr => first | (go_simp; done) | (go_simp; rfl)); intro gb135 hg w2 hbox hb; have n0_ := Aside0.mk (below_step (by repeat (first | (with_reducible first | exact HB.out | apply below_alloc | apply pw_below_drewN | apply below_drew1) | exact HB.out)) hb); have n1_ := Aside0.mk (hbox); have n2_ := Aside0.mk ((by rw [hg]; exact (below_size (by repeat (first | (with_reducible first | exact HB.out | apply below_alloc | apply pw_below_drewN | apply below_drew1) | exact HB.out))) : w.heap.size ≤ gb135)); have n3_ := Aside0.mk ((by rw [hg]; exact (below_size (by repeat (first | (with_reducible first | exact HB.out | apply below_alloc | apply pw_below_drewN | apply below_drew1) | exact HB.out))) : w.heap.size ≤ gb135)); clear HB; have HB := n0_; have BK135 := n1_; have GW135 := n2_; have GE135 := n3_; clear n0_ n1_ n2_ n3_; clear hb hbox hg) | ((with_reducible refine gate_dst (N := 6) rfl ?_); refine Kd.R_lit k59 _ 59 ?hg (N := 6) ?hd (xs := ([(⟨a0, a0⟩ : S59)] : List (S59))) (inner := [.int .i64 a0, .int .i64 a0]) (ok := fun _ => True) (okp := fun _ => True) ?hr ?hp (fun _ hk => hk) trivial (Below.refl _ _) (Nat.le_refl _) (by simp) ?_; (case hd => rfl); (case hg => rfl); (case hr => first | (go_simp; done) | (go_simp; rfl)); (case hp => exact (Reps.c2 (show Kd.M k59 _ _ _ (⟨a0, a0⟩ : S59) [.int .i64 a0, .int .i64 a0] from (k59_mkM _ _ _ (⟨a0, a0⟩ : S59) )) (Reps.none _ _))); intro v137 w3 ho4 hb hg_ hnew_; clear hg_ hnew_; (first | rw [← Ny136.out] at ho4 | (simp only [Int.reduceToNat] at ho4; rw [← Ny136.out] at ho4)); have n0_ := Aside0.mk (Kd.R_lower ho4 (below_size (by repeat (first | (with_reducible first | exact HB.out | apply below_alloc | apply pw_below_drewN | apply below_drew1 | refine below_set ?_ GE135.out) | exact HB.out)))); have n1_ := Aside0.mk (blk_below (g := gb135) (o := .cells #[.slice none 0 0] 38 (0, 0)) (by (with_reducible repeat (first | refine blk_drewN ?_ _ | refine blk_drew ?_ | refine blk_alloc ?_ _)); exact BK135.out) hb); have n2_ := Aside0.mk (below_step (by repeat (first | (with_reducible first | exact HB.out | apply below_alloc | apply pw_below_drewN | apply below_drew1 | refine below_set ?_ GE135.out) | exact HB.out)) hb); clear BK135; clear HB; have HO138 := n0_; have BK135 := n1_; have HB := n2_; clear n0_ n1_ n2_; clear hb ho4; obtain ⟨Ao5, co5, eo5⟩ := Kd.R_slice HO138.out; subst eo5; have hcz6_0 : w3.cell? ⟨gb135, 0, none⟩ = some (.slice none 0 0) := (blk_cell BK135.out 0).trans rfl; have hfz6_0 := blk_frozen BK135.out 0))
  refine bodyPost_ret (results_cell_row rfl _ _ gb135 38 #[.slice Ao5 y136.length co5] (0, 0) _ rfl (by (with_reducible repeat (first | refine blk_drewN ?_ _ | refine blk_drew ?_ | refine blk_alloc ?_ _)); refine blk_put (cs := #[.slice none 0 0]) ?_ 0 _ rfl; (with_reducible repeat (first | refine blk_drewN ?_ _ | refine blk_drew ?_ | refine blk_alloc ?_ _)); exact BK135.out) Try.underlying38 rfl (by kernel_rfl)) rfl ?_
  exact ⟨_, by first | rfl | (simp [errW_none, errW_some] <;> rfl) | (simp [*, errW_none, errW_some] <;> rfl), by (with_reducible repeat (first | apply Kd.R_alloc | apply Kd.R_drewN | apply Kd.R_drew)); exact Kd.R_mono (Kd.R_far (p := ⟨gb135, 0, none⟩) (Kd.R_types HO138.out BK135.out (by decide)) (fun _ hk => hk.2) (.slice Ao5 y136.length co5)) (fun _ hk => trivial), by repeat (first | (with_reducible first | exact HB.out | apply below_alloc | apply pw_below_drewN | apply below_drew1 | refine below_set ?_ GE135.out) | exact HB.out)⟩
end Go.Proofs.Ytnhagghhficdpaa.Q
end
section
namespace Go.Proofs
open Go.Shelf
def Try.cmpInt_ren : Go.Shelf.Ren := ⟨fun | 5 => 64 | 7 => 70 | n => n, fun | 22 => 3 | 3 => 3 | 4 => 4 | n => n, fun | n => n⟩
theorem Try.cmpInt : Go.Proofs.SlLaysC2.n5 Try.prog Try.cmpInt_ren := {
  mixed := by kernel_rfl
  f5 := ⟨Try.f64.name, by decide, Try.func64.trans (congrArg some (by kernel_rfl))⟩
  f7 := ⟨Try.f70.name, by decide, Try.func70.trans (congrArg some (by kernel_rfl))⟩
  t3 := Try.underlying3
  a3 := Try.isAgg3
  z3 := Try.sizeOf3
  v3 := Try.zeroValue3
  t4 := Try.underlying4
  a4 := Try.isAgg4
  z4 := Try.sizeOf4
  v4 := Try.zeroValue4
  t22 := Try.underlying3
  a22 := Try.isAgg3
  z22 := Try.sizeOf3
  v22 := Try.zeroValue3 }
def Try.sortRanges_ren : Go.Shelf.Ren := ⟨fun | 6 => 62 | 15 => 69 | 14 => 68 | 28 => 81 | 29 => 82 | 20 => 73 | 21 => 74 | 22 => 75 | 23 => 76 | 24 => 77 | 25 => 78 | 26 => 79 | 27 => 80 | 46 => 84 | 47 => 85 | 48 => 86 | 49 => 87 | 50 => 88 | 57 => 89 | n => n, fun | 22 => 36 | 24 => 59 | 25 => 87 | 3 => 3 | 39 => 90 | 0 => 0 | 53 => 105 | 55 => 107 | 4 => 4 | 46 => 98 | 45 => 97 | 50 => 102 | 5 => 5 | 9 => 9 | 66 => 109 | 70 => 113 | 76 => 115 | 77 => 26 | n => n, fun | n => n⟩
theorem Try.sortRanges : Go.Proofs.SlLaysF0.n6 Try.prog Try.sortRanges_ren := {
  mixed := by kernel_rfl
  f6 := ⟨Try.f62.name, by decide, Try.func62.trans (congrArg some (by kernel_rfl))⟩
  f14 := ⟨Try.f68.name, by decide, Try.func68.trans (congrArg some (by kernel_rfl))⟩
  f15 := Try.func69.trans (congrArg some (by kernel_rfl))
  f20 := ⟨Try.f73.name, by decide, Try.func73.trans (congrArg some (by kernel_rfl))⟩
  f21 := ⟨Try.f74.name, by decide, Try.func74.trans (congrArg some (by kernel_rfl))⟩
  f22 := ⟨Try.f75.name, by decide, Try.func75.trans (congrArg some (by kernel_rfl))⟩
  f23 := ⟨Try.f76.name, by decide, Try.func76.trans (congrArg some (by kernel_rfl))⟩
  f24 := ⟨Try.f77.name, by decide, Try.func77.trans (congrArg some (by kernel_rfl))⟩
  f25 := ⟨Try.f78.name, by decide, Try.func78.trans (congrArg some (by kernel_rfl))⟩
  f26 := ⟨Try.f79.name, by decide, Try.func79.trans (congrArg some (by kernel_rfl))⟩
  f27 := ⟨Try.f80.name, by decide, Try.func80.trans (congrArg some (by kernel_rfl))⟩
  f28 := Try.func81.trans (congrArg some (by kernel_rfl))
  f29 := Try.func82.trans (congrArg some (by kernel_rfl))
  f46 := ⟨Try.f84.name, by decide, Try.func84.trans (congrArg some (by kernel_rfl))⟩
  f47 := Try.func85.trans (congrArg some (by kernel_rfl))
  f48 := Try.func86.trans (congrArg some (by kernel_rfl))
  f49 := ⟨Try.f87.name, by decide, Try.func87.trans (congrArg some (by kernel_rfl))⟩
  f50 := ⟨Try.f88.name, by decide, Try.func88.trans (congrArg some (by kernel_rfl))⟩
  f57 := ⟨Try.f89.name, by decide, Try.func89.trans (congrArg some (by kernel_rfl))⟩
  t0 := Try.underlying0
  a0 := Try.isAgg0
  z0 := Try.sizeOf0
  v0 := Try.zeroValue0
  t3 := Try.underlying3
  a3 := Try.isAgg3
  z3 := Try.sizeOf3
  v3 := Try.zeroValue3
  t4 := Try.underlying4
  a4 := Try.isAgg4
  z4 := Try.sizeOf4
  v4 := Try.zeroValue4
  t5 := Try.underlying5
  a5 := Try.isAgg5
  z5 := Try.sizeOf5
  v5 := Try.zeroValue5
  t9 := Try.underlying9
  a9 := Try.isAgg9
  z9 := Try.sizeOf9
  v9 := Try.zeroValue9
  t22 := Try.underlying36
  a22 := Try.isAgg36
  z22 := Try.sizeOf36
  v22 := Try.zeroValue36
  t25 := Try.underlying87
  a25 := Try.isAgg87
  z25 := Try.sizeOf87
  v25 := Try.zeroValue87
  t39 := Try.underlying90
  a39 := Try.isAgg90
  z39 := Try.sizeOf90
  v39 := Try.zeroValue90
  t45 := Try.underlying97
  a45 := Try.isAgg97
  z45 := Try.sizeOf97
  v45 := Try.zeroValue97
  t46 := Try.underlying98
  a46 := Try.isAgg98
  z46 := Try.sizeOf98
  v46 := Try.zeroValue98
  t50 := Try.underlying102
  a50 := Try.isAgg102
  z50 := Try.sizeOf102
  v50 := Try.zeroValue102
  t53 := Try.underlying105
  a53 := Try.isAgg105
  z53 := Try.sizeOf105
  v53 := Try.zeroValue105
  t55 := Try.underlying107
  a55 := Try.isAgg107
  z55 := Try.sizeOf107
  v55 := Try.zeroValue107
  t66 := Try.underlying109
  a66 := Try.isAgg109
  z66 := Try.sizeOf109
  v66 := Try.zeroValue109
  t70 := Try.underlying113
  a70 := Try.isAgg113
  z70 := Try.sizeOf113
  v70 := Try.zeroValue113
  t76 := Try.underlying115
  a76 := Try.isAgg115
  z76 := Try.sizeOf115
  v76 := Try.zeroValue115
  t77 := Try.underlying26
  a77 := Try.isAgg26
  z77 := Try.sizeOf26
  v77 := Try.zeroValue26 }
def Try.search_ren : Go.Shelf.Ren := ⟨fun | 16 => 57 | n => n, fun | 3 => 3 | 35 => 57 | 4 => 4 | 38 => 90 | n => n, fun | n => n⟩
theorem Try.search : Go.Proofs.SlLaysO.n16 Try.prog Try.search_ren := {
  mixed := by kernel_rfl
  f16 := Try.func57.trans (congrArg some (by kernel_rfl))
  t3 := Try.underlying3
  a3 := Try.isAgg3
  z3 := Try.sizeOf3
  v3 := Try.zeroValue3
  t4 := Try.underlying4
  a4 := Try.isAgg4
  z4 := Try.sizeOf4
  v4 := Try.zeroValue4
  t35 := Try.underlying57
  a35 := Try.isAgg57
  z35 := Try.sizeOf57
  v35 := Try.zeroValue57
  t38 := Try.underlying90
  a38 := Try.isAgg90
  z38 := Try.sizeOf90
  v38 := Try.zeroValue90 }
end Go.Proofs
end
section
namespace Go.Proofs.Ytnhagghhficdpaa.Q
open Go.RowKit Go.Proofs.YtnhagghhficdpaaW.PrintWords Go.Proofs.YtnhagghhficdpaaW.PrintLast Go.Proofs.YtnhagghhficdpaaW.PrintMore
set_option linter.unusedVariables false
/-- The one field of a set that a call has handed back. -/
@[go_sem] theorem run_field_set (w : World) (v : Value) : Sem.run Try.prog (Instr.field 38 (Value.agg #[v]) 0) w = .ok v w := by
  have h := Try.underlying38
  simp [Instr.field, asAgg, part, run_underlying h, Try.isAgg36]
abbrev Rg := S59
abbrev kRg : Kd Rg := k59
def toP (r : Rg) : Int × Int := (r.f0, r.f1)
def ofP (r : Int × Int) : Rg := ⟨r.1, r.2⟩
theorem toP_ofP (l : List (Int × Int)) : (l.map ofP).map toP = l := by rw [List.map_map]; exact (List.map_congr_left (fun _ _ => rfl)).trans (List.map_id l)
theorem ofP_toP (l : List Rg) : (l.map toP).map ofP = l := by rw [List.map_map]; exact (List.map_congr_left (fun _ _ => rfl)).trans (List.map_id l)
def encR (x : Rg) : List Value := [.int .i64 x.f0, .int .i64 x.f1]
instance : Inhabited Rg := ⟨z59⟩
def flatR : List Rg → List Value
  | [] => []
  | x :: l => .int .i64 x.f0 :: .int .i64 x.f1 :: flatR l
theorem flatR_length : ∀ l : List Rg, (flatR l).length = l.length * 2
  | [] => rfl
  | x :: l => by simp only [flatR, List.length_cons, flatR_length l]; omega
theorem flatR_append : ∀ l m : List Rg, flatR (l ++ m) = flatR l ++ flatR m
  | [], m => rfl
  | x :: l, m => by simp only [List.cons_append, flatR, flatR_append l m]
theorem flatR_of : ∀ (xs : List Rg) (cs : List Value), cs.length = xs.length * 2 → (∀ j p, xs[j]? = some p → (cs.drop (j * 2)).take 2 = encR p) → cs = flatR xs
  | [], cs, h, _ => List.eq_nil_of_length_eq_zero (by simpa using h)
  | x :: xs, [], h, _ => by simp at h
  | x :: xs, [a], h, _ => by simp only [List.length_cons, List.length_nil] at h; omega
  | x :: xs, a :: b :: cs, h, hp => by
    have h0 := hp 0 x rfl
    simp only [Nat.zero_mul, List.drop_zero, encR] at h0
    have e : a = .int .i64 x.f0 ∧ b = .int .i64 x.f1 := by simpa using h0
    rw [e.1, e.2, flatR, ← flatR_of xs cs (by simp only [List.length_cons] at h; omega) fun j p hj => ?_]
    have := hp (j + 1) p hj
    rw [show (j + 1) * 2 = j * 2 + 1 + 1 by omega] at this
    simpa using this
theorem flatR_reps : ∀ (xs : List Rg) (j : Nat) (p : Rg), xs[j]? = some p → ((flatR xs).drop (j * 2)).take 2 = encR p
  | x :: xs, 0, p, h => by simp at h; subst h; rfl
  | x :: xs, j + 1, p, h => by
    rw [show (j + 1) * 2 = j * 2 + 1 + 1 by omega]
    simpa [flatR] using flatR_reps xs j p (by simpa using h)
theorem flatR_get : ∀ (xs : List Rg) (t : Nat), t < xs.length * 2 → (flatR xs)[t]? = some ((encR (xs.toArray[t / 2]!))[t % 2]!)
  | [], t, h => by simp at h
  | x :: xs, 0, h => by simp [flatR, encR]
  | x :: xs, 1, h => by simp [flatR, encR]
  | x :: xs, t + 2, h => by
    have := flatR_get xs t (by simp at h; omega)
    simp only [flatR, List.getElem?_cons_succ]
    rw [this]
    have e : (t + 2) / 2 = t / 2 + 1 := by omega
    have e2 : (t + 2) % 2 = t % 2 := by omega
    rw [e, e2]
    congr 2
    simp only [List.getElem!_toArray, List.getElem!_cons_succ]
theorem R_own_iff {w : World} {base : Nat} {ok : Nat → Prop} {v : Value} {xs : List Rg} : Kd.R kRg 59 w base ok v xs ↔ (∀ k, v.ownBlock = some k → ok k) ∧ w.ownsRow base 59 2 v xs.length (flatR xs) := by
  constructor
  · rintro ⟨h0, inner, hown, hr⟩
    have : inner = flatR xs := flatR_of xs inner hr.1 fun j p hj => k59_openM (hr.2 j p hj)
    exact ⟨h0, this ▸ hown⟩
  · rintro ⟨h0, hown⟩
    exact ⟨h0, flatR xs, hown, flatR_length xs, fun j p hj => by
      have := flatR_reps xs j p hj
      show k59.M w base _ p (((flatR xs).drop (j * 2)).take 2)
      rw [this]
      exact k59_mkM _ _ _ _⟩
theorem cmp_ranges (x y : Rg) (W : World) : Calls Try.prog 63 #[.agg #[.int .i64 x.f0, .int .i64 x.f1], .agg #[.int .i64 y.f0, .int .i64 y.f1]] W fun e w' => e = .returned (.int .i64 (Lib.compareInt x.f0 y.f0)) ∧ ∃ q os', w' = Sort.grow (W.drewN q) os' := by
  have hcon := fun W' => AnyG.cmp_Compare_int Try.cmpInt x.f0 y.f0 W'
  change ∀ W', Calls Try.prog 64 _ _ _ at hcon
  generalize Lib.compareInt x.f0 y.f0 = r at hcon ⊢
  go_enter Try.func63, Try.ntmps63
  go_wp2_with (go_at_call 64; refine (hcon _).mono ?_; rintro e w' ⟨rfl, rfl⟩)
  go_ret
  exact ⟨rfl, 0, _, by rw [Sort.alloc_eq_grow, Sort.alloc_eq_grow, Sort.grow_grow]; rfl⟩
abbrev cfR : Rg → Rg → Int := fun x y => Lib.compareInt x.f0 y.f0
theorem lt_ranges (x y : Rg) : Go.Proofs.ltOf cfR x y = decide (x.f0 < y.f0) := by
  unfold Go.Proofs.ltOf cfR Lib.compareInt
  by_cases h1 : x.f0 < y.f0
  · simp [h1]
  · by_cases h2 : y.f0 < x.f0 <;> simp [h1, h2]
theorem swo_ranges : Sort.SWO (Go.Proofs.ltOf cfR) where
  irrefl x := by rw [lt_ranges]; simp
  trans x y z h1 h2 := by rw [lt_ranges] at *; simp at *; omega
  ntrans x y z h1 h2 := by rw [lt_ranges] at *; simp at *; omega
theorem heap_sortWorldK_other (w : World) (g m : Nat) (d : Array Rg) (os : Array Obj) (k : Nat) (hk : k < w.heap.size) (hne : k ≠ g) : (Go.Proofs.sortWorldK encR 2 w g 0 m d os).heap[k]? = w.heap[k]? := by
  simp only [Go.Proofs.sortWorldK, Sort.grow, Sort.putRowK, Sort.putRow, Sort.mapBlock, Sort.ahead, Array.getElem?_append, Array.size_modify, if_pos hk, Array.getElem?_modify]
  rw [if_neg (Ne.symm hne)]
theorem heap_sortWorldK_self (w : World) (g m : Nat) (d : Array Rg) (os : Array Obj) (cur : Array Value) (t : TypeId) (fr : Nat × Nat) (hh : w.heap[g]? = some (.cells cur t fr)) : (Go.Proofs.sortWorldK encR 2 w g 0 m d os).heap[g]? = some (.cells (Sort.putCells id 0 (Sort.flatK encR 2 d) cur) t fr) := by
  have hk : g < w.heap.size := (Array.getElem?_eq_some_iff.1 hh).1
  simp only [Go.Proofs.sortWorldK, Sort.grow, Sort.putRowK, Sort.putRow, Sort.mapBlock, Sort.ahead, Array.getElem?_append, Array.size_modify, if_pos hk, Array.getElem?_modify, if_true, hh, Option.map_some, Sort.onCells]
theorem take_putCells (d : Array Rg) (cur : Array Value) (h : d.size * 2 ≤ cur.size) : (Sort.putCells id 0 (Sort.flatK encR 2 d) cur).toList.take (d.size * 2) = flatR d.toList := by
  apply List.ext_getElem?
  intro t
  by_cases ht : t < d.size * 2
  · rw [List.getElem?_take, if_pos ht, flatR_get _ _ (by simpa using ht)]
    have h2 : t < cur.size := by omega
    simp only [Sort.putCells, Array.getElem?_toList, Array.getElem?_mapIdx, Array.getElem?_eq_getElem h2, Option.map_some, Nat.zero_le, true_and, Nat.zero_add, Sort.size_flatK, ht, if_true, Nat.sub_zero, id]
    rw [Sort.get_flatK _ _ _ _ ht]
  · rw [List.getElem?_take, if_neg ht, List.getElem?_eq_none (by rw [flatR_length]; simp; omega)]
set_option maxHeartbeats 1000000 in
/-- **slices.SortFunc over ranges, by Lo.** -/
theorem sort_ranges (base : Nat) (ok : Nat → Prop) (v : Value) (xs : List Rg) (w : World) (ho : Kd.R kRg 59 w base ok v xs) (hn : xs.length < 4611686018427387904) :
    Calls Try.prog 62 #[v, .func (.func 63) #[] #[]] w fun e w' => e = .returned (.tuple #[]) ∧ ∃ ys : List Rg, ys.Perm xs ∧ ys.Pairwise (fun a b => a.f0 ≤ b.f0) ∧ Kd.R kRg 59 w' base ok v ys ∧ w'.os = w.os ∧ w'.tape = w.tape ∧ w'.output = w.output ∧ w.heap.size ≤ w'.heap.size ∧ ∀ k, k < w.heap.size → v.ownBlock ≠ some k → w'.heap[k]? = w.heap[k]? := by
  rcases Nat.eq_zero_or_pos xs.length with h0 | h0
  · obtain rfl := List.eq_nil_of_length_eq_zero h0
    obtain ⟨A, c, rfl, _⟩ := Kd.R_reads ho
    exact (AnyF.slices_SortFunc_none Try.sortRanges A c (.func (.func 63) #[] #[]) w).mono fun e w' ⟨he, hw⟩ => by
      subst hw
      exact ⟨he, [], List.Perm.refl _, List.Pairwise.nil, ho, rfl, rfl, rfl, Nat.le_refl _, fun _ _ _ => rfl⟩
  · obtain ⟨hok, hown⟩ := R_own_iff.1 ho
    obtain ⟨hlen, ⟨_, hz⟩ | ⟨g, cap, cur, rfl, hb, hh, hle, hmax, hsize, htake⟩⟩ := hown
    · omega
    · have hg : g < w.heap.size := (Array.getElem?_eq_some_iff.1 hh).1
      have hsz : xs.toArray.size = xs.length := rfl
      have hH : Sort.HoldsK encR 2 w g 0 xs.toArray := by
        intro j hj
        rw [Sort.size_flatK] at hj
        have hj' : j < xs.length * 2 := hj
        rw [Sort.get_flatK _ _ _ _ hj]
        have h1 : cur[j]? = some ((encR xs.toArray[j / 2]!)[j % 2]!) := by
          rw [← flatR_get xs j hj', ← htake, List.getElem?_take, if_pos hj', Array.getElem?_toList]
        refine ⟨?_, ?_⟩
        · simp only [World.cell?, hh, Nat.zero_add]
          simpa using h1
        · simp [World.frozen?, hh]
      have eg : ∀ args w, (callFunc 63 args).run Try.prog w = .ok (.enter 63 args) w := enters_of Try.func63 (by kernel_rfl) rfl
      have hcon := AnyQ.slices_SortFunc Try.sortRanges 2 Try.isAgg59 Try.sizeOf59 encR (fun _ => rfl) (fun x v hv => by simp [encR] at hv; rcases hv with rfl | rfl <;> rfl) cfR swo_ranges 63 #[] g 0 cap xs.toArray w eg (fun m os dk _ x y => cmp_ranges x y _) hH hg (by simpa using hn)
      refine (show Calls Try.prog 62 _ _ _ from hcon).mono fun e w' ⟨he, d, m, os, hp, hs, hw⟩ => ?_
      subst hw
      have hds : d.size = xs.length := hp.1
      have hlist : (d.extract 0 xs.toArray.size).toList = d.toList := by rw [hsz, ← hds]; simp
      have hlist2 : (xs.toArray.extract 0 xs.toArray.size).toList = xs := by simp
      have hperm : d.toList.Perm xs := by have := hp.2.2; rwa [hlist, hlist2] at this
      refine ⟨he, d.toList, hperm, ?_, ?_, rfl, rfl, rfl, ?_, ?_⟩
      · rw [List.pairwise_iff_getElem]
        intro i j hi hj hij
        have hi' : i < d.size := by simpa using hi
        have hj' : j < d.size := by simpa using hj
        have := hs i j (Nat.zero_le _) hij (by rw [hsz, ← hds]; exact hj')
        rw [lt_ranges, decide_eq_false_iff_not, getElem!_pos d j hj', getElem!_pos d i hi'] at this
        simp only [Array.getElem_toList]
        omega
      · refine R_own_iff.2 ⟨hok, ?_⟩
        have hlen2 : d.toList.length = xs.length := by simpa using hds
        refine ⟨by rw [flatR_length], .inr ⟨g, cap, _, by rw [hlen2], hb, heap_sortWorldK_self w g m d os cur _ _ hh, by rw [hlen2]; exact hle, hmax, ?_, ?_⟩⟩
        · simp only [Sort.putCells, Array.size_mapIdx]; exact hsize
        · rw [hlen2, ← hds]
          exact take_putCells d cur (by rw [hds, hsize]; exact Nat.mul_le_mul_right _ hle)
      · simp only [Go.Proofs.sortWorldK, Sort.grow, Sort.putRowK, Sort.putRow, Sort.mapBlock, Sort.ahead, Array.size_append, Array.size_modify]
        omega
      · intro k hk hne
        exact heap_sortWorldK_other w g m d os k hk (fun e => hne (by rw [e]; rfl))
end Go.Proofs.Ytnhagghhficdpaa.Q
end
section
namespace Go.Proofs.Ytnhagghhficdpaa.Q
open Go.RowKit Go.Proofs.YtnhagghhficdpaaW.PrintWords Go.Proofs.YtnhagghhficdpaaW.PrintLast Go.Proofs.YtnhagghhficdpaaW.PrintMore
abbrev St := S38
abbrev Pc := S51
abbrev Ru := S34
def hasS (s : St) (c : Int) : Bool := CpM.hasB (s.f0.map toP) c
def validS (s : St) : Bool := decide (s.f0.map toP = CpM.make (s.f0.map toP))
def insideS : List St → List Int → Bool
  | [], _ => true
  | _ :: _, [] => false
  | s :: l, c :: t => hasS s c && insideS l t
def coversS (l : List St) (text : List Int) (i : Int) : Bool := decide (0 ≤ i) && (decide (i + l.length ≤ text.length) && insideS l (text.drop i.toNat))
def appliesS (x : Ru) (text : List Int) (i : Int) : Bool := coversS x.f1 text i && (coversS x.f2 text (i + x.f1.length) && coversS x.f0 text (i - x.f0.length))
def stepS (l : List Ru) (text : List Int) (i : Int) : Int × Int :=
  if i < 0 ∨ (text.length : Int) ≤ i then (-1, 0) else
  match l.findIdx? (fun x => appliesS x text i) with
  | some j => (j, ((l.getD j z34).f1.length : Nat))
  | none => (-1, 1)
def pieceBad (m : Nat) (p : Pc) : Bool := !((decide (p.f0 = 0) && (decide (1 ≤ p.f1) && decide (p.f1 ≤ m))) || (decide (p.f1 = 0) && (decide (0 ≤ p.f0) && decide (p.f0 ≤ 1114111))))
def oneS (x : Ru) : Int :=
  if x.f1.length < 1 ∨ 8 < x.f1.length ∨ 8 < x.f0.length ∨ 8 < x.f2.length ∨ 16 < x.f3.length then 2
  else if (x.f0 ++ x.f1 ++ x.f2).any (fun s => !validS s || decide (s.f0.length = 0)) then 11
  else if x.f3.any (pieceBad x.f1.length) then 1 else 0
def firstErr : List Ru → Int
  | [] => 0
  | x :: l => if oneS x = 0 then firstErr l else oneS x
def checkS (l : List Ru) : Int := if 200 < l.length then 2 else firstErr l
def dataS (l : List Ru) : List Ru := if checkS l = 0 then l else []
def okSet (s : St) : Bool := decide (s.f0.length ≤ 12)
def okRule (x : Ru) : Bool := (decide (x.f0.length < 100000000) && (decide (x.f1.length < 100000000) && (decide (x.f2.length < 100000000) && decide (x.f3.length < 100000000)))) && (x.f0.all okSet && (x.f1.all okSet && x.f2.all okSet))
def okRules (l : List Ru) : Bool := decide (l.length < 100000000) && l.all okRule
def writtenS (l : List Ru) (text : List Int) (i : Int) (rule : Int) : List Int :=
  if rule < 0 then [text.getD i.toNat 0] else (l.getD rule.toNat z34).f3.map fun p => if 0 < p.f1 then text.getD (i + (p.f1 - 1)).toNat 0 else p.f0
def applyS (l : List Ru) (text : List Int) : Nat → Int → List Int
  | 0, _ => []
  | n + 1, i => if i < text.length then writtenS l text i (stepS l text i).1 ++ applyS l text n (i + (stepS l text i).2) else []
def reachS (l : List Ru) : Int × Int := (l.foldl (fun m x => max m (x.f0.length : Int)) 0, l.foldl (fun m x => max m ((x.f1.length : Int) + x.f2.length)) 0)
end Go.Proofs.Ytnhagghhficdpaa.Q
end
section
namespace Go.Proofs.Ytnhagghhficdpaa.Q
open Go.RowKit Go.Proofs.YtnhagghhficdpaaW.PrintWords Go.Proofs.YtnhagghhficdpaaW.PrintLast Go.Proofs.YtnhagghhficdpaaW.PrintMore
set_option linter.unusedVariables false
def pieceV (cov : List Int) (p : Pc) : Int := if 0 < p.f1 then rd cov (p.f1 - 1) else p.f0
set_option maxHeartbeats 4000000 in
set_option maxRecDepth 100000 in
theorem result_calls (bm : Nat) (A : Option Addr) (cA : Nat) (l : List Ru) (i : Int) (Ac : Option Addr) (cc : Nat) (cov : List Int) (w : World) (hcl : w.cell? ⟨bm, 0, none⟩ = some (.slice A l.length cA)) (hR : Kd.C k34 w A l.length l) (h0 : 0 ≤ i) (h1 : i < (l.length : Int))
    (hC : Kd.C (Kd.int .i64) w Ac cov.length cov) (hp : ∀ p ∈ (rd_T34 l i).f3, p.f1 ≤ (cov.length : Int)) (hl3 : (rd_T34 l i).f3.length < 1000000) (hcl2 : cov.length < 100000000) :
    Calls Try.prog 32 #[.pointer (some ⟨bm, 0, none⟩), .int .i64 i, .slice Ac cov.length cc] w fun e w' => ∃ v, e = .returned v ∧ Kd.R (Kd.int .i64) 3 w' w.heap.size (fun _ => True) v ((rd_T34 l i).f3.map (pieceV cov)) ∧ Below w.heap.size w w' := by
  obtain ⟨ad, B0, d0, B1, d1, B2, d2, B3, d3, e, x0, x1, x2, x3, y0, z0, y1, z1, y2, z2, y3, z3⟩ := at_T34 hR i h0 h1
  cases e
  have hd : decide (i < 0) = false := decide_eq_false (by omega)
  have hi1 : (0 ≤ i) = True := eq_true h0
  have hi2 : (i < (l.length : Int)) = True := eq_true h1
  have HP := Aside0.mk hp
  have HL3 := Aside0.mk hl3
  have HCV := Aside0.mk hC
  have HCL := Aside0.mk hcl2
  have H3 := Aside0.mk z3
  clear hp hl3 hC y0 z0 y1 z1 y2 z2 y3 z3 hR h0 h1 hcl2
  generalize rd_T34 l i = x at *
  go_enter Try.func32, Try.ntmps32
  go_wp2
  go_loopw [7, 23] (fun lv j wr => ∃ k : Nat, j = .int .i64 k ∧ Aside0 (k ≤ x.f3.length) ∧ Aside0 (Kd.R (Kd.int .i64) 3 wr w.heap.size (fun _ => True) lv ((x.f3.take k).map (pieceV cov))) ∧ Aside0 (Below w.heap.size w wr)) (fun _ j _ => x.f3.length - (intOf j).toNat)
  case atStart => exact ⟨0, rfl, ⟨Nat.zero_le _⟩, ⟨Kd.R_nil _ _ _ _ _⟩, ⟨Below.refl _ _⟩⟩
  case round =>
    obtain ⟨k, rfl, HK, HO, HB⟩ := hrel
    by_cases hlt : k < x.f3.length
    · obtain ⟨adp, e, hy0, hy1⟩ := at_T51 H3.out (k : Int) (by omega) (by omega)
      cases e
      rw [Int.toNat_natCast] at hy0 hy1
      have hc0 := (HB.out.cell (World.block_lt_of_cell? w _ hy0)).trans hy0
      have hc1 := (HB.out.cell (World.block_lt_of_cell? w _ hy1)).trans hy1
      have hmem : rd_T51 x.f3 (k : Int) ∈ x.f3 := by unfold rd_T51; rw [Int.toNat_natCast, List.getD_eq_getElem?_getD, List.getElem?_eq_getElem hlt]; exact List.getElem_mem hlt
      have hst : (x.f3.take (k + 1)).map (pieceV cov) = (x.f3.take k).map (pieceV cov) ++ [pieceV cov (rd_T51 x.f3 (k : Int))] := by
        unfold rd_T51
        rw [Int.toNat_natCast, List.getD_eq_getElem?_getD, List.take_add_one, List.getElem?_eq_getElem hlt, List.map_append]
        rfl
      have hpl := HP.out _ hmem
      have HST := Aside0.mk hst
      clear hy0 hy1 hst hmem
      generalize rd_T51 x.f3 (k : Int) = p at *
      have hp1 : (0 ≤ (k : Int)) = True := eq_true (by omega)
      have hw : wrap64 ((k : Int) + 1) = (k : Int) + 1 := by have := HL3.out; unfold wrap64; omega
      have HLN : Aside0 (((x.f3.take k).map (pieceV cov)).length < 1000000) := ⟨by rw [List.length_map, List.length_take]; have := HL3.out; omega⟩
      by_cases hg : 0 < p.f1
      · obtain ⟨adc, e2, hz⟩ := Kd.at_int (Kd.C_below HCV.out HB.out) (p.f1 - 1) (by omega) (by omega)
        cases e2
        rw [show (p.f1 - 1).toNat = p.f1.toNat - 1 by omega] at hz
        have hdg : decide (p.f1 > 0) = true := decide_eq_true hg
        have hpv : pieceV cov p = rd cov (p.f1 - 1) := by unfold pieceV; rw [if_pos hg]
        have hwp : wrap64 (p.f1 - 1) = p.f1 - 1 := by have := HCL.out; unfold wrap64; omega
        have hq1 : (0 ≤ p.f1 - 1) = True := eq_true (by omega)
        have hq3 : (1 ≤ p.f1) = True := eq_true (by omega)
        have hq4 : (p.f1 < 1) = False := eq_false (by omega)
        have hq2 : (p.f1 - 1 < (cov.length : Int)) = True := eq_true (by omega)
        have hzb := pw_cell_below (below_alloc (Below.refl _ wr) (.cells #[.int .i64 p.f0, .int .i64 p.f1] 51)) hz
        rw [hpv] at HST
        clear hpv hg hz
        generalize rd cov (p.f1 - 1) = q at *
        go_wp2_with (at_builtin; refine Kd.R_append (Kd.int .i64) (w0 := w) w.heap.size rfl (.tmp 38) (.tmp 40) 23 3 (.int .i64 0) 8 rfl Try.underlying23 info3 rfl (by decide) (by omega) _ ((x.f3.take k).map (pieceV cov)) q [.int .i64 q] (fun _ => True) (fun _ => False) rfl (by first | (go_simp; done) | (go_simp; rfl)) ?aP (fun _ hk => hk.elim) ?aF ?aO ?aB ?aS ?aL ?_; (case aP => exact rfl); (case aB => exact (by repeat (first | (with_reducible first | exact HB.out | apply below_alloc | apply pw_below_drewN | apply below_drew1) | exact HB.out))); (case aF => exact (fun _ _ => trivial)); (case aO => exact (by (with_reducible repeat (first | apply Kd.R_alloc | apply Kd.R_drewN | apply Kd.R_drew)); exact HO.out)); (case aS => exact (below_size (by repeat (first | (with_reducible first | exact HB.out | apply below_alloc | apply pw_below_drewN | apply below_drew1) | exact HB.out)))); (case aL => have h1_ := HLN.out; omega); intro v3 w4 ho hb hg hat; have HB4 := Aside0.mk hb; have HO4 := Aside0.mk ho; clear ho hb hg hat)
        go_roundw
        case rel => exact ⟨k + 1, by rw [hw]; rfl, ⟨hlt⟩, ⟨by rw [HST.out]; exact HO4.out⟩, HB4⟩
        case measure => rw [hw]; simp only [intOf]; omega
      · have hdg : decide (p.f1 > 0) = false := decide_eq_false hg
        have hpv : pieceV cov p = p.f0 := by unfold pieceV; rw [if_neg hg]
        rw [hpv] at HST
        clear hpv hg
        go_wp2_with (at_builtin; refine Kd.R_append (Kd.int .i64) (w0 := w) w.heap.size rfl (.tmp 38) (.tmp 40) 23 3 (.int .i64 0) 8 rfl Try.underlying23 info3 rfl (by decide) (by omega) _ ((x.f3.take k).map (pieceV cov)) p.f0 [.int .i64 p.f0] (fun _ => True) (fun _ => False) rfl (by first | (go_simp; done) | (go_simp; rfl)) ?aP (fun _ hk => hk.elim) ?aF ?aO ?aB ?aS ?aL ?_; (case aP => exact rfl); (case aB => exact (by repeat (first | (with_reducible first | exact HB.out | apply below_alloc | apply pw_below_drewN | apply below_drew1) | exact HB.out))); (case aF => exact (fun _ _ => trivial)); (case aO => exact (by (with_reducible repeat (first | apply Kd.R_alloc | apply Kd.R_drewN | apply Kd.R_drew)); exact HO.out)); (case aS => exact (below_size (by repeat (first | (with_reducible first | exact HB.out | apply below_alloc | apply pw_below_drewN | apply below_drew1) | exact HB.out)))); (case aL => have h1_ := HLN.out; omega); intro v3 w4 ho hb hg hat; have HB4 := Aside0.mk hb; have HO4 := Aside0.mk ho; clear ho hb hg hat)
        go_roundw
        case rel => exact ⟨k + 1, by rw [hw]; rfl, ⟨hlt⟩, ⟨by rw [HST.out]; exact HO4.out⟩, HB4⟩
        case measure => rw [hw]; simp only [intOf]; omega
    · obtain rfl : k = x.f3.length := by have := HK.out; omega
      rw [List.take_length] at HO
      go_wp2
      go_ret
      exact ⟨_, rfl, HO.out, HB.out⟩
set_option maxHeartbeats 1000000 in
theorem result_none (bm : Nat) (i : Int) (v : Value) (w : World) (h0 : i < 0) :
    Calls Try.prog 32 #[.pointer (some ⟨bm, 0, none⟩), .int .i64 i, v] w fun e w' => e = .returned v ∧ w' = w := by
  have hd : decide (i < 0) = true := decide_eq_true h0
  clear h0
  go_enter Try.func32, Try.ntmps32
  go_wp2
  go_ret
  exact ⟨rfl, rfl⟩
end Go.Proofs.Ytnhagghhficdpaa.Q
end
section
namespace Go.Proofs.Ytnhagghhficdpaa.Q
open Go.RowKit Go.Proofs.YtnhagghhficdpaaW.PrintWords Go.Proofs.YtnhagghhficdpaaW.PrintLast Go.Proofs.YtnhagghhficdpaaW.PrintMore
set_option linter.unusedVariables false
theorem stepS_bounds (l : List Ru) (text : List Int) (a : Nat) (ha : a < text.length) (h1 : ∀ x ∈ l, 1 ≤ x.f1.length) :
    ∃ n : Nat, (stepS l text (a : Int)).2 = (n : Int) ∧ 1 ≤ n ∧ a + n ≤ text.length ∧ ((stepS l text (a : Int)).1 = -1 ∧ n = 1 ∨ ∃ j : Nat, (stepS l text (a : Int)).1 = (j : Int) ∧ j < l.length ∧ n = (l.getD j z34).f1.length) := by
  unfold stepS
  rw [if_neg (by omega)]
  cases hj : l.findIdx? (fun x => appliesS x text (a : Int)) with
  | none => exact ⟨1, rfl, Nat.le_refl _, by omega, .inl ⟨rfl, rfl⟩⟩
  | some j =>
    obtain ⟨hjl, hap, _⟩ := List.findIdx?_eq_some_iff_getElem.1 hj
    have e : l.getD j z34 = l[j] := by rw [List.getD_eq_getElem?_getD, List.getElem?_eq_getElem hjl]; rfl
    have h2 := h1 l[j] (List.getElem_mem hjl)
    unfold appliesS coversS at hap
    simp only [Bool.and_eq_true, decide_eq_true_eq] at hap
    refine ⟨_, rfl, by rw [e]; exact h2, ?_, .inr ⟨j, rfl, hjl, rfl⟩⟩
    rw [e]
    omega
def resV (l : List Ru) (i : Int) (cov : List Int) : List Int := if i < 0 then cov else (rd_T34 l i).f3.map (pieceV cov)
theorem cov_len (text : List Int) (a n : Nat) (h : a + n ≤ text.length) : ((text.take (a + n)).drop a).length = n := by
  rw [List.length_drop, List.length_take]; omega
theorem cov_getD (text : List Int) (a n k : Nat) (hk : k < n) : ((text.take (a + n)).drop a).getD k 0 = text.getD (a + k) 0 := by
  rw [List.getD_eq_getElem?_getD, List.getD_eq_getElem?_getD, List.getElem?_drop, List.getElem?_take, if_pos (by omega)]
theorem resV_written (l : List Ru) (text : List Int) (a n : Nat) (i : Int) (hn : 1 ≤ n) (ha : a + n ≤ text.length) (hl : ∀ x ∈ l, x.f3.length ≤ 16 ∧ ∀ p ∈ x.f3, p.f1 ≤ (x.f1.length : Int))
    (hc : i = -1 ∧ n = 1 ∨ ∃ j : Nat, i = (j : Int) ∧ j < l.length ∧ n = (l.getD j z34).f1.length) :
    resV l i ((text.take (a + n)).drop a) = writtenS l text (a : Int) i ∧ (writtenS l text (a : Int) i).length ≤ 16 * n := by
  rcases hc with ⟨rfl, rfl⟩ | ⟨j, rfl, hj, hnj⟩
  · unfold resV writtenS
    rw [if_pos (by decide), if_pos (by decide)]
    refine ⟨?_, by simp⟩
    apply List.ext_getElem
    · rw [cov_len _ _ _ ha]; rfl
    · intro k h1 h2
      simp only [List.length_cons, List.length_nil, Nat.zero_add, Nat.lt_one_iff] at h2
      subst h2
      have := cov_getD text a 1 0 (by omega)
      rw [List.getD_eq_getElem?_getD, List.getElem?_eq_getElem h1] at this
      simpa using this
  · have hm : l.getD j z34 ∈ l := by
      rw [List.getD_eq_getElem?_getD, List.getElem?_eq_getElem hj]; exact List.getElem_mem hj
    have h2 := hl _ hm
    unfold resV writtenS
    rw [if_neg (by omega), if_neg (by omega)]
    have e : rd_T34 l (j : Int) = l.getD j z34 := by
      unfold rd_T34
      rw [Int.toNat_natCast]
    rw [e, Int.toNat_natCast]
    refine ⟨?_, by rw [List.length_map]; omega⟩
    apply List.map_congr_left
    intro p hp
    have h3 := h2.2 p hp
    unfold pieceV
    by_cases h0 : 0 < p.f1
    · rw [if_pos h0, if_pos h0]
      obtain ⟨q, hq⟩ : ∃ q : Nat, p.f1 = (q : Int) + 1 := ⟨(p.f1 - 1).toNat, by omega⟩
      rw [hq, show (q : Int) + 1 - 1 = (q : Int) by omega, show (a : Int) + (q : Int) = ((a + q : Nat) : Int) by omega]
      unfold rd
      rw [Int.toNat_natCast, Int.toNat_natCast]
      exact cov_getD text a n q (by omega)
    · rw [if_neg h0, if_neg h0]
set_option maxHeartbeats 1000000 in
theorem res_calls (bm : Nat) (A : Option Addr) (cA : Nat) (l : List Ru) (text : List Int) (a n : Nat) (i : Int) (Ac : Option Addr) (cc : Nat) (cov : List Int) (w : World) (hcov : cov = (text.take (a + n)).drop a) (hcl : w.cell? ⟨bm, 0, none⟩ = some (.slice A l.length cA)) (hR : Kd.C k34 w A l.length l)
    (hn : 1 ≤ n) (ha : a + n ≤ text.length) (hl : ∀ x ∈ l, x.f3.length ≤ 16 ∧ ∀ p ∈ x.f3, p.f1 ≤ (x.f1.length : Int))
    (hc : i = -1 ∧ n = 1 ∨ ∃ j : Nat, i = (j : Int) ∧ j < l.length ∧ n = (l.getD j z34).f1.length) (hC : Kd.C (Kd.int .i64) w Ac n cov) (hcl2 : text.length < 100000000) :
    Calls Try.prog 32 #[.pointer (some ⟨bm, 0, none⟩), .int .i64 i, .slice Ac n cc] w fun e w' => ∃ A' c', e = .returned (.slice A' (writtenS l text (a : Int) i).length c') ∧ Kd.C (Kd.int .i64) w' A' (writtenS l text (a : Int) i).length (writtenS l text (a : Int) i) ∧ Below w.heap.size w w' := by
  subst hcov
  have hw := (resV_written l text a n i hn ha hl hc).1
  rw [← hw]
  have hlen := cov_len text a n ha
  rcases hc with ⟨rfl, rfl⟩ | ⟨j, rfl, hj, hnj⟩
  · refine (result_none bm (-1) _ w (by decide)).mono ?_
    rintro e w' ⟨rfl, rfl⟩
    have e1 : resV l (-1) ((text.take (a + 1)).drop a) = (text.take (a + 1)).drop a := if_pos (by decide)
    rw [e1, hlen]
    exact ⟨Ac, cc, rfl, hC, Below.refl _ _⟩
  · have e : rd_T34 l (j : Int) = l.getD j z34 := by
      unfold rd_T34
      rw [Int.toNat_natCast]
    have hm : l.getD j z34 ∈ l := by
      rw [List.getD_eq_getElem?_getD, List.getElem?_eq_getElem hj]; exact List.getElem_mem hj
    have h2 := hl _ hm
    have hcc := result_calls bm A cA l (j : Int) Ac cc ((text.take (a + n)).drop a) w hcl hR (by omega) (by omega) (by rw [hlen]; exact hC) (by rw [e, hlen, hnj]; exact h2.2) (by rw [e]; omega) (by omega)
    rw [hlen] at hcc
    refine hcc.mono ?_
    rintro e w' ⟨v, rfl, ho, hb⟩
    have e1 : resV l (j : Int) ((text.take (a + n)).drop a) = (rd_T34 l (j : Int)).f3.map (pieceV ((text.take (a + n)).drop a)) := if_neg (by omega)
    rw [e1]
    obtain ⟨A', c', rfl⟩ := Kd.R_slice ho
    exact ⟨A', c', rfl, (Kd.R_reads' ho).2.2, hb⟩
end Go.Proofs.Ytnhagghhficdpaa.Q
end
section
namespace Go.Proofs.Ytnhagghhficdpaa.Q
open Go.RowKit Go.Proofs.YtnhagghhficdpaaW.PrintWords Go.Proofs.YtnhagghhficdpaaW.PrintLast Go.Proofs.YtnhagghhficdpaaW.PrintMore
attribute [local go_sem] max2_int min2_int max_two min_two
set_option linter.unusedVariables false
def clampR (x : Rg) : Rg := ⟨if x.f0 < 0 then 0 else x.f0, if 1114111 < x.f1 then 1114111 else x.f1⟩
def takeIn (l : List Rg) : List Rg := (l.map clampR).filter fun r => decide (r.f0 ≤ r.f1)
theorem takeIn_toP (l : List Rg) : (takeIn l).map toP = CpM.clamp (l.map toP) := by
  unfold takeIn CpM.clamp
  induction l with
  | nil => rfl
  | cons x l ih =>
    have e : CpM.clamp1 (toP x) = toP (clampR x) := rfl
    rw [List.map_cons, List.map_cons, List.map_cons, e, List.filter_cons, List.filter_cons]
    by_cases h : (clampR x).f0 ≤ (clampR x).f1
    · rw [if_pos (decide_eq_true h), if_pos (show decide ((toP (clampR x)).1 ≤ (toP (clampR x)).2) = true from decide_eq_true h), List.map_cons, ih]
    · rw [if_neg (fun e => h (of_decide_eq_true e)), if_neg (show ¬ decide ((toP (clampR x)).1 ≤ (toP (clampR x)).2) = true from fun e => h (of_decide_eq_true e)), ih]
theorem takeIn_snoc (l : List Rg) (x : Rg) : takeIn (l ++ [x]) = if (clampR x).f0 ≤ (clampR x).f1 then takeIn l ++ [clampR x] else takeIn l := by
  unfold takeIn
  rw [List.map_append, List.filter_append]
  by_cases h : (clampR x).f0 ≤ (clampR x).f1 <;> simp [h]
theorem takeIn_length (l : List Rg) : (takeIn l).length ≤ l.length := by
  unfold takeIn; exact Nat.le_trans (List.length_filter_le _ _) (by simp)
def mergeR (l : List Rg) : List Rg := ((l.map toP).foldl CpM.mergeStep []).map ofP
theorem mergeR_toP (l : List Rg) : (mergeR l).map toP = (l.map toP).foldl CpM.mergeStep [] := toP_ofP _
theorem fold_snoc (l : List Rg) (x : Rg) : ((l ++ [x]).map toP).foldl CpM.mergeStep [] = CpM.mergeStep ((l.map toP).foldl CpM.mergeStep []) (toP x) := by
  rw [List.map_append, List.foldl_append]; rfl
theorem mergeR_snoc_nil {l : List Rg} (x : Rg) (h : mergeR l = []) : mergeR (l ++ [x]) = [x] := by
  unfold mergeR at h ⊢
  rw [fold_snoc]
  have : (l.map toP).foldl CpM.mergeStep [] = [] := by simpa using h
  rw [this]
  rfl
theorem mergeR_snoc {l m : List Rg} {q : Rg} (x : Rg) (h : mergeR l = m ++ [q]) :
    mergeR (l ++ [x]) = if x.f0 ≤ q.f1 + 1 then m ++ [⟨q.f0, if q.f1 < x.f1 then x.f1 else q.f1⟩] else m ++ [q] ++ [x] := by
  have h2 : (l.map toP).foldl CpM.mergeStep [] = m.map toP ++ [toP q] := by rw [← mergeR_toP, h, List.map_append]; rfl
  unfold mergeR
  rw [fold_snoc, h2]
  unfold CpM.mergeStep
  rw [List.getLast?_append]
  simp only [List.getLast?_singleton, Option.some_or, List.dropLast_concat]
  show List.map ofP (if x.f0 ≤ q.f1 + 1 then List.map toP m ++ [((toP q).1, if (toP q).2 < (toP x).2 then (toP x).2 else (toP q).2)] else List.map toP m ++ [toP q] ++ [toP x]) = _
  split
  · rw [List.map_append, ofP_toP]; rfl
  · rw [List.map_append, List.map_append, ofP_toP]; rfl
theorem canon_all : ∀ (l : List (Int × Int)) (b : Int), CpM.CanonFrom b l → ∀ r ∈ l, b ≤ r.1 ∧ r.1 ≤ r.2 ∧ r.2 ≤ 1114111
  | [], _, _, r, h => by cases h
  | x :: l, b, ⟨h1, h2, h3, h4⟩, r, h => by
    rcases List.mem_cons.1 h with rfl | h
    · exact ⟨h1, h2, h3⟩
    · have := canon_all l _ h4 r h; omega
theorem mergeR_last {l m : List Rg} {q : Rg} (h : mergeR l = m ++ [q]) (hs : l.Pairwise (fun a b => a.f0 ≤ b.f0)) (ho : ∀ r ∈ l, CpM.Ok (toP r)) : 0 ≤ q.f0 ∧ q.f0 ≤ q.f1 ∧ q.f1 ≤ 1114111 := by
  have h2 : (l.map toP).foldl CpM.mergeStep [] = m.map toP ++ [toP q] := by rw [← mergeR_toP, h, List.map_append]; rfl
  have := (CpM.fold_ok (l.map toP) (fun r hr => by obtain ⟨y, hy, rfl⟩ := List.mem_map.1 hr; exact ho y hy) (List.pairwise_map.2 hs)).1
  rw [h2] at this
  exact canon_all _ _ this (toP q) (by simp)
theorem fold_length : ∀ (s acc : List (Int × Int)), (s.foldl CpM.mergeStep acc).length ≤ acc.length + s.length := by
  intro s
  induction s with
  | nil => intro acc; simp
  | cons r s ih =>
    intro acc
    rw [List.foldl_cons]
    refine Nat.le_trans (ih _) ?_
    have : (CpM.mergeStep acc r).length ≤ acc.length + 1 := by
      unfold CpM.mergeStep
      split
      · simp
      · split
        · simp
        · simp
    simp only [List.length_cons]; omega
theorem mergeR_length (l : List Rg) : (mergeR l).length ≤ l.length := by
  have := fold_length (l.map toP) []
  simpa [mergeR] using this
theorem make_length (l : List (Int × Int)) : (CpM.make l).length ≤ l.length := by
  unfold CpM.make
  refine Nat.le_trans (fold_length _ []) ?_
  rw [(CpM.sorted_perm _).length_eq]
  unfold CpM.clamp
  have := List.length_filter_le (fun r : Int × Int => decide (r.1 ≤ r.2)) (l.map CpM.clamp1)
  rw [List.length_map] at this
  simpa using this
theorem flatR_set1 : ∀ (m : List Rg) (i : Nat) (q : Rg) (y : Int), m[i]? = some q → (flatR m).set (i * 2 + 1) (.int .i64 y) = flatR (m.set i ⟨q.f0, y⟩)
  | x :: m, 0, q, y, h => by simp at h; subst h; rfl
  | x :: m, i + 1, q, y, h => by
    have := flatR_set1 m i q y (by simpa using h)
    rw [show (i + 1) * 2 + 1 = (i * 2 + 1) + 1 + 1 by omega]
    simp only [flatR, List.set_cons_succ, this]
theorem R_set_hi {W : World} {base g n cap : Nat} {ok : Nat → Prop} {m : List Rg} {i : Nat} {q : Rg} {y : Int} (h : Kd.R kRg 59 W base ok (.slice (some ⟨g, 0, none⟩) n cap) m) (hq : m[i]? = some q) :
    Kd.R kRg 59 (W.setCell ⟨g, i * 2 + 1, none⟩ (.int .i64 y)) base ok (.slice (some ⟨g, 0, none⟩) n cap) (m.set i ⟨q.f0, y⟩) := by
  obtain ⟨hok, hlen, ⟨hv, _⟩ | ⟨g', cap', cur, hv, hb, hh, hle, hmax, hsz, htk⟩⟩ := R_own_iff.1 h
  · cases hv
  · cases hv
    refine R_own_iff.2 ⟨hok, by rw [flatR_length], .inr ⟨g, cap, cur.setIfInBounds (i * 2 + 1) (.int .i64 y), by rw [List.length_set], hb, blk_set hh _ _, by rw [List.length_set]; exact hle, hmax, by rw [Array.size_setIfInBounds]; exact hsz, ?_⟩⟩
    rw [List.length_set, Array.toList_setIfInBounds, List.take_set, htk, flatR_set1 m i q y hq]
theorem R_cells {W : World} {base g n cap : Nat} {ok : Nat → Prop} {m : List Rg} {i : Nat} {q : Rg} (h : Kd.R kRg 59 W base ok (.slice (some ⟨g, 0, none⟩) n cap) m) (hq : m[i]? = some q) :
    W.cell? ⟨g, i * 2, none⟩ = some (.int .i64 q.f0) ∧ W.cell? ⟨g, i * 2 + 1, none⟩ = some (.int .i64 q.f1) ∧ W.frozen? ⟨g, i * 2 + 1, none⟩ = false := by
  obtain ⟨hok, hlen, ⟨hv, _⟩ | ⟨g', cap', cur, hv, hb, hh, hle, hmax, hsz, htk⟩⟩ := R_own_iff.1 h
  · cases hv
  · cases hv
    have hi : i < m.length := (List.getElem?_eq_some_iff.1 hq).1
    have e := flatR_reps m i q hq
    have k0 : (flatR m)[i * 2]? = some (.int .i64 q.f0) := by
      have := congrArg (fun l => l[0]?) e
      simpa [List.getElem?_take, List.getElem?_drop, encR] using this
    have k1 : (flatR m)[i * 2 + 1]? = some (.int .i64 q.f1) := by
      have := congrArg (fun l => l[1]?) e
      simpa [List.getElem?_take, List.getElem?_drop, encR] using this
    rw [← htk, List.getElem?_take, if_pos (by omega), Array.getElem?_toList] at k0 k1
    refine ⟨?_, ?_, ?_⟩
    · simp only [World.cell?, hh]; simpa using k0
    · simp only [World.cell?, hh]; simpa using k1
    · simp [World.frozen?, hh]
def cpset_Make.f (l0 : List Rg) : Option (List Rg) := if l0.length < 1000000000 then some ((CpM.make (l0.map toP)).map ofP) else none
theorem rd_take {l : List Rg} {k : Nat} (h : k < l.length) : l.take (k + 1) = l.take k ++ [rd_T59 l k] := by
  rw [List.take_succ_eq_append_getElem h]
  congr 2
  simp [rd_T59, List.getD_eq_getElem?_getD, h]
set_option maxHeartbeats 4000000 in
set_option maxRecDepth 100000 in
theorem cpset_Make.calls (A0 : Option Addr) (c0 : Nat) (l0 : List Rg) (r : List Rg) (w : World) (hr0 : Kd.C kRg w A0 l0.length l0) (hc0 : l0.length ≤ c0) (h : cpset_Make.f l0 = some r) :
    Calls Try.prog 53 #[.slice A0 l0.length c0] w fun e w' => ∃ v0_ : Value, e = .returned (.agg #[v0_]) ∧ Kd.R kRg 59 w' w.heap.size (fun _ => True) v0_ r ∧ Below w.heap.size w w' := by
  have hn : l0.length < 1000000000 ∧ (CpM.make (l0.map toP)).map ofP = r := by
    unfold cpset_Make.f at h
    by_cases hl : l0.length < 1000000000
    · rw [if_pos hl] at h; exact ⟨hl, Option.some.inj h⟩
    · rw [if_neg hl] at h; cases h
  have HN := Aside0.mk hn
  clear hn h
  have HR := Aside0.mk hr0
  clear hr0 hc0
  have hu1 := Try.underlying59
  have hu2 := Try.underlying38
  have HB := Aside0.mk (Below.refl w.heap.size w)
  go_enter Try.func53, Try.ntmps53
  go_wp2
  go_loopw [3, 12] (fun v i wr => ∃ (k : Nat), i = .int .i64 k ∧ Aside0 (k ≤ l0.length) ∧ Aside0 (Kd.R kRg 59 wr w.heap.size (fun _ => True) v (takeIn (l0.take k))) ∧ Aside0 (wr.heap[w.heap.size]? = some (.cells #[.slice none 0 0] 38 (0, 0))) ∧ Aside0 (Below w.heap.size w wr)) (fun _ i _ => l0.length - (intOf i).toNat)
  case atStart => exact ⟨0, rfl, ⟨Nat.zero_le _⟩, ⟨Kd.R_nil _ _ _ _ _⟩, ⟨heap_alloc_new w _⟩, ⟨below_alloc HB.out _⟩⟩
  case round =>
    obtain ⟨k, rfl, HK, HO, BK, HB⟩ := hrel
    by_cases hlt : k < l0.length
    · obtain ⟨ad, e, hx0, hx1⟩ := at_T59 HR.out (k : Int) (by omega) (by omega)
      cases e
      rw [Int.toNat_natCast] at hx0 hx1
      have hc0 := (HB.out.cell (World.block_lt_of_cell? w _ hx0)).trans hx0
      have hc1 := (HB.out.cell (World.block_lt_of_cell? w _ hx1)).trans hx1
      clear hx0 hx1
      have hst := Aside0.mk (rd_take hlt)
      generalize rd_T59 l0 (k : Int) = x at hc0 hc1 hst
      obtain ⟨a, ha⟩ : ∃ a : Int, (if x.f0 < 0 then 0 else x.f0) = a := ⟨_, rfl⟩
      obtain ⟨b, hb⟩ : ∃ b : Int, (if 1114111 < x.f1 then 1114111 else x.f1) = b := ⟨_, rfl⟩
      have hcl := Aside0.mk (show clampR x = ⟨a, b⟩ by unfold clampR; rw [ha, hb])
      have hp : (0 ≤ (k : Int)) = True := eq_true (by omega)
      have hw : wrap64 ((k : Int) + 1) = (k : Int) + 1 := by have := HN.out.1; unfold wrap64; omega
      have hnx : takeIn (l0.take (k + 1)) = if a ≤ b then takeIn (l0.take k) ++ [⟨a, b⟩] else takeIn (l0.take k) := by rw [hst.out, takeIn_snoc, hcl.out]
      have hlen : Aside0 ((takeIn (l0.take k)).length ≤ l0.length) := ⟨Nat.le_trans (takeIn_length _) (List.length_take_le' _ _)⟩
      by_cases hab : a ≤ b
      · rw [if_pos hab] at hnx
        have HX := Aside0.mk hnx
        clear hnx
        go_wp2_with (at_builtin; refine Kd.R_append kRg (w0 := w) w.heap.size rfl (.tmp 29) (.tmp 31) 36 59 (.agg #[.int .i64 0, .int .i64 0]) 16 rfl Try.underlying36 info59 rfl (by decide) (by omega) u3 (takeIn (l0.take k)) ⟨a, b⟩ [.int .i64 a, .int .i64 b] (fun _ => True) (fun _ => False) rfl (by first | (go_simp; done) | (go_simp; rfl)) (k59_mkM _ _ _ ⟨a, b⟩) (fun _ h => h.elim) (fun _ _ => trivial) ?aO ?aB ?aS ?aL ?_; (case aO => exact Kd.R_alloc HO.out _); (case aB => exact below_alloc HB.out _); (case aS => have := HB.out.size; simp; omega); (case aL => have := HN.out.1; have := hlen.out; omega); intro v1 w1 ho hb hg hat; have HO1 := Aside0.mk ho; have HB1 := Aside0.mk hb; have BK1 := Aside0.mk (blk_grown (blk_alloc BK.out _) hg (Kd.R_ne HO.out BK.out (by decide))); clear ho hb hg hat)
        go_roundw
        case rel => exact ⟨k + 1, by rw [hw]; rfl, ⟨hlt⟩, ⟨by rw [HX.out]; exact HO1.out⟩, BK1, HB1⟩
        case measure => clear ha hb hp; rw [hw]; simp only [intOf]; omega
      · rw [if_neg hab] at hnx
        have HX := Aside0.mk hnx
        clear hnx
        go_wp2
        go_roundw
        case rel => exact ⟨k + 1, by rw [hw]; rfl, ⟨hlt⟩, ⟨by rw [HX.out]; exact Kd.R_alloc HO.out _⟩, ⟨blk_alloc BK.out _⟩, ⟨below_alloc HB.out _⟩⟩
        case measure => clear ha hb hp; rw [hw]; simp only [intOf]; omega
    · obtain rfl : k = l0.length := by have := HK.out; omega
      rw [List.take_length] at HO
      clear HK
      have hlen := takeIn_length l0
      have HS := Aside0.mk (sort_ranges w.heap.size (fun _ => True) u3 (takeIn l0) wr HO.out (by have := HN.out.1; omega))
      have HLen := Aside0.mk hlen
      clear hlen
      have hne := Aside0.mk (Kd.R_ne HO.out BK.out (by decide))
      have hbase := Aside0.mk (fun k hk => Kd.R_base HO.out k hk)
      go_wp2_with (go_at_call 62; refine HS.out.mono ?_; rintro e w1 ⟨rfl, ys, hperm, hpair, ho, hos, hta, hou, hsz, hkeep⟩; have HP := Aside0.mk hperm; have HPP := Aside0.mk hpair; have HB1 := Aside0.mk (HB.out.trans (⟨hos, hta, hou, hsz, fun i hi => hkeep i (Nat.lt_of_lt_of_le hi HB.out.size) (fun e_ => absurd (hbase.out i e_) (Nat.not_le.2 hi))⟩ : Below w.heap.size wr w1)); have BK1 := Aside0.mk ((hkeep _ (blk_lt BK.out) (fun e_ => hne.out e_.symm)).trans BK.out); obtain ⟨Av, cv, ev⟩ := Kd.R_slice ho; subst ev; have HC1 := Aside0.mk (Kd.R_reads' ho).2.2; clear hperm hpair ho hos hta hou hsz hkeep)
      clear HS hne hbase BK HO HB
      go_loopw [6, 38] (fun v i wr => ∃ (k : Nat), i = .int .i64 k ∧ Aside0 (k ≤ ys.length) ∧ Aside0 (Kd.R kRg 59 wr w1.heap.size (fun _ => True) v (mergeR (ys.take k))) ∧ Aside0 (Below w1.heap.size w1 wr)) (fun _ i _ => ys.length - (intOf i).toNat)
      case atStart => exact ⟨0, rfl, ⟨Nat.zero_le _⟩, ⟨Kd.R_nil _ _ _ _ _⟩, ⟨Below.refl _ _⟩⟩
      case round =>
        obtain ⟨k, rfl, HK, HO, HB⟩ := hrel
        by_cases hlt : k < ys.length
        · obtain ⟨ad, e, hx0, hx1⟩ := at_T59 HC1.out (k : Int) (by omega) (by omega)
          cases e
          rw [Int.toNat_natCast] at hx0 hx1
          have hc0 := (HB.out.cell (World.block_lt_of_cell? w1 _ hx0)).trans hx0
          have hc1 := (HB.out.cell (World.block_lt_of_cell? w1 _ hx1)).trans hx1
          clear hx0 hx1
          have hst := Aside0.mk (rd_take hlt)
          generalize rd_T59 ys (k : Int) = x at hc0 hc1 hst
          have hp : (0 ≤ (k : Int)) = True := eq_true (by omega)
          have hw : wrap64 ((k : Int) + 1) = (k : Int) + 1 := by have := HN.out.1; have := HP.out.length_eq; have := HLen.out; unfold wrap64; omega
          have hml := Aside0.mk (mergeR_length (ys.take k))
          have hml2 := Aside0.mk (Nat.le_trans (mergeR_length (ys.take k)) (Nat.le_trans (List.length_take_le' _ _) (Nat.le_trans (Nat.le_of_eq HP.out.length_eq) HLen.out)))
          rcases List.eq_nil_or_concat (mergeR (ys.take k)) with hm | ⟨m, q, hm⟩
          · have HX := Aside0.mk ((congrArg mergeR hst.out).trans (mergeR_snoc_nil x hm))
            rw [hm] at HO hml hml2
            clear hm
            obtain ⟨Ao, co, eo⟩ := Kd.R_slice HO.out
            subst eo
            go_wp2
            go_quiet (fail)
            go_wp2_with (at_builtin; refine Kd.R_append kRg (w0 := w1) w1.heap.size rfl (.tmp 72) (.tmp 74) 36 59 (.agg #[.int .i64 0, .int .i64 0]) 16 rfl Try.underlying36 info59 rfl (by decide) (by omega) _ ([] : List Rg) x [.int .i64 x.f0, .int .i64 x.f1] (fun _ => True) (fun _ => False) rfl (by first | (go_simp; done) | (go_simp; rfl)) (k59_mkM _ _ _ x) (fun _ h => h.elim) (fun _ _ => trivial) ?aO ?aB ?aS ?aL ?_; (case aO => (with_reducible repeat (first | apply Kd.R_alloc | apply Kd.R_drewN | apply Kd.R_drew)); exact HO.out); (case aB => repeat (first | (with_reducible first | exact HB.out | apply below_alloc | apply pw_below_drewN | apply below_drew1) | exact HB.out)); (case aS => have := HB.out.size; simp; omega); (case aL => first | decide | (have h1_ := HN.out.1; have h2_ := hml2.out; omega)); intro v1 w2 ho hb hg hat; have HO1 := Aside0.mk ho; have HB2 := Aside0.mk hb; clear ho hb hg hat)
            go_roundw
            case rel => exact ⟨k + 1, by rw [hw]; rfl, ⟨hlt⟩, ⟨by rw [HX.out]; exact HO1.out⟩, HB2⟩
            case measure => rw [hw]; simp only [intOf]; omega
          · rw [List.concat_eq_append] at hm
            have hmi : (m ++ [q])[m.length]? = some q := by simp
            have hs1 : (ys.take k).Pairwise (fun a b => a.f0 ≤ b.f0) := List.Pairwise.sublist (List.take_sublist _ _) HPP.out
            have hq := mergeR_last hm hs1 (fun r hr => by
              have h1 : r ∈ takeIn l0 := HP.out.mem_iff.1 (List.mem_of_mem_take hr)
              have h2 : toP r ∈ (takeIn l0).map toP := List.mem_map.2 ⟨r, h1, rfl⟩
              rw [takeIn_toP] at h2
              exact CpM.clamp_ok _ _ h2)
            have hX := (congrArg mergeR hst.out).trans (mergeR_snoc x hm)
            rw [hm] at HO hml hml2
            clear hm hs1
            obtain ⟨_, _, ⟨_, hz⟩ | ⟨g, co, cur, hv, hbg, _⟩⟩ := R_own_iff.1 HO.out
            · simp at hz
            subst hv
            have hcs := R_cells HO.out hmi
            obtain ⟨hq0, hq1, hqf⟩ := hcs
            have HG := Aside0.mk hbg
            have HMI := Aside0.mk hmi
            have hlen3 : (m ++ [q]).length = m.length + 1 := by simp
            obtain ⟨n, hn⟩ : ∃ n, (m ++ [q]).length = n := ⟨_, rfl⟩
            obtain ⟨J, hJ⟩ : ∃ J : Int, (m.length : Int) = J := ⟨_, rfl⟩
            have hJn : J.toNat = m.length := by omega
            rw [← hJn] at hq0 hq1 hqf
            rw [hn] at HO hml hml2 ⊢
            have hb0 : decide (0 < n) = true := decide_eq_true (by omega)
            have hb1 : (0 ≤ J) = True := eq_true (by omega)
            have hb2 : (J < (n : Int)) = True := eq_true (by omega)
            have hw2 : wrap64 ((n : Int) - 1) = J := by have h_ := hml2.out; have h2_ := HN.out.1; unfold wrap64; omega
            have hw4 : IntKind.i64.wrap ((n : Int) - 1) = J := by have h_ := hml2.out; have h2_ := HN.out.1; rw [IntWalk.i64_in _ (by omega)]; omega
            have hw3 : wrap64 (q.f1 + 1) = q.f1 + 1 := by unfold wrap64; omega
            have hw5 : IntKind.i64.wrap (q.f1 + 1) = q.f1 + 1 := by rw [IntWalk.i64_in _ (by omega)]
            have hbx := below_alloc (Below.refl wr.heap.size wr) (.cells #[.int .i64 x.f0, .int .i64 x.f1] 59)
            have hqg : g < wr.heap.size := World.block_lt_of_cell? wr _ hq1
            have hq1' := pw_cell_below hbx hq1
            have hqf' := (hbx.frozen (p := ⟨g, J.toNat * 2 + 1, none⟩) hqg).trans hqf
            clear hbx hq0 hq1 hqf
            have HQG := Aside0.mk hqg
            clear hqg
            have HQ := Aside0.mk hq
            have HJ := Aside0.mk hJn
            have HNN := Aside0.mk hn
            clear hmi hbg hlen3 hn hJ hJn hq
            by_cases hcc : x.f0 ≤ q.f1 + 1
            · rw [if_pos hcc] at hX
              have HX := Aside0.mk hX
              clear hX
              obtain ⟨b, hb⟩ : ∃ b : Int, (if q.f1 < x.f1 then x.f1 else q.f1) = b := ⟨_, rfl⟩
              have HX2 := Aside0.mk hb
              go_wp2
              go_quiet (fail)
              go_wp2
              go_region
              all_goals go_wp2
              go_roundw
              case rel =>
                refine ⟨k + 1, by rw [hw]; rfl, ⟨hlt⟩, ⟨?_⟩, ⟨?_⟩⟩
                · have h1 := R_set_hi (y := b) (Kd.R_drewN (Kd.R_alloc HO.out (.cells #[.int .i64 x.f0, .int .i64 x.f1] 59)) (nq + 1)) HMI.out
                  have e : (m ++ [q]).set m.length ⟨q.f0, b⟩ = m ++ [⟨q.f0, b⟩] := by simp
                  rw [HX.out, HX2.out, HJ.out]
                  rw [e] at h1
                  exact h1
                · exact (pw_below_drewN (below_alloc HB.out _) _).setCell HG.out _
              case measure => rw [hw]; simp only [intOf]; omega
            · rw [if_neg hcc] at hX
              have HX := Aside0.mk hX
              clear hX
              have hcb : decide (x.f0 ≤ q.f1 + 1) = false := decide_eq_false hcc
              go_wp2
              go_quiet (fail)
              go_wp2_with (at_builtin; refine Kd.R_append kRg (w0 := w1) w1.heap.size rfl (.tmp 72) (.tmp 74) 36 59 (.agg #[.int .i64 0, .int .i64 0]) 16 rfl Try.underlying36 info59 rfl (by decide) (by omega) _ (m ++ [q]) x [.int .i64 x.f0, .int .i64 x.f1] (fun _ => True) (fun _ => False) rfl (by first | (go_simp; done) | (go_simp; rfl)) (k59_mkM _ _ _ x) (fun _ h => h.elim) (fun _ _ => trivial) ?aO ?aB ?aS ?aL ?_; (case aO => (with_reducible repeat (first | apply Kd.R_alloc | apply Kd.R_drewN | apply Kd.R_drew)); exact HO.out); (case aB => repeat (first | (with_reducible first | exact HB.out | apply below_alloc | apply pw_below_drewN | apply below_drew1) | exact HB.out)); (case aS => have := HB.out.size; simp; omega); (case aL => have h1_ := HN.out.1; have h2_ := hml2.out; have h3_ := HNN.out; omega); intro v1 w2 ho hb hg hat; have HO1 := Aside0.mk ho; have HB2 := Aside0.mk hb; clear ho hb hg hat)
              go_roundw
              case rel => exact ⟨k + 1, by rw [hw]; rfl, ⟨hlt⟩, ⟨by rw [HX.out]; exact HO1.out⟩, HB2⟩
              case measure => rw [hw]; simp only [intOf]; omega
        · obtain rfl : k = ys.length := by have := HK.out; omega
          rw [List.take_length] at HO
          obtain ⟨Ao, co, eo⟩ := Kd.R_slice HO.out
          subst eo
          have hBK := (HB.out.block _ (blk_lt BK1.out)).trans BK1.out
          have hBc : wr.cell? ⟨w.heap.size, 0, none⟩ = some (.slice none 0 0) := (blk_cell hBK 0).trans rfl
          have hBf := blk_frozen hBK 0
          have hfin : mergeR ys = r := by
            rw [← HN.out.2]
            unfold mergeR
            rw [CpM.fold_eq_make (l0.map toP) (ys.map toP) (by rw [← takeIn_toP]; exact HP.out.map _) (List.pairwise_map.2 HPP.out)]
          have HF := Aside0.mk hfin
          have HBK := Aside0.mk hBK
          clear hfin hBK
          go_wp2
          refine bodyPost_ret (results_cell_row rfl _ _ w.heap.size 38 #[.slice Ao (mergeR ys).length co] (0, 0) _ rfl (blk_put (cs := #[.slice none 0 0]) HBK.out 0 _ rfl) Try.underlying38 rfl (by kernel_rfl)) rfl ?_
          refine ⟨_, rfl, ?_, ?_⟩
          · rw [← HF.out]
            exact Kd.R_lower (Kd.R_set HO.out HBK.out (by decide) 0 _) HB1.out.size
          · exact (below_then HB1.out HB1.out.size HB.out).setCell (Nat.le_refl _) _
end Go.Proofs.Ytnhagghhficdpaa.Q
end
