/- Lemmas, printed and written for this claim: part 2. -/
import Derived.Test.YthnkmcfhpjmihaaProg
import Derived.Below
import Derived.Deep.Draws
import Derived.Deep.AppendLies
import Derived.Maps.AppendAt
import Derived.OwnWalk
import Derived.Laws.BytesArg
import Derived.Laws.MakeOwn
import Derived.Laws.OwnMore
import Derived.Deep.OwnRows
import Derived.Tactics
import Derived.Lib.ConvBytes
import Derived.Laws.Slices
import Derived.WalkKit
import Derived.KernelRfl
import Derived.RowKit3
import Derived.Deep.LoopGhost
import Derived.Deep.QuietTactic
import Derived.BigQuiet
import Derived.WideLaws
import Derived.Deep.DeepCutAuto
import Derived.Deep.CutBlock
import Derived.Deep.RegionHeld3
import Derived.Laws.Rows
import Derived.Lib.AppendStr
import Derived.ArgAppend
import Derived.Laws.IdiomCopy
import Derived.OrdersHeld
import Derived.Laws.BitsLemmas
import Derived.RowKit
import Derived.Test.YthnkmcfhpjmihaaG0
import Derived.Test.YthnkmcfhpjmihaaG1
import Derived.Deep.Slices
import Derived.ChangeArms
import Derived.Shelf.SlGeneric
import Derived.Ground.NamesProg
import Derived.Ground.SlgcProg
import Derived.Ground.SlsfProg
import Derived.Ground.SlsoProg
import Derived.Shelf.SlicesG.Cmp
import Derived.Shelf.SlSortCmp.WholeK
import Derived.Shelf.SlSortCmp.NoneTotal
import Derived.Shelf.SlSorted.Search
import Derived.IntWalk
import Derived.RangeFuncNested
import Derived.RangeFuncBound
import Derived.RangeFuncCalls
import Derived.RangeFuncLeaves
import Derived.RangeFuncBox
import Derived.Shelf.Abstract
import Derived.OwnWalkIn
import Derived.TacticsInMore
import Derived.LoopNIn
import Derived.LoopIn
import Derived.Shelf.Lay
import Derived.RegionTactic
section
namespace Go.Proofs.Ythnkmcfhpjmihaa.Q
open Go.RowKit Go.Proofs.YthnkmcfhpjmihaaW.PrintWords Go.Proofs.YthnkmcfhpjmihaaW.PrintLast Go.Proofs.YthnkmcfhpjmihaaW.PrintMore
attribute [local go_sem] max2_int min2_int max_two min_two max_three min_three max_four min_four
set_option linter.unusedVariables false
set_option linter.unusedSimpArgs false
def errW : Option Int → Value
 | none => .nilIface
 | some c => .iface 0 (.int .i64 c)
theorem eN : errW none = .nilIface := rfl
theorem eS (c : Int) : errW (some c) = .iface 0 (.int .i64 c) := rfl
theorem info3 : (Try.prog.info? 3).map (fun i => (i.zero, i.size, i.bytes)) = some (some (.int .i64 0), 1, 8) := by kernel_rfl
theorem info33 : (Try.prog.info? 33).map (fun i => (i.zero, i.size, i.bytes)) = some (some (.agg #[(.int .i64 0), (.int .i64 0)]), 2, 16) := by kernel_rfl
-- the values' own types
def rd_L1 (xs : List (List Int)) (i : Int) : (List Int) := xs.getD i.toNat ([] : List Int)
structure S43 where
 f0 : Int
 f1 : (List Int)
 f2 : ByteArray
def z43 : S43 := ⟨(0 : Int), ([] : List Int), (⟨#[]⟩ : ByteArray)⟩
def k43 : Kd S43 := Kd.iso (Kd.pair (Kd.int .i64) (Kd.pair (Kd.slice 3 (Kd.int .i64)) Kd.string)) (fun x : S43 => (x.f0, x.f1, x.f2))
theorem k43_heap : Kd.Heap k43 := Kd.heap_iso _ (Kd.heap_pair (Kd.heap_int .i64) (Kd.heap_pair (Kd.heap_slice 3 (Kd.heap_int .i64)) Kd.heap_string))
theorem k43_open {w : World} {x : S43} {cs : List Value} (h : k43.K w x cs) : ∃ A1 c1, cs = [.int .i64 x.f0, .slice A1 x.f1.length c1, .string x.f2] ∧ x.f1.length ≤ c1 ∧ (Kd.int .i64).C w A1 x.f1.length x.f1 := by
 obtain ⟨_, _, rfl, rfl, ⟨_, _, rfl, ⟨A1, c1, rfl, l1, g1⟩, rfl⟩⟩ := h
 exact ⟨A1, c1, rfl, l1, g1⟩
theorem k43_mk (w : World) (x : S43) {A1 : Option Addr} {c1 : Nat} (l1 : x.f1.length ≤ c1) (g1 : (Kd.int .i64).C w A1 x.f1.length x.f1) : k43.K w x [.int .i64 x.f0, .slice A1 x.f1.length c1, .string x.f2] := ⟨[.int .i64 x.f0], [.slice A1 x.f1.length c1, .string x.f2], rfl, rfl, ⟨[.slice A1 x.f1.length c1], [.string x.f2], rfl, ⟨A1, c1, rfl, l1, g1⟩, rfl⟩⟩
theorem k43_mkF (W : World) (ok : Nat → Prop) (x : S43) {A1 : Option Addr} {c1 : Nat} (l1 : x.f1.length ≤ c1) (g1 : Kd.F (Kd.int .i64) W ok A1 x.f1.length x.f1) : Kd.FK k43 W ok x [.int .i64 x.f0, .slice A1 x.f1.length c1, .string x.f2] := fun W2 hW => k43_mk W2 x l1 (g1 W2 hW)
def rd_T43 (xs : List S43) (i : Int) : S43 := xs.getD i.toNat z43
theorem at_T43 {w : World} {A : Option Addr} {n : Nat} {xs : List S43} (h : Kd.C k43 w A n xs) (i : Int) (h0 : 0 ≤ i) (h1 : i < n) : ∃ ad A1 c1, A = some ad ∧ w.cell? (ad.add (i.toNat * 3)) = some (.int .i64 (rd_T43 xs i).f0) ∧ w.cell? ⟨(ad.add (i.toNat * 3)).block, (ad.add (i.toNat * 3)).off + 1, none⟩ = some (.slice A1 (rd_T43 xs i).f1.length c1) ∧ w.cell? ⟨(ad.add (i.toNat * 3)).block, (ad.add (i.toNat * 3)).off + 2, none⟩ = some (.string (rd_T43 xs i).f2) ∧ (rd_T43 xs i).f1.length ≤ c1 ∧ (Kd.int .i64).C w A1 (rd_T43 xs i).f1.length (rd_T43 xs i).f1 := by
 obtain ⟨ad, c, e, _, hK, hc0⟩ := Kd.C_get h z43 i h0 h1
 have hc : ∀ j u, c[j]? = some u → w.cell? (ad.add (i.toNat * 3 + j)) = some u := hc0
 obtain ⟨A1, c1, rfl, l1, g1⟩ := k43_open hK
 exact ⟨ad, A1, c1, e, hc 0 _ rfl, by rw [← add_field _ _ 1 (by omega)]; exact hc 1 _ rfl, by rw [← add_field _ _ 2 (by omega)]; exact hc 2 _ rfl, l1, g1⟩
structure S33 where
 f0 : Int
 f1 : Int
def z33 : S33 := ⟨(0 : Int), (0 : Int)⟩
def k33 : Kd S33 := Kd.iso (Kd.pair (Kd.int .i64) (Kd.int .i64)) (fun x : S33 => (x.f0, x.f1))
theorem k33_heap : Kd.Heap k33 := Kd.heap_iso _ (Kd.heap_pair (Kd.heap_int .i64) (Kd.heap_int .i64))
theorem k33_open {w : World} {x : S33} {cs : List Value} (h : k33.K w x cs) : cs = [.int .i64 x.f0, .int .i64 x.f1] := by
 obtain ⟨_, _, rfl, rfl, rfl⟩ := h
 exact rfl
theorem k33_openM {w : World} {base : Nat} {ok : Nat → Prop} {x : S33} {cs : List Value} (h : k33.M w base ok x cs) : cs = [.int .i64 x.f0, .int .i64 x.f1] := by
 obtain ⟨_, _, rfl, rfl, rfl⟩ := h
 exact rfl
theorem k33_mk (w : World) (x : S33)  : k33.K w x [.int .i64 x.f0, .int .i64 x.f1] := ⟨[.int .i64 x.f0], [.int .i64 x.f1], rfl, rfl, rfl⟩
theorem k33_mkM (w : World) (base : Nat) (ok : Nat → Prop) (x : S33)  : k33.M w base ok x [.int .i64 x.f0, .int .i64 x.f1] := ⟨[.int .i64 x.f0], [.int .i64 x.f1], rfl, rfl, rfl⟩
def rd_T33 (xs : List S33) (i : Int) : S33 := xs.getD i.toNat z33
theorem at_T33 {w : World} {A : Option Addr} {n : Nat} {xs : List S33} (h : Kd.C k33 w A n xs) (i : Int) (h0 : 0 ≤ i) (h1 : i < n) : ∃ ad , A = some ad ∧ w.cell? (ad.add (i.toNat * 2)) = some (.int .i64 (rd_T33 xs i).f0) ∧ w.cell? ⟨(ad.add (i.toNat * 2)).block, (ad.add (i.toNat * 2)).off + 1, none⟩ = some (.int .i64 (rd_T33 xs i).f1) := by
 obtain ⟨ad, c, e, _, hK, hc0⟩ := Kd.C_get h z33 i h0 h1
 have hc : ∀ j u, c[j]? = some u → w.cell? (ad.add (i.toNat * 2 + j)) = some u := hc0
 obtain rfl := k33_open hK
 exact ⟨ad, e, hc 0 _ rfl, by rw [← add_field _ _ 1 (by omega)]; exact hc 1 _ rfl⟩
def rd_L5 (xs : List (List S43)) (i : Int) : (List S43) := xs.getD i.toNat ([] : List S43)
theorem at_L5 {w : World} {A : Option Addr} {n : Nat} {xs : List (List S43)} (h : Kd.C (Kd.slice 43 k43) w A n xs) (i : Int) (h0 : 0 ≤ i) (h1 : i < n) : ∃ ad A0 c0, A = some ad ∧ w.cell? (ad.add i.toNat) = some (.slice A0 (rd_L5 xs i).length c0) ∧ (rd_L5 xs i).length ≤ c0 ∧ k43.C w A0 (rd_L5 xs i).length (rd_L5 xs i) := by
 obtain ⟨ad, c, e, _, hK, hc0⟩ := Kd.C_get h ([] : List S43) i h0 h1
 have hc : ∀ j u, c[j]? = some u → w.cell? (ad.add (i.toNat * 1 + j)) = some u := hc0
 obtain ⟨A0, c0, rfl, l0, g0⟩ := hK
 exact ⟨ad, A0, c0, e, by have hq := hc 0 _ rfl; rwa [Nat.mul_one, Nat.add_zero] at hq, l0, g0⟩
def rd_L6 (xs : List (List S33)) (i : Int) : (List S33) := xs.getD i.toNat ([] : List S33)
structure S25 where
 f0 : (List S33)
def z25 : S25 := ⟨([] : List S33)⟩
def k25 : Kd S25 := Kd.iso (Kd.slice 33 k33) (fun x : S25 => x.f0)
def rd_T25 (xs : List S25) (i : Int) : S25 := xs.getD i.toNat z25
structure S27 where
 f0 : (List S43)
 f1 : (List S43)
 f2 : (List S43)
 f3 : (List S43)
 f4 : S25
 f5 : S25
def z27 : S27 := ⟨([] : List S43), ([] : List S43), ([] : List S43), ([] : List S43), z25, z25⟩
def k27 : Kd S27 := Kd.iso (Kd.pair (Kd.slice 43 k43) (Kd.pair (Kd.slice 43 k43) (Kd.pair (Kd.slice 43 k43) (Kd.pair (Kd.slice 43 k43) (Kd.pair k25 k25))))) (fun x : S27 => (x.f0, x.f1, x.f2, x.f3, x.f4, x.f5))
def rd_T27 (xs : List S27) (i : Int) : S27 := xs.getD i.toNat z27
end Go.Proofs.Ythnkmcfhpjmihaa.Q
end
section
namespace Go.Proofs.Ythnkmcfhpjmihaa.Q
open Go.RowKit Go.Proofs.YthnkmcfhpjmihaaW.PrintWords Go.Proofs.YthnkmcfhpjmihaaW.PrintLast Go.Proofs.YthnkmcfhpjmihaaW.PrintMore
open Go.ChangeShapes Go.WideShapes
open Go.Deep (choose_lt)
set_option linter.unusedVariables false
def Opens {α : Type} (d : Kd α) (good : α → Prop) (t : TypeId) : Prop :=
 ∀ (H : Type) (enc : TypeId × Value → H) (w : World) (base : Nat) (sp : Nat → Bool) (held : Bool) (fuel : Nat) (cs : List Value) (x : DataW H × List MemPlace), DataW.trod enc Try.prog w base sp held fuel t cs = some x → ∃ v, d.K w v cs ∧ good v
theorem opens_int {t : TypeId} (ht : Try.prog.underlying t = some (.int .i64)) : Opens (Kd.int .i64) (fun c => (Lit.int .i64 c).wf = true) t := by
 intro H enc w base sp held fuel cs x h
 obtain ⟨n, rfl, _, hw⟩ := DataW.trod_int ht h
 exact ⟨n, rfl, hw⟩
theorem opens_slice {α : Type} [Inhabited α] {d : Kd α} {good : α → Prop} {t e : TypeId} (ht : Try.prog.underlying t = some (.slice e)) (hc : Try.prog.cellsOf e = d.sz) (hd : Opens d good e) : Opens (Kd.slice e d) (fun l => l.length ≤ maxLen ∧ ∀ x ∈ l, good x) t := by
 intro H enc w base sp held fuel cs x h
 rcases Go.Deep.open_slice ht h with ⟨rfl, _⟩ | ⟨a, len, cap, m, n, D, Pl, rfl, hb, hl, hm, hmm, _, hx⟩
 ·exact ⟨[], ⟨none, 0, rfl, Nat.le_refl _, Kd.C_nil _ _⟩, Nat.zero_le _, fun x hx => by cases hx⟩
 ·have hlm : len ≤ m := by rw [hmm]; split <;> omega
  obtain ⟨f, hf⟩ := choose_lt (n := len) (p := fun i v => ∃ cs', w.cells? base (a.add (i * Try.prog.cellsOf e)) (Try.prog.cellsOf e) = some cs' ∧ d.K w v cs' ∧ good v) (fun i hi => by
   obtain ⟨cs', h1, h2⟩ := hx i (by omega)
   obtain ⟨v, h3, h4⟩ := hd H enc w base sp held n cs' _ h2
   exact ⟨v, cs', h1, h3, h4⟩)
  have hlen : ((List.range len).map f).length = len := by rw [List.length_map, List.length_range]
  refine ⟨(List.range len).map f, ⟨some a, cap, by rw [hlen], by rw [hlen]; exact hl, rfl, by rw [hlen]; unfold maxLen at hm; omega, fun h0 => ⟨a, rfl, fun j p hj => ?_⟩⟩, by rw [hlen]; omega, fun p hp => ?_⟩
  ·have hjl : j < len := by have := (List.getElem?_eq_some_iff.1 hj).1; omega
   have hp : p = f j := by simpa [hjl] using hj.symm
   subst hp
   obtain ⟨cs', h1, h2, _⟩ := hf j hjl
   have hk := d.K_len h2
   refine ⟨cs', hk, h2, fun i u hu => ?_⟩
   have hi : i < cs'.length := (List.getElem?_eq_some_iff.1 hu).1
   have h3 := (World.cells?_some h1).2.2 i (by rw [hc]; omega)
   rw [Go.Deep.add_add, hc] at h3
   rw [h3]
   exact hu
  ·obtain ⟨j, hj, rfl⟩ := List.mem_map.1 hp
   obtain ⟨_, _, _, h4⟩ := hf j (List.mem_range.1 hj)
   exact h4
instance : Inhabited (S33) := ⟨z33⟩
instance : Inhabited (S43) := ⟨z43⟩
def W64 (c : Int) : Prop := (Lit.int .i64 c).wf = true
def wfR (x : S33) : Prop := W64 x.f0 ∧ W64 x.f1
def wfT (l : List Int) : Prop := l.length ≤ maxLen ∧ ∀ c ∈ l, W64 c
def wfRs (l : List S33) : Prop := l.length ≤ maxLen ∧ ∀ x ∈ l, wfR x
def wfMs (l : List S43) : Prop := l.length ≤ maxLen ∧ ∀ x ∈ l, True
theorem cells_1 {l : List Value} (h : l.length = 1) : ∃ v0, l = [v0] := by
 match l, h with
 | [v0], _ => exact ⟨v0, rfl⟩
theorem cells_2 {l : List Value} (h : l.length = 2) : ∃ v0 v1, l = [v0, v1] := by
 match l, h with
 | [v0, v1], _ => exact ⟨v0, v1, rfl⟩
theorem cells_3 {l : List Value} (h : l.length = 3) : ∃ v0 v1 v2, l = [v0, v1, v2] := by
 match l, h with
 | [v0, v1, v2], _ => exact ⟨v0, v1, v2, rfl⟩
theorem cells_6 {l : List Value} (h : l.length = 6) : ∃ v0 v1 v2 v3 v4 v5, l = [v0, v1, v2, v3, v4, v5] := by
 match l, h with
 | [v0, v1, v2, v3, v4, v5], _ => exact ⟨v0, v1, v2, v3, v4, v5, rfl⟩
theorem cells3 : Try.prog.cellsOf 3 = 1 := by kernel_rfl
theorem opens_range : Opens k33 wfR 33 := by
 intro H enc w base sp held fuel cs x h
 obtain ⟨xs, n, rfl, _, hl, hxl, hf⟩ := DataW.trod_struct Try.underlying33 h
 have h2 : Try.prog.cellsOf 33 = 2 := by kernel_rfl
 rw [h2] at hl
 obtain ⟨v0, v1, rfl⟩ := cells_2 hl
 have g0 : DataW.trod enc Try.prog w base sp held n 3 (([v0, v1].drop 0).take (Try.prog.cellsOf 3)) = xs[0]? := hf 0 _ rfl
 have g1 : DataW.trod enc Try.prog w base sp held n 3 (([v0, v1].drop 1).take (Try.prog.cellsOf 3)) = xs[1]? := hf 1 _ rfl
 rw [List.getElem?_eq_getElem (by rw [hxl]; decide)] at g0 g1
 rw [cells3] at g0 g1
 obtain ⟨c0, e0, w0⟩ := opens_int Try.underlying3 H enc w base sp held n _ _ g0
 obtain ⟨c1, e1, w1⟩ := opens_int Try.underlying3 H enc w base sp held n _ _ g1
 have e0' : [v0] = [Value.int .i64 c0] := e0
 have e1' : [v1] = [Value.int .i64 c1] := e1
 cases e0'
 cases e1'
 exact ⟨⟨c0, c1⟩, k33_mk w ⟨c0, c1⟩, w0, w1⟩
theorem opens_ints : Opens (Kd.slice 3 (Kd.int .i64)) wfT 28 := opens_slice Try.underlying28 (by kernel_rfl) (opens_int Try.underlying3)
theorem opens_ranges : Opens (Kd.slice 33 k33) wfRs 23 := opens_slice Try.underlying23 (by kernel_rfl) opens_range
theorem cellsI : Try.prog.cellsOf 28 = 1 := by kernel_rfl
theorem cellsS : Try.prog.cellsOf 9 = 1 := by kernel_rfl
theorem opens_mapping : Opens k43 (fun _ => True) 43 := by
 intro H enc w base sp held fuel cs x h
 obtain ⟨xs, n, rfl, _, hl, hxl, hf⟩ := DataW.trod_struct Try.underlying43 h
 have h2 : Try.prog.cellsOf 43 = 3 := by kernel_rfl
 rw [h2] at hl
 obtain ⟨v0, v1, v2, rfl⟩ := cells_3 hl
 have g0 : DataW.trod enc Try.prog w base sp held n 3 (([v0, v1, v2].drop 0).take (Try.prog.cellsOf 3)) = xs[0]? := hf 0 _ rfl
 have g1 : DataW.trod enc Try.prog w base sp held n 28 (([v0, v1, v2].drop 1).take (Try.prog.cellsOf 28)) = xs[1]? := hf 1 _ rfl
 have g2 : DataW.trod enc Try.prog w base sp held n 9 (([v0, v1, v2].drop 2).take (Try.prog.cellsOf 9)) = xs[2]? := hf 2 _ rfl
 rw [List.getElem?_eq_getElem (by rw [hxl]; decide)] at g0 g1 g2
 rw [cells3] at g0
 rw [cellsI] at g1
 rw [cellsS] at g2
 obtain ⟨c0, e0, w0⟩ := opens_int Try.underlying3 H enc w base sp held n _ _ g0
 obtain ⟨l1, ⟨A1, c1, e1, i1, j1⟩, w1⟩ := opens_ints H enc w base sp held n _ _ g1
 obtain ⟨s, e2, _, _⟩ := DataW.trod_string Try.underlying9 g2
 have e0' : [v0] = [Value.int .i64 c0] := e0
 have e1' : [v1] = [Value.slice A1 l1.length c1] := e1
 have e2' : [v2] = [Value.string s] := e2
 cases e0'
 cases e1'
 cases e2'
 exact ⟨⟨c0, l1, s⟩, k43_mk w ⟨c0, l1, s⟩ i1 j1, trivial⟩
theorem opens_mappings : Opens (Kd.slice 43 k43) wfMs 22 := opens_slice Try.underlying22 (by kernel_rfl) opens_mapping
theorem opens_set {H : Type} {enc : TypeId × Value → H} {w : World} {base : Nat} {sp : Nat → Bool} {held : Bool} {fuel : Nat} {cs : List Value} {x : DataW H × List MemPlace} (h : DataW.trod enc Try.prog w base sp held fuel 25 cs = some x) :
  ∃ A n l, cs = [.slice A (List.length l) n] ∧ Kd.C k33 w A l.length l ∧ l.length ≤ n := by
 obtain ⟨xs, n, rfl, _, hl, hxl, hf⟩ := DataW.trod_struct Try.underlying25 h
 have h2 : Try.prog.cellsOf 25 = 1 := by kernel_rfl
 rw [h2] at hl
 obtain ⟨v0, rfl⟩ := cells_1 hl
 have g0 : DataW.trod enc Try.prog w base sp held n 23 (([v0].drop 0).take (Try.prog.cellsOf 23)) = xs[0]? := hf 0 _ rfl
 rw [List.getElem?_eq_getElem (by rw [hxl]; decide)] at g0
 rw [show Try.prog.cellsOf 23 = 1 by kernel_rfl] at g0
 obtain ⟨l0, ⟨A0, c0, e0, i0, j0⟩, w0⟩ := opens_ranges H enc w base sp held n _ _ g0
 exact ⟨A0, c0, l0, e0, j0, i0⟩
theorem opens_case {H : Type} {enc : TypeId × Value → H} {w : World} {base : Nat} {sp : Nat → Bool} {held : Bool} {fuel : Nat} {cs : List Value} {x : DataW H × List MemPlace} (h : DataW.trod enc Try.prog w base sp held fuel 27 cs = some x) :
  ∃ A0 n0 l0 A1 n1 l1 A2 n2 l2 A3 n3 l3 A4 n4 l4 A5 n5 l5, cs = [.slice A0 (List.length l0) n0, .slice A1 (List.length l1) n1, .slice A2 (List.length l2) n2, .slice A3 (List.length l3) n3, .slice A4 (List.length l4) n4, .slice A5 (List.length l5) n5] ∧ (Kd.C k43 w A0 l0.length l0 ∧ l0.length ≤ n0) ∧ (Kd.C k43 w A1 l1.length l1 ∧ l1.length ≤ n1) ∧ (Kd.C k43 w A2 l2.length l2 ∧ l2.length ≤ n2) ∧ (Kd.C k43 w A3 l3.length l3 ∧ l3.length ≤ n3) ∧ (Kd.C k33 w A4 l4.length l4 ∧ l4.length ≤ n4) ∧ (Kd.C k33 w A5 l5.length l5 ∧ l5.length ≤ n5) := by
 obtain ⟨xs, n, rfl, _, hl, hxl, hf⟩ := DataW.trod_struct Try.underlying27 h
 have h2 : Try.prog.cellsOf 27 = 6 := by kernel_rfl
 rw [h2] at hl
 obtain ⟨v0, v1, v2, v3, v4, v5, rfl⟩ := cells_6 hl
 have g0 : DataW.trod enc Try.prog w base sp held n 22 (([v0, v1, v2, v3, v4, v5].drop 0).take (Try.prog.cellsOf 22)) = xs[0]? := hf 0 _ rfl
 have g1 : DataW.trod enc Try.prog w base sp held n 22 (([v0, v1, v2, v3, v4, v5].drop 1).take (Try.prog.cellsOf 22)) = xs[1]? := hf 1 _ rfl
 have g2 : DataW.trod enc Try.prog w base sp held n 22 (([v0, v1, v2, v3, v4, v5].drop 2).take (Try.prog.cellsOf 22)) = xs[2]? := hf 2 _ rfl
 have g3 : DataW.trod enc Try.prog w base sp held n 22 (([v0, v1, v2, v3, v4, v5].drop 3).take (Try.prog.cellsOf 22)) = xs[3]? := hf 3 _ rfl
 have g4 : DataW.trod enc Try.prog w base sp held n 25 (([v0, v1, v2, v3, v4, v5].drop 4).take (Try.prog.cellsOf 25)) = xs[4]? := hf 4 _ rfl
 have g5 : DataW.trod enc Try.prog w base sp held n 25 (([v0, v1, v2, v3, v4, v5].drop 5).take (Try.prog.cellsOf 25)) = xs[5]? := hf 5 _ rfl
 rw [List.getElem?_eq_getElem (by rw [hxl]; decide)] at g0 g1 g2 g3 g4 g5
 rw [show Try.prog.cellsOf 22 = 1 by kernel_rfl] at g0 g1 g2 g3
 rw [show Try.prog.cellsOf 25 = 1 by kernel_rfl] at g4 g5
 obtain ⟨l0, ⟨A0, c0, e0, i0, j0⟩, w0⟩ := opens_mappings H enc w base sp held n _ _ g0
 obtain ⟨l1, ⟨A1, c1, e1, i1, j1⟩, w1⟩ := opens_mappings H enc w base sp held n _ _ g1
 obtain ⟨l2, ⟨A2, c2, e2, i2, j2⟩, w2⟩ := opens_mappings H enc w base sp held n _ _ g2
 obtain ⟨l3, ⟨A3, c3, e3, i3, j3⟩, w3⟩ := opens_mappings H enc w base sp held n _ _ g3
 obtain ⟨A4, c4, l4, e4, j4, i4⟩ := opens_set g4
 obtain ⟨A5, c5, l5, e5, j5, i5⟩ := opens_set g5
 have e0' : [v0] = [Value.slice A0 l0.length c0] := e0
 cases e0'
 have e1' : [v1] = [Value.slice A1 l1.length c1] := e1
 cases e1'
 have e2' : [v2] = [Value.slice A2 l2.length c2] := e2
 cases e2'
 have e3' : [v3] = [Value.slice A3 l3.length c3] := e3
 cases e3'
 have e4' : [v4] = [Value.slice A4 l4.length c4] := e4
 cases e4'
 have e5' : [v5] = [Value.slice A5 l5.length c5] := e5
 cases e5'
 exact ⟨A0, c0, l0, A1, c1, l1, A2, c2, l2, A3, c3, l3, A4, c4, l4, A5, c5, l5, rfl, ⟨j0, i0⟩, ⟨j1, i1⟩, ⟨j2, i2⟩, ⟨j3, i3⟩, ⟨j4, i4⟩, ⟨j5, i5⟩⟩
end Go.Proofs.Ythnkmcfhpjmihaa.Q
end
section
namespace Go.Proofs.Ythnkmcfhpjmihaa.CpM
def mem (l : List (Int × Int)) (c : Int) : Prop := ∃ r, r ∈ l ∧ r.1 ≤ c ∧ c ≤ r.2
def CanonFrom : Int → List (Int × Int) → Prop
 | _, [] => True
 | b, r :: l => b ≤ r.1 ∧ r.1 ≤ r.2 ∧ r.2 ≤ 1114111 ∧ CanonFrom (r.2 + 2) l
def Canon (l : List (Int × Int)) : Prop := CanonFrom 0 l
theorem mem_nil (c : Int) : ¬ mem [] c := by rintro ⟨r, h, _⟩; cases h
theorem mem_cons (r : Int × Int) (l : List (Int × Int)) (c : Int) : mem (r :: l) c ↔ (r.1 ≤ c ∧ c ≤ r.2) ∨ mem l c := by
 constructor
 ·rintro ⟨q, hq, h⟩
  rcases List.mem_cons.1 hq with rfl | hq
  ·exact .inl h
  ·exact .inr ⟨q, hq, h⟩
 ·rintro (h | ⟨q, hq, h⟩)
  ·exact ⟨r, List.mem_cons_self, h⟩
  ·exact ⟨q, List.mem_cons_of_mem _ hq, h⟩
theorem mem_append (l m : List (Int × Int)) (c : Int) : mem (l ++ m) c ↔ mem l c ∨ mem m c := by
 induction l with
 | nil => simp [mem_nil]
 | cons r l ih => rw [List.cons_append, mem_cons, mem_cons, ih, or_assoc]
theorem CanonFrom.mono {b b' : Int} (hb : b' ≤ b) : ∀ {l : List (Int × Int)}, CanonFrom b l → CanonFrom b' l
 | [], _ => trivial
 | _ :: _, ⟨h1, h2⟩ => ⟨Int.le_trans hb h1, h2⟩
theorem CanonFrom.ge {c : Int} : ∀ {b : Int} {l : List (Int × Int)}, CanonFrom b l → mem l c → b ≤ c
 | _, [], _, h => absurd h (mem_nil c)
 | b, r :: l, ⟨h1, h2, h3, h4⟩, h => by
  rcases (mem_cons _ _ _).1 h with h | h
  ·omega
  ·have := CanonFrom.ge h4 h; omega
/-- Two canonical lists with the same members are one. -/
theorem canon_uniq : ∀ (l m : List (Int × Int)) (b b' : Int), CanonFrom b l → CanonFrom b' m → (∀ c, mem l c ↔ mem m c) → l = m
 | [], [], _, _, _, _, _ => rfl
 | [], r :: m, _, _, _, ⟨_, h2, _⟩, h => absurd ((h r.1).2 ((mem_cons _ _ _).2 (.inl ⟨Int.le_refl _, h2⟩))) (mem_nil _)
 | r :: l, [], _, _, ⟨_, h2, _⟩, _, h => absurd ((h r.1).1 ((mem_cons _ _ _).2 (.inl ⟨Int.le_refl _, h2⟩))) (mem_nil _)
 | r :: l, s :: m, b, b', ⟨h1, h2, h3, h4⟩, ⟨k1, k2, k3, k4⟩, h => by
  have e1 : r.1 = s.1 := by
   have a := (h r.1).1 ((mem_cons _ _ _).2 (.inl ⟨Int.le_refl _, h2⟩))
   have a' := (h s.1).2 ((mem_cons _ _ _).2 (.inl ⟨Int.le_refl _, k2⟩))
   rcases (mem_cons _ _ _).1 a with a | a <;> rcases (mem_cons _ _ _).1 a' with a' | a'
   ·omega
   ·have := CanonFrom.ge h4 a'; omega
   ·have := CanonFrom.ge k4 a; omega
   ·have := CanonFrom.ge h4 a'; have := CanonFrom.ge k4 a; omega
  have e2 : r.2 = s.2 := by
   rcases Int.lt_trichotomy r.2 s.2 with q | q | q
   ·have a := (h (r.2 + 1)).2 ((mem_cons _ _ _).2 (.inl ⟨by omega, by omega⟩))
    rcases (mem_cons _ _ _).1 a with a | a
    ·omega
    ·have := CanonFrom.ge h4 a; omega
   ·exact q
   ·have a := (h (s.2 + 1)).1 ((mem_cons _ _ _).2 (.inl ⟨by omega, by omega⟩))
    rcases (mem_cons _ _ _).1 a with a | a
    ·omega
    ·have := CanonFrom.ge k4 a; omega
  have e3 : l = m := by
   refine canon_uniq l m _ _ h4 k4 fun c => ⟨fun a => ?_, fun a => ?_⟩
   ·rcases (mem_cons _ _ _).1 ((h c).1 ((mem_cons _ _ _).2 (.inr a))) with q | q
    ·have := CanonFrom.ge h4 a; omega
    ·exact q
   ·rcases (mem_cons _ _ _).1 ((h c).2 ((mem_cons _ _ _).2 (.inr a))) with q | q
    ·have := CanonFrom.ge k4 a; omega
    ·exact q
  rw [e3, Prod.ext e1 e2]
def mergeStep (out : List (Int × Int)) (r : Int × Int) : List (Int × Int) :=
 match out.getLast? with
 | none => [r]
 | some q => if r.1 ≤ q.2 + 1 then out.dropLast ++ [(q.1, if q.2 < r.2 then r.2 else q.2)] else out ++ [r]
def merge1 : Int × Int → List (Int × Int) → List (Int × Int)
 | cur, [] => [cur]
 | cur, r :: rest => if r.1 ≤ cur.2 + 1 then merge1 (cur.1, if cur.2 < r.2 then r.2 else cur.2) rest else cur :: merge1 r rest
def Ok (r : Int × Int) : Prop := 0 ≤ r.1 ∧ r.1 ≤ r.2 ∧ r.2 ≤ 1114111
theorem fold_merge1 : ∀ (s : List (Int × Int)) (pre : List (Int × Int)) (cur : Int × Int), s.foldl mergeStep (pre ++ [cur]) = pre ++ merge1 cur s
 | [], pre, cur => rfl
 | r :: s, pre, cur => by
  rw [List.foldl_cons]
  have : mergeStep (pre ++ [cur]) r = if r.1 ≤ cur.2 + 1 then pre ++ [(cur.1, if cur.2 < r.2 then r.2 else cur.2)] else (pre ++ [cur]) ++ [r] := by
   unfold mergeStep
   rw [List.getLast?_append]
   simp
  rw [this, merge1]
  split
  ·rw [fold_merge1]
  ·rw [fold_merge1, List.append_assoc]; rfl
theorem merge1_canon : ∀ (s : List (Int × Int)) (cur : Int × Int), Ok cur → (∀ r ∈ s, Ok r) → (∀ r ∈ s, cur.1 ≤ r.1) → s.Pairwise (fun a b => a.1 ≤ b.1) → CanonFrom cur.1 (merge1 cur s)
 | [], cur, h, _, _, _ => ⟨Int.le_refl _, h.2.1, h.2.2, trivial⟩
 | r :: s, cur, h, hs, hc, hp => by
  have hr := hs r List.mem_cons_self
  have hrc := hc r List.mem_cons_self
  rw [List.pairwise_cons] at hp
  unfold Ok at h hr
  rw [merge1]
  split
  ·have := merge1_canon s (cur.1, if cur.2 < r.2 then r.2 else cur.2) ⟨h.1, by split <;> simp <;> omega, by split <;> simp <;> omega⟩ (fun q hq => hs q (List.mem_cons_of_mem _ hq)) (fun q hq => hc q (List.mem_cons_of_mem _ hq)) hp.2
   exact this
  ·refine ⟨Int.le_refl _, h.2.1, h.2.2, CanonFrom.mono ?_ (merge1_canon s r hr (fun q hq => hs q (List.mem_cons_of_mem _ hq)) hp.1 hp.2)⟩
   omega
theorem merge1_mem (c : Int) : ∀ (s : List (Int × Int)) (cur : Int × Int), Ok cur → (∀ r ∈ s, Ok r) → (∀ r ∈ s, cur.1 ≤ r.1) → s.Pairwise (fun a b => a.1 ≤ b.1) → (mem (merge1 cur s) c ↔ mem (cur :: s) c)
 | [], cur, h, _, _, _ => Iff.rfl
 | r :: s, cur, h, hs, hc, hp => by
  have hr := hs r List.mem_cons_self
  have hrc := hc r List.mem_cons_self
  rw [List.pairwise_cons] at hp
  unfold Ok at h hr
  rw [merge1]
  split
  ·rw [merge1_mem c s (cur.1, if cur.2 < r.2 then r.2 else cur.2) ⟨h.1, by split <;> simp <;> omega, by split <;> simp <;> omega⟩ (fun q hq => hs q (List.mem_cons_of_mem _ hq)) (fun q hq => hc q (List.mem_cons_of_mem _ hq)) hp.2]
   rw [mem_cons, mem_cons, mem_cons]
   have : (cur.1 ≤ c ∧ c ≤ (if cur.2 < r.2 then r.2 else cur.2)) ↔ ((cur.1 ≤ c ∧ c ≤ cur.2) ∨ (r.1 ≤ c ∧ c ≤ r.2)) := by
    split <;> omega
   simp only [this, or_assoc]
  ·rw [mem_cons, merge1_mem c s r hr (fun q hq => hs q (List.mem_cons_of_mem _ hq)) hp.1 hp.2, mem_cons cur]
theorem fold_ok (s : List (Int × Int)) (hs : ∀ r ∈ s, Ok r) (hp : s.Pairwise (fun a b => a.1 ≤ b.1)) : Canon (s.foldl mergeStep []) ∧ ∀ c, mem (s.foldl mergeStep []) c ↔ mem s c := by
 cases s with
 | nil => exact ⟨trivial, fun c => Iff.rfl⟩
 | cons r s =>
  rw [List.pairwise_cons] at hp
  have e : (r :: s).foldl mergeStep [] = merge1 r s := by
   have := fold_merge1 s [] r
   simpa [mergeStep] using this
  rw [e]
  exact ⟨CanonFrom.mono (hs r List.mem_cons_self).1 (merge1_canon s r (hs r List.mem_cons_self) (fun q hq => hs q (List.mem_cons_of_mem _ hq)) hp.1 hp.2), fun c => merge1_mem c s r (hs r List.mem_cons_self) (fun q hq => hs q (List.mem_cons_of_mem _ hq)) hp.1 hp.2⟩
def clamp1 (r : Int × Int) : Int × Int := (if r.1 < 0 then 0 else r.1, if 1114111 < r.2 then 1114111 else r.2)
def clamp (l : List (Int × Int)) : List (Int × Int) := (l.map clamp1).filter fun r => decide (r.1 ≤ r.2)
theorem clamp_ok (l : List (Int × Int)) : ∀ r ∈ clamp l, Ok r := by
 intro r hr
 unfold clamp at hr
 rw [List.mem_filter, List.mem_map] at hr
 obtain ⟨⟨q, _, rfl⟩, h⟩ := hr
 have h := of_decide_eq_true h
 refine ⟨?_, h, ?_⟩
 ·unfold clamp1; simp only; split <;> omega
 ·unfold clamp1; simp only; split <;> omega
theorem clamp_mem (l : List (Int × Int)) (c : Int) : mem (clamp l) c ↔ (0 ≤ c ∧ c ≤ 1114111) ∧ mem l c := by
 induction l with
 | nil => simp [clamp, mem_nil]
 | cons r l ih =>
  have e : clamp (r :: l) = if (clamp1 r).1 ≤ (clamp1 r).2 then clamp1 r :: clamp l else clamp l := by
   unfold clamp
   rw [List.map_cons, List.filter_cons]
   by_cases h : (clamp1 r).1 ≤ (clamp1 r).2 <;> simp [h]
  rw [e, mem_cons]
  have k : ((clamp1 r).1 ≤ c ∧ c ≤ (clamp1 r).2) ↔ (0 ≤ c ∧ c ≤ 1114111) ∧ r.1 ≤ c ∧ c ≤ r.2 := by
   unfold clamp1; simp only; split <;> split <;> omega
  split
  ·rw [mem_cons, k, ih, ← and_or_left]
  ·rename_i h
   rw [ih]
   constructor
   ·rintro ⟨a, b⟩; exact ⟨a, .inr b⟩
   ·rintro ⟨a, b | b⟩
    ·exact absurd (k.2 ⟨a, b⟩) (by omega)
    ·exact ⟨a, b⟩
theorem mem_perm {l m : List (Int × Int)} (h : l.Perm m) (c : Int) : mem l c ↔ mem m c :=
 ⟨fun ⟨r, hr, k⟩ => ⟨r, h.mem_iff.1 hr, k⟩, fun ⟨r, hr, k⟩ => ⟨r, h.mem_iff.2 hr, k⟩⟩
/-- Whatever ascending arrangement s of what Make takes in: the fold is the one canonical list with these members. -/
theorem make_of_sorted (l s : List (Int × Int)) (hp : s.Perm (clamp l)) (ho : s.Pairwise (fun a b => a.1 ≤ b.1)) :
  Canon (s.foldl mergeStep []) ∧ ∀ c, mem (s.foldl mergeStep []) c ↔ (0 ≤ c ∧ c ≤ 1114111) ∧ mem l c := by
 obtain ⟨h1, h2⟩ := fold_ok s (fun r hr => clamp_ok l r (hp.mem_iff.1 hr)) ho
 exact ⟨h1, fun c => by rw [h2, mem_perm hp, clamp_mem]⟩
/-- Make, as a function: by an insertion of each range behind those that are not greater. -/
def ins (r : Int × Int) : List (Int × Int) → List (Int × Int)
 | [] => [r]
 | q :: l => if r.1 < q.1 then r :: q :: l else q :: ins r l
def sorted (l : List (Int × Int)) : List (Int × Int) := l.foldl (fun s r => ins r s) []
def make (l : List (Int × Int)) : List (Int × Int) := (sorted (clamp l)).foldl mergeStep []
theorem ins_perm (r : Int × Int) : ∀ l, (ins r l).Perm (r :: l)
 | [] => List.Perm.refl _
 | q :: l => by
  rw [ins]
  split
  ·exact List.Perm.refl _
  ·exact ((ins_perm r l).cons q).trans (List.Perm.swap r q l)
theorem ins_sorted (r : Int × Int) : ∀ l : List (Int × Int), l.Pairwise (fun a b => a.1 ≤ b.1) → (ins r l).Pairwise (fun a b => a.1 ≤ b.1)
 | [], _ => by simp [ins]
 | q :: l, h => by
  rw [List.pairwise_cons] at h
  rw [ins]
  split
  ·rw [List.pairwise_cons, List.pairwise_cons]
   refine ⟨fun x hx => ?_, h⟩
   rcases List.mem_cons.1 hx with rfl | hx
   ·omega
   ·have := h.1 x hx; omega
  ·rw [List.pairwise_cons]
   refine ⟨fun x hx => ?_, ins_sorted r l h.2⟩
   rcases List.mem_cons.1 ((ins_perm r l).mem_iff.1 hx) with rfl | hx
   ·omega
   ·exact h.1 x hx
theorem sorted_aux : ∀ (l acc : List (Int × Int)), acc.Pairwise (fun a b => a.1 ≤ b.1) → (l.foldl (fun s r => ins r s) acc).Perm (acc ++ l) ∧ (l.foldl (fun s r => ins r s) acc).Pairwise (fun a b => a.1 ≤ b.1)
 | [], acc, h => by simp [h]
 | r :: l, acc, h => by
  rw [List.foldl_cons]
  obtain ⟨a, b⟩ := sorted_aux l (ins r acc) (ins_sorted r acc h)
  refine ⟨a.trans ?_, b⟩
  refine ((ins_perm r acc).append_right l).trans ?_
  exact List.perm_middle.symm
theorem sorted_perm (l : List (Int × Int)) : (sorted l).Perm l := by have := (sorted_aux l [] List.Pairwise.nil).1; rw [List.nil_append] at this; exact this
theorem sorted_asc (l : List (Int × Int)) : (sorted l).Pairwise (fun a b => a.1 ≤ b.1) := (sorted_aux l [] List.Pairwise.nil).2
theorem make_canon (l : List (Int × Int)) : Canon (make l) := (make_of_sorted l _ (sorted_perm _) (sorted_asc _)).1
theorem make_mem (l : List (Int × Int)) (c : Int) : mem (make l) c ↔ (0 ≤ c ∧ c ≤ 1114111) ∧ mem l c := (make_of_sorted l _ (sorted_perm _) (sorted_asc _)).2 c
theorem fold_eq_make (l s : List (Int × Int)) (hp : s.Perm (clamp l)) (ho : s.Pairwise (fun a b => a.1 ≤ b.1)) : s.foldl mergeStep [] = make l :=
 canon_uniq _ _ 0 0 (make_of_sorted l s hp ho).1 (make_canon l) fun c => by rw [(make_of_sorted l s hp ho).2, make_mem]
/-- Any canonical list with these members is Make's. -/
theorem eq_make (l m : List (Int × Int)) (hc : Canon m) (hm : ∀ c, mem m c ↔ (0 ≤ c ∧ c ≤ 1114111) ∧ mem l c) : m = make l :=
 canon_uniq _ _ 0 0 hc (make_canon l) fun c => by rw [hm, make_mem]
def place (n : Int) : List Int → List Int
 | [] => [n]
 | x :: l => if x ≥ n then (if x > n then n :: x :: l else x :: l) else x :: place n l
theorem place_mem (n y : Int) : ∀ l : List Int, y ∈ place n l ↔ y = n ∨ y ∈ l
 | [] => by simp [place]
 | x :: l => by
  rw [place]
  split
  ·split
   ·rw [List.mem_cons]
   ·have : x = n := by omega
    subst this
    simp
  ·rw [List.mem_cons, place_mem n y l, List.mem_cons]
   constructor
   ·rintro (h | h | h)
    ·exact .inr (.inl h)
    ·exact .inl h
    ·exact .inr (.inr h)
   ·rintro (h | h | h)
    ·exact .inr (.inl h)
    ·exact .inl h
    ·exact .inr (.inr h)
theorem place_asc (n : Int) : ∀ l : List Int, l.Pairwise (· < ·) → (place n l).Pairwise (· < ·)
 | [], _ => by simp [place]
 | x :: l, h => by
  have h' := List.pairwise_cons.1 h
  rw [place]
  split
  ·split
   ·rw [List.pairwise_cons]
    refine ⟨fun y hy => ?_, h⟩
    rcases List.mem_cons.1 hy with rfl | hy
    ·omega
    ·have := h'.1 y hy; omega
   ·exact h
  ·rw [List.pairwise_cons]
   refine ⟨fun y hy => ?_, place_asc n l h'.2⟩
   rcases (place_mem n y l).1 hy with rfl | hy
   ·omega
   ·exact h'.1 y hy
def cut1 (l : List Int) (r : Int × Int) : List Int :=
 let l1 := if 0 ≤ r.1 ∧ r.1 ≤ 1114111 then place r.1 l else l
 if 0 ≤ r.2 ∧ r.2 < 1114111 then place (r.2 + 1) l1 else l1
def cuts (l : List Int) (a : List (Int × Int)) : List Int := place 0 (a.foldl cut1 l)
def InB (l : List Int) : Prop := ∀ y ∈ l, 0 ≤ y ∧ y ≤ 1114111
theorem cut1_ok (l : List Int) (r : Int × Int) (h : l.Pairwise (· < ·)) (hb : InB l) :
  (cut1 l r).Pairwise (· < ·) ∧ InB (cut1 l r) ∧ (∀ y ∈ l, y ∈ cut1 l r) ∧ (0 ≤ r.1 → r.1 ≤ 1114111 → r.1 ∈ cut1 l r) ∧ (0 ≤ r.2 → r.2 < 1114111 → r.2 + 1 ∈ cut1 l r) := by
 have k : ∀ l : List Int, l.Pairwise (· < ·) → InB l → ∀ (p : Prop) [Decidable p] (n : Int), (p → 0 ≤ n ∧ n ≤ 1114111) →
   (if p then place n l else l).Pairwise (· < ·) ∧ InB (if p then place n l else l) ∧ (∀ y ∈ l, y ∈ (if p then place n l else l)) ∧ (p → n ∈ (if p then place n l else l)) := by
  intro l h hb p _ n hn
  split
  ·rename_i hp
   refine ⟨place_asc n l h, fun y hy => ?_, fun y hy => (place_mem _ _ _).2 (.inr hy), fun _ => (place_mem _ _ _).2 (.inl rfl)⟩
   rcases (place_mem _ _ _).1 hy with rfl | hy
   ·exact hn hp
   ·exact hb y hy
  ·rename_i hp
   exact ⟨h, hb, fun y hy => hy, fun q => absurd q hp⟩
 obtain ⟨a1, a2, a3, a4⟩ := k l h hb (0 ≤ r.1 ∧ r.1 ≤ 1114111) r.1 id
 obtain ⟨b1, b2, b3, b4⟩ := k _ a1 a2 (0 ≤ r.2 ∧ r.2 < 1114111) (r.2 + 1) (fun q => by omega)
 exact ⟨b1, b2, fun y hy => b3 y (a3 y hy), fun p q => b3 _ (a4 ⟨p, q⟩), fun p q => b4 ⟨p, q⟩⟩
theorem fold_cut1 : ∀ (a : List (Int × Int)) (l : List Int), l.Pairwise (· < ·) → InB l →
  (a.foldl cut1 l).Pairwise (· < ·) ∧ InB (a.foldl cut1 l) ∧ (∀ y ∈ l, y ∈ a.foldl cut1 l) ∧ (∀ r ∈ a, (0 ≤ r.1 → r.1 ≤ 1114111 → r.1 ∈ a.foldl cut1 l) ∧ (0 ≤ r.2 → r.2 < 1114111 → r.2 + 1 ∈ a.foldl cut1 l))
 | [], l, h, hb => ⟨h, hb, fun _ h => h, fun r hr => by cases hr⟩
 | r :: a, l, h, hb => by
  obtain ⟨a1, a2, a3, a4, a5⟩ := cut1_ok l r h hb
  obtain ⟨b1, b2, b3, b4⟩ := fold_cut1 a _ a1 a2
  rw [List.foldl_cons]
  refine ⟨b1, b2, fun y hy => b3 y (a3 y hy), fun q hq => ?_⟩
  rcases List.mem_cons.1 hq with rfl | hq
  ·exact ⟨fun x y => b3 _ (a4 x y), fun x y => b3 _ (a5 x y)⟩
  ·exact b4 q hq
theorem cuts_ok (a : List (Int × Int)) (l : List Int) (h : l.Pairwise (· < ·)) (hb : InB l) :
  (cuts l a).Pairwise (· < ·) ∧ InB (cuts l a) ∧ 0 ∈ cuts l a ∧ (∀ y ∈ l, y ∈ cuts l a) ∧ (∀ r ∈ a, (0 ≤ r.1 → r.1 ≤ 1114111 → r.1 ∈ cuts l a) ∧ (0 ≤ r.2 → r.2 < 1114111 → r.2 + 1 ∈ cuts l a)) := by
 obtain ⟨b1, b2, b3, b4⟩ := fold_cut1 a l h hb
 unfold cuts
 refine ⟨place_asc _ _ b1, fun y hy => ?_, (place_mem _ _ _).2 (.inl rfl), fun y hy => (place_mem _ _ _).2 (.inr (b3 y hy)), fun r hr => ⟨fun p q => (place_mem _ _ _).2 (.inr ((b4 r hr).1 p q)), fun p q => (place_mem _ _ _).2 (.inr ((b4 r hr).2 p q))⟩⟩
 rcases (place_mem _ _ _).1 hy with rfl | hy
 ·omega
 ·exact b2 y hy
def segs : List Int → List (Int × Int)
 | [] => []
 | [x] => [(x, 1114111)]
 | x :: y :: l => (x, y - 1) :: segs (y :: l)
def Chain (has : Int → Bool) : Int → List (Int × Int) → Prop
 | _, [] => True
 | b, s :: l => s.1 = b ∧ s.1 ≤ s.2 ∧ s.2 ≤ 1114111 ∧ (∀ c, s.1 ≤ c → c ≤ s.2 → has c = has s.1) ∧ (l = [] → s.2 = 1114111) ∧ Chain has (s.2 + 1) l
theorem segs_ne {x : Int} {l : List Int} : segs (x :: l) ≠ [] := by cases l <;> simp [segs]
theorem chain_segs (has : Int → Bool) : ∀ (x : Int) (l : List Int), (x :: l).Pairwise (· < ·) → InB (x :: l) →
  (∀ c d, x ≤ c → c ≤ d → d ≤ 1114111 → (∀ y ∈ x :: l, y ≤ c ∨ d < y) → has c = has d) → Chain has x (segs (x :: l))
 | x, [], _, hb, hs => by
  have := hb x List.mem_cons_self
  exact ⟨rfl, this.2, Int.le_refl _, fun c h1 h2 => (hs x c (Int.le_refl _) h1 h2 (fun y hy => by simp at hy; omega)).symm, fun _ => rfl, trivial⟩
 | x, y :: l, h, hb, hs => by
  have h' := List.pairwise_cons.1 h
  have hy := hb y (by simp)
  have hxy := h'.1 y (by simp)
  refine ⟨rfl, by show x ≤ y - 1; omega, by show y - 1 ≤ _; omega, fun c h1 h2 => ?_, fun e => absurd e segs_ne, ?_⟩
  ·have h1 : x ≤ c := h1
   have h2 : c ≤ y - 1 := h2
   refine (hs x c (Int.le_refl _) h1 (by omega) fun z hz => ?_).symm
   rcases List.mem_cons.1 hz with rfl | hz
   ·omega
   ·rcases List.mem_cons.1 hz with rfl | hz
    ·omega
    ·have := (List.pairwise_cons.1 h'.2).1 z hz; omega
  ·have e : (x, y - 1).2 + 1 = y := by show y - 1 + 1 = y; omega
   rw [e]
   refine chain_segs has y l h'.2 (fun z hz => hb z (List.mem_cons_of_mem _ hz)) fun c d h1 h2 h3 h4 => hs c d (by omega) h2 h3 fun z hz => ?_
   rcases List.mem_cons.1 hz with rfl | hz
   ·omega
   ·exact h4 z hz
def runs (has : Int → Bool) : Option (Int × Int) → List (Int × Int) → List (Int × Int)
 | cur, [] => cur.toList
 | none, s :: l => if has s.1 then runs has (some s) l else runs has none l
 | some q, s :: l => if has s.1 then runs has (some (q.1, s.2)) l else q :: runs has none l
theorem runs_canon (has : Int → Bool) : ∀ (l : List (Int × Int)) (b : Int), Chain has b l →
  (CanonFrom b (runs has none l)) ∧ ∀ q : Int × Int, q.1 ≤ q.2 → q.2 + 1 = b → q.2 ≤ 1114111 → CanonFrom q.1 (runs has (some q) l)
 | [], b, _ => ⟨trivial, fun q h1 h2 h3 => ⟨Int.le_refl _, h1, h3, trivial⟩⟩
 | s :: l, b, ⟨h1, h2, h3, h4, h5, h6⟩ => by
  obtain ⟨ih1, ih2⟩ := runs_canon has l _ h6
  constructor
  ·rw [runs]
   split
   ·rw [← h1]; exact ih2 s h2 rfl h3
   ·exact ih1.mono (by omega)
  ·intro q k1 k2 k3
   rw [runs]
   split
   ·exact ih2 (q.1, s.2) (by show q.1 ≤ s.2; omega) rfl h3
   ·exact ⟨Int.le_refl _, k1, k3, ih1.mono (by omega)⟩
theorem runs_mem (has : Int → Bool) (c : Int) : ∀ (l : List (Int × Int)) (b : Int), Chain has b l →
  (mem (runs has none l) c ↔ l ≠ [] ∧ b ≤ c ∧ c ≤ 1114111 ∧ has c = true) ∧ ∀ q : Int × Int, q.1 ≤ q.2 → q.2 + 1 = b → (mem (runs has (some q) l) c ↔ (q.1 ≤ c ∧ c ≤ q.2) ∨ (l ≠ [] ∧ b ≤ c ∧ c ≤ 1114111 ∧ has c = true))
 | [], b, _ => ⟨by simp [runs, mem_nil], fun q h1 h2 => by simp [runs, mem_cons, mem_nil]⟩
 | s :: l, b, ⟨h1, h2, h3, h4, h5, h6⟩ => by
  obtain ⟨ih1, ih2⟩ := runs_mem has c l _ h6
  have hl : ¬ (s :: l = []) := by simp
  have key : (l ≠ [] ∧ s.2 + 1 ≤ c ∧ c ≤ 1114111 ∧ has c = true) ↔ (s.2 + 1 ≤ c ∧ c ≤ 1114111 ∧ has c = true) := by
   refine ⟨fun h => h.2, fun h => ⟨fun e => ?_, h⟩⟩
   have := h5 e
   omega
  rw [key] at ih1
  simp only [key] at ih2
  constructor
  ·rw [runs]
   split
   ·rename_i hh
    rw [ih2 s h2 rfl]
    constructor
    ·rintro (⟨a, d⟩ | ⟨a, d, e⟩)
     ·exact ⟨hl, by omega, by omega, by rw [h4 c a d]; exact hh⟩
     ·exact ⟨hl, by omega, d, e⟩
    ·rintro ⟨_, a, d, e⟩
     by_cases k : c ≤ s.2
     ·exact .inl ⟨by omega, k⟩
     ·exact .inr ⟨by omega, d, e⟩
   ·rename_i hh
    rw [ih1]
    constructor
    ·rintro ⟨a, d, e⟩
     exact ⟨hl, by omega, d, e⟩
    ·rintro ⟨_, a, d, e⟩
     by_cases k : c ≤ s.2
     ·rw [h4 c (by omega) k] at e; exact absurd e hh
     ·exact ⟨by omega, d, e⟩
  ·intro q k1 k2
   rw [runs]
   split
   ·rename_i hh
    rw [ih2 (q.1, s.2) (by show q.1 ≤ s.2; omega) rfl]
    show (q.1 ≤ c ∧ c ≤ s.2) ∨ _ ↔ _
    constructor
    ·rintro (⟨a, d⟩ | ⟨a, d, e⟩)
     ·by_cases k : c ≤ q.2
      ·exact .inl ⟨a, k⟩
      ·exact .inr ⟨hl, by omega, by omega, by rw [h4 c (by omega) d]; exact hh⟩
     ·exact .inr ⟨hl, by omega, d, e⟩
    ·rintro (⟨a, d⟩ | ⟨_, a, d, e⟩)
     ·exact .inl ⟨a, by omega⟩
     ·by_cases k : c ≤ s.2
      ·exact .inl ⟨by omega, k⟩
      ·exact .inr ⟨by omega, d, e⟩
   ·rename_i hh
    rw [mem_cons, ih1]
    constructor
    ·rintro (a | ⟨a, d, e⟩)
     ·exact .inl a
     ·exact .inr ⟨hl, by omega, d, e⟩
    ·rintro (a | ⟨_, a, d, e⟩)
     ·exact .inl a
     ·by_cases k : c ≤ s.2
      ·rw [h4 c (by omega) k] at e; exact absurd e hh
      ·exact .inr ⟨by omega, d, e⟩
/-- The reference's Has. -/
def hasB (a : List (Int × Int)) (c : Int) : Bool := a.any fun r => (decide (0 ≤ c) && decide (c ≤ 1114111)) && (decide (r.1 ≤ c) && decide (c ≤ r.2))
theorem hasB_iff (a : List (Int × Int)) (c : Int) : hasB a c = true ↔ (0 ≤ c ∧ c ≤ 1114111) ∧ mem a c := by
 unfold hasB mem
 rw [List.any_eq_true]
 constructor
 ·rintro ⟨r, hr, h⟩
  simp only [Bool.and_eq_true, decide_eq_true_eq] at h
  exact ⟨h.1, r, hr, h.2⟩
 ·rintro ⟨h, r, hr, k⟩
  exact ⟨r, hr, by simp only [Bool.and_eq_true, decide_eq_true_eq]; exact ⟨h, k⟩⟩
/-- The reference's Make. -/
def rmake (a : List (Int × Int)) : List (Int × Int) := runs (hasB a) none (segs (cuts (cuts [] a) []))
theorem rmake_eq (a : List (Int × Int)) : rmake a = make a := by
 obtain ⟨a1, a2, a3, _, a5⟩ := cuts_ok a [] List.Pairwise.nil (fun y hy => by cases hy)
 obtain ⟨b1, b2, b3, b4, _⟩ := cuts_ok [] _ a1 a2
 unfold rmake
 generalize hC : cuts (cuts [] a) [] = C at *
 cases C with
 | nil => cases b3
 | cons x l =>
  have hx : x = 0 := by
   rcases List.mem_cons.1 b3 with h | h
   ·exact h.symm
   ·have := (List.pairwise_cons.1 b1).1 0 h
    have := b2 x List.mem_cons_self
    omega
  subst hx
  have hch : Chain (hasB a) 0 (segs (0 :: l)) := by
   refine chain_segs _ 0 l b1 b2 fun c d h1 h2 h3 h4 => ?_
   rw [Bool.eq_iff_iff, hasB_iff, hasB_iff]
   constructor
   ·rintro ⟨p, r, hr, q⟩
    refine ⟨by omega, r, hr, by omega, ?_⟩
    by_cases k : d ≤ r.2
    ·exact k
    ·have := h4 _ (b4 _ ((a5 r hr).2 (by omega) (by omega)))
     omega
   ·rintro ⟨p, r, hr, q⟩
    refine ⟨by omega, r, hr, ?_, by omega⟩
    by_cases k : r.1 ≤ c
    ·exact k
    ·have := h4 _ (b4 _ ((a5 r hr).1 (by omega) (by omega)))
     omega
  refine eq_make a _ (runs_canon _ _ _ hch).1 fun c => ?_
  rw [(runs_mem _ c _ _ hch).1, hasB_iff]
  constructor
  ·rintro ⟨_, _, _, h⟩; exact h
  ·rintro h
   exact ⟨segs_ne, h.1.1, h.1.2, h⟩
end Go.Proofs.Ythnkmcfhpjmihaa.CpM
end
section
namespace Go.Proofs
open Go.Shelf
def Try.cmpInt_ren : Go.Shelf.Ren := ⟨fun | 5 => 81 | 7 => 96 | n => n, fun | 22 => 3 | 3 => 3 | 4 => 4 | n => n, fun | n => n⟩
theorem Try.cmpInt : Go.Proofs.SlLaysC2.n5 Try.prog Try.cmpInt_ren := {
 mixed := by kernel_rfl
 f5 := ⟨Try.f81.name, by decide, Try.func81.trans (congrArg some (by kernel_rfl))⟩
 f7 := ⟨Try.f96.name, by decide, Try.func96.trans (congrArg some (by kernel_rfl))⟩
 t3 := Try.underlying3
 a3 := Try.isAgg3
 z3 := Try.sizeOf3
 v3 := Try.zeroValue3
 t4 := Try.underlying4
 a4 := Try.isAgg4
 z4 := Try.sizeOf4
 v4 := Try.zeroValue4
 t22 := Try.underlying3
 a22 := Try.isAgg3
 z22 := Try.sizeOf3
 v22 := Try.zeroValue3 }
def Try.sortRanges_ren : Go.Shelf.Ren := ⟨fun | 6 => 83 | 15 => 99 | 14 => 98 | 28 => 112 | 29 => 113 | 20 => 104 | 21 => 105 | 22 => 106 | 23 => 107 | 24 => 108 | 25 => 109 | 26 => 110 | 27 => 111 | 46 => 115 | 47 => 116 | 48 => 117 | 49 => 118 | 50 => 119 | 57 => 120 | n => n, fun | 22 => 23 | 24 => 33 | 25 => 96 | 3 => 3 | 39 => 100 | 0 => 0 | 53 => 120 | 55 => 122 | 4 => 4 | 46 => 113 | 45 => 112 | 50 => 117 | 5 => 5 | 9 => 9 | 66 => 124 | 70 => 128 | 76 => 130 | 77 => 131 | n => n, fun | n => n⟩
theorem Try.sortRanges : Go.Proofs.SlLaysF0.n6 Try.prog Try.sortRanges_ren := {
 mixed := by kernel_rfl
 f6 := ⟨Try.f83.name, by decide, Try.func83.trans (congrArg some (by kernel_rfl))⟩
 f14 := ⟨Try.f98.name, by decide, Try.func98.trans (congrArg some (by kernel_rfl))⟩
 f15 := Try.func99.trans (congrArg some (by kernel_rfl))
 f20 := ⟨Try.f104.name, by decide, Try.func104.trans (congrArg some (by kernel_rfl))⟩
 f21 := ⟨Try.f105.name, by decide, Try.func105.trans (congrArg some (by kernel_rfl))⟩
 f22 := ⟨Try.f106.name, by decide, Try.func106.trans (congrArg some (by kernel_rfl))⟩
 f23 := ⟨Try.f107.name, by decide, Try.func107.trans (congrArg some (by kernel_rfl))⟩
 f24 := ⟨Try.f108.name, by decide, Try.func108.trans (congrArg some (by kernel_rfl))⟩
 f25 := ⟨Try.f109.name, by decide, Try.func109.trans (congrArg some (by kernel_rfl))⟩
 f26 := ⟨Try.f110.name, by decide, Try.func110.trans (congrArg some (by kernel_rfl))⟩
 f27 := ⟨Try.f111.name, by decide, Try.func111.trans (congrArg some (by kernel_rfl))⟩
 f28 := Try.func112.trans (congrArg some (by kernel_rfl))
 f29 := Try.func113.trans (congrArg some (by kernel_rfl))
 f46 := ⟨Try.f115.name, by decide, Try.func115.trans (congrArg some (by kernel_rfl))⟩
 f47 := Try.func116.trans (congrArg some (by kernel_rfl))
 f48 := Try.func117.trans (congrArg some (by kernel_rfl))
 f49 := ⟨Try.f118.name, by decide, Try.func118.trans (congrArg some (by kernel_rfl))⟩
 f50 := ⟨Try.f119.name, by decide, Try.func119.trans (congrArg some (by kernel_rfl))⟩
 f57 := ⟨Try.f120.name, by decide, Try.func120.trans (congrArg some (by kernel_rfl))⟩
 t0 := Try.underlying0
 a0 := Try.isAgg0
 z0 := Try.sizeOf0
 v0 := Try.zeroValue0
 t3 := Try.underlying3
 a3 := Try.isAgg3
 z3 := Try.sizeOf3
 v3 := Try.zeroValue3
 t4 := Try.underlying4
 a4 := Try.isAgg4
 z4 := Try.sizeOf4
 v4 := Try.zeroValue4
 t5 := Try.underlying5
 a5 := Try.isAgg5
 z5 := Try.sizeOf5
 v5 := Try.zeroValue5
 t9 := Try.underlying9
 a9 := Try.isAgg9
 z9 := Try.sizeOf9
 v9 := Try.zeroValue9
 t22 := Try.underlying23
 a22 := Try.isAgg23
 z22 := Try.sizeOf23
 v22 := Try.zeroValue23
 t25 := Try.underlying96
 a25 := Try.isAgg96
 z25 := Try.sizeOf96
 v25 := Try.zeroValue96
 t39 := Try.underlying100
 a39 := Try.isAgg100
 z39 := Try.sizeOf100
 v39 := Try.zeroValue100
 t45 := Try.underlying112
 a45 := Try.isAgg112
 z45 := Try.sizeOf112
 v45 := Try.zeroValue112
 t46 := Try.underlying113
 a46 := Try.isAgg113
 z46 := Try.sizeOf113
 v46 := Try.zeroValue113
 t50 := Try.underlying117
 a50 := Try.isAgg117
 z50 := Try.sizeOf117
 v50 := Try.zeroValue117
 t53 := Try.underlying120
 a53 := Try.isAgg120
 z53 := Try.sizeOf120
 v53 := Try.zeroValue120
 t55 := Try.underlying122
 a55 := Try.isAgg122
 z55 := Try.sizeOf122
 v55 := Try.zeroValue122
 t66 := Try.underlying124
 a66 := Try.isAgg124
 z66 := Try.sizeOf124
 v66 := Try.zeroValue124
 t70 := Try.underlying128
 a70 := Try.isAgg128
 z70 := Try.sizeOf128
 v70 := Try.zeroValue128
 t76 := Try.underlying130
 a76 := Try.isAgg130
 z76 := Try.sizeOf130
 v76 := Try.zeroValue130
 t77 := Try.underlying131
 a77 := Try.isAgg131
 z77 := Try.sizeOf131
 v77 := Try.zeroValue131 }
def Try.search_ren : Go.Shelf.Ren := ⟨fun | 16 => 71 | n => n, fun | 3 => 3 | 35 => 62 | 4 => 4 | 38 => 100 | n => n, fun | n => n⟩
theorem Try.search : Go.Proofs.SlLaysO.n16 Try.prog Try.search_ren := {
 mixed := by kernel_rfl
 f16 := Try.func71.trans (congrArg some (by kernel_rfl))
 t3 := Try.underlying3
 a3 := Try.isAgg3
 z3 := Try.sizeOf3
 v3 := Try.zeroValue3
 t4 := Try.underlying4
 a4 := Try.isAgg4
 z4 := Try.sizeOf4
 v4 := Try.zeroValue4
 t35 := Try.underlying62
 a35 := Try.isAgg62
 z35 := Try.sizeOf62
 v35 := Try.zeroValue62
 t38 := Try.underlying100
 a38 := Try.isAgg100
 z38 := Try.sizeOf100
 v38 := Try.zeroValue100 }
end Go.Proofs
end
section
namespace Go.Proofs.Ythnkmcfhpjmihaa.Q
open Go.RowKit Go.Proofs.YthnkmcfhpjmihaaW.PrintWords Go.Proofs.YthnkmcfhpjmihaaW.PrintLast Go.Proofs.YthnkmcfhpjmihaaW.PrintMore
set_option linter.unusedVariables false
/-- The one field of a set that a call has handed back. -/
@[go_sem] theorem run_field_set (w : World) (v : Value) : Sem.run Try.prog (Instr.field 25 (Value.agg #[v]) 0) w = .ok v w := by
 have h := Try.underlying25
 simp [Instr.field, asAgg, part, run_underlying h, Try.isAgg23]
abbrev Rg := S33
abbrev kRg : Kd Rg := k33
def toP (r : Rg) : Int × Int := (r.f0, r.f1)
def ofP (r : Int × Int) : Rg := ⟨r.1, r.2⟩
theorem toP_ofP (l : List (Int × Int)) : (l.map ofP).map toP = l := by rw [List.map_map]; exact (List.map_congr_left (fun _ _ => rfl)).trans (List.map_id l)
theorem ofP_toP (l : List Rg) : (l.map toP).map ofP = l := by rw [List.map_map]; exact (List.map_congr_left (fun _ _ => rfl)).trans (List.map_id l)
def encR (x : Rg) : List Value := [.int .i64 x.f0, .int .i64 x.f1]
instance : Inhabited Rg := ⟨z33⟩
def flatR : List Rg → List Value
 | [] => []
 | x :: l => .int .i64 x.f0 :: .int .i64 x.f1 :: flatR l
theorem flatR_length : ∀ l : List Rg, (flatR l).length = l.length * 2
 | [] => rfl
 | x :: l => by simp only [flatR, List.length_cons, flatR_length l]; omega
theorem flatR_append : ∀ l m : List Rg, flatR (l ++ m) = flatR l ++ flatR m
 | [], m => rfl
 | x :: l, m => by simp only [List.cons_append, flatR, flatR_append l m]
theorem flatR_of : ∀ (xs : List Rg) (cs : List Value), cs.length = xs.length * 2 → (∀ j p, xs[j]? = some p → (cs.drop (j * 2)).take 2 = encR p) → cs = flatR xs
 | [], cs, h, _ => List.eq_nil_of_length_eq_zero (by simpa using h)
 | x :: xs, [], h, _ => by simp at h
 | x :: xs, [a], h, _ => by simp only [List.length_cons, List.length_nil] at h; omega
 | x :: xs, a :: b :: cs, h, hp => by
  have h0 := hp 0 x rfl
  simp only [Nat.zero_mul, List.drop_zero, encR] at h0
  have e : a = .int .i64 x.f0 ∧ b = .int .i64 x.f1 := by simpa using h0
  rw [e.1, e.2, flatR, ← flatR_of xs cs (by simp only [List.length_cons] at h; omega) fun j p hj => ?_]
  have := hp (j + 1) p hj
  rw [show (j + 1) * 2 = j * 2 + 1 + 1 by omega] at this
  simpa using this
theorem flatR_reps : ∀ (xs : List Rg) (j : Nat) (p : Rg), xs[j]? = some p → ((flatR xs).drop (j * 2)).take 2 = encR p
 | x :: xs, 0, p, h => by simp at h; subst h; rfl
 | x :: xs, j + 1, p, h => by
  rw [show (j + 1) * 2 = j * 2 + 1 + 1 by omega]
  simpa [flatR] using flatR_reps xs j p (by simpa using h)
theorem flatR_get : ∀ (xs : List Rg) (t : Nat), t < xs.length * 2 → (flatR xs)[t]? = some ((encR (xs.toArray[t / 2]!))[t % 2]!)
 | [], t, h => by simp at h
 | x :: xs, 0, h => by simp [flatR, encR]
 | x :: xs, 1, h => by simp [flatR, encR]
 | x :: xs, t + 2, h => by
  have := flatR_get xs t (by simp at h; omega)
  simp only [flatR, List.getElem?_cons_succ]
  rw [this]
  have e : (t + 2) / 2 = t / 2 + 1 := by omega
  have e2 : (t + 2) % 2 = t % 2 := by omega
  rw [e, e2]
  congr 2
  simp only [List.getElem!_toArray, List.getElem!_cons_succ]
theorem R_own_iff {w : World} {base : Nat} {ok : Nat → Prop} {v : Value} {xs : List Rg} : Kd.R kRg 33 w base ok v xs ↔ (∀ k, v.ownBlock = some k → ok k) ∧ w.ownsRow base 33 2 v xs.length (flatR xs) := by
 constructor
 ·rintro ⟨h0, inner, hown, hr⟩
  have : inner = flatR xs := flatR_of xs inner hr.1 fun j p hj => k33_openM (hr.2 j p hj)
  exact ⟨h0, this ▸ hown⟩
 ·rintro ⟨h0, hown⟩
  exact ⟨h0, flatR xs, hown, flatR_length xs, fun j p hj => by
   have := flatR_reps xs j p hj
   show k33.M w base _ p (((flatR xs).drop (j * 2)).take 2)
   rw [this]
   exact k33_mkM _ _ _ _⟩
theorem cmp_ranges (x y : Rg) (W : World) : Calls Try.prog 84 #[.agg #[.int .i64 x.f0, .int .i64 x.f1], .agg #[.int .i64 y.f0, .int .i64 y.f1]] W fun e w' => e = .returned (.int .i64 (Lib.compareInt x.f0 y.f0)) ∧ ∃ q os', w' = Sort.grow (W.drewN q) os' := by
 have hcon := fun W' => AnyG.cmp_Compare_int Try.cmpInt x.f0 y.f0 W'
 change ∀ W', Calls Try.prog 81 _ _ _ at hcon
 generalize Lib.compareInt x.f0 y.f0 = r at hcon ⊢
 go_enter Try.func84, Try.ntmps84
 go_wp2_with (go_at_call 81; refine (hcon _).mono ?_; rintro e w' ⟨rfl, rfl⟩)
 go_ret
 exact ⟨rfl, 0, _, by rw [Sort.alloc_eq_grow, Sort.alloc_eq_grow, Sort.grow_grow]; rfl⟩
abbrev cfR : Rg → Rg → Int := fun x y => Lib.compareInt x.f0 y.f0
theorem lt_ranges (x y : Rg) : Go.Proofs.ltOf cfR x y = decide (x.f0 < y.f0) := by
 unfold Go.Proofs.ltOf cfR Lib.compareInt
 by_cases h1 : x.f0 < y.f0
 ·simp [h1]
 ·by_cases h2 : y.f0 < x.f0 <;> simp [h1, h2]
theorem swo_ranges : Sort.SWO (Go.Proofs.ltOf cfR) where
 irrefl x := by rw [lt_ranges]; simp
 trans x y z h1 h2 := by rw [lt_ranges] at *; simp at *; omega
 ntrans x y z h1 h2 := by rw [lt_ranges] at *; simp at *; omega
theorem heap_sortWorldK_other (w : World) (g m : Nat) (d : Array Rg) (os : Array Obj) (k : Nat) (hk : k < w.heap.size) (hne : k ≠ g) : (Go.Proofs.sortWorldK encR 2 w g 0 m d os).heap[k]? = w.heap[k]? := by
 simp only [Go.Proofs.sortWorldK, Sort.grow, Sort.putRowK, Sort.putRow, Sort.mapBlock, Sort.ahead, Array.getElem?_append, Array.size_modify, if_pos hk, Array.getElem?_modify]
 rw [if_neg (Ne.symm hne)]
theorem heap_sortWorldK_self (w : World) (g m : Nat) (d : Array Rg) (os : Array Obj) (cur : Array Value) (t : TypeId) (fr : Nat × Nat) (hh : w.heap[g]? = some (.cells cur t fr)) : (Go.Proofs.sortWorldK encR 2 w g 0 m d os).heap[g]? = some (.cells (Sort.putCells id 0 (Sort.flatK encR 2 d) cur) t fr) := by
 have hk : g < w.heap.size := (Array.getElem?_eq_some_iff.1 hh).1
 simp only [Go.Proofs.sortWorldK, Sort.grow, Sort.putRowK, Sort.putRow, Sort.mapBlock, Sort.ahead, Array.getElem?_append, Array.size_modify, if_pos hk, Array.getElem?_modify, if_true, hh, Option.map_some, Sort.onCells]
theorem take_putCells (d : Array Rg) (cur : Array Value) (h : d.size * 2 ≤ cur.size) : (Sort.putCells id 0 (Sort.flatK encR 2 d) cur).toList.take (d.size * 2) = flatR d.toList := by
 apply List.ext_getElem?
 intro t
 by_cases ht : t < d.size * 2
 ·rw [List.getElem?_take, if_pos ht, flatR_get _ _ (by simpa using ht)]
  have h2 : t < cur.size := by omega
  simp only [Sort.putCells, Array.getElem?_toList, Array.getElem?_mapIdx, Array.getElem?_eq_getElem h2, Option.map_some, Nat.zero_le, true_and, Nat.zero_add, Sort.size_flatK, ht, if_true, Nat.sub_zero, id]
  rw [Sort.get_flatK _ _ _ _ ht]
 ·rw [List.getElem?_take, if_neg ht, List.getElem?_eq_none (by rw [flatR_length]; simp; omega)]
set_option maxHeartbeats 1000000 in
/-- **slices.SortFunc over ranges, by Lo.** -/
theorem sort_ranges (base : Nat) (ok : Nat → Prop) (v : Value) (xs : List Rg) (w : World) (ho : Kd.R kRg 33 w base ok v xs) (hn : xs.length < 4611686018427387904) :
  Calls Try.prog 83 #[v, .func (.func 84) #[] #[]] w fun e w' => e = .returned (.tuple #[]) ∧ ∃ ys : List Rg, ys.Perm xs ∧ ys.Pairwise (fun a b => a.f0 ≤ b.f0) ∧ Kd.R kRg 33 w' base ok v ys ∧ w'.os = w.os ∧ w'.tape = w.tape ∧ w'.output = w.output ∧ w.heap.size ≤ w'.heap.size ∧ ∀ k, k < w.heap.size → v.ownBlock ≠ some k → w'.heap[k]? = w.heap[k]? := by
 rcases Nat.eq_zero_or_pos xs.length with h0 | h0
 ·obtain rfl := List.eq_nil_of_length_eq_zero h0
  obtain ⟨A, c, rfl, _⟩ := Kd.R_reads ho
  exact (AnyF.slices_SortFunc_none Try.sortRanges A c (.func (.func 84) #[] #[]) w).mono fun e w' ⟨he, hw⟩ => by
   subst hw
   exact ⟨he, [], List.Perm.refl _, List.Pairwise.nil, ho, rfl, rfl, rfl, Nat.le_refl _, fun _ _ _ => rfl⟩
 ·obtain ⟨hok, hown⟩ := R_own_iff.1 ho
  obtain ⟨hlen, ⟨_, hz⟩ | ⟨g, cap, cur, rfl, hb, hh, hle, hmax, hsize, htake⟩⟩ := hown
  ·omega
  ·have hg : g < w.heap.size := (Array.getElem?_eq_some_iff.1 hh).1
   have hsz : xs.toArray.size = xs.length := rfl
   have hH : Sort.HoldsK encR 2 w g 0 xs.toArray := by
    intro j hj
    rw [Sort.size_flatK] at hj
    have hj' : j < xs.length * 2 := hj
    rw [Sort.get_flatK _ _ _ _ hj]
    have h1 : cur[j]? = some ((encR xs.toArray[j / 2]!)[j % 2]!) := by
     rw [← flatR_get xs j hj', ← htake, List.getElem?_take, if_pos hj', Array.getElem?_toList]
    refine ⟨?_, ?_⟩
    ·simp only [World.cell?, hh, Nat.zero_add]
     simpa using h1
    ·simp [World.frozen?, hh]
   have eg : ∀ args w, (callFunc 84 args).run Try.prog w = .ok (.enter 84 args) w := enters_of Try.func84 (by kernel_rfl) rfl
   have hcon := AnyQ.slices_SortFunc Try.sortRanges 2 Try.isAgg33 Try.sizeOf33 encR (fun _ => rfl) (fun x v hv => by simp [encR] at hv; rcases hv with rfl | rfl <;> rfl) cfR swo_ranges 84 #[] g 0 cap xs.toArray w eg (fun m os dk _ x y => cmp_ranges x y _) hH hg (by simpa using hn)
   refine (show Calls Try.prog 83 _ _ _ from hcon).mono fun e w' ⟨he, d, m, os, hp, hs, hw⟩ => ?_
   subst hw
   have hds : d.size = xs.length := hp.1
   have hlist : (d.extract 0 xs.toArray.size).toList = d.toList := by rw [hsz, ← hds]; simp
   have hlist2 : (xs.toArray.extract 0 xs.toArray.size).toList = xs := by simp
   have hperm : d.toList.Perm xs := by have := hp.2.2; rwa [hlist, hlist2] at this
   refine ⟨he, d.toList, hperm, ?_, ?_, rfl, rfl, rfl, ?_, ?_⟩
   ·rw [List.pairwise_iff_getElem]
    intro i j hi hj hij
    have hi' : i < d.size := by simpa using hi
    have hj' : j < d.size := by simpa using hj
    have := hs i j (Nat.zero_le _) hij (by rw [hsz, ← hds]; exact hj')
    rw [lt_ranges, decide_eq_false_iff_not, getElem!_pos d j hj', getElem!_pos d i hi'] at this
    simp only [Array.getElem_toList]
    omega
   ·refine R_own_iff.2 ⟨hok, ?_⟩
    have hlen2 : d.toList.length = xs.length := by simpa using hds
    refine ⟨by rw [flatR_length], .inr ⟨g, cap, _, by rw [hlen2], hb, heap_sortWorldK_self w g m d os cur _ _ hh, by rw [hlen2]; exact hle, hmax, ?_, ?_⟩⟩
    ·simp only [Sort.putCells, Array.size_mapIdx]; exact hsize
    ·rw [hlen2, ← hds]
     exact take_putCells d cur (by rw [hds, hsize]; exact Nat.mul_le_mul_right _ hle)
   ·simp only [Go.Proofs.sortWorldK, Sort.grow, Sort.putRowK, Sort.putRow, Sort.mapBlock, Sort.ahead, Array.size_append, Array.size_modify]
    omega
   ·intro k hk hne
    exact heap_sortWorldK_other w g m d os k hk (fun e => hne (by rw [e]; rfl))
end Go.Proofs.Ythnkmcfhpjmihaa.Q
end
section
namespace Go.Proofs.Ythnkmcfhpjmihaa.Q
open Go.RowKit Go.Proofs.YthnkmcfhpjmihaaW.PrintWords Go.Proofs.YthnkmcfhpjmihaaW.PrintLast Go.Proofs.YthnkmcfhpjmihaaW.PrintMore
attribute [local go_sem] max2_int min2_int max_two min_two
set_option linter.unusedVariables false
def clampR (x : Rg) : Rg := ⟨if x.f0 < 0 then 0 else x.f0, if 1114111 < x.f1 then 1114111 else x.f1⟩
def takeIn (l : List Rg) : List Rg := (l.map clampR).filter fun r => decide (r.f0 ≤ r.f1)
theorem takeIn_toP (l : List Rg) : (takeIn l).map toP = CpM.clamp (l.map toP) := by
 unfold takeIn CpM.clamp
 induction l with
 | nil => rfl
 | cons x l ih =>
  have e : CpM.clamp1 (toP x) = toP (clampR x) := rfl
  rw [List.map_cons, List.map_cons, List.map_cons, e, List.filter_cons, List.filter_cons]
  by_cases h : (clampR x).f0 ≤ (clampR x).f1
  ·rw [if_pos (dT h), if_pos (show decide ((toP (clampR x)).1 ≤ (toP (clampR x)).2) = true from dT h), List.map_cons, ih]
  ·rw [if_neg (fun e => h (oD e)), if_neg (show ¬ decide ((toP (clampR x)).1 ≤ (toP (clampR x)).2) = true from fun e => h (oD e)), ih]
theorem takeIn_snoc (l : List Rg) (x : Rg) : takeIn (l ++ [x]) = if (clampR x).f0 ≤ (clampR x).f1 then takeIn l ++ [clampR x] else takeIn l := by
 unfold takeIn
 rw [List.map_append, List.filter_append]
 by_cases h : (clampR x).f0 ≤ (clampR x).f1 <;> simp [h]
theorem takeIn_length (l : List Rg) : (takeIn l).length ≤ l.length := by
 unfold takeIn; exact Nat.le_trans (List.length_filter_le _ _) (by simp)
def mergeR (l : List Rg) : List Rg := ((l.map toP).foldl CpM.mergeStep []).map ofP
theorem mergeR_toP (l : List Rg) : (mergeR l).map toP = (l.map toP).foldl CpM.mergeStep [] := toP_ofP _
theorem fold_snoc (l : List Rg) (x : Rg) : ((l ++ [x]).map toP).foldl CpM.mergeStep [] = CpM.mergeStep ((l.map toP).foldl CpM.mergeStep []) (toP x) := by
 rw [List.map_append, List.foldl_append]; rfl
theorem mergeR_snoc_nil {l : List Rg} (x : Rg) (h : mergeR l = []) : mergeR (l ++ [x]) = [x] := by
 unfold mergeR at h ⊢
 rw [fold_snoc]
 have : (l.map toP).foldl CpM.mergeStep [] = [] := by simpa using h
 rw [this]
 rfl
theorem mergeR_snoc {l m : List Rg} {q : Rg} (x : Rg) (h : mergeR l = m ++ [q]) :
  mergeR (l ++ [x]) = if x.f0 ≤ q.f1 + 1 then m ++ [⟨q.f0, if q.f1 < x.f1 then x.f1 else q.f1⟩] else m ++ [q] ++ [x] := by
 have h2 : (l.map toP).foldl CpM.mergeStep [] = m.map toP ++ [toP q] := by rw [← mergeR_toP, h, List.map_append]; rfl
 unfold mergeR
 rw [fold_snoc, h2]
 unfold CpM.mergeStep
 rw [List.getLast?_append]
 simp only [List.getLast?_singleton, Option.some_or, List.dropLast_concat]
 show List.map ofP (if x.f0 ≤ q.f1 + 1 then List.map toP m ++ [((toP q).1, if (toP q).2 < (toP x).2 then (toP x).2 else (toP q).2)] else List.map toP m ++ [toP q] ++ [toP x]) = _
 split
 ·rw [List.map_append, ofP_toP]; rfl
 ·rw [List.map_append, List.map_append, ofP_toP]; rfl
theorem canon_all : ∀ (l : List (Int × Int)) (b : Int), CpM.CanonFrom b l → ∀ r ∈ l, b ≤ r.1 ∧ r.1 ≤ r.2 ∧ r.2 ≤ 1114111
 | [], _, _, r, h => by cases h
 | x :: l, b, ⟨h1, h2, h3, h4⟩, r, h => by
  rcases List.mem_cons.1 h with rfl | h
  ·exact ⟨h1, h2, h3⟩
  ·have := canon_all l _ h4 r h; omega
theorem mergeR_last {l m : List Rg} {q : Rg} (h : mergeR l = m ++ [q]) (hs : l.Pairwise (fun a b => a.f0 ≤ b.f0)) (ho : ∀ r ∈ l, CpM.Ok (toP r)) : 0 ≤ q.f0 ∧ q.f0 ≤ q.f1 ∧ q.f1 ≤ 1114111 := by
 have h2 : (l.map toP).foldl CpM.mergeStep [] = m.map toP ++ [toP q] := by rw [← mergeR_toP, h, List.map_append]; rfl
 have := (CpM.fold_ok (l.map toP) (fun r hr => by obtain ⟨y, hy, rfl⟩ := List.mem_map.1 hr; exact ho y hy) (List.pairwise_map.2 hs)).1
 rw [h2] at this
 exact canon_all _ _ this (toP q) (by simp)
theorem fold_length : ∀ (s acc : List (Int × Int)), (s.foldl CpM.mergeStep acc).length ≤ acc.length + s.length := by
 intro s
 induction s with
 | nil => intro acc; simp
 | cons r s ih =>
  intro acc
  rw [List.foldl_cons]
  refine Nat.le_trans (ih _) ?_
  have : (CpM.mergeStep acc r).length ≤ acc.length + 1 := by
   unfold CpM.mergeStep
   split
   ·simp
   ·split
    ·simp
    ·simp
  simp only [List.length_cons]; omega
theorem mergeR_length (l : List Rg) : (mergeR l).length ≤ l.length := by
 have := fold_length (l.map toP) []
 simpa [mergeR] using this
theorem make_length (l : List (Int × Int)) : (CpM.make l).length ≤ l.length := by
 unfold CpM.make
 refine Nat.le_trans (fold_length _ []) ?_
 rw [(CpM.sorted_perm _).length_eq]
 unfold CpM.clamp
 have := List.length_filter_le (fun r : Int × Int => decide (r.1 ≤ r.2)) (l.map CpM.clamp1)
 rw [List.length_map] at this
 simpa using this
theorem flatR_set1 : ∀ (m : List Rg) (i : Nat) (q : Rg) (y : Int), m[i]? = some q → (flatR m).set (i * 2 + 1) (.int .i64 y) = flatR (m.set i ⟨q.f0, y⟩)
 | x :: m, 0, q, y, h => by simp at h; subst h; rfl
 | x :: m, i + 1, q, y, h => by
  have := flatR_set1 m i q y (by simpa using h)
  rw [show (i + 1) * 2 + 1 = (i * 2 + 1) + 1 + 1 by omega]
  simp only [flatR, sS, this]
theorem R_set_hi {W : World} {base g n cap : Nat} {ok : Nat → Prop} {m : List Rg} {i : Nat} {q : Rg} {y : Int} (h : Kd.R kRg 33 W base ok (.slice (some ⟨g, 0, none⟩) n cap) m) (hq : m[i]? = some q) :
  Kd.R kRg 33 (W.setCell ⟨g, i * 2 + 1, none⟩ (.int .i64 y)) base ok (.slice (some ⟨g, 0, none⟩) n cap) (m.set i ⟨q.f0, y⟩) := by
 obtain ⟨hok, hlen, ⟨hv, _⟩ | ⟨g', cap', cur, hv, hb, hh, hle, hmax, hsz, htk⟩⟩ := R_own_iff.1 h
 ·cases hv
 ·cases hv
  refine R_own_iff.2 ⟨hok, by rw [flatR_length], .inr ⟨g, cap, cur.setIfInBounds (i * 2 + 1) (.int .i64 y), by rw [List.length_set], hb, blk_set hh _ _, by rw [List.length_set]; exact hle, hmax, by rw [Array.size_setIfInBounds]; exact hsz, ?_⟩⟩
  rw [List.length_set, Array.toList_setIfInBounds, List.take_set, htk, flatR_set1 m i q y hq]
theorem R_cells {W : World} {base g n cap : Nat} {ok : Nat → Prop} {m : List Rg} {i : Nat} {q : Rg} (h : Kd.R kRg 33 W base ok (.slice (some ⟨g, 0, none⟩) n cap) m) (hq : m[i]? = some q) :
  W.cell? ⟨g, i * 2, none⟩ = some (.int .i64 q.f0) ∧ W.cell? ⟨g, i * 2 + 1, none⟩ = some (.int .i64 q.f1) ∧ W.frozen? ⟨g, i * 2 + 1, none⟩ = false := by
 obtain ⟨hok, hlen, ⟨hv, _⟩ | ⟨g', cap', cur, hv, hb, hh, hle, hmax, hsz, htk⟩⟩ := R_own_iff.1 h
 ·cases hv
 ·cases hv
  have hi : i < m.length := (List.getElem?_eq_some_iff.1 hq).1
  have e := flatR_reps m i q hq
  have k0 : (flatR m)[i * 2]? = some (.int .i64 q.f0) := by
   have := congrArg (fun l => l[0]?) e
   simpa [List.getElem?_take, List.getElem?_drop, encR] using this
  have k1 : (flatR m)[i * 2 + 1]? = some (.int .i64 q.f1) := by
   have := congrArg (fun l => l[1]?) e
   simpa [List.getElem?_take, List.getElem?_drop, encR] using this
  rw [← htk, List.getElem?_take, if_pos (by omega), Array.getElem?_toList] at k0 k1
  refine ⟨?_, ?_, ?_⟩
  ·simp only [World.cell?, hh]; simpa using k0
  ·simp only [World.cell?, hh]; simpa using k1
  ·simp [World.frozen?, hh]
def cpset_Make.f (l0 : List Rg) : Option (List Rg) := if l0.length < 1000000000 then some ((CpM.make (l0.map toP)).map ofP) else none
theorem rd_take {l : List Rg} {k : Nat} (h : k < l.length) : l.take (k + 1) = l.take k ++ [rd_T33 l k] := by
 rw [List.take_succ_eq_append_getElem h]
 congr 2
 simp [rd_T33, List.getD_eq_getElem?_getD, h]
set_option maxHeartbeats 4000000 in
set_option maxRecDepth 100000 in
theorem cpset_Make.calls (A0 : Option Addr) (c0 : Nat) (l0 : List Rg) (r : List Rg) (w : World) (hr0 : Kd.C kRg w A0 l0.length l0) (hc0 : l0.length ≤ c0) (h : cpset_Make.f l0 = some r) :
  Calls Try.prog 64 #[.slice A0 l0.length c0] w fun e w' => ∃ v0_ : Value, e = .returned (.agg #[v0_]) ∧ Kd.R kRg 33 w' w.heap.size (fun _ => True) v0_ r ∧ Below w.heap.size w w' := by
 have hn : l0.length < 1000000000 ∧ (CpM.make (l0.map toP)).map ofP = r := by
  unfold cpset_Make.f at h
  by_cases hl : l0.length < 1000000000
  ·rw [if_pos hl] at h; exact ⟨hl, Option.some.inj h⟩
  ·rw [if_neg hl] at h; cases h
 have HN := aM hn
 clear hn h
 have HR := aM hr0
 clear hr0 hc0
 have hu1 := Try.underlying33
 have hu2 := Try.underlying25
 have HB := aM (Below.refl w.heap.size w)
 go_enter Try.func64, Try.ntmps64
 go_wp2
 go_loopw [3, 12] (fun v i wr => ∃ (k : Nat), i = .int .i64 k ∧ Aside0 (k ≤ l0.length) ∧ Aside0 (Kd.R kRg 33 wr w.heap.size (fun _ => True) v (takeIn (l0.take k))) ∧ Aside0 (wr.heap[w.heap.size]? = some (.cells #[.slice none 0 0] 25 (0, 0))) ∧ Aside0 (Below w.heap.size w wr)) (fun _ i _ => l0.length - (intOf i).toNat)
 case atStart => exact ⟨0, rfl, ⟨Nat.zero_le _⟩, ⟨Kd.R_nil _ _ _ _ _⟩, ⟨heap_alloc_new w _⟩, ⟨bAl HB.out _⟩⟩
 case round =>
  obtain ⟨k, rfl, HK, HO, BK, HB⟩ := hrel
  by_cases hlt : k < l0.length
  ·obtain ⟨ad, e, hx0, hx1⟩ := at_T33 HR.out (k : Int) (by omega) (by omega)
   cases e
   rw [Int.toNat_natCast] at hx0 hx1
   have hc0 := (HB.out.cell (World.block_lt_of_cell? w _ hx0)).trans hx0
   have hc1 := (HB.out.cell (World.block_lt_of_cell? w _ hx1)).trans hx1
   clear hx0 hx1
   have hst := aM (rd_take hlt)
   generalize rd_T33 l0 (k : Int) = x at hc0 hc1 hst
   obtain ⟨a, ha⟩ : ∃ a : Int, (if x.f0 < 0 then 0 else x.f0) = a := ⟨_, rfl⟩
   obtain ⟨b, hb⟩ : ∃ b : Int, (if 1114111 < x.f1 then 1114111 else x.f1) = b := ⟨_, rfl⟩
   have hcl := aM (show clampR x = ⟨a, b⟩ by unfold clampR; rw [ha, hb])
   have hp : (0 ≤ (k : Int)) = True := eq_true (by omega)
   have hw : wrap64 ((k : Int) + 1) = (k : Int) + 1 := by have := HN.out.1; unfold wrap64; omega
   have hnx : takeIn (l0.take (k + 1)) = if a ≤ b then takeIn (l0.take k) ++ [⟨a, b⟩] else takeIn (l0.take k) := by rw [hst.out, takeIn_snoc, hcl.out]
   have hlen : Aside0 ((takeIn (l0.take k)).length ≤ l0.length) := ⟨Nat.le_trans (takeIn_length _) (List.length_take_le' _ _)⟩
   by_cases hab : a ≤ b
   ·rw [if_pos hab] at hnx
    have HX := aM hnx
    clear hnx
    go_wp2_with (at_builtin; refine Kd.R_append kRg (w0 := w) w.heap.size rfl (.tmp 29) (.tmp 31) 23 33 (.agg #[.int .i64 0, .int .i64 0]) 16 rfl Try.underlying23 info33 rfl (by decide) (by omega) u3 (takeIn (l0.take k)) ⟨a, b⟩ [.int .i64 a, .int .i64 b] (fun _ => True) (fun _ => False) rfl (by first | (go_simp; done) | (go_simp; rfl)) (k33_mkM _ _ _ ⟨a, b⟩) (fun _ h => h.elim) (fun _ _ => trivial) ?aO ?aB ?aS ?aL ?_; (case aO => exact Kd.R_alloc HO.out _); (case aB => exact bAl HB.out _); (case aS => have := HB.out.size; simp; omega); (case aL => have := HN.out.1; have := hlen.out; omega); intro v1 w1 ho hb hg hat; have HO1 := aM ho; have HB1 := aM hb; have BK1 := aM (blk_grown (bkA BK.out _) hg (Kd.R_ne HO.out BK.out (by decide))); clear ho hb hg hat)
    go_roundw
    case rel => exact ⟨k + 1, by rw [hw]; rfl, ⟨hlt⟩, ⟨by rw [HX.out]; exact HO1.out⟩, BK1, HB1⟩
    case measure => clear ha hb hp; rw [hw]; simp only [intOf]; omega
   ·rw [if_neg hab] at hnx
    have HX := aM hnx
    clear hnx
    go_wp2
    go_roundw
    case rel => exact ⟨k + 1, by rw [hw]; rfl, ⟨hlt⟩, ⟨by rw [HX.out]; exact Kd.R_alloc HO.out _⟩, ⟨bkA BK.out _⟩, ⟨bAl HB.out _⟩⟩
    case measure => clear ha hb hp; rw [hw]; simp only [intOf]; omega
  ·obtain rfl : k = l0.length := by have := HK.out; omega
   rw [List.take_length] at HO
   clear HK
   have hlen := takeIn_length l0
   have HS := aM (sort_ranges w.heap.size (fun _ => True) u3 (takeIn l0) wr HO.out (by have := HN.out.1; omega))
   have HLen := aM hlen
   clear hlen
   have hne := aM (Kd.R_ne HO.out BK.out (by decide))
   have hbase := aM (fun k hk => Kd.R_base HO.out k hk)
   go_wp2_with (go_at_call 83; refine HS.out.mono ?_; rintro e w1 ⟨rfl, ys, hperm, hpair, ho, hos, hta, hou, hsz, hkeep⟩; have HP := aM hperm; have HPP := aM hpair; have HB1 := aM (HB.out.trans (⟨hos, hta, hou, hsz, fun i hi => hkeep i (Nat.lt_of_lt_of_le hi HB.out.size) (fun e_ => absurd (hbase.out i e_) (Nat.not_le.2 hi))⟩ : Below w.heap.size wr w1)); have BK1 := aM ((hkeep _ (blk_lt BK.out) (fun e_ => hne.out e_.symm)).trans BK.out); obtain ⟨Av, cv, ev⟩ := Kd.R_slice ho; subst ev; have HC1 := aM (Kd.R_reads' ho).2.2; clear hperm hpair ho hos hta hou hsz hkeep)
   clear HS hne hbase BK HO HB
   go_loopw [6, 38] (fun v i wr => ∃ (k : Nat), i = .int .i64 k ∧ Aside0 (k ≤ ys.length) ∧ Aside0 (Kd.R kRg 33 wr w1.heap.size (fun _ => True) v (mergeR (ys.take k))) ∧ Aside0 (Below w1.heap.size w1 wr)) (fun _ i _ => ys.length - (intOf i).toNat)
   case atStart => exact ⟨0, rfl, ⟨Nat.zero_le _⟩, ⟨Kd.R_nil _ _ _ _ _⟩, ⟨Below.refl _ _⟩⟩
   case round =>
    obtain ⟨k, rfl, HK, HO, HB⟩ := hrel
    by_cases hlt : k < ys.length
    ·obtain ⟨ad, e, hx0, hx1⟩ := at_T33 HC1.out (k : Int) (by omega) (by omega)
     cases e
     rw [Int.toNat_natCast] at hx0 hx1
     have hc0 := (HB.out.cell (World.block_lt_of_cell? w1 _ hx0)).trans hx0
     have hc1 := (HB.out.cell (World.block_lt_of_cell? w1 _ hx1)).trans hx1
     clear hx0 hx1
     have hst := aM (rd_take hlt)
     generalize rd_T33 ys (k : Int) = x at hc0 hc1 hst
     have hp : (0 ≤ (k : Int)) = True := eq_true (by omega)
     have hw : wrap64 ((k : Int) + 1) = (k : Int) + 1 := by have := HN.out.1; have := HP.out.length_eq; have := HLen.out; unfold wrap64; omega
     have hml := aM (mergeR_length (ys.take k))
     have hml2 := aM (Nat.le_trans (mergeR_length (ys.take k)) (Nat.le_trans (List.length_take_le' _ _) (Nat.le_trans (Nat.le_of_eq HP.out.length_eq) HLen.out)))
     rcases List.eq_nil_or_concat (mergeR (ys.take k)) with hm | ⟨m, q, hm⟩
     ·have HX := aM ((congrArg mergeR hst.out).trans (mergeR_snoc_nil x hm))
      rw [hm] at HO hml hml2
      clear hm
      obtain ⟨Ao, co, eo⟩ := Kd.R_slice HO.out
      subst eo
      go_wp2
      go_quiet (fail)
      go_wp2_with (at_builtin; refine Kd.R_append kRg (w0 := w1) w1.heap.size rfl (.tmp 72) (.tmp 74) 23 33 (.agg #[.int .i64 0, .int .i64 0]) 16 rfl Try.underlying23 info33 rfl (by decide) (by omega) _ ([] : List Rg) x [.int .i64 x.f0, .int .i64 x.f1] (fun _ => True) (fun _ => False) rfl (by first | (go_simp; done) | (go_simp; rfl)) (k33_mkM _ _ _ x) (fun _ h => h.elim) (fun _ _ => trivial) ?aO ?aB ?aS ?aL ?_; (case aO => (with_reducible repeat (first | apply Kd.R_alloc | apply Kd.R_drewN | apply Kd.R_drew)); exact HO.out); (case aB => repeat (first | (with_reducible first | exact HB.out | apply bAl | apply pbN | apply bD1) | exact HB.out)); (case aS => have := HB.out.size; simp; omega); (case aL => first | decide | (have h1_ := HN.out.1; have h2_ := hml2.out; omega)); intro v1 w2 ho hb hg hat; have HO1 := aM ho; have HB2 := aM hb; clear ho hb hg hat)
      go_roundw
      case rel => exact ⟨k + 1, by rw [hw]; rfl, ⟨hlt⟩, ⟨by rw [HX.out]; exact HO1.out⟩, HB2⟩
      case measure => rw [hw]; simp only [intOf]; omega
     ·rw [List.concat_eq_append] at hm
      have hmi : (m ++ [q])[m.length]? = some q := by simp
      have hs1 : (ys.take k).Pairwise (fun a b => a.f0 ≤ b.f0) := List.Pairwise.sublist (List.take_sublist _ _) HPP.out
      have hq := mergeR_last hm hs1 (fun r hr => by
       have h1 : r ∈ takeIn l0 := HP.out.mem_iff.1 (List.mem_of_mem_take hr)
       have h2 : toP r ∈ (takeIn l0).map toP := List.mem_map.2 ⟨r, h1, rfl⟩
       rw [takeIn_toP] at h2
       exact CpM.clamp_ok _ _ h2)
      have hX := (congrArg mergeR hst.out).trans (mergeR_snoc x hm)
      rw [hm] at HO hml hml2
      clear hm hs1
      obtain ⟨_, _, ⟨_, hz⟩ | ⟨g, co, cur, hv, hbg, _⟩⟩ := R_own_iff.1 HO.out
      ·simp at hz
      subst hv
      have hcs := R_cells HO.out hmi
      obtain ⟨hq0, hq1, hqf⟩ := hcs
      have HG := aM hbg
      have HMI := aM hmi
      have hlen3 : (m ++ [q]).length = m.length + 1 := by simp
      obtain ⟨n, hn⟩ : ∃ n, (m ++ [q]).length = n := ⟨_, rfl⟩
      obtain ⟨J, hJ⟩ : ∃ J : Int, (m.length : Int) = J := ⟨_, rfl⟩
      have hJn : J.toNat = m.length := by omega
      rw [← hJn] at hq0 hq1 hqf
      rw [hn] at HO hml hml2 ⊢
      have hb0 : decide (0 < n) = true := dT (by omega)
      have hb1 : (0 ≤ J) = True := eq_true (by omega)
      have hb2 : (J < (n : Int)) = True := eq_true (by omega)
      have hw2 : wrap64 ((n : Int) - 1) = J := by have h_ := hml2.out; have h2_ := HN.out.1; unfold wrap64; omega
      have hw4 : IntKind.i64.wrap ((n : Int) - 1) = J := by have h_ := hml2.out; have h2_ := HN.out.1; rw [IntWalk.i64_in _ (by omega)]; omega
      have hw3 : wrap64 (q.f1 + 1) = q.f1 + 1 := by unfold wrap64; omega
      have hw5 : IntKind.i64.wrap (q.f1 + 1) = q.f1 + 1 := by rw [IntWalk.i64_in _ (by omega)]
      have hbx := bAl (Below.refl wr.heap.size wr) (.cells #[.int .i64 x.f0, .int .i64 x.f1] 33)
      have hqg : g < wr.heap.size := World.block_lt_of_cell? wr _ hq1
      have hq1' := pcb hbx hq1
      have hqf' := (hbx.frozen (p := ⟨g, J.toNat * 2 + 1, none⟩) hqg).trans hqf
      clear hbx hq0 hq1 hqf
      have HQG := aM hqg
      clear hqg
      have HQ := aM hq
      have HJ := aM hJn
      have HNN := aM hn
      clear hmi hbg hlen3 hn hJ hJn hq
      by_cases hcc : x.f0 ≤ q.f1 + 1
      ·rw [if_pos hcc] at hX
       have HX := aM hX
       clear hX
       obtain ⟨b, hb⟩ : ∃ b : Int, (if q.f1 < x.f1 then x.f1 else q.f1) = b := ⟨_, rfl⟩
       have HX2 := aM hb
       go_wp2
       go_quiet (fail)
       go_wp2
       go_region
       all_goals go_wp2
       go_roundw
       case rel =>
        refine ⟨k + 1, by rw [hw]; rfl, ⟨hlt⟩, ⟨?_⟩, ⟨?_⟩⟩
        ·have h1 := R_set_hi (y := b) (Kd.R_drewN (Kd.R_alloc HO.out (.cells #[.int .i64 x.f0, .int .i64 x.f1] 33)) (nq + 1)) HMI.out
         have e : (m ++ [q]).set m.length ⟨q.f0, b⟩ = m ++ [⟨q.f0, b⟩] := by simp
         rw [HX.out, HX2.out, HJ.out]
         rw [e] at h1
         exact h1
        ·exact (pbN (bAl HB.out _) _).setCell HG.out _
       case measure => rw [hw]; simp only [intOf]; omega
      ·rw [if_neg hcc] at hX
       have HX := aM hX
       clear hX
       have hcb : decide (x.f0 ≤ q.f1 + 1) = false := decide_eq_false hcc
       go_wp2
       go_quiet (fail)
       go_wp2_with (at_builtin; refine Kd.R_append kRg (w0 := w1) w1.heap.size rfl (.tmp 72) (.tmp 74) 23 33 (.agg #[.int .i64 0, .int .i64 0]) 16 rfl Try.underlying23 info33 rfl (by decide) (by omega) _ (m ++ [q]) x [.int .i64 x.f0, .int .i64 x.f1] (fun _ => True) (fun _ => False) rfl (by first | (go_simp; done) | (go_simp; rfl)) (k33_mkM _ _ _ x) (fun _ h => h.elim) (fun _ _ => trivial) ?aO ?aB ?aS ?aL ?_; (case aO => (with_reducible repeat (first | apply Kd.R_alloc | apply Kd.R_drewN | apply Kd.R_drew)); exact HO.out); (case aB => repeat (first | (with_reducible first | exact HB.out | apply bAl | apply pbN | apply bD1) | exact HB.out)); (case aS => have := HB.out.size; simp; omega); (case aL => have h1_ := HN.out.1; have h2_ := hml2.out; have h3_ := HNN.out; omega); intro v1 w2 ho hb hg hat; have HO1 := aM ho; have HB2 := aM hb; clear ho hb hg hat)
       go_roundw
       case rel => exact ⟨k + 1, by rw [hw]; rfl, ⟨hlt⟩, ⟨by rw [HX.out]; exact HO1.out⟩, HB2⟩
       case measure => rw [hw]; simp only [intOf]; omega
    ·obtain rfl : k = ys.length := by have := HK.out; omega
     rw [List.take_length] at HO
     obtain ⟨Ao, co, eo⟩ := Kd.R_slice HO.out
     subst eo
     have hBK := (HB.out.block _ (blk_lt BK1.out)).trans BK1.out
     have hBc : wr.cell? ⟨w.heap.size, 0, none⟩ = some (.slice none 0 0) := (bkC hBK 0).trans rfl
     have hBf := bkF hBK 0
     have hfin : mergeR ys = r := by
      rw [← HN.out.2]
      unfold mergeR
      rw [CpM.fold_eq_make (l0.map toP) (ys.map toP) (by rw [← takeIn_toP]; exact HP.out.map _) (List.pairwise_map.2 HPP.out)]
     have HF := aM hfin
     have HBK := aM hBK
     clear hfin hBK
     go_wp2
     refine bodyPost_ret (results_cell_row rfl _ _ w.heap.size 25 #[.slice Ao (mergeR ys).length co] (0, 0) _ rfl (blk_put (cs := #[.slice none 0 0]) HBK.out 0 _ rfl) Try.underlying25 rfl (by kernel_rfl)) rfl ?_
     refine ⟨_, rfl, ?_, ?_⟩
     ·rw [← HF.out]
      exact Kd.R_lower (Kd.R_set HO.out HBK.out (by decide) 0 _) HB1.out.size
     ·exact (below_then HB1.out HB1.out.size HB.out).setCell (Nat.le_refl _) _
end Go.Proofs.Ythnkmcfhpjmihaa.Q
end
section
namespace Go.Proofs.Ythnkmcfhpjmihaa.Q
open Go.RowKit Go.Shelf Go.Proofs.YthnkmcfhpjmihaaW.PrintWords Go.Proofs.YthnkmcfhpjmihaaW.PrintLast Go.Proofs.YthnkmcfhpjmihaaW.PrintMore
set_option linter.unusedVariables false
attribute [local go_sem] Oper.semAt_some
def mkR (xs : List Rg) : List Rg := (CpM.make (xs.map toP)).map ofP
theorem mkR_length (xs : List Rg) : (mkR xs).length ≤ xs.length := by
 unfold mkR
 have := make_length (xs.map toP)
 simpa using this
/-- The block that the slice in the box B lies in. -/
def rowAt (W : World) (B k : Nat) : Prop := ∃ v t fr, W.heap[B]? = some (.cells #[v] t fr) ∧ v.ownBlock = some k
/-- What a round keeps: all cells but the box B and the row that the box leads to. -/
structure KpB (B : Nat) (W W' : World) : Prop where
 size : W.heap.size ≤ W'.heap.size
 same : ∀ k cs t fr, W.heap[k]? = some (.cells cs t fr) → k ≠ B → ¬ rowAt W B k → W'.heap[k]? = some (.cells cs t fr)
 row : ∀ k, rowAt W' B k → rowAt W B k ∨ W.heap.size ≤ k
theorem lt_of_heap {W : World} {k : Nat} {o : Obj} (h : W.heap[k]? = some o) : k < W.heap.size := (Array.getElem?_eq_some_iff.1 h).1
theorem KpB.trans {B : Nat} {X Y Z : World} (h : KpB B X Y) (k : KpB B Y Z) : KpB B X Z where
 size := Nat.le_trans h.size k.size
 same i cs t fr hi hne hr := by
  refine k.same i cs t fr (h.same i cs t fr hi hne hr) hne fun hy => ?_
  rcases h.row i hy with h1 | h1
  ·exact hr h1
  ·have := lt_of_heap hi; omega
 row i hi := by
  rcases k.row i hi with h1 | h1
  ·exact h.row i h1
  ·exact .inr (Nat.le_trans h.size h1)
theorem KpB.putObj {B : Nat} (W : World) (l : Nat) (o o' : Obj) (hB : B < l) (hl : W.heap[l]? = some o) (hc : o.isCells = false) : KpB B W (W.putObj l o') where
 size := (grownBy_putObj' W l o').size
 same i cs t fr hi hne hr := by
  refine ((grownBy_putObj' W l o').block i (lt_of_heap hi) fun e => ?_).trans hi
  injection e with e
  subst e
  rw [hi] at hl
  cases hl
  cases hc
 row i hi := by
  obtain ⟨v, t, fr, h1, h2⟩ := hi
  rw [World.putObj_heap_other (show B ≠ l by omega)] at h1
  exact .inl ⟨v, t, fr, h1, h2⟩
theorem KpB.of_below {B : Nat} {W W' : World} (hb : Below W.heap.size W W') (hB : B < W.heap.size) : KpB B W W' where
 size := hb.size
 same i cs t fr hi hne hr := (hb.block i (lt_of_heap hi)).trans hi
 row i hi := by
  obtain ⟨v, t, fr, h1, h2⟩ := hi
  exact .inl ⟨v, t, fr, by rw [← hb.block B hB]; exact h1, h2⟩
set_option maxHeartbeats 1000000 in
theorem ranges_calls (v : Value) (w : World) : Calls Try.prog 69 #[.agg #[v]] w fun e w' => e = .returned (.func (.func 88) #[] #[.pointer (some ⟨w.heap.size, 0, none⟩)]) ∧ w' = w.alloc (.cells #[v] 25) := by
 go_enter Try.func69, Try.ntmps69
 go_wp2
 go_ret
 exact ⟨rfl, rfl⟩
/-- What the iterator reads still lies where it lay, and is not the collector's own row. -/
def Stays (B : Nat) (v : Value) (W1 wr : World) : Prop := ∀ k, v.ownBlock = some k → wr.heap[k]? = W1.heap[k]? ∧ ¬ rowAt wr B k
set_option maxHeartbeats 4000000 in
set_option maxRecDepth 100000 in
theorem ranges_iter (B n : Nat) (hn : 1 ≤ n) (l Bn : Nat) (A0 : Option Addr) (c0 : Nat) (xs : List Rg) (J Jx : List Rg → World → Prop)
  (hY : ∀ pre x W, J pre W → pre.length < (mkR xs).length → YieldAt Fence.wide (n - 1) Try.prog l #[.agg #[.int .i64 x.f0, .int .i64 x.f1]] W fun e W' =>
   (e = .returned (.bool true) ∧ J (pre ++ [x]) W' ∧ KpB B W W') ∨ (e = .returned (.bool false) ∧ Jx (pre ++ [x]) W'))
  (W : World) (hBn : W.cell? ⟨Bn, 0, none⟩ = some (.slice A0 xs.length c0)) (hR : Kd.C kRg W A0 xs.length xs) (hc : xs.length ≤ c0) (hbig : xs.length < 1000000000)
  (hB0 : W.heap[B]? = some (.cells #[.slice none 0 0] 23 (0, 0))) (hJ : AbidesFrom W.heap.size J) (h0 : J [] W) :
  CallsIn Fence.wide n Try.prog 88 #[.func (.yield l) #[] #[], .pointer (some ⟨Bn, 0, none⟩)] W fun e W' => (∃ v, e = .returned v) ∧
   ((∃ ys, ys = mkR xs ∧ J ys W') ∨ (∃ pre, pre <+: mkR xs ∧ Jx pre W')) := by
 have hmk : cpset_Make.f xs = some (mkR xs) := by unfold cpset_Make.f; rw [if_pos hbig]; rfl
 have HM := aM hmk
 have HR := aM hR
 have HC := aM hc
 have HB0 := aM hB0
 have HBIG := aM hbig
 clear hmk hR hc hbig hB0
 refine callsIn_of_wp Try.func88 rfl trivial ?_ rfl
 simp only [Try.ntmps88, List.size_toArray, List.length_cons, List.length_nil, Nat.reduceAdd, Nat.reduceSub, Array.replicate_succ, Array.replicate_zero, List.push_toArray, List.append_toArray, List.nil_append, List.cons_append]
 gi_wp2_with (refine ⟨trivial, ?_⟩; gi_at_call 64; refine (callsIn_wide.2 (cpset_Make.calls _ _ xs (mkR xs) _ HR.out HC.out HM.out)).mono ?_; rintro e W1 ⟨v, rfl, ho, hb⟩; have HO := aM ho; have HB := aM hb; obtain ⟨A1, c1, ev⟩ := Kd.R_slice ho; subst ev; clear ho hb)
 have hJ1 : J [] W1 := hJ [] W W1 none h0 (grown_of_below HB.out none) (fun r e => by cases e)
 have hBlt := lt_of_heap HB0.out
 have hB1 := (HB.out.block B hBlt).trans HB0.out
 have hst0 : Stays B (.slice A1 (mkR xs).length c1) W1 W1 := fun k hk => ⟨rfl, fun ⟨v, t, fr, h1, h2⟩ => by rw [hB1] at h1; cases h1; simp [Value.ownBlock] at h2⟩
 have hown : ∀ k, (Value.slice A1 (mkR xs).length c1).ownBlock = some k → W.heap.size ≤ k ∧ k < W1.heap.size ∧ ∃ cells, W1.heap[k]? = some (.cells cells 33 (0, 0)) := fun k hk => ⟨Kd.R_base HO.out k hk, Kd.R_lt HO.out k hk, by obtain ⟨inner, ho⟩ := Kd.R_own HO.out; exact own_typed ho k hk⟩
 have HOWN := aM hown
 have HST := aM hst0
 have HMM := aM (Nat.lt_of_le_of_lt (mkR_length xs) HBIG.out)
 have HBL := aM hBlt
 clear hB1 hst0 hown hBlt
 have HJJ := aM hJ
 have HJ1 := aM hJ1
 have HWS := aM HB.out.size
 clear hJ hJ1 h0
 gi_loopw [10] (fun i wr => ∃ k : Nat, i = .int .i64 k ∧ Aside0 (k ≤ (mkR xs).length) ∧ Aside0 (W1.heap.size ≤ wr.heap.size) ∧ Aside0 (J ((mkR xs).take k) wr) ∧ Aside0 (Stays B (.slice A1 (mkR xs).length c1) W1 wr)) (fun i wr => (mkR xs).length - (intOf i).toNat)
 case atStart => exact ⟨0, rfl, ⟨Nat.zero_le _⟩, ⟨Nat.le_refl _⟩, HJ1, HST⟩
 case round =>
  obtain ⟨k, rfl, HK, HS, HJ, HST1⟩ := hrel
  by_cases hlt : k < (mkR xs).length
  ·have hRr : Kd.R kRg 33 wr W.heap.size (fun j => some j = (Value.slice A1 (mkR xs).length c1).ownBlock) (.slice A1 (mkR xs).length c1) (mkR xs) := Kd.R_move (Kd.R_tight rfl HO.out) (fun j hj => (HST1.out j hj.symm).1)
   obtain ⟨ad, e, hx0, hx1⟩ := at_T33 (Kd.R_reads' hRr).2.2 (k : Int) (by omega) (by omega)
   cases e
   rw [Int.toNat_natCast] at hx0 hx1
   clear hRr
   have hst := aM (rd_take hlt)
   generalize rd_T33 (mkR xs) (k : Int) = x at hx0 hx1 hst
   have hw : wrap64 ((k : Int) + 1) = (k : Int) + 1 := by have := HMM.out; unfold wrap64; omega
   have hp : (0 ≤ (k : Int)) = True := eq_true (by omega)
   have hJ' := HJJ.out _ wr (wr.alloc (.cells #[.int .i64 x.f0, .int .i64 x.f1] 33)) none HJ.out (World.grownBy_alloc wr _ none) (fun r e => by cases e)
   obtain ⟨fn, tmps, assign, body, hy, hR⟩ := hY ((mkR xs).take k) x _ hJ' (by rw [List.length_take]; omega)
   clear hJ' hY
   have HRR := aM hR
   clear hR
   gi_wp2
   refine HRR.out.mono ?_
   rintro e W3 (⟨rfl, hJ3, hk3⟩ | ⟨rfl, hJx3⟩)
   ·have HJ3 := aM hJ3
    have hsz3 := hk3.size
    have HST3 : Aside0 (Stays B (.slice (some ad) (mkR xs).length c1) W1 W3) := ⟨fun j hj => by
     obtain ⟨h1, h2⟩ := HST1.out j hj
     obtain ⟨h3, h4, cells, h5⟩ := HOWN.out j hj
     have h6 : (wr.alloc (.cells #[.int .i64 x.f0, .int .i64 x.f1] 33)).heap[j]? = some (.cells cells 33 (0, 0)) := by
      rw [Below.heap_alloc _ _ _ (Nat.lt_of_lt_of_le h4 HS.out), h1]; exact h5
     have h7 : ¬ rowAt (wr.alloc (.cells #[.int .i64 x.f0, .int .i64 x.f1] 33)) B j := by
      rintro ⟨v, t, fr, ha, hb⟩
      rw [Below.heap_alloc _ _ _ (by have := HBL.out; have := HWS.out; have := HS.out; omega)] at ha
      exact h2 ⟨v, t, fr, ha, hb⟩
     refine ⟨(hk3.same j _ _ _ h6 (by have := HBL.out; omega) h7).trans h5.symm, fun h8 => ?_⟩
     rcases hk3.row j h8 with h9 | h9
     ·exact h7 h9
     ·have := HS.out
      rw [World.size_alloc] at h9
      omega⟩
    have HS3 : Aside0 (W1.heap.size ≤ W3.heap.size) := ⟨by rw [World.size_alloc] at hsz3; have := HS.out; omega⟩
    clear hJ3 hk3 hsz3
    gi_wp2
    go_roundw
    case rel => exact ⟨k + 1, by rw [hw]; rfl, ⟨hlt⟩, HS3, ⟨by rw [hst.out]; exact HJ3.out⟩, HST3⟩
    case measure => rw [hw]; simp only [intOf]; omega
   ·have HJX := aM hJx3
    clear hJx3
    gi_wp2
    refine bodyPost_ret (results_none rfl _ _ _) rfl ?_
    exact ⟨⟨_, rfl⟩, .inr ⟨_, by rw [← hst.out]; exact List.take_prefix _ _, HJX.out⟩⟩
  ·obtain rfl : k = (mkR xs).length := by have := HK.out; omega
   gi_wp2
   go_end0
   exact ⟨⟨_, rfl⟩, .inl ⟨_, rfl, by have := HJ.out; rwa [List.take_length] at this⟩⟩
attribute [local go_sem] Oper.semAt_some
theorem wpListIn_append_at {F : Fence} {n : Nat} {P : Program} (w : World) {ops : Array Oper} {rest : List Oper} {o : Oper} {a : Act} {Q : Exit → Act → World → Prop}
  (hg : o.guard = none) (s x : Operand) (t : TypeId) (hop : o.op = Op.call { callee := Callee.builtin Builtin.append, args := #[s, x], argTypes := #[t, t] })
  (base : Nat) (e : TypeId) (i : TypeInfo) (z : Value) (size bytes : Nat) (h1 : P.underlying t = some (.slice e)) (h2 : P.info? e = some i) (h3 : i.zero = some z) (h4 : i.size = size) (h5 : i.bytes = bytes) (h6 : z.cells.size = size) (h7 : 0 < size)
  (v : Value) (k : Nat) (xs : List Value) (hs : a.eval s = v) (hown : w.ownsRow base e size v k xs) (ad : Addr) (m c : Nat) (news : List Value) (hx : a.eval x = .slice (some ad) m c) (hn : news.length = m * size)
  (hc : ∀ j u, news[j]? = some u → w.cell? (ad.add j) = some u) (h1c : ∀ u ∈ news, u.oneCell' = true) (b1 : k + m ≤ maxLen) (b2 : (k + m) * bytes ≤ 140737488355328) (b3 : base ≤ w.heap.size)
  (hK : ∀ v' w', w'.ownsRow base e size v' (k + m) (xs ++ news) → w.grownBy w' v.ownBlock → (v'.ownBlock = v.ownBlock ∨ v'.ownBlock = some w.heap.size) → wpListIn F n P ops Q rest (a.put o.dst v') w') :
  wpListIn F n P ops Q (o :: rest) a w := by
 refine wpListIn_plain hg fun K hK' => ?_
 obtain ⟨v', w', hrun, r1, r2, _, r3⟩ := run_append_own_at (P := P) w base t o.type e i z size bytes h1 h2 h3 h4 h5 h6 h7 v k xs hown ad m c news hn hc h1c b1 b2 b3
 unfold Oper.wpIn
 refine ⟨?_, ?_⟩
 ·simp [Oper.about, hop, resolve, Target.leads, Sem.run_pure]
 ·rw [Oper.semAt_plain F _ _ (by rw [hop]; intro c hc'; cases hc')]
  simp [execOp, hop, resolve, invoke, builtin, hs, hx, hrun, Result.andThen]
  exact hK' _ _ (hK v' w' r1 r2 r3)
theorem KpB.appended {B : Nat} {W w1 : World} {tmp : Obj} {t : TypeId} {v v' : Value} (hv : Boxed W B t v) (hgrow : (W.alloc tmp).grownBy w1 v.ownBlock) (hat : v'.ownBlock = v.ownBlock ∨ v'.ownBlock = some (W.alloc tmp).heap.size) (hv1 : Boxed w1 B t v) :
  KpB B W (w1.setCell ⟨B, 0, none⟩ v') where
 size := Nat.le_trans (Nat.le_trans (by simp) hgrow.size) (KeepsWalks.setCell w1 _ v').size
 same k cs t' fr hk hne hr := by
  have hlt := lt_of_heap hk
  rw [Below.heap_setCell _ _ _ _ hne, hgrow.block k (by simp; omega) (fun e => hr ⟨v, t, _, hv, e.symm⟩), Below.heap_alloc _ _ _ hlt]
  exact hk
 row k hk := by
  obtain ⟨u, t', fr, h1, h2⟩ := hk
  have h3 : (w1.setCell ⟨B, 0, none⟩ v').heap[B]? = _ := hv1.set v'
  rw [h3] at h1
  cases h1
  rcases hat with h4 | h4
  ·exact .inl ⟨v, t, _, hv, by rw [← h4]; exact h2⟩
  ·rw [h4] at h2
   injection h2 with h2
   exact .inr (by rw [← h2]; simp)
set_option maxHeartbeats 4000000 in
set_option maxRecDepth 100000 in
theorem append_seq (n : Nat) (hn : 3 ≤ n) (Bn : Nat) (A0 : Option Addr) (c0 : Nat) (xs : List Rg) (w : World)
  (hBn : w.cell? ⟨Bn, 0, none⟩ = some (.slice A0 xs.length c0)) (hR : Kd.C kRg w A0 xs.length xs) (hc : xs.length ≤ c0) (hbig : xs.length < 1000000000) :
  CallsIn Fence.wide n Try.prog 87 #[.slice none 0 0, .func (.func 88) #[] #[.pointer (some ⟨Bn, 0, none⟩)]] w fun e W' =>
   ∃ v, e = .returned v ∧ Kd.R kRg 33 W' w.heap.size (fun _ => True) v (mkR xs) ∧ Below w.heap.size w W' := by
 have h1 : 1 ≤ n := by omega
 obtain ⟨i0, hi, hzz⟩ := Option.map_eq_some_iff.1 info33
 simp only [Prod.mk.injEq] at hzz
 obtain ⟨hz0, hz1, hz2⟩ := hzz
 have HZ := aM hz0
 have HZ1 := aM hz1
 have HZ2 := aM hz2
 have HI := aM hi
 clear hz0 hz1 hz2 hi
 refine callsIn_of_wp_marks Try.func87 rfl trivial ?_ rfl
 simp only [Try.ntmps87, List.size_toArray, List.length_cons, List.length_nil, Nat.reduceAdd, Nat.reduceSub, Array.replicate_succ, Array.replicate_zero, List.push_toArray, List.append_toArray, List.nil_append, List.cons_append]
 have HBn := aM hBn
 have HR := aM hR
 have HG := aM hbig
 clear hBn hR hbig
 gi_wp2
 have bO := Boxed.new w 23 (.slice none 0 0)
 have hB0 : Below w.heap.size w (w.alloc (.cells #[.slice none 0 0] 23)) := (Below.refl _ w).alloc (Nat.le_refl _) _
 have hsz : (w.alloc (.cells #[.slice none 0 0] 23)).heap.size = w.heap.size + 1 := by simp
 obtain ⟨W0, hW0⟩ : ∃ W0, w.alloc (.cells #[.slice none 0 0] 23) = W0 := ⟨_, rfl⟩
 rw [hW0] at bO hB0 hsz ⊢
 clear hW0
 refine wpIn_rangeFunc_ownH (F := Fence.wide) rfl h1 (gf := 88) (lb := #[.pointer (some ⟨Bn, 0, none⟩)]) rfl trivial (enters_of Try.func88 (by kernel_rfl) rfl)
  (encs := fun x : Rg => #[.agg #[.int .i64 x.f0, .int .i64 x.f1]]) (Kp := KpB w.heap.size) (S := fun ys => ys = mkR xs) (Sp := fun pre => pre <+: mkR xs) (N := (mkR xs).length) (w0 := W0)
  (fun l J Jx W hW hJ _ hY h0 => ranges_iter w.heap.size (n - 1) (by omega) l Bn A0 c0 xs J Jx hY W
   ((hW.cell (p := ⟨Bn, 0, none⟩) (by have : Bn < w.heap.size := World.block_lt_of_cell? w _ HBn.out; show Bn < W0.heap.size; omega)).trans ((hB0.cell (p := ⟨Bn, 0, none⟩) (show Bn < w.heap.size from World.block_lt_of_cell? w _ HBn.out)).trans HBn.out))
   (Kd.C_below (Kd.C_below HR.out hB0) hW) hc HG.out ((hW.block _ bO.lt).trans bO) hJ h0)
  KpB.trans (fun W l o o' hl hlo hoc _ => KpB.putObj W l o o' (by omega) hlo hoc) (Below.refl _ _) (fun _ => rfl)
  (fun pre W => (∃ v, Boxed W w.heap.size 23 v ∧ W.ownsRow w.heap.size 33 2 v pre.length (flatR pre) ∧ True) ∧ Below w.heap.size w W)
  (fun _ _ _ => False)
  (OwnFrom.and (Own.from (holdsRow_own w.heap.size w.heap.size 23 33 2 (fun pre : List Rg => pre.length) flatR (fun _ _ => True)) _) (ownFrom_below (Nat.le_refl _) (by omega)))
  (fun _ _ _ _ _ hs _ _ => hs)
  ⟨⟨_, bO, World.ownsRow_nil _ _ _ _, trivial⟩, hB0⟩
  (fun x a' W => ∃ Bx, w.heap.size < Bx ∧ W.heap[Bx]? = some (.cells #[.int .i64 x.f0, .int .i64 x.f1] 33 (0, 0)) ∧ a' = { tmps := #[.slice none 0 0, .func (.func 88) #[] #[.pointer (some ⟨Bn, 0, none⟩)], .pointer (some ⟨w.heap.size, 0, none⟩), undef, .slice none 0 0, .pointer (some ⟨Bx, 0, none⟩), .func (.func 88) #[] #[.pointer (some ⟨Bn, 0, none⟩)], .agg #[.int .i64 x.f0, .int .i64 x.f1], undef, undef, undef, undef, undef], defers := [] })
  (fun x a' _ X Y row hs hg hr => by obtain ⟨Bx, h1, h2, h3⟩ := hs; exact ⟨Bx, h1, (grownBy_keeps_cells hg (fun r e => (hr r e).2) h2 rfl).trans h2, h3⟩)
  ?assign ?body ?done ?stop
 case assign =>
  rintro l pre x W K ⟨⟨v, hv, hrow, _⟩, hB⟩ hK
  have HV := aM hv
  have HRW := aM hrow
  have HB := aM hB
  clear hv hrow hB
  gi_wp2
  refine hK _ _ ((KeepsOthers.alloc _ _).from _) (KpB.of_below (bAl (Below.refl _ W) _) (Nat.lt_of_lt_of_le HV.out.lt (Nat.le_refl _))) ⟨⟨v, HV.out.alloc _, HRW.out.alloc _, trivial⟩, HB.out.alloc HB.out.size _⟩ ⟨W.heap.size, HV.out.lt, heap_alloc_new W _, rfl⟩
 case body =>
  rintro l pre x a' W hl _ ⟨⟨v, hv, hrow, _⟩, hB⟩ ⟨Bx, hBx, hx, rfl⟩ hlt
  have hcv := hv.cell
  have hc0 : W.cell? ⟨Bx, 0, none⟩ = some (.int .i64 x.f0) := (bkC hx 0).trans rfl
  have hc1 : W.cell? ⟨Bx, 1, none⟩ = some (.int .i64 x.f1) := (bkC hx 1).trans rfl
  have HX := aM hx
  have HV := aM hv
  have HRW := aM hrow
  have HB := aM hB
  have hpl : pre.length < 1000000000 := Nat.lt_of_lt_of_le hlt (Nat.le_trans (mkR_length xs) (Nat.le_of_lt HG.out))
  have HPL := aM hpl
  clear hx hv hrow hB hpl hlt
  gi_wp2_with (gi_at_builtin; refine wpListIn_append_at _ rfl _ _ 23 rfl w.heap.size 33 i0 (.agg #[.int .i64 0, .int .i64 0]) 2 16 Try.underlying23 HI.out HZ.out HZ1.out HZ2.out rfl (by decide) v pre.length (flatR pre) rfl (HRW.out.alloc _) ⟨W.heap.size, 0, none⟩ 1 1 [.int .i64 x.f0, .int .i64 x.f1] rfl rfl (by simpa using World.news_of_block (cs := #[.int .i64 x.f0, .int .i64 x.f1]) (t := 33) (fr := (0, 0)) (heap_alloc_new W (.cells #[.int .i64 x.f0, .int .i64 x.f1] 33))) (by simp [Value.oneCell']) (by have := HPL.out; unfold maxLen; omega) (by have := HPL.out; omega) (by have := HB.out.size; simp; omega) ?_; intro v' w1 hown' hgrow hat; obtain ⟨g', cap', rfl⟩ := ownsRow_succ hown'; obtain ⟨hv1, hv2, hr2, hk2, hb2⟩ := HV.out.appended (by decide) HRW.out HB.out.size (Nat.le_refl _) hown' hgrow; have hc1' := hv1.cell; have hf1 := hv1.frozen; have HG2 := aM hgrow; have HA2 := aM hat; have HV1 := aM hv1; have HV2 := aM hv2; have HR2 := aM hr2; have HK2 := aM hk2; have HB2 := aM hb2; clear hgrow hat hown' hv1 hv2 hr2 hk2 hb2)
  refine ⟨HK2.out.from _, KpB.appended HV.out HG2.out HA2.out HV1.out, ⟨⟨_, HV2.out, ?_, trivial⟩, HB.out.trans HB2.out⟩⟩
  rw [List.length_append, List.length_singleton, flatR_append]
  exact HR2.out
 case done =>
  rintro D ys W hD rfl ⟨⟨v, hv, hrow, _⟩, hB⟩ hK
  have hcv := hv.cell
  have HRW := aM hrow
  have HB := aM hB
  have HK := aM hK
  clear hv hrow hB hK
  gi_wp2
  refine ⟨by simp, .inl ⟨_, _, rfl, run_takeDeferred HK.out, ?_⟩⟩
  exact ⟨_, results_tmp rfl _ _ _, v, rfl, R_own_iff.2 ⟨fun _ _ => trivial, ownsRow_putObj HRW.out _ HK.out rfl⟩, HB.out.trans (belowK_b (w := w) (Nat.le_refl _) W D _ _ (by omega) HK.out rfl rfl)⟩
 case stop =>
  rintro D c pre W _ _ h _
  exact h.elim
set_option maxHeartbeats 1000000 in
theorem collect_calls (Bn : Nat) (A0 : Option Addr) (c0 : Nat) (xs : List Rg) (w : World)
  (hBn : w.cell? ⟨Bn, 0, none⟩ = some (.slice A0 xs.length c0)) (hR : Kd.C kRg w A0 xs.length xs) (hc : xs.length ≤ c0) (hbig : xs.length < 1000000000) :
  Calls Try.prog 68 #[.func (.func 88) #[] #[.pointer (some ⟨Bn, 0, none⟩)]] w fun e W' =>
   ∃ v, e = .returned v ∧ Kd.R kRg 33 W' w.heap.size (fun _ => True) v (mkR xs) ∧ Below w.heap.size w W' := by
 have HS := aM (callsIn_wide.1 (append_seq 3 (by omega) Bn A0 c0 xs w hBn hR hc hbig))
 clear hBn hR hc hbig
 go_enter Try.func68, Try.ntmps68
 go_wp2_with (go_at_call 87; refine HS.out.mono ?_; rintro e w1 ⟨v, rfl, ho, hb⟩; have HO := aM ho; have HB := aM hb; clear ho hb)
 go_ret
 exact ⟨v, rfl, HO.out, HB.out⟩
/-- Whether the ranges of a canonical list hold c, as the closure of finder answers it. -/
def findR (ys : List Rg) (c : Int) : Bool :=
 let n := (List.range ys.length).countP (fun i : Nat => !decide (c ≤ (rd_T33 ys (i : Int)).f1))
 decide (n < ys.length) && decide ((rd_T33 ys n).f0 ≤ c)
set_option maxHeartbeats 2000000 in
theorem finder11_calls (bl bc : Nat) (A : Option Addr) (cap : Nat) (ys : List Rg) (c : Int) (i : Nat) (W : World) (hi : i < ys.length)
  (ha : W.cell? ⟨bl, 0, none⟩ = some (.slice A ys.length cap)) (hx : W.cell? ⟨bc, 0, none⟩ = some (.int .i64 c)) (hc : Kd.C kRg W A ys.length ys) :
  Calls Try.prog 72 (#[.int .i64 i] ++ #[.pointer (some ⟨bl, 0, none⟩), .pointer (some ⟨bc, 0, none⟩)]) W fun e w' => e = .returned (.bool (decide (c ≤ (rd_T33 ys i).f1))) ∧ ∃ q, w' = W.drewN q := by
 obtain ⟨ad, e, h0, h1⟩ := at_T33 hc (i : Int) (by omega) (by omega)
 subst e
 rw [Int.toNat_natCast] at h0 h1
 generalize rd_T33 ys i = y at h0 h1 ⊢
 clear hc
 have hiz : (i : Int) < (ys.length : Int) := by omega
 generalize ys.length = n at *
 go_enter Try.func72, Try.ntmps72
 go_wp2
 go_region
 all_goals go_wp2
 all_goals go_ret
 all_goals exact ⟨by first | rfl | simp, 1, rfl⟩
set_option maxHeartbeats 4000000 in
set_option maxRecDepth 100000 in
theorem finder1_calls (bl : Nat) (A : Option Addr) (cap : Nat) (ys : List Rg) (c : Int) (w : World) (hsz : ys.length < 1000000000)
  (ha : w.cell? ⟨bl, 0, none⟩ = some (.slice A ys.length cap)) (hC : Kd.C kRg w A ys.length ys)
  (hmono : ∀ a b : Nat, a ≤ b → b < ys.length → c ≤ (rd_T33 ys (a : Int)).f1 → c ≤ (rd_T33 ys (b : Int)).f1) :
  Calls Try.prog 70 #[.int .i64 c, .pointer (some ⟨bl, 0, none⟩)] w fun e w' => e = .returned (.bool (findR ys c)) ∧ Below w.heap.size w w' := by
 have hbl : bl < w.heap.size := World.block_lt_of_cell? w _ ha
 obtain ⟨W0, hW0⟩ : ∃ W0, W0 = w.alloc (.cells #[.int .i64 c] 3) := ⟨_, rfl⟩
 have hsize : W0.heap.size = w.heap.size + 1 := by rw [hW0]; simp
 have hB0 : Below w.heap.size w W0 := by rw [hW0]; exact (Below.refl _ w).alloc (Nat.le_refl _) _
 have ca : W0.cell? ⟨bl, 0, none⟩ = some (.slice A ys.length cap) := by rw [hW0]; exact cell_alloc_sl _ ha
 have cx : W0.cell? ⟨w.heap.size, 0, none⟩ = some (.int .i64 c) := by rw [hW0]; exact cell_new_sl w _ _
 have cc : Kd.C kRg W0 A ys.length ys := Kd.C_below hC hB0
 have eg : ∀ args w, (callFunc 72 args).run Try.prog w = .ok (.enter 72 args) w := enters_of Try.func72 (by kernel_rfl) rfl
 have hS := Any.sort_Search Try.search 72 #[.pointer (some ⟨bl, 0, none⟩), .pointer (some ⟨w.heap.size, 0, none⟩)] ys.length (fun i => decide (c ≤ (rd_T33 ys (i : Int)).f1)) W0 eg (by omega)
  (fun m os i hi => (finder11_calls bl w.heap.size A cap ys c i _ hi ((below_grown_sl W0.heap.size W0 m os (Nat.le_refl _)).cell (p := ⟨bl, 0, none⟩) (show bl < W0.heap.size by omega) |>.trans ca) ((below_grown_sl W0.heap.size W0 m os (Nat.le_refl _)).cell (p := ⟨w.heap.size, 0, none⟩) (show w.heap.size < W0.heap.size by omega) |>.trans cx) (Kd.C_below cc (below_grown_sl W0.heap.size W0 m os (Nat.le_refl _)))).mono
   fun _ _ ⟨he, q, hq⟩ => ⟨he, q, #[], by rw [hq, Go.Sort.grow_empty]⟩) (fun a b hab hb h => dT (hmono a b hab hb (oD h)))
 change Calls Try.prog 71 _ _ _ at hS
 unfold findR
 have hle : (List.range ys.length).countP (fun i : Nat => !decide (c ≤ (rd_T33 ys (i : Int)).f1)) ≤ ys.length := by
  have := List.countP_le_length (p := fun i : Nat => !decide (c ≤ (rd_T33 ys (i : Int)).f1)) (l := List.range ys.length)
  simpa using this
 generalize (List.range ys.length).countP (fun i : Nat => !decide (c ≤ (rd_T33 ys (i : Int)).f1)) = r at hS hle ⊢
 generalize hres : (decide (r < ys.length) && decide ((rd_T33 ys (r : Int)).f0 ≤ c)) = res
 have HRES := aM hres
 clear hres
 have HS := aM hS
 have HC := aM cc
 have HCA := aM ca
 have HCX := aM cx
 have HB0 := aM hB0
 clear hS hC ca cx cc eg hmono hB0
 go_enter Try.func70, Try.ntmps70
 go_wp2_with (go_at_call 71; rw [← hW0]; refine HS.out.mono ?_; rintro e w' ⟨rfl, q, os, rfl⟩; have HB1 := aM (below_grown_sl W0.heap.size W0 q os (Nat.le_refl _)); generalize Go.Sort.grow (W0.drewN q) os = W1 at HB1 ⊢)
 have ha1 : W1.cell? ⟨bl, 0, none⟩ = some (.slice A ys.length cap) := (HB1.out.cell (p := ⟨bl, 0, none⟩) (show bl < W0.heap.size by omega)).trans HCA.out
 have hx1 : W1.cell? ⟨w.heap.size, 0, none⟩ = some (.int .i64 c) := (HB1.out.cell (p := ⟨w.heap.size, 0, none⟩) (show w.heap.size < W0.heap.size by omega)).trans HCX.out
 have HC1 := aM (Kd.C_below HC.out HB1.out)
 have hBW : Aside0 (Below w.heap.size w W1) := ⟨bSp HB0.out HB1.out⟩
 clear HS ha HC HCA HCX hW0 HB0 HB1 hsize hbl
 by_cases hlt : r < ys.length
 ·obtain ⟨ad, e, h0, h1⟩ := at_T33 HC1.out (r : Int) (by omega) (by omega)
  subst e
  rw [Int.toNat_natCast] at h0 h1
  have hd : res = decide ((rd_T33 ys (r : Int)).f0 ≤ c) := by rw [← HRES.out, dT hlt, Bool.true_and]
  clear HRES
  generalize rd_T33 ys (r : Int) = y at h0 h1 hd
  have hiz : (r : Int) < (ys.length : Int) := by omega
  have HF := aM hd
  clear HC1 hd hle
  generalize ys.length = n at *
  go_region
  all_goals go_wp2
  all_goals go_ret
  all_goals exact ⟨by rw [HF.out]; rfl, pbN hBW.out _⟩
 ·have hd : res = false := by rw [← HRES.out, decide_eq_false hlt, Bool.false_and]
  clear HRES
  have hiz : ¬ (r : Int) < (ys.length : Int) := by omega
  have HF := aM hd
  clear hd hle
  generalize ys.length = n at *
  go_region
  all_goals go_wp2
  all_goals go_ret
  all_goals exact ⟨by rw [HF.out]; rfl, pbN hBW.out _⟩
set_option maxHeartbeats 2000000 in
set_option maxRecDepth 100000 in
theorem finder_calls (A0 : Option Addr) (c0 : Nat) (xs : List Rg) (w : World) (hR : Kd.C kRg w A0 xs.length xs) (hc : xs.length ≤ c0) (hbig : xs.length < 1000000000) :
  Calls Try.prog 55 #[.agg #[.slice A0 xs.length c0]] w fun e w' => ∃ (b : Nat) (A1 : Option Addr) (c1 : Nat), e = .returned (.func (.func 70) #[] #[.pointer (some ⟨b, 0, none⟩)]) ∧
   w.heap.size ≤ b ∧ w'.cell? ⟨b, 0, none⟩ = some (.slice A1 (mkR xs).length c1) ∧ (mkR xs).length ≤ c1 ∧ Kd.C kRg w' A1 (mkR xs).length (mkR xs) ∧ Below w.heap.size w w' := by
 have HR := aM hR
 have HC := aM hc
 have HG := aM hbig
 have HN : Aside0 (((w.alloc (.cells #[.slice A0 xs.length c0] 25)).alloc (.cells #[.slice A0 xs.length c0] 25)).cell? ⟨w.heap.size + 1, 0, none⟩ = some (.slice A0 xs.length c0)) := ⟨by have := cell_new_sl (w.alloc (.cells #[.slice A0 xs.length c0] 25)) (.slice A0 xs.length c0) 25; rwa [World.size_alloc] at this⟩
 have HRR := aM (Kd.C_alloc (Kd.C_alloc hR (.cells #[.slice A0 xs.length c0] 25)) (.cells #[.slice A0 xs.length c0] 25))
 clear hR hc hbig
 go_enter Try.func55, Try.ntmps55
 go_wp2_with (first | (go_at_call 69; refine (ranges_calls _ _).mono ?_; rintro e W1 ⟨rfl, rfl⟩) | (go_at_call 68; refine (collect_calls (w.heap.size + 1) A0 c0 xs _ HN.out HRR.out HC.out HG.out).mono ?_; rintro e W1 ⟨v, rfl, ho, hb⟩; have HO := aM ho; have HB := aM hb; obtain ⟨A1, c1, ev⟩ := Kd.R_slice ho; subst ev; clear ho hb))
 go_ret
 have hB1 : Below w.heap.size w W1 := by
  have h0 : Below w.heap.size w ((w.alloc (.cells #[.slice A0 xs.length c0] 25)).alloc (.cells #[.slice A0 xs.length c0] 25)) := ((Below.refl _ w).alloc (Nat.le_refl _) _).alloc (by simp) _
  exact bSp h0 HB.out
 refine ⟨_, A1, c1, rfl, hB1.size, ?_, (Kd.R_reads' HO.out).2.1, Kd.C_alloc (Kd.R_reads' HO.out).2.2 _, hB1.alloc hB1.size _⟩
 exact cell_new_sl _ _ _
theorem countP_rangeL {α : Type} (z : α) (f : α → Bool) : ∀ ys : List α, (List.range ys.length).countP (fun i : Nat => f (ys.getD i z)) = ys.countP f
 | [] => rfl
 | y :: ys => by
  rw [List.length_cons, List.range_succ_eq_map, List.countP_cons, List.countP_cons, List.countP_map]
  have := countP_rangeL z f ys
  simp only [Function.comp_def, List.getD_cons_succ, List.getD_cons_zero] at this ⊢
  rw [this]
theorem canon_none (c : Int) : ∀ (ys : List Rg) (b : Int), CpM.CanonFrom b (ys.map toP) → c < b → ys.countP (fun r => !decide (c ≤ r.f1)) = 0
 | [], b, _, _ => rfl
 | r :: ys, b, ⟨h1, h2, h3, h4⟩, h => by
  have h1' : b ≤ r.f0 := h1
  have h2' : r.f0 ≤ r.f1 := h2
  rw [List.countP_cons, canon_none c ys _ h4 (show c < r.f1 + 2 by omega), dT (show c ≤ r.f1 by omega)]
  rfl
theorem find_mem (c : Int) : ∀ (ys : List Rg) (b : Int), CpM.CanonFrom b (ys.map toP) →
  ((ys.countP (fun r => !decide (c ≤ r.f1)) < ys.length ∧ (ys.getD (ys.countP (fun r => !decide (c ≤ r.f1))) z33).f0 ≤ c) ↔ CpM.mem (ys.map toP) c)
 | [], b, _ => by simp [CpM.mem_nil]
 | r :: ys, b, ⟨h1, h2, h3, h4⟩ => by
  have h1' : b ≤ r.f0 := h1
  have h2' : r.f0 ≤ r.f1 := h2
  rw [List.map_cons, CpM.mem_cons, List.countP_cons]
  by_cases hc : c ≤ r.f1
  ·rw [canon_none c ys _ h4 (show c < r.f1 + 2 by omega), dT hc]
   constructor
   ·rintro ⟨_, h⟩
    exact .inl ⟨h, hc⟩
   ·rintro (⟨h, _⟩ | h)
    ·exact ⟨by simp, h⟩
    ·have h5 : r.f1 + 2 ≤ c := CpM.CanonFrom.ge h4 h
     omega
  ·rw [decide_eq_false hc, ← find_mem c ys _ h4]
   simp only [Bool.not_false, if_true, List.length_cons, List.getD_cons_succ]
   constructor
   ·rintro ⟨h5, h6⟩
    exact .inr ⟨by omega, h6⟩
   ·rintro (⟨_, h5⟩ | ⟨h5, h6⟩)
    ·exact absurd h5 hc
    ·exact ⟨by omega, h6⟩
theorem mkR_canon (xs : List Rg) : CpM.CanonFrom 0 ((mkR xs).map toP) := by unfold mkR; rw [toP_ofP]; exact CpM.make_canon _
theorem findR_mk (xs : List Rg) (c : Int) : findR (mkR xs) c = CpM.hasB (xs.map toP) c := by
 have hn : (List.range (mkR xs).length).countP (fun i : Nat => !decide (c ≤ (rd_T33 (mkR xs) (i : Int)).f1)) = (mkR xs).countP (fun r => !decide (c ≤ r.f1)) :=
  countP_rangeL z33 (fun r : Rg => !decide (c ≤ r.f1)) (mkR xs)
 unfold findR
 simp only [hn]
 rw [Bool.eq_iff_iff, CpM.hasB_iff, ← CpM.make_mem, Bool.and_eq_true, decide_eq_true_eq, decide_eq_true_eq]
 have := find_mem c (mkR xs) 0 (mkR_canon xs)
 rw [show (mkR xs).map toP = CpM.make (xs.map toP) from toP_ofP _] at this
 exact this
theorem mkR_mono (xs : List Rg) (c : Int) (a b : Nat) (hab : a ≤ b) (hb : b < (mkR xs).length) (h : c ≤ (rd_T33 (mkR xs) (a : Int)).f1) : c ≤ (rd_T33 (mkR xs) (b : Int)).f1 := by
 suffices H : ∀ (ys : List Rg) (z : Int), CpM.CanonFrom z (ys.map toP) → ∀ a b : Nat, a ≤ b → b < ys.length → (ys.getD a z33).f1 ≤ (ys.getD b z33).f1 ∧ z ≤ (ys.getD b z33).f1 by
  exact Int.le_trans h (H (mkR xs) 0 (mkR_canon xs) a b hab hb).1
 intro ys
 induction ys with
 | nil => intro z _ a b _ h; simp at h
 | cons r ys ih =>
  rintro z ⟨h1, h2, h3, h4⟩ a b hab hb
  have h1' : z ≤ r.f0 := h1
  have h2' : r.f0 ≤ r.f1 := h2
  cases b with
  | zero => cases a with
   | zero => exact ⟨Int.le_refl _, show z ≤ r.f1 by omega⟩
   | succ a => omega
  | succ b =>
   have hb' : b < ys.length := by simpa using hb
   cases a with
   | zero =>
    have h5 : r.f1 + 2 ≤ (ys.getD b z33).f1 := (ih _ h4 b b (Nat.le_refl _) hb').2
    rw [List.getD_cons_succ, List.getD_cons_zero]
    exact ⟨by omega, by omega⟩
   | succ a =>
    have h5 := ih _ h4 a b (by omega) hb'
    have h6 : r.f1 + 2 ≤ (ys.getD b z33).f1 := h5.2
    rw [List.getD_cons_succ, List.getD_cons_succ]
    exact ⟨h5.1, by omega⟩
def cpset_Has.f (l0_0 : List S33) (a1 : Int) : Option Bool := if l0_0.length < 1000000000 then some (CpM.hasB (l0_0.map toP) a1) else none
set_option maxHeartbeats 2000000 in
theorem cpset_Has.calls (A0_0 : Option Addr) (c0_0 : Nat) (l0_0 : List S33) (a1 : Int) (r : Bool) (w : World) (hr0_0 : Kd.C k33 w A0_0 l0_0.length l0_0) (hc0_0 : l0_0.length ≤ c0_0) (h : cpset_Has.f l0_0 a1 = some r) :
  Calls Try.prog 32 #[.agg #[.slice A0_0 l0_0.length c0_0], .int .i64 a1] w fun e w' => e = .returned (.bool r) ∧ Below w.heap.size w w' := by
 unfold cpset_Has.f at h
 split at h
 ·rename_i hlt
  injection h with h
  rw [← findR_mk] at h
  subst h
  have HL := aM hlt
  have HR := aM hr0_0
  have HC := aM hc0_0
  have eg : ∀ args w, (callFunc 70 args).run Try.prog w = .ok (.enter 70 args) w := enters_of Try.func70 (by kernel_rfl) rfl
  clear hlt hr0_0 hc0_0
  generalize hf : findR (mkR l0_0) a1 = res
  have HF := aM hf
  clear hf
  go_enter Try.func32, Try.ntmps32
  go_wp2_with (first | (go_at_call 55; refine (finder_calls A0_0 c0_0 l0_0 _ (Kd.C_alloc HR.out _) HC.out HL.out).mono ?_; rintro e W1 ⟨b, A1, c1, rfl, hb, hcell, hc1, hC1, hB⟩; have HB := aM hB; have HCL := aM hcell; have HC1 := aM hC1; clear hb hcell hc1 hC1 hB) | (go_at_fn 70; go_loud (refine (finder1_calls _ A1 c1 (mkR l0_0) a1 _ (Nat.lt_of_le_of_lt (mkR_length l0_0) HL.out) HCL.out HC1.out (mkR_mono l0_0 a1)).mono ?_); rintro e W2 ⟨rfl, hB2⟩; have HB2 := aM hB2; clear hB2))
  go_ret
  exact ⟨by rw [← HF.out]; rfl, bSp (bSp ((Below.refl _ w).alloc (Nat.le_refl _) _) HB.out) HB2.out⟩
 ·cases h
end Go.Proofs.Ythnkmcfhpjmihaa.Q
end
section
namespace Go.Proofs.Ythnkmcfhpjmihaa.Q
open Go.RowKit Go.Proofs.YthnkmcfhpjmihaaW.PrintWords Go.Proofs.YthnkmcfhpjmihaaW.PrintLast Go.Proofs.YthnkmcfhpjmihaaW.PrintMore
set_option linter.unusedVariables false
abbrev Mp := S43
abbrev Rg3 := S33
def codeB (c : Int) : Bool := decide (0 ≤ c) && decide (c ≤ 1114111)
def codesB (l : List Int) : Bool := l.all codeB
def nbyte (b : Int) : Bool := decide (65 ≤ b ∧ b ≤ 90) || decide (97 ≤ b ∧ b ≤ 122) || decide (48 ≤ b ∧ b ≤ 57) || decide (b = 95)
def nameB (s : ByteArray) : Bool := decide (1 ≤ s.size) && decide (s.size ≤ 32) && s.data.toList.all fun b => nbyte (b.toNat : Int)
def sameK (a b : Mp) : Bool := decide (a.f0 = b.f0) && decide (a.f2 = b.f2)
def beforeM (a b : Mp) : Bool := decide (a.f0 < b.f0) || (decide (a.f0 = b.f0) && Op.bytesLess a.f2.toList b.f2.toList)
def twiceM : List Mp → Bool
 | [] => false
 | x :: l => l.any (fun y => sameK x y) || twiceM l
def sortedM : List Mp → Bool
 | [] => true
 | [_] => true
 | x :: y :: l => beforeM x y && sortedM (y :: l)
def uncheckM (l : List Mp) : Int :=
 if l.all (fun x => codeB x.f0 && codesB x.f1) then
  if l.all (fun x => decide (x.f1.length ≤ 64)) then
   if l.all (fun x => decide (x.f2.size = 0) || nameB x.f2) then
    if twiceM l then 5 else 0
   else 6
  else 2
 else 1
def checkM (l : List Mp) : Int := if uncheckM l = 0 then (if sortedM l then 0 else 4) else uncheckM l
def findM (l : List Mp) (c : Int) (t : ByteArray) : Option (List Int) := (l.find? (fun x => decide (x.f0 = c) && decide (x.f2 = t))).map (·.f1)
def getM (l : List Mp) (c : Int) (t : ByteArray) : Option (List Int) := if checkM l = 0 then findM l c t else none
def getP (l : List Mp) (c : Int) (t : ByteArray) : List Int × Bool := match getM l c t with | some x => (x, true) | none => ([], false)
/-- What is asked of the sizes. -/
def okM (l : List Mp) : Bool := decide (l.length < 100000) && l.all fun x => decide (x.f1.length < 100000) && decide (x.f2.size < 100000)
def hasL (l : List Rg) (c : Int) : Bool := CpM.hasB (l.map toP) c
def validL (l : List Rg) : Bool := decide (l.map toP = CpM.make (l.map toP))
structure CaseS where
 lo : List Mp
 up : List Mp
 ti : List Mp
 fo : List Mp
 ca : List Rg
 ig : List Rg
def tagF : ByteArray := ⟨#[102, 105, 110, 97, 108]⟩
def tagE : ByteArray := ⟨#[]⟩
def badTag (i0 : Bool) (x : Mp) : Bool := decide (x.f2.size ≠ 0) && (!i0 || decide (x.f2 ≠ tagF))
def badsS (c : CaseS) : Bool := c.lo.any (badTag true) || c.up.any (badTag false) || c.ti.any (badTag false) || c.fo.any (badTag false)
def firstE : List (List Mp) → Int
 | [] => 0
 | l :: ls => if checkM l = 0 then firstE ls else checkM l
def caseChk (c : CaseS) : Int :=
 if firstE [c.lo, c.up, c.ti, c.fo] = 0 then (if badsS c then 6 else if validL c.ca && validL c.ig then 0 else 11) else firstE [c.lo, c.up, c.ti, c.fo]
def caseData (c : CaseS) : CaseS := if caseChk c = 0 then c else ⟨[], [], [], [], [], []⟩
def mapdS (l : List Mp) (x : Int) : List Int := (getM l x tagE).getD [x]
def nearL (c : CaseS) : List Int → Bool
 | [] => false
 | x :: l => if hasL c.ig x then nearL c l else hasL c.ca x
def finalS (c : CaseS) (text : List Int) (i : Nat) : Bool := nearL c (text.take i).reverse && !nearL c (text.drop (i + 1))
def finalI (c : CaseS) (text : List Int) (i : Int) : Bool := decide (0 ≤ i) && decide (i < (text.length : Int)) && finalS c text i.toNat
def lowerS (c : CaseS) (text : List Int) (i : Nat) : List Int :=
 match getM c.lo (text.getD i 0) tagF with
 | some xs => if finalS c text i then xs else mapdS c.lo (text.getD i 0)
 | none => mapdS c.lo (text.getD i 0)
def lowerA (c : CaseS) (text : List Int) : Nat → List Int
 | 0 => []
 | n + 1 => lowerA c text n ++ lowerS c text n
def upperA (c : CaseS) (text : List Int) : Nat → List Int
 | 0 => []
 | n + 1 => upperA c text n ++ mapdS c.up (text.getD n 0)
def LowerS (c : CaseS) (text : List Int) : List Int := lowerA (caseData c) text text.length
def UpperS (c : CaseS) (text : List Int) : List Int := upperA (caseData c) text text.length
def withinS : List Rg → Int → Nat → Bool
 | [], _, _ => true
 | p :: l, at', n => decide (at' ≤ p.f0) && decide (p.f0 ≤ p.f1) && decide (p.f1 ≤ (n : Int)) && withinS l p.f1 n
/-- The elements from i on, m of them, of a part whose first cased element was found or not. -/
def titledS (c : CaseS) (text : List Int) : Nat → Nat → Bool → List Int
 | 0, _, _ => []
 | m + 1, i, found => if found then lowerS c text i ++ titledS c text m (i + 1) true
  else if hasL c.ca (text.getD i 0) then mapdS c.ti (text.getD i 0) ++ titledS c text m (i + 1) true
  else text.getD i 0 :: titledS c text m (i + 1) false
def titleA (c : CaseS) (text : List Int) : List Rg → Nat → List Int
 | [], a => text.drop a
 | p :: l, a => (text.take p.f0.toNat).drop a ++ titledS c text (p.f1.toNat - p.f0.toNat) p.f0.toNat false ++ titleA c text l p.f1.toNat
def TitleS (c : CaseS) (text : List Int) (parts : List Rg) : List Int := if withinS parts 0 text.length then titleA (caseData c) text parts 0 else text
def onlyS (l : List Int) (x : Int) : Int := if l.length = 1 then l.getD 0 0 else x
def SimpleS (c : CaseS) (x : Int) : Int × Int × Int := (onlyS (mapdS (caseData c).lo x) x, onlyS (mapdS (caseData c).up x) x, onlyS (mapdS (caseData c).ti x) x)
def okC (c : CaseS) : Bool := okM c.lo && okM c.up && okM c.ti && okM c.fo && decide (c.ca.length < 1000000) && decide (c.ig.length < 1000000)
def okT (l : List Int) : Bool := decide (l.length < 100000)
def casemap_Check.f (l0 l1 l2 l3 : List Mp) (l4 l5 : List Rg) : Option Int := if okC ⟨l0, l1, l2, l3, l4, l5⟩ = true then some (caseChk ⟨l0, l1, l2, l3, l4, l5⟩) else none
def casemap_Final.f (l0 l1 l2 l3 : List Mp) (l4 l5 : List Rg) (t : List Int) (i : Int) : Option Bool := if okC ⟨l0, l1, l2, l3, l4, l5⟩ = true ∧ okT t = true then some (finalI (caseData ⟨l0, l1, l2, l3, l4, l5⟩) t i) else none
def casemap_Lower.f (l0 l1 l2 l3 : List Mp) (l4 l5 : List Rg) (t : List Int) : Option (List Int) := if okC ⟨l0, l1, l2, l3, l4, l5⟩ = true ∧ okT t = true then some (LowerS ⟨l0, l1, l2, l3, l4, l5⟩ t) else none
def casemap_Upper.f (l0 l1 l2 l3 : List Mp) (l4 l5 : List Rg) (t : List Int) : Option (List Int) := if okC ⟨l0, l1, l2, l3, l4, l5⟩ = true ∧ okT t = true then some (UpperS ⟨l0, l1, l2, l3, l4, l5⟩ t) else none
def casemap_Title.f (l0 l1 l2 l3 : List Mp) (l4 l5 : List Rg) (t : List Int) (ps : List Rg) : Option (List Int) := if okC ⟨l0, l1, l2, l3, l4, l5⟩ = true ∧ okT t = true ∧ ps.length < 100000 then some (TitleS ⟨l0, l1, l2, l3, l4, l5⟩ t ps) else none
def casemap_Simple.f (l0 l1 l2 l3 : List Mp) (l4 l5 : List Rg) (x : Int) : Option (Int × Int × Int) := if okC ⟨l0, l1, l2, l3, l4, l5⟩ = true then some (SimpleS ⟨l0, l1, l2, l3, l4, l5⟩ x) else none
end Go.Proofs.Ythnkmcfhpjmihaa.Q
end
section
namespace Go.Proofs.Ythnkmcfhpjmihaa.Q
open Go.RowKit Go.Proofs.YthnkmcfhpjmihaaW.PrintWords Go.Proofs.YthnkmcfhpjmihaaW.PrintLast Go.Proofs.YthnkmcfhpjmihaaW.PrintMore
attribute [local go_sem] max2_int min2_int max_two min_two max_three min_three max_four min_four
set_option linter.unusedVariables false
set_option linter.unusedSimpArgs false
theorem eqA33 (d : Nat) (w : World) (x0 y0 : Int) (x1 y1 : Int) :
  (Op.equalIn (d + 2) 33 (.agg #[.int .i64 x0, .int .i64 x1]) (.agg #[.int .i64 y0, .int .i64 y1])).run Try.prog w = .ok (x0 == y0 && (x1 == y1)) w := by
 refine eqA_of Try.underlying33 (by kernel_rfl) ?_
 refine eqf_cons (by rfl) (by go_simp; rfl) (by go_simp; rfl) (by go_simp) ?_
 exact eqf_last (by rfl) (by go_simp; rfl) (by go_simp; rfl) (by go_simp)
end Go.Proofs.Ythnkmcfhpjmihaa.Q
end
