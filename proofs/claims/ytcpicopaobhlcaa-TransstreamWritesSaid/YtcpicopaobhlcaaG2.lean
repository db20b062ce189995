/- Lemmas, printed and written for this claim: part 2. -/
import Derived.Test.YtcpicopaobhlcaaProg
import Derived.Below
import Derived.Deep.Draws
import Derived.Deep.AppendLies
import Derived.Maps.AppendAt
import Derived.OwnWalk
import Derived.Laws.BytesArg
import Derived.Laws.MakeOwn
import Derived.Laws.OwnMore
import Derived.Deep.OwnRows
import Derived.Tactics
import Derived.Lib.ConvBytes
import Derived.Laws.Slices
import Derived.WalkKit
import Derived.KernelRfl
import Derived.RowKit3
import Derived.Deep.LoopGhost
import Derived.Deep.QuietTactic
import Derived.BigQuiet
import Derived.WideLaws
import Derived.Deep.DeepCutAuto
import Derived.Deep.CutBlock
import Derived.Deep.RegionHeld3
import Derived.Laws.Rows
import Derived.Lib.AppendStr
import Derived.ArgAppend
import Derived.Laws.IdiomCopy
import Derived.OrdersHeld
import Derived.Laws.BitsLemmas
import Derived.RowKit
import Derived.Test.YtcpicopaobhlcaaG0
import Derived.Test.YtcpicopaobhlcaaG1
import Derived.WalkSpells
import Derived.Shelf.SlGeneric
import Derived.Ground.NamesProg
import Derived.Ground.SlgcProg
import Derived.Ground.SlsfProg
import Derived.Ground.SlsoProg
import Derived.Shelf.SlicesG.Cmp
import Derived.Shelf.SlSortCmp.WholeK
import Derived.Shelf.SlSortCmp.NoneTotal
import Derived.Shelf.SlSorted.Search
import Derived.Deep.RegionLaw
import Derived.IntWalk
import Derived.LaidEqlPtr
import Derived.Deep.Slices
import Derived.ChangeArms
section
namespace Go.Proofs.Ytcpicopaobhlcaa.Q
open Go.RowKit Go.Proofs.YtcpicopaobhlcaaW.PrintWords Go.Proofs.YtcpicopaobhlcaaW.PrintLast Go.Proofs.YtcpicopaobhlcaaW.PrintMore
attribute [local go_sem] max2_int min2_int max_two min_two max_three min_three max_four min_four   -- for this text's walks alone
set_option linter.unusedVariables false
set_option linter.unusedSimpArgs false
def errW : Option Int → Value
  | none => .nilIface
  | some c => .iface 0 (.int .i64 c)
theorem errW_none : errW none = .nilIface := rfl
theorem errW_some (c : Int) : errW (some c) = .iface 0 (.int .i64 c) := rfl
theorem info3 : (Try.prog.info? 3).map (fun i => (i.zero, i.size, i.bytes)) = some (some (.int .i64 0), 1, 8) := by kernel_rfl
theorem info69 : (Try.prog.info? 69).map (fun i => (i.zero, i.size, i.bytes)) = some (some (.agg #[(.int .i64 0), (.int .i64 0)]), 2, 16) := by kernel_rfl
-- the values' own types
structure S69 where
  f0 : Int
  f1 : Int
def z69 : S69 := ⟨(0 : Int), (0 : Int)⟩
def k69 : Kd S69 := Kd.iso (Kd.pair (Kd.int .i64) (Kd.int .i64)) (fun x : S69 => (x.f0, x.f1))
theorem k69_heap : Kd.Heap k69 := Kd.heap_iso _ (Kd.heap_pair (Kd.heap_int .i64) (Kd.heap_int .i64))
theorem k69_open {w : World} {x : S69} {cs : List Value} (h : k69.K w x cs) : cs = [.int .i64 x.f0, .int .i64 x.f1] := by
  obtain ⟨_, _, rfl, rfl, rfl⟩ := h
  exact rfl
theorem k69_openM {w : World} {base : Nat} {ok : Nat → Prop} {x : S69} {cs : List Value} (h : k69.M w base ok x cs) : cs = [.int .i64 x.f0, .int .i64 x.f1] := by
  obtain ⟨_, _, rfl, rfl, rfl⟩ := h
  exact rfl
theorem k69_mk (w : World) (x : S69)  : k69.K w x [.int .i64 x.f0, .int .i64 x.f1] := ⟨[.int .i64 x.f0], [.int .i64 x.f1], rfl, rfl, rfl⟩
theorem k69_mkM (w : World) (base : Nat) (ok : Nat → Prop) (x : S69)  : k69.M w base ok x [.int .i64 x.f0, .int .i64 x.f1] := ⟨[.int .i64 x.f0], [.int .i64 x.f1], rfl, rfl, rfl⟩
def rd_T69 (xs : List S69) (i : Int) : S69 := xs.getD i.toNat z69
theorem at_T69 {w : World} {A : Option Addr} {n : Nat} {xs : List S69} (h : Kd.C k69 w A n xs) (i : Int) (h0 : 0 ≤ i) (h1 : i < n) : ∃ ad , A = some ad ∧ w.cell? (ad.add (i.toNat * 2)) = some (.int .i64 (rd_T69 xs i).f0) ∧ w.cell? ⟨(ad.add (i.toNat * 2)).block, (ad.add (i.toNat * 2)).off + 1, none⟩ = some (.int .i64 (rd_T69 xs i).f1) := by
  obtain ⟨ad, c, e, _, hK, hc0⟩ := Kd.C_get h z69 i h0 h1
  have hc : ∀ j u, c[j]? = some u → w.cell? (ad.add (i.toNat * 2 + j)) = some u := hc0
  obtain rfl := k69_open hK
  exact ⟨ad, e, hc 0 _ rfl, by rw [← add_field _ _ 1 (by omega)]; exact hc 1 _ rfl⟩
def rd_L2 (xs : List (List S69)) (i : Int) : (List S69) := xs.getD i.toNat ([] : List S69)
structure S45 where
  f0 : (List S69)
def z45 : S45 := ⟨([] : List S69)⟩
def k45 : Kd S45 := Kd.iso (Kd.slice 69 k69) (fun x : S45 => x.f0)
theorem k45_heap : Kd.Heap k45 := Kd.heap_iso _ (Kd.heap_slice 69 k69_heap)
theorem k45_open {w : World} {x : S45} {cs : List Value} (h : k45.K w x cs) : ∃ A0 c0, cs = [.slice A0 x.f0.length c0] ∧ x.f0.length ≤ c0 ∧ k69.C w A0 x.f0.length x.f0 := by
  obtain ⟨A0, c0, rfl, l0, g0⟩ := h
  exact ⟨A0, c0, rfl, l0, g0⟩
theorem k45_mk (w : World) (x : S45) {A0 : Option Addr} {c0 : Nat} (l0 : x.f0.length ≤ c0) (g0 : k69.C w A0 x.f0.length x.f0) : k45.K w x [.slice A0 x.f0.length c0] := ⟨A0, c0, rfl, l0, g0⟩
theorem k45_mkM (w : World) (base : Nat) (ok : Nat → Prop) (x : S45) {v0 : Value} (g0 : k69.R 69 w base ok v0 x.f0) : k45.M w base ok x [v0] := ⟨v0, rfl, g0⟩
def rd_T45 (xs : List S45) (i : Int) : S45 := xs.getD i.toNat z45
theorem at_T45 {w : World} {A : Option Addr} {n : Nat} {xs : List S45} (h : Kd.C k45 w A n xs) (i : Int) (h0 : 0 ≤ i) (h1 : i < n) : ∃ ad A0 c0, A = some ad ∧ w.cell? (ad.add i.toNat) = some (.slice A0 (rd_T45 xs i).f0.length c0) ∧ (rd_T45 xs i).f0.length ≤ c0 ∧ k69.C w A0 (rd_T45 xs i).f0.length (rd_T45 xs i).f0 := by
  obtain ⟨ad, c, e, _, hK, hc0⟩ := Kd.C_get h z45 i h0 h1
  have hc : ∀ j u, c[j]? = some u → w.cell? (ad.add (i.toNat * 1 + j)) = some u := hc0
  obtain ⟨A0, c0, rfl, l0, g0⟩ := k45_open hK
  exact ⟨ad, A0, c0, e, by have hq := hc 0 _ rfl; rwa [Nat.mul_one, Nat.add_zero] at hq, l0, g0⟩
def rd_L4 (xs : List (List S45)) (i : Int) : (List S45) := xs.getD i.toNat ([] : List S45)
structure S59 where
  f0 : Int
  f1 : Int
def z59 : S59 := ⟨(0 : Int), (0 : Int)⟩
def k59 : Kd S59 := Kd.iso (Kd.pair (Kd.int .i64) (Kd.int .i64)) (fun x : S59 => (x.f0, x.f1))
theorem k59_heap : Kd.Heap k59 := Kd.heap_iso _ (Kd.heap_pair (Kd.heap_int .i64) (Kd.heap_int .i64))
theorem k59_open {w : World} {x : S59} {cs : List Value} (h : k59.K w x cs) : cs = [.int .i64 x.f0, .int .i64 x.f1] := by
  obtain ⟨_, _, rfl, rfl, rfl⟩ := h
  exact rfl
theorem k59_mk (w : World) (x : S59)  : k59.K w x [.int .i64 x.f0, .int .i64 x.f1] := ⟨[.int .i64 x.f0], [.int .i64 x.f1], rfl, rfl, rfl⟩
theorem k59_mkM (w : World) (base : Nat) (ok : Nat → Prop) (x : S59)  : k59.M w base ok x [.int .i64 x.f0, .int .i64 x.f1] := ⟨[.int .i64 x.f0], [.int .i64 x.f1], rfl, rfl, rfl⟩
def rd_T59 (xs : List S59) (i : Int) : S59 := xs.getD i.toNat z59
theorem at_T59 {w : World} {A : Option Addr} {n : Nat} {xs : List S59} (h : Kd.C k59 w A n xs) (i : Int) (h0 : 0 ≤ i) (h1 : i < n) : ∃ ad , A = some ad ∧ w.cell? (ad.add (i.toNat * 2)) = some (.int .i64 (rd_T59 xs i).f0) ∧ w.cell? ⟨(ad.add (i.toNat * 2)).block, (ad.add (i.toNat * 2)).off + 1, none⟩ = some (.int .i64 (rd_T59 xs i).f1) := by
  obtain ⟨ad, c, e, _, hK, hc0⟩ := Kd.C_get h z59 i h0 h1
  have hc : ∀ j u, c[j]? = some u → w.cell? (ad.add (i.toNat * 2 + j)) = some u := hc0
  obtain rfl := k59_open hK
  exact ⟨ad, e, hc 0 _ rfl, by rw [← add_field _ _ 1 (by omega)]; exact hc 1 _ rfl⟩
def rd_L6 (xs : List (List S59)) (i : Int) : (List S59) := xs.getD i.toNat ([] : List S59)
structure S41 where
  f0 : (List S45)
  f1 : (List S45)
  f2 : (List S45)
  f3 : (List S59)
def z41 : S41 := ⟨([] : List S45), ([] : List S45), ([] : List S45), ([] : List S59)⟩
def k41 : Kd S41 := Kd.iso (Kd.pair (Kd.slice 45 k45) (Kd.pair (Kd.slice 45 k45) (Kd.pair (Kd.slice 45 k45) (Kd.slice 59 k59)))) (fun x : S41 => (x.f0, x.f1, x.f2, x.f3))
theorem k41_heap : Kd.Heap k41 := Kd.heap_iso _ (Kd.heap_pair (Kd.heap_slice 45 k45_heap) (Kd.heap_pair (Kd.heap_slice 45 k45_heap) (Kd.heap_pair (Kd.heap_slice 45 k45_heap) (Kd.heap_slice 59 k59_heap))))
theorem k41_open {w : World} {x : S41} {cs : List Value} (h : k41.K w x cs) : ∃ A0 c0 A1 c1 A2 c2 A3 c3, cs = [.slice A0 x.f0.length c0, .slice A1 x.f1.length c1, .slice A2 x.f2.length c2, .slice A3 x.f3.length c3] ∧ x.f0.length ≤ c0 ∧ k45.C w A0 x.f0.length x.f0 ∧ x.f1.length ≤ c1 ∧ k45.C w A1 x.f1.length x.f1 ∧ x.f2.length ≤ c2 ∧ k45.C w A2 x.f2.length x.f2 ∧ x.f3.length ≤ c3 ∧ k59.C w A3 x.f3.length x.f3 := by
  obtain ⟨_, _, rfl, ⟨A0, c0, rfl, l0, g0⟩, ⟨_, _, rfl, ⟨A1, c1, rfl, l1, g1⟩, ⟨_, _, rfl, ⟨A2, c2, rfl, l2, g2⟩, ⟨A3, c3, rfl, l3, g3⟩⟩⟩⟩ := h
  exact ⟨A0, c0, A1, c1, A2, c2, A3, c3, rfl, l0, g0, l1, g1, l2, g2, l3, g3⟩
theorem k41_mk (w : World) (x : S41) {A0 : Option Addr} {c0 : Nat} (l0 : x.f0.length ≤ c0) (g0 : k45.C w A0 x.f0.length x.f0) {A1 : Option Addr} {c1 : Nat} (l1 : x.f1.length ≤ c1) (g1 : k45.C w A1 x.f1.length x.f1) {A2 : Option Addr} {c2 : Nat} (l2 : x.f2.length ≤ c2) (g2 : k45.C w A2 x.f2.length x.f2) {A3 : Option Addr} {c3 : Nat} (l3 : x.f3.length ≤ c3) (g3 : k59.C w A3 x.f3.length x.f3) : k41.K w x [.slice A0 x.f0.length c0, .slice A1 x.f1.length c1, .slice A2 x.f2.length c2, .slice A3 x.f3.length c3] := ⟨[.slice A0 x.f0.length c0], [.slice A1 x.f1.length c1, .slice A2 x.f2.length c2, .slice A3 x.f3.length c3], rfl, ⟨A0, c0, rfl, l0, g0⟩, ⟨[.slice A1 x.f1.length c1], [.slice A2 x.f2.length c2, .slice A3 x.f3.length c3], rfl, ⟨A1, c1, rfl, l1, g1⟩, ⟨[.slice A2 x.f2.length c2], [.slice A3 x.f3.length c3], rfl, ⟨A2, c2, rfl, l2, g2⟩, ⟨A3, c3, rfl, l3, g3⟩⟩⟩⟩
theorem k41_mkM (w : World) (base : Nat) (ok : Nat → Prop) (x : S41) {v0 : Value} (g0 : k45.R 45 w base ok v0 x.f0) {v1 : Value} (g1 : k45.R 45 w base ok v1 x.f1) {v2 : Value} (g2 : k45.R 45 w base ok v2 x.f2) {v3 : Value} (g3 : k59.R 59 w base ok v3 x.f3) : k41.M w base ok x [v0, v1, v2, v3] := ⟨[v0], [v1, v2, v3], rfl, ⟨v0, rfl, g0⟩, ⟨[v1], [v2, v3], rfl, ⟨v1, rfl, g1⟩, ⟨[v2], [v3], rfl, ⟨v2, rfl, g2⟩, ⟨v3, rfl, g3⟩⟩⟩⟩
theorem k41_openF {W : World} {ok : Nat → Prop} {x : S41} {cs : List Value} (h : Kd.FK k41 W ok x cs) : ∃ A0 c0 A1 c1 A2 c2 A3 c3, cs = [.slice A0 x.f0.length c0, .slice A1 x.f1.length c1, .slice A2 x.f2.length c2, .slice A3 x.f3.length c3] ∧ x.f0.length ≤ c0 ∧ Kd.F k45 W ok A0 x.f0.length x.f0 ∧ x.f1.length ≤ c1 ∧ Kd.F k45 W ok A1 x.f1.length x.f1 ∧ x.f2.length ≤ c2 ∧ Kd.F k45 W ok A2 x.f2.length x.f2 ∧ x.f3.length ≤ c3 ∧ Kd.F k59 W ok A3 x.f3.length x.f3 := by
  obtain ⟨A0, c0, A1, c1, A2, c2, A3, c3, rfl, l0, _, l1, _, l2, _, l3, _⟩ := k41_open (Kd.FK_now h)
  exact ⟨A0, c0, A1, c1, A2, c2, A3, c3, rfl, l0, (fun W' hW => by obtain ⟨A0_, c0_, A1_, c1_, A2_, c2_, A3_, c3_, he, l0_, g0_, l1_, g1_, l2_, g2_, l3_, g3_⟩ := k41_open (h W' hW); injection (Option.some.inj (show some (Value.slice A0 x.f0.length c0) = some (Value.slice A0_ x.f0.length c0_) from congrArg (fun l => l[0]?) he)) with ha_ _ _; rw [ha_]; exact g0_), l1, (fun W' hW => by obtain ⟨A0_, c0_, A1_, c1_, A2_, c2_, A3_, c3_, he, l0_, g0_, l1_, g1_, l2_, g2_, l3_, g3_⟩ := k41_open (h W' hW); injection (Option.some.inj (show some (Value.slice A1 x.f1.length c1) = some (Value.slice A1_ x.f1.length c1_) from congrArg (fun l => l[1]?) he)) with ha_ _ _; rw [ha_]; exact g1_), l2, (fun W' hW => by obtain ⟨A0_, c0_, A1_, c1_, A2_, c2_, A3_, c3_, he, l0_, g0_, l1_, g1_, l2_, g2_, l3_, g3_⟩ := k41_open (h W' hW); injection (Option.some.inj (show some (Value.slice A2 x.f2.length c2) = some (Value.slice A2_ x.f2.length c2_) from congrArg (fun l => l[2]?) he)) with ha_ _ _; rw [ha_]; exact g2_), l3, (fun W' hW => by obtain ⟨A0_, c0_, A1_, c1_, A2_, c2_, A3_, c3_, he, l0_, g0_, l1_, g1_, l2_, g2_, l3_, g3_⟩ := k41_open (h W' hW); injection (Option.some.inj (show some (Value.slice A3 x.f3.length c3) = some (Value.slice A3_ x.f3.length c3_) from congrArg (fun l => l[3]?) he)) with ha_ _ _; rw [ha_]; exact g3_)⟩
def rd_T41 (xs : List S41) (i : Int) : S41 := xs.getD i.toNat z41
theorem at_T41 {w : World} {A : Option Addr} {n : Nat} {xs : List S41} (h : Kd.C k41 w A n xs) (i : Int) (h0 : 0 ≤ i) (h1 : i < n) : ∃ ad A0 c0 A1 c1 A2 c2 A3 c3, A = some ad ∧ w.cell? (ad.add (i.toNat * 4)) = some (.slice A0 (rd_T41 xs i).f0.length c0) ∧ w.cell? ⟨(ad.add (i.toNat * 4)).block, (ad.add (i.toNat * 4)).off + 1, none⟩ = some (.slice A1 (rd_T41 xs i).f1.length c1) ∧ w.cell? ⟨(ad.add (i.toNat * 4)).block, (ad.add (i.toNat * 4)).off + 2, none⟩ = some (.slice A2 (rd_T41 xs i).f2.length c2) ∧ w.cell? ⟨(ad.add (i.toNat * 4)).block, (ad.add (i.toNat * 4)).off + 3, none⟩ = some (.slice A3 (rd_T41 xs i).f3.length c3) ∧ (rd_T41 xs i).f0.length ≤ c0 ∧ k45.C w A0 (rd_T41 xs i).f0.length (rd_T41 xs i).f0 ∧ (rd_T41 xs i).f1.length ≤ c1 ∧ k45.C w A1 (rd_T41 xs i).f1.length (rd_T41 xs i).f1 ∧ (rd_T41 xs i).f2.length ≤ c2 ∧ k45.C w A2 (rd_T41 xs i).f2.length (rd_T41 xs i).f2 ∧ (rd_T41 xs i).f3.length ≤ c3 ∧ k59.C w A3 (rd_T41 xs i).f3.length (rd_T41 xs i).f3 := by
  obtain ⟨ad, c, e, _, hK, hc0⟩ := Kd.C_get h z41 i h0 h1
  have hc : ∀ j u, c[j]? = some u → w.cell? (ad.add (i.toNat * 4 + j)) = some u := hc0
  obtain ⟨A0, c0, A1, c1, A2, c2, A3, c3, rfl, l0, g0, l1, g1, l2, g2, l3, g3⟩ := k41_open hK
  exact ⟨ad, A0, c0, A1, c1, A2, c2, A3, c3, e, hc 0 _ rfl, by rw [← add_field _ _ 1 (by omega)]; exact hc 1 _ rfl, by rw [← add_field _ _ 2 (by omega)]; exact hc 2 _ rfl, by rw [← add_field _ _ 3 (by omega)]; exact hc 3 _ rfl, l0, g0, l1, g1, l2, g2, l3, g3⟩
def rd_L8 (xs : List (List S41)) (i : Int) : (List S41) := xs.getD i.toNat ([] : List S41)
def rd_L10 (xs : List (List Int)) (i : Int) : (List Int) := xs.getD i.toNat ([] : List Int)
theorem at_L10 {w : World} {A : Option Addr} {n : Nat} {xs : List (List Int)} (h : Kd.C (Kd.slice 3 (Kd.int .i64)) w A n xs) (i : Int) (h0 : 0 ≤ i) (h1 : i < n) : ∃ ad A0 c0, A = some ad ∧ w.cell? (ad.add i.toNat) = some (.slice A0 (rd_L10 xs i).length c0) ∧ (rd_L10 xs i).length ≤ c0 ∧ (Kd.int .i64).C w A0 (rd_L10 xs i).length (rd_L10 xs i) := by
  obtain ⟨ad, c, e, _, hK, hc0⟩ := Kd.C_get h ([] : List Int) i h0 h1
  have hc : ∀ j u, c[j]? = some u → w.cell? (ad.add (i.toNat * 1 + j)) = some u := hc0
  obtain ⟨A0, c0, rfl, l0, g0⟩ := hK
  exact ⟨ad, A0, c0, e, by have hq := hc 0 _ rfl; rwa [Nat.mul_one, Nat.add_zero] at hq, l0, g0⟩
end Go.Proofs.Ytcpicopaobhlcaa.Q
end
section
namespace Go.Proofs.Ytcpicopaobhlcaa.Q
open Go.RowKit Go.Proofs.YtcpicopaobhlcaaW.PrintWords Go.Proofs.YtcpicopaobhlcaaW.PrintLast Go.Proofs.YtcpicopaobhlcaaW.PrintMore
set_option linter.unusedVariables false
/-- An empty row just made. -/
theorem R_empty {α : Type} (d : Kd α) (e : Nat) (w : World) (base : Nat) (ok : Nat → Prop) (hb : base ≤ w.heap.size) (hok : ok w.heap.size) : d.R e (w.alloc (.cells #[] e)) base ok (.slice (some ⟨w.heap.size, 0, none⟩) 0 0) [] := by
  refine ⟨fun k hk => ?_, [], ?_, Reps.none _ _⟩
  · have : w.heap.size = k := by simpa [Value.ownBlock] using hk
    subst this; exact hok
  · exact ⟨by simp, .inr ⟨w.heap.size, 0, #[], rfl, hb, heap_alloc_new w _, Nat.le_refl _, by simp [maxLen], by simp, by simp⟩⟩
theorem C_nil_of_none {α : Type} {d : Kd α} {w : World} {n : Nat} {l : List α} (h : d.C w none n l) : l = [] := by
  rcases Nat.eq_zero_or_pos n with h0 | h0
  · exact List.eq_nil_of_length_eq_zero (h.1.trans h0)
  · obtain ⟨ad, e, _⟩ := h.2.2 h0; cases e
def slices_Clone_int_int.f (l0 : List Int) : Option (List Int) := if l0.length < 1000000000 then some l0 else none
set_option maxHeartbeats 1000000 in
theorem slices_Clone_int_int.calls (A0 : Option Addr) (c0 : Nat) (l0 : List Int) (r : List Int) (w : World) (hr0 : Kd.C (Kd.int .i64) w A0 l0.length l0) (hc0 : l0.length ≤ c0) (h : slices_Clone_int_int.f l0 = some r) :
    Calls Try.prog 39 #[.slice A0 l0.length c0] w fun e w' => ∃ v0_ : Value, e = .returned (v0_) ∧ Kd.R (Kd.int .i64) 3 w' w.heap.size (fun _ => True) v0_ r ∧ Below w.heap.size w w' := by
  have hn : l0.length < 1000000000 ∧ l0 = r := by
    unfold slices_Clone_int_int.f at h
    by_cases hl : l0.length < 1000000000
    · rw [if_pos hl] at h; exact ⟨hl, Option.some.inj h⟩
    · rw [if_neg hl] at h; cases h
  obtain ⟨hl, rfl⟩ := hn
  clear h
  have HL := Aside0.mk hl
  clear hl
  have hee : ∀ (w : World) (a : Option Addr) (n c : Nat), Sem.run Try.prog (binOp .eql 31 (.slice a n c) (.slice none 0 0)) w = .ok (.bool a.isNone) w := fun w a n c => Lib.run_eql_slice_nil w 31 3 a n c 0 0 Try.underlying31
  have HR := Aside0.mk hr0
  have HB := Aside0.mk (Below.refl w.heap.size w)
  clear hr0
  cases A0 with
  | none =>
    obtain rfl := C_nil_of_none HR.out
    go_enter Try.func39, Try.ntmps39
    go_wp2
    go_ret
    exact ⟨_, rfl, Kd.R_nil _ _ _ _ _, HB.out⟩
  | some a =>
    go_enter Try.func39, Try.ntmps39
    go_wp2_with (at_builtin; refine Kd.R_append_rows (Kd.int .i64) (w0 := w) w.heap.size rfl (.tmp 5) (.tmp 6) 31 3 (.int .i64 0) 8 rfl Try.underlying31 info3 rfl (by decide) (by omega) (.slice (some ⟨w.heap.size, 0, none⟩) 0 0) [] l0 (some a) _ _ (fun _ => True) (fun _ => False) rfl rfl ?aO ?aR (fun _ _ h => h) (fun _ h => h.elim) ?aF ?aB ?aS ?aL ?_; (case aO => exact R_empty _ _ _ _ _ (Nat.le_refl _) trivial); (case aR => exact Kd.C_alloc HR.out _); (case aF => exact (fun _ _ => trivial)); (case aB => exact below_alloc HB.out _); (case aS => simp); (case aL => have := HL.out; simp; omega); intro v1 w1 ho hb hg hat; have HO := Aside0.mk ho; have HB1 := Aside0.mk hb; clear ho hb hg hat)
    go_ret
    exact ⟨_, rfl, HO.out, HB1.out⟩
end Go.Proofs.Ytcpicopaobhlcaa.Q
end
section
namespace Go.Proofs.Ytcpicopaobhlcaa.CpM
def mem (l : List (Int × Int)) (c : Int) : Prop := ∃ r, r ∈ l ∧ r.1 ≤ c ∧ c ≤ r.2
def CanonFrom : Int → List (Int × Int) → Prop
  | _, [] => True
  | b, r :: l => b ≤ r.1 ∧ r.1 ≤ r.2 ∧ r.2 ≤ 1114111 ∧ CanonFrom (r.2 + 2) l
def Canon (l : List (Int × Int)) : Prop := CanonFrom 0 l
theorem mem_nil (c : Int) : ¬ mem [] c := by rintro ⟨r, h, _⟩; cases h
theorem mem_cons (r : Int × Int) (l : List (Int × Int)) (c : Int) : mem (r :: l) c ↔ (r.1 ≤ c ∧ c ≤ r.2) ∨ mem l c := by
  constructor
  · rintro ⟨q, hq, h⟩
    rcases List.mem_cons.1 hq with rfl | hq
    · exact .inl h
    · exact .inr ⟨q, hq, h⟩
  · rintro (h | ⟨q, hq, h⟩)
    · exact ⟨r, List.mem_cons_self, h⟩
    · exact ⟨q, List.mem_cons_of_mem _ hq, h⟩
theorem mem_append (l m : List (Int × Int)) (c : Int) : mem (l ++ m) c ↔ mem l c ∨ mem m c := by
  induction l with
  | nil => simp [mem_nil]
  | cons r l ih => rw [List.cons_append, mem_cons, mem_cons, ih, or_assoc]
theorem CanonFrom.mono {b b' : Int} (hb : b' ≤ b) : ∀ {l : List (Int × Int)}, CanonFrom b l → CanonFrom b' l
  | [], _ => trivial
  | _ :: _, ⟨h1, h2⟩ => ⟨Int.le_trans hb h1, h2⟩
theorem CanonFrom.ge {c : Int} : ∀ {b : Int} {l : List (Int × Int)}, CanonFrom b l → mem l c → b ≤ c
  | _, [], _, h => absurd h (mem_nil c)
  | b, r :: l, ⟨h1, h2, h3, h4⟩, h => by
    rcases (mem_cons _ _ _).1 h with h | h
    · omega
    · have := CanonFrom.ge h4 h; omega
/-- Two canonical lists with the same members are one. -/
theorem canon_uniq : ∀ (l m : List (Int × Int)) (b b' : Int), CanonFrom b l → CanonFrom b' m → (∀ c, mem l c ↔ mem m c) → l = m
  | [], [], _, _, _, _, _ => rfl
  | [], r :: m, _, _, _, ⟨_, h2, _⟩, h => absurd ((h r.1).2 ((mem_cons _ _ _).2 (.inl ⟨Int.le_refl _, h2⟩))) (mem_nil _)
  | r :: l, [], _, _, ⟨_, h2, _⟩, _, h => absurd ((h r.1).1 ((mem_cons _ _ _).2 (.inl ⟨Int.le_refl _, h2⟩))) (mem_nil _)
  | r :: l, s :: m, b, b', ⟨h1, h2, h3, h4⟩, ⟨k1, k2, k3, k4⟩, h => by
    have e1 : r.1 = s.1 := by
      have a := (h r.1).1 ((mem_cons _ _ _).2 (.inl ⟨Int.le_refl _, h2⟩))
      have a' := (h s.1).2 ((mem_cons _ _ _).2 (.inl ⟨Int.le_refl _, k2⟩))
      rcases (mem_cons _ _ _).1 a with a | a <;> rcases (mem_cons _ _ _).1 a' with a' | a'
      · omega
      · have := CanonFrom.ge h4 a'; omega
      · have := CanonFrom.ge k4 a; omega
      · have := CanonFrom.ge h4 a'; have := CanonFrom.ge k4 a; omega
    have e2 : r.2 = s.2 := by
      rcases Int.lt_trichotomy r.2 s.2 with q | q | q
      · have a := (h (r.2 + 1)).2 ((mem_cons _ _ _).2 (.inl ⟨by omega, by omega⟩))
        rcases (mem_cons _ _ _).1 a with a | a
        · omega
        · have := CanonFrom.ge h4 a; omega
      · exact q
      · have a := (h (s.2 + 1)).1 ((mem_cons _ _ _).2 (.inl ⟨by omega, by omega⟩))
        rcases (mem_cons _ _ _).1 a with a | a
        · omega
        · have := CanonFrom.ge k4 a; omega
    have e3 : l = m := by
      refine canon_uniq l m _ _ h4 k4 fun c => ⟨fun a => ?_, fun a => ?_⟩
      · rcases (mem_cons _ _ _).1 ((h c).1 ((mem_cons _ _ _).2 (.inr a))) with q | q
        · have := CanonFrom.ge h4 a; omega
        · exact q
      · rcases (mem_cons _ _ _).1 ((h c).2 ((mem_cons _ _ _).2 (.inr a))) with q | q
        · have := CanonFrom.ge k4 a; omega
        · exact q
    rw [e3, Prod.ext e1 e2]
def mergeStep (out : List (Int × Int)) (r : Int × Int) : List (Int × Int) :=
  match out.getLast? with
  | none => [r]
  | some q => if r.1 ≤ q.2 + 1 then out.dropLast ++ [(q.1, if q.2 < r.2 then r.2 else q.2)] else out ++ [r]
def merge1 : Int × Int → List (Int × Int) → List (Int × Int)
  | cur, [] => [cur]
  | cur, r :: rest => if r.1 ≤ cur.2 + 1 then merge1 (cur.1, if cur.2 < r.2 then r.2 else cur.2) rest else cur :: merge1 r rest
def Ok (r : Int × Int) : Prop := 0 ≤ r.1 ∧ r.1 ≤ r.2 ∧ r.2 ≤ 1114111
theorem fold_merge1 : ∀ (s : List (Int × Int)) (pre : List (Int × Int)) (cur : Int × Int), s.foldl mergeStep (pre ++ [cur]) = pre ++ merge1 cur s
  | [], pre, cur => rfl
  | r :: s, pre, cur => by
    rw [List.foldl_cons]
    have : mergeStep (pre ++ [cur]) r = if r.1 ≤ cur.2 + 1 then pre ++ [(cur.1, if cur.2 < r.2 then r.2 else cur.2)] else (pre ++ [cur]) ++ [r] := by
      unfold mergeStep
      rw [List.getLast?_append]
      simp
    rw [this, merge1]
    split
    · rw [fold_merge1]
    · rw [fold_merge1, List.append_assoc]; rfl
theorem merge1_canon : ∀ (s : List (Int × Int)) (cur : Int × Int), Ok cur → (∀ r ∈ s, Ok r) → (∀ r ∈ s, cur.1 ≤ r.1) → s.Pairwise (fun a b => a.1 ≤ b.1) → CanonFrom cur.1 (merge1 cur s)
  | [], cur, h, _, _, _ => ⟨Int.le_refl _, h.2.1, h.2.2, trivial⟩
  | r :: s, cur, h, hs, hc, hp => by
    have hr := hs r List.mem_cons_self
    have hrc := hc r List.mem_cons_self
    rw [List.pairwise_cons] at hp
    unfold Ok at h hr
    rw [merge1]
    split
    · have := merge1_canon s (cur.1, if cur.2 < r.2 then r.2 else cur.2) ⟨h.1, by split <;> simp <;> omega, by split <;> simp <;> omega⟩ (fun q hq => hs q (List.mem_cons_of_mem _ hq)) (fun q hq => hc q (List.mem_cons_of_mem _ hq)) hp.2
      exact this
    · refine ⟨Int.le_refl _, h.2.1, h.2.2, CanonFrom.mono ?_ (merge1_canon s r hr (fun q hq => hs q (List.mem_cons_of_mem _ hq)) hp.1 hp.2)⟩
      omega
theorem merge1_mem (c : Int) : ∀ (s : List (Int × Int)) (cur : Int × Int), Ok cur → (∀ r ∈ s, Ok r) → (∀ r ∈ s, cur.1 ≤ r.1) → s.Pairwise (fun a b => a.1 ≤ b.1) → (mem (merge1 cur s) c ↔ mem (cur :: s) c)
  | [], cur, h, _, _, _ => Iff.rfl
  | r :: s, cur, h, hs, hc, hp => by
    have hr := hs r List.mem_cons_self
    have hrc := hc r List.mem_cons_self
    rw [List.pairwise_cons] at hp
    unfold Ok at h hr
    rw [merge1]
    split
    · rw [merge1_mem c s (cur.1, if cur.2 < r.2 then r.2 else cur.2) ⟨h.1, by split <;> simp <;> omega, by split <;> simp <;> omega⟩ (fun q hq => hs q (List.mem_cons_of_mem _ hq)) (fun q hq => hc q (List.mem_cons_of_mem _ hq)) hp.2]
      rw [mem_cons, mem_cons, mem_cons]
      have : (cur.1 ≤ c ∧ c ≤ (if cur.2 < r.2 then r.2 else cur.2)) ↔ ((cur.1 ≤ c ∧ c ≤ cur.2) ∨ (r.1 ≤ c ∧ c ≤ r.2)) := by
        split <;> omega
      simp only [this, or_assoc]
    · rw [mem_cons, merge1_mem c s r hr (fun q hq => hs q (List.mem_cons_of_mem _ hq)) hp.1 hp.2, mem_cons cur]
theorem fold_ok (s : List (Int × Int)) (hs : ∀ r ∈ s, Ok r) (hp : s.Pairwise (fun a b => a.1 ≤ b.1)) : Canon (s.foldl mergeStep []) ∧ ∀ c, mem (s.foldl mergeStep []) c ↔ mem s c := by
  cases s with
  | nil => exact ⟨trivial, fun c => Iff.rfl⟩
  | cons r s =>
    rw [List.pairwise_cons] at hp
    have e : (r :: s).foldl mergeStep [] = merge1 r s := by
      have := fold_merge1 s [] r
      simpa [mergeStep] using this
    rw [e]
    exact ⟨CanonFrom.mono (hs r List.mem_cons_self).1 (merge1_canon s r (hs r List.mem_cons_self) (fun q hq => hs q (List.mem_cons_of_mem _ hq)) hp.1 hp.2), fun c => merge1_mem c s r (hs r List.mem_cons_self) (fun q hq => hs q (List.mem_cons_of_mem _ hq)) hp.1 hp.2⟩
def clamp1 (r : Int × Int) : Int × Int := (if r.1 < 0 then 0 else r.1, if 1114111 < r.2 then 1114111 else r.2)
def clamp (l : List (Int × Int)) : List (Int × Int) := (l.map clamp1).filter fun r => decide (r.1 ≤ r.2)
theorem clamp_ok (l : List (Int × Int)) : ∀ r ∈ clamp l, Ok r := by
  intro r hr
  unfold clamp at hr
  rw [List.mem_filter, List.mem_map] at hr
  obtain ⟨⟨q, _, rfl⟩, h⟩ := hr
  have h := of_decide_eq_true h
  refine ⟨?_, h, ?_⟩
  · unfold clamp1; simp only; split <;> omega
  · unfold clamp1; simp only; split <;> omega
theorem clamp_mem (l : List (Int × Int)) (c : Int) : mem (clamp l) c ↔ (0 ≤ c ∧ c ≤ 1114111) ∧ mem l c := by
  induction l with
  | nil => simp [clamp, mem_nil]
  | cons r l ih =>
    have e : clamp (r :: l) = if (clamp1 r).1 ≤ (clamp1 r).2 then clamp1 r :: clamp l else clamp l := by
      unfold clamp
      rw [List.map_cons, List.filter_cons]
      by_cases h : (clamp1 r).1 ≤ (clamp1 r).2 <;> simp [h]
    rw [e, mem_cons]
    have k : ((clamp1 r).1 ≤ c ∧ c ≤ (clamp1 r).2) ↔ (0 ≤ c ∧ c ≤ 1114111) ∧ r.1 ≤ c ∧ c ≤ r.2 := by
      unfold clamp1; simp only; split <;> split <;> omega
    split
    · rw [mem_cons, k, ih, ← and_or_left]
    · rename_i h
      rw [ih]
      constructor
      · rintro ⟨a, b⟩; exact ⟨a, .inr b⟩
      · rintro ⟨a, b | b⟩
        · exact absurd (k.2 ⟨a, b⟩) (by omega)
        · exact ⟨a, b⟩
theorem mem_perm {l m : List (Int × Int)} (h : l.Perm m) (c : Int) : mem l c ↔ mem m c :=
  ⟨fun ⟨r, hr, k⟩ => ⟨r, h.mem_iff.1 hr, k⟩, fun ⟨r, hr, k⟩ => ⟨r, h.mem_iff.2 hr, k⟩⟩
/-- Whatever ascending arrangement s of what Make takes in: the fold is the one canonical list with these members. -/
theorem make_of_sorted (l s : List (Int × Int)) (hp : s.Perm (clamp l)) (ho : s.Pairwise (fun a b => a.1 ≤ b.1)) :
    Canon (s.foldl mergeStep []) ∧ ∀ c, mem (s.foldl mergeStep []) c ↔ (0 ≤ c ∧ c ≤ 1114111) ∧ mem l c := by
  obtain ⟨h1, h2⟩ := fold_ok s (fun r hr => clamp_ok l r (hp.mem_iff.1 hr)) ho
  exact ⟨h1, fun c => by rw [h2, mem_perm hp, clamp_mem]⟩
/-- Make, as a function: by an insertion of each range behind those that are not greater. -/
def ins (r : Int × Int) : List (Int × Int) → List (Int × Int)
  | [] => [r]
  | q :: l => if r.1 < q.1 then r :: q :: l else q :: ins r l
def sorted (l : List (Int × Int)) : List (Int × Int) := l.foldl (fun s r => ins r s) []
def make (l : List (Int × Int)) : List (Int × Int) := (sorted (clamp l)).foldl mergeStep []
theorem ins_perm (r : Int × Int) : ∀ l, (ins r l).Perm (r :: l)
  | [] => List.Perm.refl _
  | q :: l => by
    rw [ins]
    split
    · exact List.Perm.refl _
    · exact ((ins_perm r l).cons q).trans (List.Perm.swap r q l)
theorem ins_sorted (r : Int × Int) : ∀ l : List (Int × Int), l.Pairwise (fun a b => a.1 ≤ b.1) → (ins r l).Pairwise (fun a b => a.1 ≤ b.1)
  | [], _ => by simp [ins]
  | q :: l, h => by
    rw [List.pairwise_cons] at h
    rw [ins]
    split
    · rw [List.pairwise_cons, List.pairwise_cons]
      refine ⟨fun x hx => ?_, h⟩
      rcases List.mem_cons.1 hx with rfl | hx
      · omega
      · have := h.1 x hx; omega
    · rw [List.pairwise_cons]
      refine ⟨fun x hx => ?_, ins_sorted r l h.2⟩
      rcases List.mem_cons.1 ((ins_perm r l).mem_iff.1 hx) with rfl | hx
      · omega
      · exact h.1 x hx
theorem sorted_aux : ∀ (l acc : List (Int × Int)), acc.Pairwise (fun a b => a.1 ≤ b.1) → (l.foldl (fun s r => ins r s) acc).Perm (acc ++ l) ∧ (l.foldl (fun s r => ins r s) acc).Pairwise (fun a b => a.1 ≤ b.1)
  | [], acc, h => by simp [h]
  | r :: l, acc, h => by
    rw [List.foldl_cons]
    obtain ⟨a, b⟩ := sorted_aux l (ins r acc) (ins_sorted r acc h)
    refine ⟨a.trans ?_, b⟩
    refine ((ins_perm r acc).append_right l).trans ?_
    exact List.perm_middle.symm
theorem sorted_perm (l : List (Int × Int)) : (sorted l).Perm l := by have := (sorted_aux l [] List.Pairwise.nil).1; rw [List.nil_append] at this; exact this
theorem sorted_asc (l : List (Int × Int)) : (sorted l).Pairwise (fun a b => a.1 ≤ b.1) := (sorted_aux l [] List.Pairwise.nil).2
theorem make_canon (l : List (Int × Int)) : Canon (make l) := (make_of_sorted l _ (sorted_perm _) (sorted_asc _)).1
theorem make_mem (l : List (Int × Int)) (c : Int) : mem (make l) c ↔ (0 ≤ c ∧ c ≤ 1114111) ∧ mem l c := (make_of_sorted l _ (sorted_perm _) (sorted_asc _)).2 c
theorem fold_eq_make (l s : List (Int × Int)) (hp : s.Perm (clamp l)) (ho : s.Pairwise (fun a b => a.1 ≤ b.1)) : s.foldl mergeStep [] = make l :=
  canon_uniq _ _ 0 0 (make_of_sorted l s hp ho).1 (make_canon l) fun c => by rw [(make_of_sorted l s hp ho).2, make_mem]
/-- Any canonical list with these members is Make's. -/
theorem eq_make (l m : List (Int × Int)) (hc : Canon m) (hm : ∀ c, mem m c ↔ (0 ≤ c ∧ c ≤ 1114111) ∧ mem l c) : m = make l :=
  canon_uniq _ _ 0 0 hc (make_canon l) fun c => by rw [hm, make_mem]
def place (n : Int) : List Int → List Int
  | [] => [n]
  | x :: l => if x ≥ n then (if x > n then n :: x :: l else x :: l) else x :: place n l
theorem place_mem (n y : Int) : ∀ l : List Int, y ∈ place n l ↔ y = n ∨ y ∈ l
  | [] => by simp [place]
  | x :: l => by
    rw [place]
    split
    · split
      · rw [List.mem_cons]
      · have : x = n := by omega
        subst this
        simp
    · rw [List.mem_cons, place_mem n y l, List.mem_cons]
      constructor
      · rintro (h | h | h)
        · exact .inr (.inl h)
        · exact .inl h
        · exact .inr (.inr h)
      · rintro (h | h | h)
        · exact .inr (.inl h)
        · exact .inl h
        · exact .inr (.inr h)
theorem place_asc (n : Int) : ∀ l : List Int, l.Pairwise (· < ·) → (place n l).Pairwise (· < ·)
  | [], _ => by simp [place]
  | x :: l, h => by
    have h' := List.pairwise_cons.1 h
    rw [place]
    split
    · split
      · rw [List.pairwise_cons]
        refine ⟨fun y hy => ?_, h⟩
        rcases List.mem_cons.1 hy with rfl | hy
        · omega
        · have := h'.1 y hy; omega
      · exact h
    · rw [List.pairwise_cons]
      refine ⟨fun y hy => ?_, place_asc n l h'.2⟩
      rcases (place_mem n y l).1 hy with rfl | hy
      · omega
      · exact h'.1 y hy
def cut1 (l : List Int) (r : Int × Int) : List Int :=
  let l1 := if 0 ≤ r.1 ∧ r.1 ≤ 1114111 then place r.1 l else l
  if 0 ≤ r.2 ∧ r.2 < 1114111 then place (r.2 + 1) l1 else l1
def cuts (l : List Int) (a : List (Int × Int)) : List Int := place 0 (a.foldl cut1 l)
def InB (l : List Int) : Prop := ∀ y ∈ l, 0 ≤ y ∧ y ≤ 1114111
theorem cut1_ok (l : List Int) (r : Int × Int) (h : l.Pairwise (· < ·)) (hb : InB l) :
    (cut1 l r).Pairwise (· < ·) ∧ InB (cut1 l r) ∧ (∀ y ∈ l, y ∈ cut1 l r) ∧ (0 ≤ r.1 → r.1 ≤ 1114111 → r.1 ∈ cut1 l r) ∧ (0 ≤ r.2 → r.2 < 1114111 → r.2 + 1 ∈ cut1 l r) := by
  have k : ∀ l : List Int, l.Pairwise (· < ·) → InB l → ∀ (p : Prop) [Decidable p] (n : Int), (p → 0 ≤ n ∧ n ≤ 1114111) →
      (if p then place n l else l).Pairwise (· < ·) ∧ InB (if p then place n l else l) ∧ (∀ y ∈ l, y ∈ (if p then place n l else l)) ∧ (p → n ∈ (if p then place n l else l)) := by
    intro l h hb p _ n hn
    split
    · rename_i hp
      refine ⟨place_asc n l h, fun y hy => ?_, fun y hy => (place_mem _ _ _).2 (.inr hy), fun _ => (place_mem _ _ _).2 (.inl rfl)⟩
      rcases (place_mem _ _ _).1 hy with rfl | hy
      · exact hn hp
      · exact hb y hy
    · rename_i hp
      exact ⟨h, hb, fun y hy => hy, fun q => absurd q hp⟩
  obtain ⟨a1, a2, a3, a4⟩ := k l h hb (0 ≤ r.1 ∧ r.1 ≤ 1114111) r.1 id
  obtain ⟨b1, b2, b3, b4⟩ := k _ a1 a2 (0 ≤ r.2 ∧ r.2 < 1114111) (r.2 + 1) (fun q => by omega)
  exact ⟨b1, b2, fun y hy => b3 y (a3 y hy), fun p q => b3 _ (a4 ⟨p, q⟩), fun p q => b4 ⟨p, q⟩⟩
theorem fold_cut1 : ∀ (a : List (Int × Int)) (l : List Int), l.Pairwise (· < ·) → InB l →
    (a.foldl cut1 l).Pairwise (· < ·) ∧ InB (a.foldl cut1 l) ∧ (∀ y ∈ l, y ∈ a.foldl cut1 l) ∧ (∀ r ∈ a, (0 ≤ r.1 → r.1 ≤ 1114111 → r.1 ∈ a.foldl cut1 l) ∧ (0 ≤ r.2 → r.2 < 1114111 → r.2 + 1 ∈ a.foldl cut1 l))
  | [], l, h, hb => ⟨h, hb, fun _ h => h, fun r hr => by cases hr⟩
  | r :: a, l, h, hb => by
    obtain ⟨a1, a2, a3, a4, a5⟩ := cut1_ok l r h hb
    obtain ⟨b1, b2, b3, b4⟩ := fold_cut1 a _ a1 a2
    rw [List.foldl_cons]
    refine ⟨b1, b2, fun y hy => b3 y (a3 y hy), fun q hq => ?_⟩
    rcases List.mem_cons.1 hq with rfl | hq
    · exact ⟨fun x y => b3 _ (a4 x y), fun x y => b3 _ (a5 x y)⟩
    · exact b4 q hq
theorem cuts_ok (a : List (Int × Int)) (l : List Int) (h : l.Pairwise (· < ·)) (hb : InB l) :
    (cuts l a).Pairwise (· < ·) ∧ InB (cuts l a) ∧ 0 ∈ cuts l a ∧ (∀ y ∈ l, y ∈ cuts l a) ∧ (∀ r ∈ a, (0 ≤ r.1 → r.1 ≤ 1114111 → r.1 ∈ cuts l a) ∧ (0 ≤ r.2 → r.2 < 1114111 → r.2 + 1 ∈ cuts l a)) := by
  obtain ⟨b1, b2, b3, b4⟩ := fold_cut1 a l h hb
  unfold cuts
  refine ⟨place_asc _ _ b1, fun y hy => ?_, (place_mem _ _ _).2 (.inl rfl), fun y hy => (place_mem _ _ _).2 (.inr (b3 y hy)), fun r hr => ⟨fun p q => (place_mem _ _ _).2 (.inr ((b4 r hr).1 p q)), fun p q => (place_mem _ _ _).2 (.inr ((b4 r hr).2 p q))⟩⟩
  rcases (place_mem _ _ _).1 hy with rfl | hy
  · omega
  · exact b2 y hy
def segs : List Int → List (Int × Int)
  | [] => []
  | [x] => [(x, 1114111)]
  | x :: y :: l => (x, y - 1) :: segs (y :: l)
def Chain (has : Int → Bool) : Int → List (Int × Int) → Prop
  | _, [] => True
  | b, s :: l => s.1 = b ∧ s.1 ≤ s.2 ∧ s.2 ≤ 1114111 ∧ (∀ c, s.1 ≤ c → c ≤ s.2 → has c = has s.1) ∧ (l = [] → s.2 = 1114111) ∧ Chain has (s.2 + 1) l
theorem segs_ne {x : Int} {l : List Int} : segs (x :: l) ≠ [] := by cases l <;> simp [segs]
theorem chain_segs (has : Int → Bool) : ∀ (x : Int) (l : List Int), (x :: l).Pairwise (· < ·) → InB (x :: l) →
    (∀ c d, x ≤ c → c ≤ d → d ≤ 1114111 → (∀ y ∈ x :: l, y ≤ c ∨ d < y) → has c = has d) → Chain has x (segs (x :: l))
  | x, [], _, hb, hs => by
    have := hb x List.mem_cons_self
    exact ⟨rfl, this.2, Int.le_refl _, fun c h1 h2 => (hs x c (Int.le_refl _) h1 h2 (fun y hy => by simp at hy; omega)).symm, fun _ => rfl, trivial⟩
  | x, y :: l, h, hb, hs => by
    have h' := List.pairwise_cons.1 h
    have hy := hb y (by simp)
    have hxy := h'.1 y (by simp)
    refine ⟨rfl, by show x ≤ y - 1; omega, by show y - 1 ≤ _; omega, fun c h1 h2 => ?_, fun e => absurd e segs_ne, ?_⟩
    · have h1 : x ≤ c := h1
      have h2 : c ≤ y - 1 := h2
      refine (hs x c (Int.le_refl _) h1 (by omega) fun z hz => ?_).symm
      rcases List.mem_cons.1 hz with rfl | hz
      · omega
      · rcases List.mem_cons.1 hz with rfl | hz
        · omega
        · have := (List.pairwise_cons.1 h'.2).1 z hz; omega
    · have e : (x, y - 1).2 + 1 = y := by show y - 1 + 1 = y; omega
      rw [e]
      refine chain_segs has y l h'.2 (fun z hz => hb z (List.mem_cons_of_mem _ hz)) fun c d h1 h2 h3 h4 => hs c d (by omega) h2 h3 fun z hz => ?_
      rcases List.mem_cons.1 hz with rfl | hz
      · omega
      · exact h4 z hz
def runs (has : Int → Bool) : Option (Int × Int) → List (Int × Int) → List (Int × Int)
  | cur, [] => cur.toList
  | none, s :: l => if has s.1 then runs has (some s) l else runs has none l
  | some q, s :: l => if has s.1 then runs has (some (q.1, s.2)) l else q :: runs has none l
theorem runs_canon (has : Int → Bool) : ∀ (l : List (Int × Int)) (b : Int), Chain has b l →
    (CanonFrom b (runs has none l)) ∧ ∀ q : Int × Int, q.1 ≤ q.2 → q.2 + 1 = b → q.2 ≤ 1114111 → CanonFrom q.1 (runs has (some q) l)
  | [], b, _ => ⟨trivial, fun q h1 h2 h3 => ⟨Int.le_refl _, h1, h3, trivial⟩⟩
  | s :: l, b, ⟨h1, h2, h3, h4, h5, h6⟩ => by
    obtain ⟨ih1, ih2⟩ := runs_canon has l _ h6
    constructor
    · rw [runs]
      split
      · rw [← h1]; exact ih2 s h2 rfl h3
      · exact ih1.mono (by omega)
    · intro q k1 k2 k3
      rw [runs]
      split
      · exact ih2 (q.1, s.2) (by show q.1 ≤ s.2; omega) rfl h3
      · exact ⟨Int.le_refl _, k1, k3, ih1.mono (by omega)⟩
theorem runs_mem (has : Int → Bool) (c : Int) : ∀ (l : List (Int × Int)) (b : Int), Chain has b l →
    (mem (runs has none l) c ↔ l ≠ [] ∧ b ≤ c ∧ c ≤ 1114111 ∧ has c = true) ∧ ∀ q : Int × Int, q.1 ≤ q.2 → q.2 + 1 = b → (mem (runs has (some q) l) c ↔ (q.1 ≤ c ∧ c ≤ q.2) ∨ (l ≠ [] ∧ b ≤ c ∧ c ≤ 1114111 ∧ has c = true))
  | [], b, _ => ⟨by simp [runs, mem_nil], fun q h1 h2 => by simp [runs, mem_cons, mem_nil]⟩
  | s :: l, b, ⟨h1, h2, h3, h4, h5, h6⟩ => by
    obtain ⟨ih1, ih2⟩ := runs_mem has c l _ h6
    have hl : ¬ (s :: l = []) := by simp
    have key : (l ≠ [] ∧ s.2 + 1 ≤ c ∧ c ≤ 1114111 ∧ has c = true) ↔ (s.2 + 1 ≤ c ∧ c ≤ 1114111 ∧ has c = true) := by
      refine ⟨fun h => h.2, fun h => ⟨fun e => ?_, h⟩⟩
      have := h5 e
      omega
    rw [key] at ih1
    simp only [key] at ih2
    constructor
    · rw [runs]
      split
      · rename_i hh
        rw [ih2 s h2 rfl]
        constructor
        · rintro (⟨a, d⟩ | ⟨a, d, e⟩)
          · exact ⟨hl, by omega, by omega, by rw [h4 c a d]; exact hh⟩
          · exact ⟨hl, by omega, d, e⟩
        · rintro ⟨_, a, d, e⟩
          by_cases k : c ≤ s.2
          · exact .inl ⟨by omega, k⟩
          · exact .inr ⟨by omega, d, e⟩
      · rename_i hh
        rw [ih1]
        constructor
        · rintro ⟨a, d, e⟩
          exact ⟨hl, by omega, d, e⟩
        · rintro ⟨_, a, d, e⟩
          by_cases k : c ≤ s.2
          · rw [h4 c (by omega) k] at e; exact absurd e hh
          · exact ⟨by omega, d, e⟩
    · intro q k1 k2
      rw [runs]
      split
      · rename_i hh
        rw [ih2 (q.1, s.2) (by show q.1 ≤ s.2; omega) rfl]
        show (q.1 ≤ c ∧ c ≤ s.2) ∨ _ ↔ _
        constructor
        · rintro (⟨a, d⟩ | ⟨a, d, e⟩)
          · by_cases k : c ≤ q.2
            · exact .inl ⟨a, k⟩
            · exact .inr ⟨hl, by omega, by omega, by rw [h4 c (by omega) d]; exact hh⟩
          · exact .inr ⟨hl, by omega, d, e⟩
        · rintro (⟨a, d⟩ | ⟨_, a, d, e⟩)
          · exact .inl ⟨a, by omega⟩
          · by_cases k : c ≤ s.2
            · exact .inl ⟨by omega, k⟩
            · exact .inr ⟨by omega, d, e⟩
      · rename_i hh
        rw [mem_cons, ih1]
        constructor
        · rintro (a | ⟨a, d, e⟩)
          · exact .inl a
          · exact .inr ⟨hl, by omega, d, e⟩
        · rintro (a | ⟨_, a, d, e⟩)
          · exact .inl a
          · by_cases k : c ≤ s.2
            · rw [h4 c (by omega) k] at e; exact absurd e hh
            · exact .inr ⟨by omega, d, e⟩
/-- The reference's Has. -/
def hasB (a : List (Int × Int)) (c : Int) : Bool := a.any fun r => (decide (0 ≤ c) && decide (c ≤ 1114111)) && (decide (r.1 ≤ c) && decide (c ≤ r.2))
theorem hasB_iff (a : List (Int × Int)) (c : Int) : hasB a c = true ↔ (0 ≤ c ∧ c ≤ 1114111) ∧ mem a c := by
  unfold hasB mem
  rw [List.any_eq_true]
  constructor
  · rintro ⟨r, hr, h⟩
    simp only [Bool.and_eq_true, decide_eq_true_eq] at h
    exact ⟨h.1, r, hr, h.2⟩
  · rintro ⟨h, r, hr, k⟩
    exact ⟨r, hr, by simp only [Bool.and_eq_true, decide_eq_true_eq]; exact ⟨h, k⟩⟩
/-- The reference's Make. -/
def rmake (a : List (Int × Int)) : List (Int × Int) := runs (hasB a) none (segs (cuts (cuts [] a) []))
theorem rmake_eq (a : List (Int × Int)) : rmake a = make a := by
  obtain ⟨a1, a2, a3, _, a5⟩ := cuts_ok a [] List.Pairwise.nil (fun y hy => by cases hy)
  obtain ⟨b1, b2, b3, b4, _⟩ := cuts_ok [] _ a1 a2
  unfold rmake
  generalize hC : cuts (cuts [] a) [] = C at *
  cases C with
  | nil => cases b3
  | cons x l =>
    have hx : x = 0 := by
      rcases List.mem_cons.1 b3 with h | h
      · exact h.symm
      · have := (List.pairwise_cons.1 b1).1 0 h
        have := b2 x List.mem_cons_self
        omega
    subst hx
    have hch : Chain (hasB a) 0 (segs (0 :: l)) := by
      refine chain_segs _ 0 l b1 b2 fun c d h1 h2 h3 h4 => ?_
      rw [Bool.eq_iff_iff, hasB_iff, hasB_iff]
      constructor
      · rintro ⟨p, r, hr, q⟩
        refine ⟨by omega, r, hr, by omega, ?_⟩
        by_cases k : d ≤ r.2
        · exact k
        · have := h4 _ (b4 _ ((a5 r hr).2 (by omega) (by omega)))
          omega
      · rintro ⟨p, r, hr, q⟩
        refine ⟨by omega, r, hr, ?_, by omega⟩
        by_cases k : r.1 ≤ c
        · exact k
        · have := h4 _ (b4 _ ((a5 r hr).1 (by omega) (by omega)))
          omega
    refine eq_make a _ (runs_canon _ _ _ hch).1 fun c => ?_
    rw [(runs_mem _ c _ _ hch).1, hasB_iff]
    constructor
    · rintro ⟨_, _, _, h⟩; exact h
    · rintro h
      exact ⟨segs_ne, h.1.1, h.1.2, h⟩
end Go.Proofs.Ytcpicopaobhlcaa.CpM
end
section
namespace Go.Proofs
open Go.Shelf
def Try.cmpInt_ren : Go.Shelf.Ren := ⟨fun | 5 => 65 | 7 => 72 | n => n, fun | 22 => 3 | 3 => 3 | 4 => 4 | n => n, fun | n => n⟩
theorem Try.cmpInt : Go.Proofs.SlLaysC2.n5 Try.prog Try.cmpInt_ren := {
  mixed := by kernel_rfl
  f5 := ⟨Try.f65.name, by decide, Try.func65.trans (congrArg some (by kernel_rfl))⟩
  f7 := ⟨Try.f72.name, by decide, Try.func72.trans (congrArg some (by kernel_rfl))⟩
  t3 := Try.underlying3
  a3 := Try.isAgg3
  z3 := Try.sizeOf3
  v3 := Try.zeroValue3
  t4 := Try.underlying4
  a4 := Try.isAgg4
  z4 := Try.sizeOf4
  v4 := Try.zeroValue4
  t22 := Try.underlying3
  a22 := Try.isAgg3
  z22 := Try.sizeOf3
  v22 := Try.zeroValue3 }
def Try.sortRanges_ren : Go.Shelf.Ren := ⟨fun | 6 => 63 | 15 => 71 | 14 => 70 | 28 => 83 | 29 => 84 | 20 => 75 | 21 => 76 | 22 => 77 | 23 => 78 | 24 => 79 | 25 => 80 | 26 => 81 | 27 => 82 | 46 => 88 | 47 => 89 | 48 => 90 | 49 => 91 | 50 => 92 | 57 => 99 | n => n, fun | 22 => 43 | 24 => 69 | 25 => 97 | 3 => 3 | 39 => 101 | 0 => 0 | 53 => 113 | 55 => 115 | 4 => 4 | 46 => 106 | 45 => 105 | 50 => 110 | 5 => 5 | 9 => 9 | 66 => 119 | 70 => 123 | 76 => 131 | 77 => 55 | n => n, fun | n => n⟩
theorem Try.sortRanges : Go.Proofs.SlLaysF0.n6 Try.prog Try.sortRanges_ren := {
  mixed := by kernel_rfl
  f6 := ⟨Try.f63.name, by decide, Try.func63.trans (congrArg some (by kernel_rfl))⟩
  f14 := ⟨Try.f70.name, by decide, Try.func70.trans (congrArg some (by kernel_rfl))⟩
  f15 := Try.func71.trans (congrArg some (by kernel_rfl))
  f20 := ⟨Try.f75.name, by decide, Try.func75.trans (congrArg some (by kernel_rfl))⟩
  f21 := ⟨Try.f76.name, by decide, Try.func76.trans (congrArg some (by kernel_rfl))⟩
  f22 := ⟨Try.f77.name, by decide, Try.func77.trans (congrArg some (by kernel_rfl))⟩
  f23 := ⟨Try.f78.name, by decide, Try.func78.trans (congrArg some (by kernel_rfl))⟩
  f24 := ⟨Try.f79.name, by decide, Try.func79.trans (congrArg some (by kernel_rfl))⟩
  f25 := ⟨Try.f80.name, by decide, Try.func80.trans (congrArg some (by kernel_rfl))⟩
  f26 := ⟨Try.f81.name, by decide, Try.func81.trans (congrArg some (by kernel_rfl))⟩
  f27 := ⟨Try.f82.name, by decide, Try.func82.trans (congrArg some (by kernel_rfl))⟩
  f28 := Try.func83.trans (congrArg some (by kernel_rfl))
  f29 := Try.func84.trans (congrArg some (by kernel_rfl))
  f46 := ⟨Try.f88.name, by decide, Try.func88.trans (congrArg some (by kernel_rfl))⟩
  f47 := Try.func89.trans (congrArg some (by kernel_rfl))
  f48 := Try.func90.trans (congrArg some (by kernel_rfl))
  f49 := ⟨Try.f91.name, by decide, Try.func91.trans (congrArg some (by kernel_rfl))⟩
  f50 := ⟨Try.f92.name, by decide, Try.func92.trans (congrArg some (by kernel_rfl))⟩
  f57 := ⟨Try.f99.name, by decide, Try.func99.trans (congrArg some (by kernel_rfl))⟩
  t0 := Try.underlying0
  a0 := Try.isAgg0
  z0 := Try.sizeOf0
  v0 := Try.zeroValue0
  t3 := Try.underlying3
  a3 := Try.isAgg3
  z3 := Try.sizeOf3
  v3 := Try.zeroValue3
  t4 := Try.underlying4
  a4 := Try.isAgg4
  z4 := Try.sizeOf4
  v4 := Try.zeroValue4
  t5 := Try.underlying5
  a5 := Try.isAgg5
  z5 := Try.sizeOf5
  v5 := Try.zeroValue5
  t9 := Try.underlying9
  a9 := Try.isAgg9
  z9 := Try.sizeOf9
  v9 := Try.zeroValue9
  t22 := Try.underlying43
  a22 := Try.isAgg43
  z22 := Try.sizeOf43
  v22 := Try.zeroValue43
  t25 := Try.underlying97
  a25 := Try.isAgg97
  z25 := Try.sizeOf97
  v25 := Try.zeroValue97
  t39 := Try.underlying101
  a39 := Try.isAgg101
  z39 := Try.sizeOf101
  v39 := Try.zeroValue101
  t45 := Try.underlying105
  a45 := Try.isAgg105
  z45 := Try.sizeOf105
  v45 := Try.zeroValue105
  t46 := Try.underlying106
  a46 := Try.isAgg106
  z46 := Try.sizeOf106
  v46 := Try.zeroValue106
  t50 := Try.underlying110
  a50 := Try.isAgg110
  z50 := Try.sizeOf110
  v50 := Try.zeroValue110
  t53 := Try.underlying113
  a53 := Try.isAgg113
  z53 := Try.sizeOf113
  v53 := Try.zeroValue113
  t55 := Try.underlying115
  a55 := Try.isAgg115
  z55 := Try.sizeOf115
  v55 := Try.zeroValue115
  t66 := Try.underlying119
  a66 := Try.isAgg119
  z66 := Try.sizeOf119
  v66 := Try.zeroValue119
  t70 := Try.underlying123
  a70 := Try.isAgg123
  z70 := Try.sizeOf123
  v70 := Try.zeroValue123
  t76 := Try.underlying131
  a76 := Try.isAgg131
  z76 := Try.sizeOf131
  v76 := Try.zeroValue131
  t77 := Try.underlying55
  a77 := Try.isAgg55
  z77 := Try.sizeOf55
  v77 := Try.zeroValue55 }
def Try.search_ren : Go.Shelf.Ren := ⟨fun | 16 => 96 | n => n, fun | 3 => 3 | 35 => 67 | 4 => 4 | 38 => 101 | n => n, fun | n => n⟩
theorem Try.search : Go.Proofs.SlLaysO.n16 Try.prog Try.search_ren := {
  mixed := by kernel_rfl
  f16 := Try.func96.trans (congrArg some (by kernel_rfl))
  t3 := Try.underlying3
  a3 := Try.isAgg3
  z3 := Try.sizeOf3
  v3 := Try.zeroValue3
  t4 := Try.underlying4
  a4 := Try.isAgg4
  z4 := Try.sizeOf4
  v4 := Try.zeroValue4
  t35 := Try.underlying67
  a35 := Try.isAgg67
  z35 := Try.sizeOf67
  v35 := Try.zeroValue67
  t38 := Try.underlying101
  a38 := Try.isAgg101
  z38 := Try.sizeOf101
  v38 := Try.zeroValue101 }
end Go.Proofs
end
section
namespace Go.Proofs.Ytcpicopaobhlcaa.Q
open Go.RowKit Go.Proofs.YtcpicopaobhlcaaW.PrintWords Go.Proofs.YtcpicopaobhlcaaW.PrintLast Go.Proofs.YtcpicopaobhlcaaW.PrintMore
set_option linter.unusedVariables false
/-- The one field of a set that a call has handed back. -/
@[go_sem] theorem run_field_set (w : World) (v : Value) : Sem.run Try.prog (Instr.field 45 (Value.agg #[v]) 0) w = .ok v w := by
  have h := Try.underlying45
  simp [Instr.field, asAgg, part, run_underlying h, Try.isAgg43]
abbrev Rg := S69
abbrev kRg : Kd Rg := k69
def toP (r : Rg) : Int × Int := (r.f0, r.f1)
def ofP (r : Int × Int) : Rg := ⟨r.1, r.2⟩
theorem toP_ofP (l : List (Int × Int)) : (l.map ofP).map toP = l := by rw [List.map_map]; exact (List.map_congr_left (fun _ _ => rfl)).trans (List.map_id l)
theorem ofP_toP (l : List Rg) : (l.map toP).map ofP = l := by rw [List.map_map]; exact (List.map_congr_left (fun _ _ => rfl)).trans (List.map_id l)
def encR (x : Rg) : List Value := [.int .i64 x.f0, .int .i64 x.f1]
instance : Inhabited Rg := ⟨z69⟩
def flatR : List Rg → List Value
  | [] => []
  | x :: l => .int .i64 x.f0 :: .int .i64 x.f1 :: flatR l
theorem flatR_length : ∀ l : List Rg, (flatR l).length = l.length * 2
  | [] => rfl
  | x :: l => by simp only [flatR, List.length_cons, flatR_length l]; omega
theorem flatR_append : ∀ l m : List Rg, flatR (l ++ m) = flatR l ++ flatR m
  | [], m => rfl
  | x :: l, m => by simp only [List.cons_append, flatR, flatR_append l m]
theorem flatR_of : ∀ (xs : List Rg) (cs : List Value), cs.length = xs.length * 2 → (∀ j p, xs[j]? = some p → (cs.drop (j * 2)).take 2 = encR p) → cs = flatR xs
  | [], cs, h, _ => List.eq_nil_of_length_eq_zero (by simpa using h)
  | x :: xs, [], h, _ => by simp at h
  | x :: xs, [a], h, _ => by simp only [List.length_cons, List.length_nil] at h; omega
  | x :: xs, a :: b :: cs, h, hp => by
    have h0 := hp 0 x rfl
    simp only [Nat.zero_mul, List.drop_zero, encR] at h0
    have e : a = .int .i64 x.f0 ∧ b = .int .i64 x.f1 := by simpa using h0
    rw [e.1, e.2, flatR, ← flatR_of xs cs (by simp only [List.length_cons] at h; omega) fun j p hj => ?_]
    have := hp (j + 1) p hj
    rw [show (j + 1) * 2 = j * 2 + 1 + 1 by omega] at this
    simpa using this
theorem flatR_reps : ∀ (xs : List Rg) (j : Nat) (p : Rg), xs[j]? = some p → ((flatR xs).drop (j * 2)).take 2 = encR p
  | x :: xs, 0, p, h => by simp at h; subst h; rfl
  | x :: xs, j + 1, p, h => by
    rw [show (j + 1) * 2 = j * 2 + 1 + 1 by omega]
    simpa [flatR] using flatR_reps xs j p (by simpa using h)
theorem flatR_get : ∀ (xs : List Rg) (t : Nat), t < xs.length * 2 → (flatR xs)[t]? = some ((encR (xs.toArray[t / 2]!))[t % 2]!)
  | [], t, h => by simp at h
  | x :: xs, 0, h => by simp [flatR, encR]
  | x :: xs, 1, h => by simp [flatR, encR]
  | x :: xs, t + 2, h => by
    have := flatR_get xs t (by simp at h; omega)
    simp only [flatR, List.getElem?_cons_succ]
    rw [this]
    have e : (t + 2) / 2 = t / 2 + 1 := by omega
    have e2 : (t + 2) % 2 = t % 2 := by omega
    rw [e, e2]
    congr 2
    simp only [List.getElem!_toArray, List.getElem!_cons_succ]
theorem R_own_iff {w : World} {base : Nat} {ok : Nat → Prop} {v : Value} {xs : List Rg} : Kd.R kRg 69 w base ok v xs ↔ (∀ k, v.ownBlock = some k → ok k) ∧ w.ownsRow base 69 2 v xs.length (flatR xs) := by
  constructor
  · rintro ⟨h0, inner, hown, hr⟩
    have : inner = flatR xs := flatR_of xs inner hr.1 fun j p hj => k69_openM (hr.2 j p hj)
    exact ⟨h0, this ▸ hown⟩
  · rintro ⟨h0, hown⟩
    exact ⟨h0, flatR xs, hown, flatR_length xs, fun j p hj => by
      have := flatR_reps xs j p hj
      show k69.M w base _ p (((flatR xs).drop (j * 2)).take 2)
      rw [this]
      exact k69_mkM _ _ _ _⟩
theorem cmp_ranges (x y : Rg) (W : World) : Calls Try.prog 64 #[.agg #[.int .i64 x.f0, .int .i64 x.f1], .agg #[.int .i64 y.f0, .int .i64 y.f1]] W fun e w' => e = .returned (.int .i64 (Lib.compareInt x.f0 y.f0)) ∧ ∃ q os', w' = Sort.grow (W.drewN q) os' := by
  have hcon := fun W' => AnyG.cmp_Compare_int Try.cmpInt x.f0 y.f0 W'
  change ∀ W', Calls Try.prog 65 _ _ _ at hcon
  generalize Lib.compareInt x.f0 y.f0 = r at hcon ⊢
  go_enter Try.func64, Try.ntmps64
  go_wp2_with (go_at_call 65; refine (hcon _).mono ?_; rintro e w' ⟨rfl, rfl⟩)
  go_ret
  exact ⟨rfl, 0, _, by rw [Sort.alloc_eq_grow, Sort.alloc_eq_grow, Sort.grow_grow]; rfl⟩
abbrev cfR : Rg → Rg → Int := fun x y => Lib.compareInt x.f0 y.f0
theorem lt_ranges (x y : Rg) : Go.Proofs.ltOf cfR x y = decide (x.f0 < y.f0) := by
  unfold Go.Proofs.ltOf cfR Lib.compareInt
  by_cases h1 : x.f0 < y.f0
  · simp [h1]
  · by_cases h2 : y.f0 < x.f0 <;> simp [h1, h2]
theorem swo_ranges : Sort.SWO (Go.Proofs.ltOf cfR) where
  irrefl x := by rw [lt_ranges]; simp
  trans x y z h1 h2 := by rw [lt_ranges] at *; simp at *; omega
  ntrans x y z h1 h2 := by rw [lt_ranges] at *; simp at *; omega
theorem heap_sortWorldK_other (w : World) (g m : Nat) (d : Array Rg) (os : Array Obj) (k : Nat) (hk : k < w.heap.size) (hne : k ≠ g) : (Go.Proofs.sortWorldK encR 2 w g 0 m d os).heap[k]? = w.heap[k]? := by
  simp only [Go.Proofs.sortWorldK, Sort.grow, Sort.putRowK, Sort.putRow, Sort.mapBlock, Sort.ahead, Array.getElem?_append, Array.size_modify, if_pos hk, Array.getElem?_modify]
  rw [if_neg (Ne.symm hne)]
theorem heap_sortWorldK_self (w : World) (g m : Nat) (d : Array Rg) (os : Array Obj) (cur : Array Value) (t : TypeId) (fr : Nat × Nat) (hh : w.heap[g]? = some (.cells cur t fr)) : (Go.Proofs.sortWorldK encR 2 w g 0 m d os).heap[g]? = some (.cells (Sort.putCells id 0 (Sort.flatK encR 2 d) cur) t fr) := by
  have hk : g < w.heap.size := (Array.getElem?_eq_some_iff.1 hh).1
  simp only [Go.Proofs.sortWorldK, Sort.grow, Sort.putRowK, Sort.putRow, Sort.mapBlock, Sort.ahead, Array.getElem?_append, Array.size_modify, if_pos hk, Array.getElem?_modify, if_true, hh, Option.map_some, Sort.onCells]
theorem take_putCells (d : Array Rg) (cur : Array Value) (h : d.size * 2 ≤ cur.size) : (Sort.putCells id 0 (Sort.flatK encR 2 d) cur).toList.take (d.size * 2) = flatR d.toList := by
  apply List.ext_getElem?
  intro t
  by_cases ht : t < d.size * 2
  · rw [List.getElem?_take, if_pos ht, flatR_get _ _ (by simpa using ht)]
    have h2 : t < cur.size := by omega
    simp only [Sort.putCells, Array.getElem?_toList, Array.getElem?_mapIdx, Array.getElem?_eq_getElem h2, Option.map_some, Nat.zero_le, true_and, Nat.zero_add, Sort.size_flatK, ht, if_true, Nat.sub_zero, id]
    rw [Sort.get_flatK _ _ _ _ ht]
  · rw [List.getElem?_take, if_neg ht, List.getElem?_eq_none (by rw [flatR_length]; simp; omega)]
set_option maxHeartbeats 1000000 in
/-- **slices.SortFunc over ranges, by Lo.** -/
theorem sort_ranges (base : Nat) (ok : Nat → Prop) (v : Value) (xs : List Rg) (w : World) (ho : Kd.R kRg 69 w base ok v xs) (hn : xs.length < 4611686018427387904) :
    Calls Try.prog 63 #[v, .func (.func 64) #[] #[]] w fun e w' => e = .returned (.tuple #[]) ∧ ∃ ys : List Rg, ys.Perm xs ∧ ys.Pairwise (fun a b => a.f0 ≤ b.f0) ∧ Kd.R kRg 69 w' base ok v ys ∧ w'.os = w.os ∧ w'.tape = w.tape ∧ w'.output = w.output ∧ w.heap.size ≤ w'.heap.size ∧ ∀ k, k < w.heap.size → v.ownBlock ≠ some k → w'.heap[k]? = w.heap[k]? := by
  rcases Nat.eq_zero_or_pos xs.length with h0 | h0
  · obtain rfl := List.eq_nil_of_length_eq_zero h0
    obtain ⟨A, c, rfl, _⟩ := Kd.R_reads ho
    exact (AnyF.slices_SortFunc_none Try.sortRanges A c (.func (.func 64) #[] #[]) w).mono fun e w' ⟨he, hw⟩ => by
      subst hw
      exact ⟨he, [], List.Perm.refl _, List.Pairwise.nil, ho, rfl, rfl, rfl, Nat.le_refl _, fun _ _ _ => rfl⟩
  · obtain ⟨hok, hown⟩ := R_own_iff.1 ho
    obtain ⟨hlen, ⟨_, hz⟩ | ⟨g, cap, cur, rfl, hb, hh, hle, hmax, hsize, htake⟩⟩ := hown
    · omega
    · have hg : g < w.heap.size := (Array.getElem?_eq_some_iff.1 hh).1
      have hsz : xs.toArray.size = xs.length := rfl
      have hH : Sort.HoldsK encR 2 w g 0 xs.toArray := by
        intro j hj
        rw [Sort.size_flatK] at hj
        have hj' : j < xs.length * 2 := hj
        rw [Sort.get_flatK _ _ _ _ hj]
        have h1 : cur[j]? = some ((encR xs.toArray[j / 2]!)[j % 2]!) := by
          rw [← flatR_get xs j hj', ← htake, List.getElem?_take, if_pos hj', Array.getElem?_toList]
        refine ⟨?_, ?_⟩
        · simp only [World.cell?, hh, Nat.zero_add]
          simpa using h1
        · simp [World.frozen?, hh]
      have eg : ∀ args w, (callFunc 64 args).run Try.prog w = .ok (.enter 64 args) w := enters_of Try.func64 (by kernel_rfl) rfl
      have hcon := AnyQ.slices_SortFunc Try.sortRanges 2 Try.isAgg69 Try.sizeOf69 encR (fun _ => rfl) (fun x v hv => by simp [encR] at hv; rcases hv with rfl | rfl <;> rfl) cfR swo_ranges 64 #[] g 0 cap xs.toArray w eg (fun m os dk _ x y => cmp_ranges x y _) hH hg (by simpa using hn)
      refine (show Calls Try.prog 63 _ _ _ from hcon).mono fun e w' ⟨he, d, m, os, hp, hs, hw⟩ => ?_
      subst hw
      have hds : d.size = xs.length := hp.1
      have hlist : (d.extract 0 xs.toArray.size).toList = d.toList := by rw [hsz, ← hds]; simp
      have hlist2 : (xs.toArray.extract 0 xs.toArray.size).toList = xs := by simp
      have hperm : d.toList.Perm xs := by have := hp.2.2; rwa [hlist, hlist2] at this
      refine ⟨he, d.toList, hperm, ?_, ?_, rfl, rfl, rfl, ?_, ?_⟩
      · rw [List.pairwise_iff_getElem]
        intro i j hi hj hij
        have hi' : i < d.size := by simpa using hi
        have hj' : j < d.size := by simpa using hj
        have := hs i j (Nat.zero_le _) hij (by rw [hsz, ← hds]; exact hj')
        rw [lt_ranges, decide_eq_false_iff_not, getElem!_pos d j hj', getElem!_pos d i hi'] at this
        simp only [Array.getElem_toList]
        omega
      · refine R_own_iff.2 ⟨hok, ?_⟩
        have hlen2 : d.toList.length = xs.length := by simpa using hds
        refine ⟨by rw [flatR_length], .inr ⟨g, cap, _, by rw [hlen2], hb, heap_sortWorldK_self w g m d os cur _ _ hh, by rw [hlen2]; exact hle, hmax, ?_, ?_⟩⟩
        · simp only [Sort.putCells, Array.size_mapIdx]; exact hsize
        · rw [hlen2, ← hds]
          exact take_putCells d cur (by rw [hds, hsize]; exact Nat.mul_le_mul_right _ hle)
      · simp only [Go.Proofs.sortWorldK, Sort.grow, Sort.putRowK, Sort.putRow, Sort.mapBlock, Sort.ahead, Array.size_append, Array.size_modify]
        omega
      · intro k hk hne
        exact heap_sortWorldK_other w g m d os k hk (fun e => hne (by rw [e]; rfl))
end Go.Proofs.Ytcpicopaobhlcaa.Q
end
section
namespace Go.Proofs.Ytcpicopaobhlcaa.Q
open Go.RowKit Go.Proofs.YtcpicopaobhlcaaW.PrintWords Go.Proofs.YtcpicopaobhlcaaW.PrintLast Go.Proofs.YtcpicopaobhlcaaW.PrintMore
abbrev St := S45
abbrev Pc := S59
abbrev Ru := S41
def hasS (s : St) (c : Int) : Bool := CpM.hasB (s.f0.map toP) c
def validS (s : St) : Bool := decide (s.f0.map toP = CpM.make (s.f0.map toP))
def insideS : List St → List Int → Bool
  | [], _ => true
  | _ :: _, [] => false
  | s :: l, c :: t => hasS s c && insideS l t
def coversS (l : List St) (text : List Int) (i : Int) : Bool := decide (0 ≤ i) && (decide (i + l.length ≤ text.length) && insideS l (text.drop i.toNat))
def appliesS (x : Ru) (text : List Int) (i : Int) : Bool := coversS x.f1 text i && (coversS x.f2 text (i + x.f1.length) && coversS x.f0 text (i - x.f0.length))
def stepS (l : List Ru) (text : List Int) (i : Int) : Int × Int :=
  if i < 0 ∨ (text.length : Int) ≤ i then (-1, 0) else
  match l.findIdx? (fun x => appliesS x text i) with
  | some j => (j, ((l.getD j z41).f1.length : Nat))
  | none => (-1, 1)
def pieceBad (m : Nat) (p : Pc) : Bool := !((decide (p.f0 = 0) && (decide (1 ≤ p.f1) && decide (p.f1 ≤ m))) || (decide (p.f1 = 0) && (decide (0 ≤ p.f0) && decide (p.f0 ≤ 1114111))))
def oneS (x : Ru) : Int :=
  if x.f1.length < 1 ∨ 8 < x.f1.length ∨ 8 < x.f0.length ∨ 8 < x.f2.length ∨ 16 < x.f3.length then 2
  else if (x.f0 ++ x.f1 ++ x.f2).any (fun s => !validS s || decide (s.f0.length = 0)) then 11
  else if x.f3.any (pieceBad x.f1.length) then 1 else 0
def firstErr : List Ru → Int
  | [] => 0
  | x :: l => if oneS x = 0 then firstErr l else oneS x
def checkS (l : List Ru) : Int := if 200 < l.length then 2 else firstErr l
def dataS (l : List Ru) : List Ru := if checkS l = 0 then l else []
def okSet (s : St) : Bool := decide (s.f0.length ≤ 12)
def okRule (x : Ru) : Bool := (decide (x.f0.length < 100000000) && (decide (x.f1.length < 100000000) && (decide (x.f2.length < 100000000) && decide (x.f3.length < 100000000)))) && (x.f0.all okSet && (x.f1.all okSet && x.f2.all okSet))
def okRules (l : List Ru) : Bool := decide (l.length < 100000000) && l.all okRule
def writtenS (l : List Ru) (text : List Int) (i : Int) (rule : Int) : List Int :=
  if rule < 0 then [text.getD i.toNat 0] else (l.getD rule.toNat z41).f3.map fun p => if 0 < p.f1 then text.getD (i + (p.f1 - 1)).toNat 0 else p.f0
def applyS (l : List Ru) (text : List Int) : Nat → Int → List Int
  | 0, _ => []
  | n + 1, i => if i < text.length then writtenS l text i (stepS l text i).1 ++ applyS l text n (i + (stepS l text i).2) else []
def reachS (l : List Ru) : Int × Int := (l.foldl (fun m x => max m (x.f0.length : Int)) 0, l.foldl (fun m x => max m ((x.f1.length : Int) + x.f2.length)) 0)
end Go.Proofs.Ytcpicopaobhlcaa.Q
end
section
namespace Go.Proofs.Ytcpicopaobhlcaa.Q
open Go.RowKit Go.Proofs.YtcpicopaobhlcaaW.PrintWords Go.Proofs.YtcpicopaobhlcaaW.PrintLast Go.Proofs.YtcpicopaobhlcaaW.PrintMore
set_option linter.unusedVariables false
theorem spKMR {w W : World} {base : Nat} {ok : Nat → Prop} (x : S69) (cs : List Value) (h : k69.K w x cs) : k69.M W base ok x cs := by
  obtain rfl := k69_open h
  exact k69_mkM _ _ _ x
theorem spInfoR : (Try.prog.info? 69).map (fun i => (i.zero, i.size, i.bytes)) = some (some (.agg #[(.int .i64 0), (.int .i64 0)]), 2, 16) := by kernel_rfl
set_option maxHeartbeats 1000000 in
theorem spCloneR_calls (A0 : Option Addr) (c0 : Nat) (l0 : List S69) (w : World) (hr0 : Kd.C k69 w A0 l0.length l0) (hc0 : l0.length ≤ c0) (hl : l0.length < 1000000000) :
    Calls Try.prog 54 #[.slice A0 l0.length c0] w fun e w' => ∃ v0_ : Value, e = .returned (v0_) ∧ Kd.R k69 69 w' w.heap.size (fun _ => True) v0_ l0 ∧ Below w.heap.size w w' := by
  have HL := Aside0.mk hl
  clear hl
  have hee : ∀ (w : World) (a : Option Addr) (n c : Nat), Sem.run Try.prog (binOp .eql 43 (.slice a n c) (.slice none 0 0)) w = .ok (.bool a.isNone) w := fun w a n c => Lib.run_eql_slice_nil w 43 69 a n c 0 0 Try.underlying43
  have HR := Aside0.mk hr0
  have HB := Aside0.mk (Below.refl w.heap.size w)
  clear hr0
  cases A0 with
  | none =>
    obtain rfl := C_nil_of_none HR.out
    go_enter Try.func54, Try.ntmps54
    go_wp2
    go_ret
    exact ⟨_, rfl, Kd.R_nil _ _ _ _ _, HB.out⟩
  | some a =>
    go_enter Try.func54, Try.ntmps54
    go_wp2_with (at_builtin; refine Kd.R_append_rows k69 (Rr := k69.K (w.alloc (.cells #[] 69))) (w0 := w) w.heap.size rfl (.tmp 5) (.tmp 6) 43 69 (.agg #[.int .i64 0, .int .i64 0]) 16 rfl Try.underlying43 spInfoR rfl (by decide) (by omega) (.slice (some ⟨w.heap.size, 0, none⟩) 0 0) [] l0 (some a) _ _ (fun _ => True) (fun _ => False) rfl rfl ?aO ?aR ?aK (fun _ h => h.elim) ?aF ?aB ?aS ?aL ?_; (case aO => exact R_empty _ _ _ _ _ (Nat.le_refl _) trivial); (case aR => exact Kd.C_alloc HR.out _); (case aK => exact spKMR); (case aF => exact (fun _ _ => trivial)); (case aB => exact below_alloc HB.out _); (case aS => simp); (case aL => have := HL.out; simp; omega); intro v1 w1 ho hb hg hat; have HO := Aside0.mk ho; have HB1 := Aside0.mk hb; clear ho hb hg hat)
    go_ret
    exact ⟨_, rfl, HO.out, HB1.out⟩
theorem spKMP {w W : World} {base : Nat} {ok : Nat → Prop} (x : S59) (cs : List Value) (h : k59.K w x cs) : k59.M W base ok x cs := by
  obtain rfl := k59_open h
  exact k59_mkM _ _ _ x
theorem spInfoP : (Try.prog.info? 59).map (fun i => (i.zero, i.size, i.bytes)) = some (some (.agg #[(.int .i64 0), (.int .i64 0)]), 2, 16) := by kernel_rfl
set_option maxHeartbeats 1000000 in
theorem spCloneP_calls (A0 : Option Addr) (c0 : Nat) (l0 : List S59) (w : World) (hr0 : Kd.C k59 w A0 l0.length l0) (hc0 : l0.length ≤ c0) (hl : l0.length < 1000000000) :
    Calls Try.prog 44 #[.slice A0 l0.length c0] w fun e w' => ∃ v0_ : Value, e = .returned (v0_) ∧ Kd.R k59 59 w' w.heap.size (fun _ => True) v0_ l0 ∧ Below w.heap.size w w' := by
  have HL := Aside0.mk hl
  clear hl
  have hee : ∀ (w : World) (a : Option Addr) (n c : Nat), Sem.run Try.prog (binOp .eql 39 (.slice a n c) (.slice none 0 0)) w = .ok (.bool a.isNone) w := fun w a n c => Lib.run_eql_slice_nil w 39 59 a n c 0 0 Try.underlying39
  have HR := Aside0.mk hr0
  have HB := Aside0.mk (Below.refl w.heap.size w)
  clear hr0
  cases A0 with
  | none =>
    obtain rfl := C_nil_of_none HR.out
    go_enter Try.func44, Try.ntmps44
    go_wp2
    go_ret
    exact ⟨_, rfl, Kd.R_nil _ _ _ _ _, HB.out⟩
  | some a =>
    go_enter Try.func44, Try.ntmps44
    go_wp2_with (at_builtin; refine Kd.R_append_rows k59 (Rr := k59.K (w.alloc (.cells #[] 59))) (w0 := w) w.heap.size rfl (.tmp 5) (.tmp 6) 39 59 (.agg #[.int .i64 0, .int .i64 0]) 16 rfl Try.underlying39 spInfoP rfl (by decide) (by omega) (.slice (some ⟨w.heap.size, 0, none⟩) 0 0) [] l0 (some a) _ _ (fun _ => True) (fun _ => False) rfl rfl ?aO ?aR ?aK (fun _ h => h.elim) ?aF ?aB ?aS ?aL ?_; (case aO => exact R_empty _ _ _ _ _ (Nat.le_refl _) trivial); (case aR => exact Kd.C_alloc HR.out _); (case aK => exact spKMP); (case aF => exact (fun _ _ => trivial)); (case aB => exact below_alloc HB.out _); (case aS => simp); (case aL => have := HL.out; simp; omega); intro v1 w1 ho hb hg hat; have HO := Aside0.mk ho; have HB1 := Aside0.mk hb; clear ho hb hg hat)
    go_ret
    exact ⟨_, rfl, HO.out, HB1.out⟩
theorem spMake {t e : TypeId} {sz bytes : Nat} {z : Value} (ht : Try.prog.underlying t = some (.slice e)) (hinfo : (Try.prog.info? e).map (fun i => (i.zero, i.size, i.bytes)) = some (some z, sz, bytes)) (c : Nat) (hc : bytes * c ≤ 281474976710656) (hc2 : c ≤ 1000000000) :
    ∀ w : World, (Instr.makeSlice t (.int .i64 0) (.int .i64 (c : Int))).run Try.prog w = .ok (.slice (some ⟨w.heap.size, 0, none⟩) 0 c) (w.alloc (.cells (madeCells z.cells (c * sz)) e)) := by
  intro w
  obtain ⟨i, hi, hzz⟩ := Option.map_eq_some_iff.1 hinfo
  simp only [Prod.mk.injEq] at hzz
  obtain ⟨h0, h1, h2⟩ := hzz
  have hb : (i.bytes : Int) * (c : Int) ≤ 281474976710656 := by
    rw [h2]
    have h : ((bytes * c : Nat) : Int) ≤ 281474976710656 := by omega
    rwa [Int.natCast_mul] at h
  have hr := run_make (P := Try.prog) w t e i z ht hi h0 .i64 .i64 0 (c : Int) (Int.le_refl _) (by omega) hb (by omega)
  simp only [Int.toNat_zero, Int.toNat_natCast, h1] at hr
  exact hr
theorem R_made {α : Type} (d : Kd α) (e : Nat) (w : World) (base : Nat) (ok : Nat → Prop) (cs : Array Value) (c : Nat) (hc : c ≤ 1000000000) (hsz : cs.size = c * d.sz) (hb : base ≤ w.heap.size) (hok : ok w.heap.size) : d.R e (w.alloc (.cells cs e)) base ok (.slice (some ⟨w.heap.size, 0, none⟩) 0 c) [] := by
  refine ⟨fun k hk => ?_, [], ?_, Reps.none _ _⟩
  · have : w.heap.size = k := by simpa [Value.ownBlock] using hk
    subst this; exact hok
  · exact ⟨by simp, .inr ⟨w.heap.size, c, cs, rfl, hb, heap_alloc_new w _, Nat.zero_le _, by unfold maxLen; omega, hsz, by simp⟩⟩
theorem spInfoS : (Try.prog.info? 45).map (fun i => (i.zero, i.size, i.bytes)) = some (some (.agg #[(.slice none 0 0)]), 1, 24) := by kernel_rfl
set_option maxHeartbeats 4000000 in
set_option maxRecDepth 100000 in
theorem spSets_calls (A0 : Option Addr) (c0 : Nat) (l : List St) (w : World) (hr : Kd.C k45 w A0 l.length l) (hc : l.length ≤ c0) (hl : l.length < 1000000) (hs : ∀ s ∈ l, s.f0.length < 1000000) :
    Calls Try.prog 43 #[.slice A0 l.length c0] w fun e w' => ∃ v, e = .returned v ∧ Kd.R k45 45 w' w.heap.size (fun _ => True) v l ∧ Below w.heap.size w w' := by
  have HR := Aside0.mk hr
  have HC := Aside0.mk hc
  have HL := Aside0.mk hl
  have HSL := Aside0.mk hs
  have hmk := spMake Try.underlying38 spInfoS l.length (by omega) (by omega)
  have hu1 := Try.underlying45
  clear hr hc hl hs
  go_enter Try.func43, Try.ntmps43
  go_wp2
  go_loopw [3, 11] (fun ov i wr => ∃ k : Nat, i = .int .i64 k ∧ Aside0 (k ≤ l.length) ∧ Aside0 (Kd.R k45 45 wr w.heap.size (fun _ => True) ov (l.take k)) ∧ Aside0 (Below w.heap.size w wr)) (fun _ i _ => l.length - (intOf i).toNat)
  case atStart => exact ⟨0, rfl, ⟨Nat.zero_le _⟩, ⟨R_made k45 45 w w.heap.size _ _ l.length (by have := HL.out; omega) ((size_madeCells _ _).trans (Nat.mul_one _).symm) (Nat.le_refl _) trivial⟩, ⟨below_alloc (Below.refl _ _) _⟩⟩
  case round =>
    obtain ⟨k, rfl, HK, HO, HB⟩ := hrel
    by_cases hlt : k < l.length
    · obtain ⟨ad, B0, d0, e, x0, y0, z0⟩ := at_T45 (Kd.C_below HR.out HB.out) (k : Int) (by omega) (by omega)
      cases e
      rw [Int.toNat_natCast] at x0
      have hmem : rd_T45 l (k : Int) ∈ l := by unfold rd_T45; rw [Int.toNat_natCast, List.getD_eq_getElem?_getD, List.getElem?_eq_getElem hlt]; exact List.getElem_mem hlt
      have hst : l.take (k + 1) = l.take k ++ [rd_T45 l (k : Int)] := by
        unfold rd_T45
        rw [Int.toNat_natCast, List.getD_eq_getElem?_getD, List.take_add_one, List.getElem?_eq_getElem hlt]
        rfl
      have hsl := HSL.out _ hmem
      have HST := Aside0.mk hst
      have Y0 := Aside0.mk y0
      have Z0 := Aside0.mk z0
      have HSX := Aside0.mk hsl
      have HLEN : Aside0 ((l.take k).length < 1000000) := ⟨by rw [List.length_take]; have := HL.out; omega⟩
      clear hst hmem hsl y0 z0
      generalize rd_T45 l (k : Int) = x at *
      have hp1 : (0 ≤ (k : Int)) = True := eq_true (by omega)
      have hp2 : ((k : Int) < (l.length : Int)) = True := eq_true (by omega)
      have hw : wrap64 ((k : Int) + 1) = (k : Int) + 1 := by have := HL.out; unfold wrap64; omega
      have x0b := pw_cell_below (below_alloc (Below.refl _ wr) (.cells #[.slice B0 x.f0.length d0] 45)) x0
      have HLT := Aside0.mk (Kd.R_lt HO.out)
      go_wp2_with (first | (go_at_call 54; (with_reducible refine (spCloneR_calls B0 d0 x.f0 _ ?s1 Y0.out (by have := HSX.out; omega)).mono ?_); (case s1 => exact Kd.C_alloc Z0.out _); rintro e w3 ⟨v3, rfl, hv3, hb⟩; obtain ⟨B3, d3, rfl⟩ := Kd.R_slice hv3; have HV3 := Aside0.mk hv3; have HB3 := Aside0.mk (below_step (by repeat (first | (with_reducible first | exact HB.out | apply below_alloc | apply pw_below_drewN | apply below_drew1) | exact HB.out)) hb); have HO3 := Aside0.mk (Kd.R_below (Kd.R_alloc HO.out (.cells #[.slice B0 x.f0.length d0] 45)) hb); have HSZ := Aside0.mk (show wr.heap.size ≤ (wr.alloc (.cells #[.slice B0 x.f0.length d0] 45)).heap.size by rw [World.size_alloc]; omega); clear hb hv3) | (at_builtin; refine Kd.R_append k45 (w0 := w) w.heap.size rfl (.tmp 15) (.tmp 20) 38 45 (.agg #[.slice none 0 0]) 24 rfl Try.underlying38 spInfoS rfl (by decide) (by omega) u3 (l.take k) x [.slice B3 x.f0.length d3] (fun _ => True) (fun k_ => wr.heap.size ≤ k_) rfl rfl ?aP ?aK ?aF ?aO ?aB ?aS ?aL ?_; (case aP => exact k45_mkM _ _ _ x (Kd.R_lower (Kd.R_mono (Kd.R_bound HV3.out) (fun k_ hk => Nat.le_trans HSZ.out hk.2.1)) (Nat.le_trans HB.out.size HSZ.out))); (case aK => exact (fun k_ hk => ⟨trivial, fun e => by have := HLT.out k_ e.symm; omega⟩)); (case aB => exact (by repeat (first | (with_reducible first | exact HB3.out | apply below_alloc | apply pw_below_drewN | apply below_drew1) | exact HB3.out))); (case aF => exact (fun _ _ => trivial)); (case aO => exact (by (with_reducible repeat (first | apply Kd.R_alloc | apply Kd.R_drewN | apply Kd.R_drew)); exact HO3.out)); (case aS => exact (below_size (by repeat (first | (with_reducible first | exact HB3.out | apply below_alloc | apply pw_below_drewN | apply below_drew1) | exact HB3.out)))); (case aL => have h1_ := HLEN.out; omega); intro v4 w4 ho hb hg hat; have HB4 := Aside0.mk hb; have HO4 := Aside0.mk ho; clear ho hb hg hat))
      go_roundw
      case rel => exact ⟨k + 1, by rw [hw]; rfl, ⟨hlt⟩, ⟨by rw [HST.out]; exact HO4.out⟩, HB4⟩
      case measure => rw [hw]; simp only [intOf]; omega
    · obtain rfl : k = l.length := by have := HK.out; omega
      rw [List.take_length] at HO
      go_wp2
      go_ret
      exact ⟨_, rfl, HO.out, HB.out⟩
end Go.Proofs.Ytcpicopaobhlcaa.Q
end
section
namespace Go.Proofs.Ytcpicopaobhlcaa.Q
open Go.RowKit Go.Proofs.YtcpicopaobhlcaaW.PrintWords Go.Proofs.YtcpicopaobhlcaaW.PrintLast Go.Proofs.YtcpicopaobhlcaaW.PrintMore
set_option linter.unusedVariables false
theorem spInfoU : (Try.prog.info? 41).map (fun i => (i.zero, i.size, i.bytes)) = some (some (.agg #[(.slice none 0 0), (.slice none 0 0), (.slice none 0 0), (.slice none 0 0)]), 4, 96) := by kernel_rfl
/-- Rules of lengths that fit. -/
def spLens (x : Ru) : Prop := (x.f0.length < 1000000 ∧ ∀ s ∈ x.f0, s.f0.length < 1000000) ∧ (x.f1.length < 1000000 ∧ ∀ s ∈ x.f1, s.f0.length < 1000000) ∧ (x.f2.length < 1000000 ∧ ∀ s ∈ x.f2, s.f0.length < 1000000) ∧ x.f3.length < 1000000
theorem spKeepC {W w9 : World} {g i : Nat} {v : Value} {u : Option Nat} (hg : W.grownBy w9 u) (hlt : ∀ k, u = some k → k < g) (h : W.cell? ⟨g, i, none⟩ = some v) : w9.cell? ⟨g, i, none⟩ = some v :=
  (World.cell?_of_block (hg.block g (World.block_lt_of_cell? _ _ h) (fun e => by have := hlt _ e.symm; omega))).trans h
set_option maxHeartbeats 8000000 in
set_option maxRecDepth 100000 in
theorem spClone_calls (A0 : Option Addr) (c0 : Nat) (l : List Ru) (w : World) (hr : Kd.C k41 w A0 l.length l) (hc : l.length ≤ c0) (hl : l.length < 1000000) (hs : ∀ x ∈ l, spLens x) :
    Calls Try.prog 28 #[.slice A0 l.length c0] w fun e w' => ∃ v, e = .returned v ∧ Kd.R k41 41 w' w.heap.size (fun _ => True) v l ∧ Below w.heap.size w w' := by
  have HR := Aside0.mk hr
  have HC := Aside0.mk hc
  have HL := Aside0.mk hl
  have HSL := Aside0.mk hs
  have hmk := spMake Try.underlying22 spInfoU l.length (by omega) (by omega)
  have hu1 := Try.underlying41
  clear hr hc hl hs
  go_enter Try.func28, Try.ntmps28
  go_wp2
  go_loopw [3, 11] (fun ov i wr => ∃ k : Nat, i = .int .i64 k ∧ Aside0 (k ≤ l.length) ∧ Aside0 (Kd.R k41 41 wr w.heap.size (fun _ => True) ov (l.take k)) ∧ Aside0 (Below w.heap.size w wr)) (fun _ i _ => l.length - (intOf i).toNat)
  case atStart => exact ⟨0, rfl, ⟨Nat.zero_le _⟩, ⟨R_made k41 41 w w.heap.size _ _ l.length (by have := HL.out; omega) (size_madeCells _ _) (Nat.le_refl _) trivial⟩, ⟨below_alloc (Below.refl _ _) _⟩⟩
  case round =>
    obtain ⟨k, rfl, HK, HO, HBB⟩ := hrel
    by_cases hlt : k < l.length
    · obtain ⟨ad, B0, d0, B1, d1, B2, d2, B3, d3, e, x0, x1, x2, x3, y0, z0, y1, z1, y2, z2, y3, z3⟩ := at_T41 (Kd.C_below HR.out HBB.out) (k : Int) (by omega) (by omega)
      cases e
      rw [Int.toNat_natCast] at x0 x1 x2 x3
      have hmem : rd_T41 l (k : Int) ∈ l := by unfold rd_T41; rw [Int.toNat_natCast, List.getD_eq_getElem?_getD, List.getElem?_eq_getElem hlt]; exact List.getElem_mem hlt
      have hst : l.take (k + 1) = l.take k ++ [rd_T41 l (k : Int)] := by
        unfold rd_T41
        rw [Int.toNat_natCast, List.getD_eq_getElem?_getD, List.take_add_one, List.getElem?_eq_getElem hlt]
        rfl
      obtain ⟨q0, q1, q2, q3⟩ := HSL.out _ hmem
      have HST := Aside0.mk hst
      have Y0 := Aside0.mk y0
      have Z0 := Aside0.mk z0
      have Y1 := Aside0.mk y1
      have Z1 := Aside0.mk z1
      have Y2 := Aside0.mk y2
      have Z2 := Aside0.mk z2
      have Y3 := Aside0.mk y3
      have Z3 := Aside0.mk z3
      have HX0 := Aside0.mk q0
      have HX1 := Aside0.mk q1
      have HX2 := Aside0.mk q2
      have HX3 := Aside0.mk q3
      have HLEN : Aside0 ((l.take k).length < 1000000) := ⟨by rw [List.length_take]; have := HL.out; omega⟩
      clear hst hmem y0 z0 y1 z1 y2 z2 y3 z3 q0 q1 q2 q3
      generalize rd_T41 l (k : Int) = x at *
      have hp1 : (0 ≤ (k : Int)) = True := eq_true (by omega)
      have hp2 : ((k : Int) < (l.length : Int)) = True := eq_true (by omega)
      have hw : wrap64 ((k : Int) + 1) = (k : Int) + 1 := by have := HL.out; unfold wrap64; omega
      have hbk := heap_alloc_new wr (.cells #[.slice B0 x.f0.length d0, .slice B1 x.f1.length d1, .slice B2 x.f2.length d2, .slice B3 x.f3.length d3] 41)
      have X0 : (wr.alloc (.cells #[.slice B0 x.f0.length d0, .slice B1 x.f1.length d1, .slice B2 x.f2.length d2, .slice B3 x.f3.length d3] 41)).cell? ⟨wr.heap.size, 0, none⟩ = some (.slice B0 x.f0.length d0) := (blk_cell hbk 0).trans rfl
      have X1 : (wr.alloc (.cells #[.slice B0 x.f0.length d0, .slice B1 x.f1.length d1, .slice B2 x.f2.length d2, .slice B3 x.f3.length d3] 41)).cell? ⟨wr.heap.size, 1, none⟩ = some (.slice B1 x.f1.length d1) := (blk_cell hbk 1).trans rfl
      have X2 : (wr.alloc (.cells #[.slice B0 x.f0.length d0, .slice B1 x.f1.length d1, .slice B2 x.f2.length d2, .slice B3 x.f3.length d3] 41)).cell? ⟨wr.heap.size, 2, none⟩ = some (.slice B2 x.f2.length d2) := (blk_cell hbk 2).trans rfl
      have X3 : (wr.alloc (.cells #[.slice B0 x.f0.length d0, .slice B1 x.f1.length d1, .slice B2 x.f2.length d2, .slice B3 x.f3.length d3] 41)).cell? ⟨wr.heap.size, 3, none⟩ = some (.slice B3 x.f3.length d3) := (blk_cell hbk 3).trans rfl
      have HLT := Aside0.mk (Kd.R_lt HO.out)
      have HW := Aside0.mk (Below.refl wr.heap.size wr)
      clear hbk
      go_wp2
      go_region_held3 (fun w' => w'.cell? ⟨wr.heap.size, 0, none⟩ = some (.slice B0 x.f0.length d0) ∧ w'.cell? ⟨wr.heap.size, 1, none⟩ = some (.slice B1 x.f1.length d1) ∧ w'.cell? ⟨wr.heap.size, 2, none⟩ = some (.slice B2 x.f2.length d2) ∧ w'.cell? ⟨wr.heap.size, 3, none⟩ = some (.slice B3 x.f3.length d3)) (first | go_keep | (go_split_ands; refine ⟨?_, ?_, ?_, ?_⟩; (refine pw_cell_below hb ?_; assumption); (refine pw_cell_below hb ?_; assumption); (refine pw_cell_below hb ?_; assumption); (refine pw_cell_below hb ?_; assumption)) | exact ⟨spKeepC hgq hltq K0.out, spKeepC hgq hltq K1.out, spKeepC hgq hltq K2.out, spKeepC hgq hltq K3.out⟩)
        (first | (go_at_call 43; (with_reducible refine (spSets_calls B0 d0 x.f0 _ ?s1 Y0.out HX0.out.1 HX0.out.2).mono ?_); (case s1 => exact Kd.C_below Z0.out (by repeat (first | (with_reducible first | exact HW.out | apply below_alloc | apply pw_below_drewN | apply below_drew1) | exact HW.out))); rintro e w2 ⟨v0, rfl, hv, hb⟩; obtain ⟨D0, g0, rfl⟩ := Kd.R_slice hv; have HV0 := Aside0.mk (Kd.R_lower (Kd.R_mono (ok' := fun k_ => wr.heap.size ≤ k_) (Kd.R_bound hv) (fun k_ hk => Nat.le_trans (below_size (by repeat (first | (with_reducible first | exact HW.out | apply below_alloc | apply pw_below_drewN | apply below_drew1) | exact HW.out))) hk.2.1)) (Nat.le_trans HBB.out.size (below_size (by repeat (first | (with_reducible first | exact HW.out | apply below_alloc | apply pw_below_drewN | apply below_drew1) | exact HW.out))))); have mo := Aside0.mk (Kd.R_below (by (with_reducible repeat (first | apply Kd.R_alloc | apply Kd.R_drewN | apply Kd.R_drew)); exact HO.out) hb); have mb := Aside0.mk (below_step (by repeat (first | (with_reducible first | exact HW.out | apply below_alloc | apply pw_below_drewN | apply below_drew1) | exact HW.out)) hb); clear HO; clear HW; clear hv; have HO := mo; have HW := mb; (try clear mo); (try clear mb)) | (go_at_call 43; (with_reducible refine (spSets_calls B1 d1 x.f1 _ ?s1 Y1.out HX1.out.1 HX1.out.2).mono ?_); (case s1 => exact Kd.C_below Z1.out (by repeat (first | (with_reducible first | exact HW.out | apply below_alloc | apply pw_below_drewN | apply below_drew1) | exact HW.out))); rintro e w3 ⟨v1, rfl, hv, hb⟩; obtain ⟨D1, g1, rfl⟩ := Kd.R_slice hv; have HV1 := Aside0.mk (Kd.R_lower (Kd.R_mono (ok' := fun k_ => wr.heap.size ≤ k_) (Kd.R_bound hv) (fun k_ hk => Nat.le_trans (below_size (by repeat (first | (with_reducible first | exact HW.out | apply below_alloc | apply pw_below_drewN | apply below_drew1) | exact HW.out))) hk.2.1)) (Nat.le_trans HBB.out.size (below_size (by repeat (first | (with_reducible first | exact HW.out | apply below_alloc | apply pw_below_drewN | apply below_drew1) | exact HW.out))))); have m0 := Aside0.mk (Kd.R_below (by (with_reducible repeat (first | apply Kd.R_alloc | apply Kd.R_drewN | apply Kd.R_drew)); exact HV0.out) hb); have mo := Aside0.mk (Kd.R_below (by (with_reducible repeat (first | apply Kd.R_alloc | apply Kd.R_drewN | apply Kd.R_drew)); exact HO.out) hb); have mb := Aside0.mk (below_step (by repeat (first | (with_reducible first | exact HW.out | apply below_alloc | apply pw_below_drewN | apply below_drew1) | exact HW.out)) hb); clear HO; clear HW; clear HV0; clear hv; have HO := mo; have HW := mb; have HV0 := m0; (try clear mo); (try clear mb)) | (go_at_call 43; (with_reducible refine (spSets_calls B2 d2 x.f2 _ ?s1 Y2.out HX2.out.1 HX2.out.2).mono ?_); (case s1 => exact Kd.C_below Z2.out (by repeat (first | (with_reducible first | exact HW.out | apply below_alloc | apply pw_below_drewN | apply below_drew1) | exact HW.out))); rintro e w4 ⟨v2, rfl, hv, hb⟩; obtain ⟨D2, g2, rfl⟩ := Kd.R_slice hv; have HV2 := Aside0.mk (Kd.R_lower (Kd.R_mono (ok' := fun k_ => wr.heap.size ≤ k_) (Kd.R_bound hv) (fun k_ hk => Nat.le_trans (below_size (by repeat (first | (with_reducible first | exact HW.out | apply below_alloc | apply pw_below_drewN | apply below_drew1) | exact HW.out))) hk.2.1)) (Nat.le_trans HBB.out.size (below_size (by repeat (first | (with_reducible first | exact HW.out | apply below_alloc | apply pw_below_drewN | apply below_drew1) | exact HW.out))))); have m0 := Aside0.mk (Kd.R_below (by (with_reducible repeat (first | apply Kd.R_alloc | apply Kd.R_drewN | apply Kd.R_drew)); exact HV0.out) hb); have m1 := Aside0.mk (Kd.R_below (by (with_reducible repeat (first | apply Kd.R_alloc | apply Kd.R_drewN | apply Kd.R_drew)); exact HV1.out) hb); have mo := Aside0.mk (Kd.R_below (by (with_reducible repeat (first | apply Kd.R_alloc | apply Kd.R_drewN | apply Kd.R_drew)); exact HO.out) hb); have mb := Aside0.mk (below_step (by repeat (first | (with_reducible first | exact HW.out | apply below_alloc | apply pw_below_drewN | apply below_drew1) | exact HW.out)) hb); clear HO; clear HW; clear HV0 HV1; clear hv; have HO := mo; have HW := mb; have HV0 := m0; have HV1 := m1; (try clear mo); (try clear mb)) | (go_at_call 44; (with_reducible refine (spCloneP_calls B3 d3 x.f3 _ ?s1 Y3.out (by have := HX3.out; omega)).mono ?_); (case s1 => exact Kd.C_below Z3.out (by repeat (first | (with_reducible first | exact HW.out | apply below_alloc | apply pw_below_drewN | apply below_drew1) | exact HW.out))); rintro e w5 ⟨v3, rfl, hv, hb⟩; have K0 := Aside0.mk (show w5.cell? ⟨wr.heap.size, 0, none⟩ = some (.slice B0 x.f0.length d0) from pw_cell_below hb (by go_split_ands; assumption)); have K1 := Aside0.mk (show w5.cell? ⟨wr.heap.size, 1, none⟩ = some (.slice B1 x.f1.length d1) from pw_cell_below hb (by go_split_ands; assumption)); have K2 := Aside0.mk (show w5.cell? ⟨wr.heap.size, 2, none⟩ = some (.slice B2 x.f2.length d2) from pw_cell_below hb (by go_split_ands; assumption)); have K3 := Aside0.mk (show w5.cell? ⟨wr.heap.size, 3, none⟩ = some (.slice B3 x.f3.length d3) from pw_cell_below hb (by go_split_ands; assumption));  obtain ⟨D3, g3, rfl⟩ := Kd.R_slice hv; have HV3 := Aside0.mk (Kd.R_lower (Kd.R_mono (ok' := fun k_ => wr.heap.size ≤ k_) (Kd.R_bound hv) (fun k_ hk => Nat.le_trans (below_size (by repeat (first | (with_reducible first | exact HW.out | apply below_alloc | apply pw_below_drewN | apply below_drew1) | exact HW.out))) hk.2.1)) (Nat.le_trans HBB.out.size (below_size (by repeat (first | (with_reducible first | exact HW.out | apply below_alloc | apply pw_below_drewN | apply below_drew1) | exact HW.out))))); have m0 := Aside0.mk (Kd.R_below (by (with_reducible repeat (first | apply Kd.R_alloc | apply Kd.R_drewN | apply Kd.R_drew)); exact HV0.out) hb); have m1 := Aside0.mk (Kd.R_below (by (with_reducible repeat (first | apply Kd.R_alloc | apply Kd.R_drewN | apply Kd.R_drew)); exact HV1.out) hb); have m2 := Aside0.mk (Kd.R_below (by (with_reducible repeat (first | apply Kd.R_alloc | apply Kd.R_drewN | apply Kd.R_drew)); exact HV2.out) hb); have mo := Aside0.mk (Kd.R_below (by (with_reducible repeat (first | apply Kd.R_alloc | apply Kd.R_drewN | apply Kd.R_drew)); exact HO.out) hb); have mb := Aside0.mk (below_step (by repeat (first | (with_reducible first | exact HW.out | apply below_alloc | apply pw_below_drewN | apply below_drew1) | exact HW.out)) hb); clear HO; clear HW; clear HV0 HV1 HV2; clear hv; have HO := mo; have HW := mb; have HV0 := m0; have HV1 := m1; have HV2 := m2; (try clear mo); (try clear mb)) | (revert HV3; intro HV3; (refine Kd.R_append_step k41 (w0 := w) w.heap.size (by rfl) (.tmp 15) (.tmp 29) 22 41 (.agg #[.slice none 0 0, .slice none 0 0, .slice none 0 0, .slice none 0 0]) 96 (by rfl) Try.underlying22 spInfoU rfl (by decide) (by omega) u3 (l.take k) x [.slice D0 x.f0.length g0, .slice D1 x.f1.length g1, .slice D2 x.f2.length g2, .slice D3 x.f3.length g3] (fun _ => True) (fun k_ => wr.heap.size ≤ k_) (by rfl) (by first | (go_simp; done) | (go_simp; rfl)) (k41_mkM _ _ _ x (by (with_reducible repeat (first | apply Kd.R_alloc | apply Kd.R_drewN | apply Kd.R_drew)); exact HV0.out) (by (with_reducible repeat (first | apply Kd.R_alloc | apply Kd.R_drewN | apply Kd.R_drew)); exact HV1.out) (by (with_reducible repeat (first | apply Kd.R_alloc | apply Kd.R_drewN | apply Kd.R_drew)); exact HV2.out) (by (with_reducible repeat (first | apply Kd.R_alloc | apply Kd.R_drewN | apply Kd.R_drew)); exact HV3.out)) (fun k_ hk => ⟨trivial, fun e => by have := HLT.out k_ e.symm; omega⟩) (fun _ _ => trivial) (by (with_reducible repeat (first | apply Kd.R_alloc | apply Kd.R_drewN | apply Kd.R_drew)); exact HO.out) (below_step HBB.out (by repeat (first | (with_reducible first | exact HW.out | apply below_alloc | apply pw_below_drewN | apply below_drew1) | exact HW.out))) (Nat.le_trans HBB.out.size (below_size (by repeat (first | (with_reducible first | exact HW.out | apply below_alloc | apply pw_below_drewN | apply below_drew1) | exact HW.out)))) (by have h1_ := HLEN.out; omega) ?_); intro v9 w9 ho hb9 hg hat; have hgq := hg; have hltq := HLT.out; have HB9 := Aside0.mk hb9; have HO9 := Aside0.mk ho; clear ho hb9 hat))
      go_wp2
      go_roundw
      case rel => exact ⟨k + 1, by rw [hw]; rfl, ⟨hlt⟩, ⟨by rw [HST.out]; exact HO9.out⟩, HB9⟩
      case measure => rw [hw]; simp only [intOf]; omega
    · obtain rfl : k = l.length := by have := HK.out; omega
      rw [List.take_length] at HO
      go_wp2
      go_ret
      exact ⟨_, rfl, HO.out, HBB.out⟩
end Go.Proofs.Ytcpicopaobhlcaa.Q
end
section
namespace Go.Proofs.Ytcpicopaobhlcaa.Q
open Go.RowKit Go.Proofs.YtcpicopaobhlcaaW.PrintWords Go.Proofs.YtcpicopaobhlcaaW.PrintLast Go.Proofs.YtcpicopaobhlcaaW.PrintMore
set_option linter.unusedVariables false
theorem gbSet (w : World) (b i : Nat) (u : Value) : w.grownBy (w.setCell ⟨b, i, none⟩ u) (some b) := by
  have h := (Below.refl 0 w).setCell (p := ⟨b, i, none⟩) (Nat.zero_le _) u
  exact ⟨h.os, h.tape, h.output, h.size, fun k _ hk => Below.heap_setCell w ⟨b, i, none⟩ u k (fun e => hk (by rw [e]))⟩
theorem gbBelow {w w1 w2 : World} {b : Nat} (h : w.grownBy w1 (some b)) (k : Below w1.heap.size w1 w2) : w.grownBy w2 (some b) := h.trans (grown_of_below k _)
/-- The block of a stream. -/
def StrmB (w : World) (b : Nat) (At : Option Addr) (nt ct : Nat) (a : Int) (Al : Option Addr) (nl cl : Nat) (be ah : Int) : Prop :=
  w.heap[b]? = some (.cells #[.slice At nt ct, .int .i64 a, .slice Al nl cl, .int .i64 be, .int .i64 ah] 53 (0, 0))
/-- A stream: what is kept of its input, the position, its rules and two numbers; its rows lie in blocks of ok. -/
def Strm (w : World) (b : Nat) (ok : Nat → Prop) (t : List Int) (a : Nat) (l : List Ru) (be ah : Nat) : Prop :=
  ∃ At ct Al cl, StrmB w b At t.length ct a Al l.length cl be ah ∧ t.length ≤ ct ∧ Kd.F (Kd.int .i64) w ok At t.length t ∧ l.length ≤ cl ∧ Kd.F k41 w ok Al l.length l
theorem Strm.step {w w' : World} {b : Nat} {ok : Nat → Prop} {t : List Int} {a : Nat} {l : List Ru} {be ah : Nat} (h : Strm w b ok t a l be ah) (hb : w'.heap[b]? = w.heap[b]?) (hk : ∀ k, ok k → k < w.heap.size → w'.heap[k]? = w.heap[k]?) : Strm w' b ok t a l be ah := by
  obtain ⟨At, ct, Al, cl, h1, h2, h3, h4, h5⟩ := h
  exact ⟨At, ct, Al, cl, hb.trans h1, h2, Kd.F_step h3 hk, h4, Kd.F_step h5 hk⟩
theorem Strm.lt {w : World} {b : Nat} {ok : Nat → Prop} {t : List Int} {a : Nat} {l : List Ru} {be ah : Nat} (h : Strm w b ok t a l be ah) : b < w.heap.size := by
  obtain ⟨At, ct, Al, cl, h1, _⟩ := h
  exact blk_lt h1
theorem Strm.below {w w' : World} {b : Nat} {ok : Nat → Prop} {t : List Int} {a : Nat} {l : List Ru} {be ah : Nat} (h : Strm w b ok t a l be ah) (hb : Below w.heap.size w w') : Strm w' b ok t a l be ah :=
  h.step (hb.block b h.lt) (fun k _ hlt => hb.block k hlt)
theorem Strm.grown {w w' : World} {b : Nat} {ok : Nat → Prop} {t : List Int} {a : Nat} {l : List Ru} {be ah : Nat} (h : Strm w b ok t a l be ah) {row : Option Nat} (hg : w.grownBy w' row) (hb : some b ≠ row) (hk : ∀ k, ok k → some k ≠ row) : Strm w' b ok t a l be ah :=
  h.step (hg.block b h.lt hb) (fun k hok hlt => hg.block k hlt (hk k hok))
theorem Strm.mono {w : World} {b : Nat} {ok ok' : Nat → Prop} {t : List Int} {a : Nat} {l : List Ru} {be ah : Nat} (h : Strm w b ok t a l be ah) (hk : ∀ k, ok k → ok' k) : Strm w b ok' t a l be ah := by
  obtain ⟨At, ct, Al, cl, h1, h2, h3, h4, h5⟩ := h
  exact ⟨At, ct, Al, cl, h1, h2, Kd.F_mono h3 hk, h4, Kd.F_mono h5 hk⟩
theorem StrmB.c0 {w : World} {b : Nat} {At : Option Addr} {nt ct : Nat} {a : Int} {Al : Option Addr} {nl cl : Nat} {be ah : Int} (h : StrmB w b At nt ct a Al nl cl be ah) : w.cell? ⟨b, 0, none⟩ = some (.slice At nt ct) := (blk_cell h 0).trans rfl
theorem StrmB.c1 {w : World} {b : Nat} {At : Option Addr} {nt ct : Nat} {a : Int} {Al : Option Addr} {nl cl : Nat} {be ah : Int} (h : StrmB w b At nt ct a Al nl cl be ah) : w.cell? ⟨b, 1, none⟩ = some (.int .i64 a) := (blk_cell h 1).trans rfl
theorem StrmB.c2 {w : World} {b : Nat} {At : Option Addr} {nt ct : Nat} {a : Int} {Al : Option Addr} {nl cl : Nat} {be ah : Int} (h : StrmB w b At nt ct a Al nl cl be ah) : w.cell? ⟨b, 2, none⟩ = some (.slice Al nl cl) := (blk_cell h 2).trans rfl
theorem StrmB.c3 {w : World} {b : Nat} {At : Option Addr} {nt ct : Nat} {a : Int} {Al : Option Addr} {nl cl : Nat} {be ah : Int} (h : StrmB w b At nt ct a Al nl cl be ah) : w.cell? ⟨b, 3, none⟩ = some (.int .i64 be) := (blk_cell h 3).trans rfl
theorem StrmB.c4 {w : World} {b : Nat} {At : Option Addr} {nt ct : Nat} {a : Int} {Al : Option Addr} {nl cl : Nat} {be ah : Int} (h : StrmB w b At nt ct a Al nl cl be ah) : w.cell? ⟨b, 4, none⟩ = some (.int .i64 ah) := (blk_cell h 4).trans rfl
theorem StrmB.fz {w : World} {b : Nat} {At : Option Addr} {nt ct : Nat} {a : Int} {Al : Option Addr} {nl cl : Nat} {be ah : Int} (h : StrmB w b At nt ct a Al nl cl be ah) (i : Nat) : w.frozen? ⟨b, i, none⟩ = false := blk_frozen h i
set_option maxHeartbeats 1000000 in
theorem sOpen_calls (b : Nat) (At : Option Addr) (nt ct : Nat) (a : Int) (Al : Option Addr) (nl cl : Nat) (be ah : Int) (w : World) (h : StrmB w b At nt ct a Al nl cl be ah) :
    Calls Try.prog 29 #[.pointer (some ⟨b, 0, none⟩)] w fun e w' => e = .returned (.bool (decide (ah > 0))) ∧ Below w.heap.size w w' := by
  have h4 := h.c4
  clear h
  go_enter Try.func29, Try.ntmps29
  go_wp2
  go_ret
  exact ⟨rfl, Below.refl _ _⟩
set_option maxHeartbeats 1000000 in
theorem sRest_calls (b : Nat) (At : Option Addr) (nt ct : Nat) (a : Int) (Al : Option Addr) (nl cl : Nat) (be ah : Int) (w : World) (h : StrmB w b At nt ct a Al nl cl be ah) (hn : nt < 1000000000) (ha : 0 ≤ a ∧ a < 1000000000) :
    Calls Try.prog 45 #[.pointer (some ⟨b, 0, none⟩)] w fun e w' => e = .returned (.int .i64 ((nt : Int) - a)) ∧ Below w.heap.size w w' := by
  have h0 := h.c0
  have h1 := h.c1
  have hw : wrap64 ((nt : Int) - a) = (nt : Int) - a := by unfold wrap64; omega
  clear h
  go_enter Try.func45, Try.ntmps45
  go_wp2
  go_quiet (fail)
  go_wp2
  go_ret
  exact ⟨rfl, pw_below_drewN (Below.refl _ _) _⟩
theorem StrmB.set0 {w : World} {b : Nat} {At : Option Addr} {nt ct : Nat} {a : Int} {Al : Option Addr} {nl cl : Nat} {be ah : Int} (h : StrmB w b At nt ct a Al nl cl be ah) (At' : Option Addr) (nt' ct' : Nat) : StrmB (w.setCell ⟨b, 0, none⟩ (.slice At' nt' ct')) b At' nt' ct' a Al nl cl be ah := blk_put h 0 _ rfl
theorem StrmB.set1 {w : World} {b : Nat} {At : Option Addr} {nt ct : Nat} {a : Int} {Al : Option Addr} {nl cl : Nat} {be ah : Int} (h : StrmB w b At nt ct a Al nl cl be ah) (a' : Int) : StrmB (w.setCell ⟨b, 1, none⟩ (.int .i64 a')) b At nt ct a' Al nl cl be ah := blk_put h 1 _ rfl
theorem StrmB.set4 {w : World} {b : Nat} {At : Option Addr} {nt ct : Nat} {a : Int} {Al : Option Addr} {nl cl : Nat} {be ah : Int} (h : StrmB w b At nt ct a Al nl cl be ah) (a' : Int) : StrmB (w.setCell ⟨b, 4, none⟩ (.int .i64 a')) b At nt ct a Al nl cl be a' := blk_put h 4 _ rfl
theorem StrmB.below {w w' : World} {b : Nat} {At : Option Addr} {nt ct : Nat} {a : Int} {Al : Option Addr} {nl cl : Nat} {be ah : Int} (h : StrmB w b At nt ct a Al nl cl be ah) (hb : Below w.heap.size w w') : StrmB w' b At nt ct a Al nl cl be ah := blk_below h hb
attribute [local go_sem] max2_int max_two
set_option maxHeartbeats 2000000 in
set_option maxRecDepth 100000 in
theorem sKeep_calls (b : Nat) (ok : Nat → Prop) (t : List Int) (a : Nat) (l : List Ru) (be ah n : Nat) (w : World) (hS : Strm w b ok t a l be ah) (hok : ¬ ok b) (ha : a ≤ t.length) (ht : t.length < 1000000000) (hn : n < 1000000000) :
    Calls Try.prog 47 #[.pointer (some ⟨b, 0, none⟩), .int .i64 n] w fun e w' => e = .returned (.tuple #[]) ∧ Strm w' b ok (t.drop (a - n)) (a - (a - n)) l be ah ∧ w.grownBy w' (some b) := by
  obtain ⟨At, ct, Al, cl, hB, h2, h3, h4, h5⟩ := hS
  have c0 := hB.c0
  have c1 := hB.c1
  have f0 := hB.fz 0
  have f1 := hB.fz 1
  have HBK := Aside0.mk hB
  have H3 := Aside0.mk h3
  have H5 := Aside0.mk h5
  have H2 := Aside0.mk h2
  have H4 := Aside0.mk h4
  have hw1 : wrap64 ((a : Int) - (n : Int)) = (a : Int) - (n : Int) := by unfold wrap64; omega
  have hokb : ∀ k, ok k → k ≠ b := fun k hk e => hok (e ▸ hk)
  clear hB h3 h5 h2 h4
  by_cases hna : n < a
  · have hlt : ((0 : Int) < (a : Int) - (n : Int)) = True := eq_true (by omega)
    have hw2 : wrap64 ((a : Int) - ((a : Int) - (n : Int))) = ((a - (a - n) : Nat) : Int) := by unfold wrap64; omega
    have hle1 : (0 ≤ (a : Int) - (n : Int)) = True := eq_true (by omega)
    have hle2 : ((a : Int) - (n : Int) ≤ (t.length : Int)) = True := eq_true (by omega)
    have hF := Kd.F_cut (m := a - n) H3.out (by omega) H2.out
    have hlen : (t.drop (a - n)).length = t.length - (a - n) := List.length_drop
    have hsz : (a - n) * (Kd.int .i64).sz = a - n := Nat.mul_one _
    rw [hsz, hlen] at hF
    by_cases hct : ct = a - n
    · rw [if_pos hct] at hF
      go_enter Try.func47, Try.ntmps47
      go_wp2
      go_end0
      refine ⟨rfl, ⟨At, 0, Al, cl, ?_, ?_, Kd.F_far (Kd.F_far (hlen ▸ hF) hokb _) hokb _, H4.out, Kd.F_far (Kd.F_far H5.out hokb _) hokb _⟩, (gbSet _ _ _ _).trans (gbSet _ _ _ _)⟩
      · rw [hlen, show ((a - (a - n) : Nat) : Int) = (a : Int) - ((a : Int) - (n : Int)) by omega]; exact (HBK.out.set0 _ _ _).set1 _
      · rw [hlen]; have := H2.out; omega
    · rw [if_neg hct] at hF
      go_enter Try.func47, Try.ntmps47
      go_wp2
      go_end0
      refine ⟨rfl, ⟨At.map (·.add (a - n)), ct - (a - n), Al, cl, ?_, ?_, Kd.F_far (Kd.F_far (hlen ▸ hF) hokb _) hokb _, H4.out, Kd.F_far (Kd.F_far H5.out hokb _) hokb _⟩, (gbSet _ _ _ _).trans (gbSet _ _ _ _)⟩
      · rw [hlen, show ((a - (a - n) : Nat) : Int) = (a : Int) - ((a : Int) - (n : Int)) by omega]; exact (HBK.out.set0 _ _ _).set1 _
      · rw [hlen]; have := H2.out; omega
  · have hlt : ((0 : Int) < (a : Int) - (n : Int)) = False := eq_false (by omega)
    have hw2 : wrap64 (a : Int) = (a : Int) := by unfold wrap64; omega
    have e0 : a - n = 0 := by omega
    go_enter Try.func47, Try.ntmps47
    go_wp2
    go_end0
    rw [e0, List.drop_zero, Nat.sub_zero]
    exact ⟨rfl, ⟨At, ct, Al, cl, (HBK.out.set0 _ _ _).set1 _, H2.out, Kd.F_far (Kd.F_far H3.out hokb _) hokb _, H4.out, Kd.F_far (Kd.F_far H5.out hokb _) hokb _⟩, (gbSet _ _ _ _).trans (gbSet _ _ _ _)⟩
set_option maxHeartbeats 2000000 in
set_option maxRecDepth 100000 in
theorem sAdd_calls (b : Nat) (ok : Nat → Prop) (t : List Int) (a : Nat) (l : List Ru) (be ah : Nat) (A1 : Option Addr) (c1 : Nat) (text : List Int) (w : World) (hS : Strm w b ok t a l be ah) (hok : ¬ ok b) (hnew : ∀ k, w.heap.size ≤ k → ok k) (ht : t.length + text.length < 1000000000)
    (hT : Kd.C (Kd.int .i64) w A1 text.length text) (hc1 : text.length ≤ c1) :
    Calls Try.prog 30 #[.pointer (some ⟨b, 0, none⟩), .slice A1 text.length c1] w fun e w' => e = .returned (.tuple #[]) ∧ Strm w' b ok (t ++ text) a l be ah ∧ w.grownBy w' (some b) := by
  obtain ⟨At, ct, Al, cl, hB, h2, h3, h4, h5⟩ := hS
  have c0 := hB.c0
  have HBK := Aside0.mk hB
  have H3 := Aside0.mk h3
  have H5 := Aside0.mk h5
  have H2 := Aside0.mk h2
  have H4 := Aside0.mk h4
  have HT := Aside0.mk hT
  have HC1 := Aside0.mk hc1
  have HLN := Aside0.mk ht
  have HNEW := Aside0.mk hnew
  have HOKB : Aside0 (∀ k, ok k → k ≠ b) := ⟨fun k hk e => hok (e ▸ hk)⟩
  have HCL : Aside0 (slices_Clone_int_int.f t = some t) := ⟨by unfold slices_Clone_int_int.f; rw [if_pos (by omega)]⟩
  clear hB h3 h5 h2 h4 hT hc1 ht hnew hok
  go_enter Try.func30, Try.ntmps30
  go_wp2_with (first | (go_at_call 39; (with_reducible refine (slices_Clone_int_int.calls At ct t t _ (Kd.F_now H3.out) H2.out HCL.out).mono ?_); rintro e w1 ⟨v1, rfl, hv1, hb⟩; have HV1 := Aside0.mk hv1; have HB1 := Aside0.mk hb; clear hv1 hb) | (at_builtin; refine Kd.R_append_rows (Kd.int .i64) (w0 := w) w.heap.size rfl (.tmp 9) (.tmp 10) 31 3 (.int .i64 0) 8 rfl Try.underlying31 info3 rfl (by decide) (by omega) v1 t text _ _ _ (fun _ => True) (fun _ => False) rfl rfl ?aO ?aR (fun _ _ h => h) (fun _ h => h.elim) ?aF ?aB ?aS ?aL ?_; (case aR => exact Kd.C_below HT.out HB1.out); (case aB => exact HB1.out); (case aF => exact (fun _ _ => trivial)); (case aO => exact HV1.out); (case aS => exact HB1.out.size); (case aL => have h1_ := HLN.out; omega); intro v2 w2 ho hb hg hat; obtain ⟨A2, c2, rfl⟩ := Kd.R_slice ho; have HO2 := Aside0.mk ho; have HBK2 := Aside0.mk (HBK.out.below hb); have d0 := HBK2.out.c0; have e0 := HBK2.out.fz 0; have HB2 := Aside0.mk hb; clear ho hb hg hat))
  go_end0
  refine ⟨rfl, ⟨A2, c2, Al, cl, ?_, (Kd.R_reads' HO2.out).2.1, Kd.F_far (Kd.F_mono (Kd.R_F (Kd.R_bound HO2.out)) (fun k hk => HNEW.out k hk.2.1)) HOKB.out _, H4.out, Kd.F_far (Kd.F_below H5.out HB2.out) HOKB.out _⟩, (grown_of_below HB2.out _).trans (gbSet _ _ _ _)⟩
  simp only [List.length_append]
  exact HBK2.out.set0 _ _ _
end Go.Proofs.Ytcpicopaobhlcaa.Q
end
section
namespace Go.Proofs.Ytcpicopaobhlcaa.Q
open Go.RowKit Go.Proofs.YtcpicopaobhlcaaW.PrintWords Go.Proofs.YtcpicopaobhlcaaW.PrintLast Go.Proofs.YtcpicopaobhlcaaW.PrintMore
set_option linter.unusedVariables false
theorem stepS_bounds (l : List Ru) (text : List Int) (a : Nat) (ha : a < text.length) (h1 : ∀ x ∈ l, 1 ≤ x.f1.length) :
    ∃ n : Nat, (stepS l text (a : Int)).2 = (n : Int) ∧ 1 ≤ n ∧ a + n ≤ text.length ∧ ((stepS l text (a : Int)).1 = -1 ∧ n = 1 ∨ ∃ j : Nat, (stepS l text (a : Int)).1 = (j : Int) ∧ j < l.length ∧ n = (l.getD j z41).f1.length) := by
  unfold stepS
  rw [if_neg (by omega)]
  cases hj : l.findIdx? (fun x => appliesS x text (a : Int)) with
  | none => exact ⟨1, rfl, Nat.le_refl _, by omega, .inl ⟨rfl, rfl⟩⟩
  | some j =>
    obtain ⟨hjl, hap, _⟩ := List.findIdx?_eq_some_iff_getElem.1 hj
    have e : l.getD j z41 = l[j] := by rw [List.getD_eq_getElem?_getD, List.getElem?_eq_getElem hjl]; rfl
    have h2 := h1 l[j] (List.getElem_mem hjl)
    unfold appliesS coversS at hap
    simp only [Bool.and_eq_true, decide_eq_true_eq] at hap
    refine ⟨_, rfl, by rw [e]; exact h2, ?_, .inr ⟨j, rfl, hjl, rfl⟩⟩
    rw [e]
    omega
end Go.Proofs.Ytcpicopaobhlcaa.Q
end
section
namespace Go.Proofs.Ytcpicopaobhlcaa.Q
open Go.RowKit Go.Proofs.YtcpicopaobhlcaaW.PrintWords Go.Proofs.YtcpicopaobhlcaaW.PrintLast Go.Proofs.YtcpicopaobhlcaaW.PrintMore
set_option linter.unusedVariables false
/-- The steps while so many elements are pending: what they write, and the position behind them. -/
def runS (l : List Ru) (t : List Int) (least : Nat) : Nat → Nat → List Int × Nat
  | 0, a => ([], a)
  | f + 1, a => if a + least ≤ t.length then (writtenS l t (a : Int) (stepS l t (a : Int)).1 ++ (runS l t least f (a + (stepS l t (a : Int)).2.toNat)).1, (runS l t least f (a + (stepS l t (a : Int)).2.toNat)).2) else ([], a)
def spRun (l : List Ru) (t : List Int) (least : Nat) (a : Nat) : List Int × Nat := runS l t least (t.length - a) a
theorem runS_more (l : List Ru) (t : List Int) (least : Nat) (h1 : ∀ x ∈ l, 1 ≤ x.f1.length) (hl : 1 ≤ least) : ∀ (f g a : Nat), t.length ≤ a + f → f ≤ g → runS l t least f a = runS l t least g a
  | 0, g, a, h, hg => by
    cases g with
    | zero => rfl
    | succ g => rw [runS, runS, if_neg (by omega)]
  | f + 1, g, a, h, hg => by
    obtain ⟨g, rfl⟩ : ∃ q, g = q + 1 := ⟨g - 1, by omega⟩
    rw [runS, runS]
    by_cases ha : a + least ≤ t.length
    · rw [if_pos ha, if_pos ha]
      obtain ⟨s, hs, hs1, hs2, _⟩ := stepS_bounds l t a (by omega) h1
      rw [hs, Int.toNat_natCast, runS_more l t least h1 hl f g (a + s) (by omega) (by omega)]
    · rw [if_neg ha, if_neg ha]
theorem spRun_step (l : List Ru) (t : List Int) (least : Nat) (h1 : ∀ x ∈ l, 1 ≤ x.f1.length) (hl : 1 ≤ least) (a n : Nat) (ha : a + least ≤ t.length) (hs : (stepS l t (a : Int)).2 = (n : Int)) (hn : 1 ≤ n) :
    spRun l t least a = (writtenS l t (a : Int) (stepS l t (a : Int)).1 ++ (spRun l t least (a + n)).1, (spRun l t least (a + n)).2) := by
  unfold spRun
  obtain ⟨q, hq⟩ : ∃ q, t.length - a = q + 1 := ⟨t.length - a - 1, by omega⟩
  rw [hq, runS, if_pos ha, hs, Int.toNat_natCast, ← runS_more l t least h1 hl (t.length - (a + n)) q (a + n) (by omega) (by omega)]
theorem spRun_stop (l : List Ru) (t : List Int) (least a : Nat) (ha : t.length < a + least) : spRun l t least a = ([], a) := by
  unfold spRun
  cases t.length - a with
  | zero => rfl
  | succ q => rw [runS, if_neg (by omega)]
/-- A run by induction on what is left. -/
theorem spRun_ind (l : List Ru) (t : List Int) (least : Nat) (h1 : ∀ x ∈ l, 1 ≤ x.f1.length) (hl : 1 ≤ least) (P : Nat → List Int × Nat → Prop) (hstop : ∀ a : Nat, t.length < a + least → P a ([], a))
    (hstep : ∀ (a n : Nat) (r : List Int × Nat), a + least ≤ t.length → (stepS l t (a : Int)).2 = (n : Int) → 1 ≤ n → a + n ≤ t.length → ((stepS l t (a : Int)).1 = -1 ∧ n = 1 ∨ ∃ j : Nat, (stepS l t (a : Int)).1 = (j : Int) ∧ j < l.length ∧ n = (l.getD j z41).f1.length) → r = spRun l t least (a + n) → P (a + n) r → P a (writtenS l t (a : Int) (stepS l t (a : Int)).1 ++ r.1, r.2)) :
    ∀ (m a : Nat), t.length - a ≤ m → P a (spRun l t least a)
  | m, a, hm => by
    by_cases ha : a + least ≤ t.length
    · obtain ⟨n, hs, hn1, hn2, hc⟩ := stepS_bounds l t a (by omega) h1
      rw [spRun_step l t least h1 hl a n ha hs hn1]
      obtain ⟨m, rfl⟩ : ∃ q, m = q + 1 := ⟨m - 1, by omega⟩
      exact hstep a n _ ha hs hn1 hn2 hc rfl (spRun_ind l t least h1 hl P hstop hstep m (a + n) (by omega))
    · rw [spRun_stop l t least a (by omega)]
      exact hstop a (by omega)
theorem spRun_end (l : List Ru) (t : List Int) (least : Nat) (h1 : ∀ x ∈ l, 1 ≤ x.f1.length) (hl : 1 ≤ least) (a : Nat) (ha : a ≤ t.length) : t.length < (spRun l t least a).2 + least ∧ a ≤ (spRun l t least a).2 ∧ (spRun l t least a).2 ≤ t.length :=
  spRun_ind l t least h1 hl (fun a r => a ≤ t.length → t.length < r.2 + least ∧ a ≤ r.2 ∧ r.2 ≤ t.length) (fun a h h2 => ⟨h, Nat.le_refl _, h2⟩)
    (fun a n r h2 hs hn hn2 hc hr hP h3 => by obtain ⟨p1, p2, p3⟩ := hP hn2; exact ⟨p1, by show a ≤ r.2; omega, p3⟩) _ a (Nat.le_refl _) ha
end Go.Proofs.Ytcpicopaobhlcaa.Q
end
section
namespace Go.Proofs.Ytcpicopaobhlcaa.Q
open Go.RowKit Go.Proofs.YtcpicopaobhlcaaW.PrintWords Go.Proofs.YtcpicopaobhlcaaW.PrintLast Go.Proofs.YtcpicopaobhlcaaW.PrintMore
open Go.ChangeShapes Go.WideShapes
open Go.Deep (choose_lt)
set_option linter.unusedVariables false
def Opens {α : Type} (d : Kd α) (good : α → Prop) (t : TypeId) : Prop :=
  ∀ (H : Type) (enc : TypeId × Value → H) (w : World) (base : Nat) (sp : Nat → Bool) (held : Bool) (fuel : Nat) (cs : List Value) (x : DataW H × List MemPlace), DataW.trod enc Try.prog w base sp held fuel t cs = some x → ∃ v, d.K w v cs ∧ good v
theorem opens_int {t : TypeId} (ht : Try.prog.underlying t = some (.int .i64)) : Opens (Kd.int .i64) (fun c => (Lit.int .i64 c).wf = true) t := by
  intro H enc w base sp held fuel cs x h
  obtain ⟨n, rfl, _, hw⟩ := DataW.trod_int ht h
  exact ⟨n, rfl, hw⟩
theorem opens_slice {α : Type} [Inhabited α] {d : Kd α} {good : α → Prop} {t e : TypeId} (ht : Try.prog.underlying t = some (.slice e)) (hc : Try.prog.cellsOf e = d.sz) (hd : Opens d good e) : Opens (Kd.slice e d) (fun l => l.length ≤ maxLen ∧ ∀ x ∈ l, good x) t := by
  intro H enc w base sp held fuel cs x h
  rcases Go.Deep.open_slice ht h with ⟨rfl, _⟩ | ⟨a, len, cap, m, n, D, Pl, rfl, hb, hl, hm, hmm, _, hx⟩
  · exact ⟨[], ⟨none, 0, rfl, Nat.le_refl _, Kd.C_nil _ _⟩, Nat.zero_le _, fun x hx => by cases hx⟩
  · have hlm : len ≤ m := by rw [hmm]; split <;> omega
    obtain ⟨f, hf⟩ := choose_lt (n := len) (p := fun i v => ∃ cs', w.cells? base (a.add (i * Try.prog.cellsOf e)) (Try.prog.cellsOf e) = some cs' ∧ d.K w v cs' ∧ good v) (fun i hi => by
      obtain ⟨cs', h1, h2⟩ := hx i (by omega)
      obtain ⟨v, h3, h4⟩ := hd H enc w base sp held n cs' _ h2
      exact ⟨v, cs', h1, h3, h4⟩)
    have hlen : ((List.range len).map f).length = len := by rw [List.length_map, List.length_range]
    refine ⟨(List.range len).map f, ⟨some a, cap, by rw [hlen], by rw [hlen]; exact hl, rfl, by rw [hlen]; unfold maxLen at hm; omega, fun h0 => ⟨a, rfl, fun j p hj => ?_⟩⟩, by rw [hlen]; omega, fun p hp => ?_⟩
    · have hjl : j < len := by have := (List.getElem?_eq_some_iff.1 hj).1; omega
      have hp : p = f j := by simpa [hjl] using hj.symm
      subst hp
      obtain ⟨cs', h1, h2, _⟩ := hf j hjl
      have hk := d.K_len h2
      refine ⟨cs', hk, h2, fun i u hu => ?_⟩
      have hi : i < cs'.length := (List.getElem?_eq_some_iff.1 hu).1
      have h3 := (World.cells?_some h1).2.2 i (by rw [hc]; omega)
      rw [Go.Deep.add_add, hc] at h3
      rw [h3]
      exact hu
    · obtain ⟨j, hj, rfl⟩ := List.mem_map.1 hp
      obtain ⟨_, _, _, h4⟩ := hf j (List.mem_range.1 hj)
      exact h4
instance : Inhabited (S69) := ⟨z69⟩
instance : Inhabited (S59) := ⟨z59⟩
instance : Inhabited (S45) := ⟨z45⟩
instance : Inhabited (S41) := ⟨z41⟩
def W64 (c : Int) : Prop := (Lit.int .i64 c).wf = true
def wfR (x : S69) : Prop := W64 x.f0 ∧ W64 x.f1
def wfP (x : S59) : Prop := W64 x.f0 ∧ W64 x.f1
def wfS (x : S45) : Prop := x.f0.length ≤ maxLen ∧ ∀ r ∈ x.f0, wfR r
def wfSs (l : List S45) : Prop := l.length ≤ maxLen ∧ ∀ r ∈ l, wfS r
def wfU (x : S41) : Prop := wfSs x.f0 ∧ wfSs x.f1 ∧ wfSs x.f2 ∧ x.f3.length ≤ maxLen ∧ ∀ p ∈ x.f3, wfP p
def wfL (l : List S41) : Prop := l.length ≤ maxLen ∧ ∀ x ∈ l, wfU x
def wfT (l : List Int) : Prop := l.length ≤ maxLen ∧ ∀ c ∈ l, W64 c
theorem cells_1 {l : List Value} (h : l.length = 1) : ∃ v0, l = [v0] := by
  match l, h with
  | [v0], _ => exact ⟨v0, rfl⟩
theorem cells_2 {l : List Value} (h : l.length = 2) : ∃ v0 v1, l = [v0, v1] := by
  match l, h with
  | [v0, v1], _ => exact ⟨v0, v1, rfl⟩
theorem cells_4 {l : List Value} (h : l.length = 4) : ∃ v0 v1 v2 v3, l = [v0, v1, v2, v3] := by
  match l, h with
  | [v0, v1, v2, v3], _ => exact ⟨v0, v1, v2, v3, rfl⟩
theorem cells3 : Try.prog.cellsOf 3 = 1 := by kernel_rfl
theorem opens_range : Opens k69 wfR 69 := by
  intro H enc w base sp held fuel cs x h
  obtain ⟨xs, n, rfl, _, hl, hxl, hf⟩ := DataW.trod_struct Try.underlying69 h
  have h2 : Try.prog.cellsOf 69 = 2 := by kernel_rfl
  rw [h2] at hl
  obtain ⟨v0, v1, rfl⟩ := cells_2 hl
  have g0 : DataW.trod enc Try.prog w base sp held n 3 (([v0, v1].drop 0).take (Try.prog.cellsOf 3)) = xs[0]? := hf 0 _ rfl
  have g1 : DataW.trod enc Try.prog w base sp held n 3 (([v0, v1].drop 1).take (Try.prog.cellsOf 3)) = xs[1]? := hf 1 _ rfl
  rw [List.getElem?_eq_getElem (by rw [hxl]; decide)] at g0 g1
  rw [cells3] at g0 g1
  obtain ⟨c0, e0, w0⟩ := opens_int Try.underlying3 H enc w base sp held n _ _ g0
  obtain ⟨c1, e1, w1⟩ := opens_int Try.underlying3 H enc w base sp held n _ _ g1
  have e0' : [v0] = [Value.int .i64 c0] := e0
  have e1' : [v1] = [Value.int .i64 c1] := e1
  cases e0'
  cases e1'
  exact ⟨⟨c0, c1⟩, k69_mk w ⟨c0, c1⟩, w0, w1⟩
theorem opens_piece : Opens k59 wfP 59 := by
  intro H enc w base sp held fuel cs x h
  obtain ⟨xs, n, rfl, _, hl, hxl, hf⟩ := DataW.trod_struct Try.underlying59 h
  have h2 : Try.prog.cellsOf 59 = 2 := by kernel_rfl
  rw [h2] at hl
  obtain ⟨v0, v1, rfl⟩ := cells_2 hl
  have g0 : DataW.trod enc Try.prog w base sp held n 3 (([v0, v1].drop 0).take (Try.prog.cellsOf 3)) = xs[0]? := hf 0 _ rfl
  have g1 : DataW.trod enc Try.prog w base sp held n 3 (([v0, v1].drop 1).take (Try.prog.cellsOf 3)) = xs[1]? := hf 1 _ rfl
  rw [List.getElem?_eq_getElem (by rw [hxl]; decide)] at g0 g1
  rw [cells3] at g0 g1
  obtain ⟨c0, e0, w0⟩ := opens_int Try.underlying3 H enc w base sp held n _ _ g0
  obtain ⟨c1, e1, w1⟩ := opens_int Try.underlying3 H enc w base sp held n _ _ g1
  have e0' : [v0] = [Value.int .i64 c0] := e0
  have e1' : [v1] = [Value.int .i64 c1] := e1
  cases e0'
  cases e1'
  exact ⟨⟨c0, c1⟩, k59_mk w ⟨c0, c1⟩, w0, w1⟩
theorem opens_set : Opens k45 wfS 45 := by
  intro H enc w base sp held fuel cs x h
  obtain ⟨xs, n, rfl, _, hl, hxl, hf⟩ := DataW.trod_struct Try.underlying45 h
  have h2 : Try.prog.cellsOf 45 = 1 := by kernel_rfl
  rw [h2] at hl
  obtain ⟨v0, rfl⟩ := cells_1 hl
  have g0 : DataW.trod enc Try.prog w base sp held n 43 (([v0].drop 0).take (Try.prog.cellsOf 43)) = xs[0]? := hf 0 _ rfl
  rw [List.getElem?_eq_getElem (by rw [hxl]; decide)] at g0
  rw [show Try.prog.cellsOf 43 = 1 by kernel_rfl] at g0
  obtain ⟨l0, ⟨A0, c0, e0, i0, j0⟩, w0⟩ := opens_slice (d := k69) (good := wfR) Try.underlying43 (by kernel_rfl) opens_range H enc w base sp held n _ _ g0
  have e0' : [v0] = [Value.slice A0 l0.length c0] := e0
  cases e0'
  exact ⟨⟨l0⟩, k45_mk w ⟨l0⟩ i0 j0, w0⟩
theorem opens_rule : Opens k41 wfU 41 := by
  intro H enc w base sp held fuel cs x h
  obtain ⟨xs, n, rfl, _, hl, hxl, hf⟩ := DataW.trod_struct Try.underlying41 h
  have h2 : Try.prog.cellsOf 41 = 4 := by kernel_rfl
  rw [h2] at hl
  obtain ⟨v0, v1, v2, v3, rfl⟩ := cells_4 hl
  have g0 : DataW.trod enc Try.prog w base sp held n 38 (([v0, v1, v2, v3].drop 0).take (Try.prog.cellsOf 38)) = xs[0]? := hf 0 _ rfl
  have g1 : DataW.trod enc Try.prog w base sp held n 38 (([v0, v1, v2, v3].drop 1).take (Try.prog.cellsOf 38)) = xs[1]? := hf 1 _ rfl
  have g2 : DataW.trod enc Try.prog w base sp held n 38 (([v0, v1, v2, v3].drop 2).take (Try.prog.cellsOf 38)) = xs[2]? := hf 2 _ rfl
  have g3 : DataW.trod enc Try.prog w base sp held n 39 (([v0, v1, v2, v3].drop 3).take (Try.prog.cellsOf 39)) = xs[3]? := hf 3 _ rfl
  rw [List.getElem?_eq_getElem (by rw [hxl]; decide)] at g0 g1 g2 g3
  rw [show Try.prog.cellsOf 38 = 1 by kernel_rfl] at g0 g1 g2
  rw [show Try.prog.cellsOf 39 = 1 by kernel_rfl] at g3
  obtain ⟨l0, ⟨A0, c0, e0, i0, j0⟩, w0⟩ := opens_slice (d := k45) (good := wfS) Try.underlying38 (by kernel_rfl) opens_set H enc w base sp held n _ _ g0
  obtain ⟨l1, ⟨A1, c1, e1, i1, j1⟩, w1⟩ := opens_slice (d := k45) (good := wfS) Try.underlying38 (by kernel_rfl) opens_set H enc w base sp held n _ _ g1
  obtain ⟨l2, ⟨A2, c2, e2, i2, j2⟩, w2⟩ := opens_slice (d := k45) (good := wfS) Try.underlying38 (by kernel_rfl) opens_set H enc w base sp held n _ _ g2
  obtain ⟨l3, ⟨A3, c3, e3, i3, j3⟩, w3⟩ := opens_slice (d := k59) (good := wfP) Try.underlying39 (by kernel_rfl) opens_piece H enc w base sp held n _ _ g3
  have e0' : [v0] = [Value.slice A0 l0.length c0] := e0
  have e1' : [v1] = [Value.slice A1 l1.length c1] := e1
  have e2' : [v2] = [Value.slice A2 l2.length c2] := e2
  have e3' : [v3] = [Value.slice A3 l3.length c3] := e3
  cases e0'
  cases e1'
  cases e2'
  cases e3'
  exact ⟨⟨l0, l1, l2, l3⟩, k41_mk w ⟨l0, l1, l2, l3⟩ i0 j0 i1 j1 i2 j2 i3 j3, w0, w1, w2, w3⟩
theorem opens_rules : Opens (Kd.slice 41 k41) wfL 22 := opens_slice Try.underlying22 (by kernel_rfl) opens_rule
theorem opens_ints : Opens (Kd.slice 3 (Kd.int .i64)) wfT 31 := opens_slice Try.underlying31 (by kernel_rfl) (opens_int Try.underlying3)
end Go.Proofs.Ytcpicopaobhlcaa.Q
end
