/- Lemmas, printed and written for this claim: part 9. -/
import Derived.WalkSpells
import Derived.WalkKit
import Derived.IntWalk
import Derived.LaidEqlPtr
import Derived.Test.YtcpicopaobhlcaaG8
import Derived.Test.YtcpicopaobhlcaaG2
import Derived.Test.YtcpicopaobhlcaaG3
import Derived.Deep.RegionHeld3
import Derived.Deep.RegionLaw
import Derived.Test.YtcpicopaobhlcaaG5
import Derived.Deep.LoopGhost
section
namespace Go.Proofs.Ytcpicopaobhlcaa.Q
open Go.RowKit Go.Proofs.YtcpicopaobhlcaaW.PrintWords Go.Proofs.YtcpicopaobhlcaaW.PrintLast Go.Proofs.YtcpicopaobhlcaaW.PrintMore
set_option linter.unusedVariables false
theorem belowGrown {w w1 w2 : World} {b : Nat} (h : Below w.heap.size w w1) (g : w1.grownBy w2 (some b)) (hb : w.heap.size ≤ b) : Below w.heap.size w w2 :=
  ⟨g.os.trans h.os, g.tape.trans h.tape, g.output.trans h.output, Nat.le_trans h.size g.size, fun k hk => (g.block k (Nat.lt_of_lt_of_le hk h.size) (fun e => by injection e with e; omega)).trans (h.block k hk)⟩
theorem rowOf {α : Type} {d : Kd α} {W : World} {g t : Nat} {cells : Array Value} {xs : List α} (hb : W.heap[g]? = some (.cells cells t (0, 0))) (hr : Reps (d.K W) d.sz xs cells.toList) (hl : xs.length ≤ 1000000) : Kd.C d W (some ⟨g, 0, none⟩) xs.length xs := by
  refine ⟨rfl, by omega, fun _ => ⟨_, rfl, fun j p hj => ?_⟩⟩
  have hk := hr.2 j p hj
  refine ⟨_, d.K_len hk, hk, fun i u hu => ?_⟩
  rw [List.getElem?_take] at hu
  split at hu
  · rw [List.getElem?_drop] at hu
    have h2 := blk_cell hb (j * d.sz + i)
    rw [← Array.getElem?_toList, hu] at h2
    have e : ((⟨g, 0, none⟩ : Addr).add (j * d.sz + i)) = ⟨g, j * d.sz + i, none⟩ := by
      unfold Addr.add
      split
      · rename_i h0; rw [h0]
      · simp
    rw [e]
    exact h2
  · cases hu
theorem spOne {w : World} {base : Nat} {ok : Nat → Prop} {v : Value} {c : Int} (h : Kd.R (Kd.int .i64) 3 w base ok v [c]) : ∃ A cc, v = .slice A 1 cc ∧ 1 ≤ cc ∧ Kd.C (Kd.int .i64) w A 1 [c] := by
  obtain ⟨A, cc, rfl⟩ := Kd.R_slice h
  exact ⟨A, cc, rfl, (Kd.R_reads' h).2.1, (Kd.R_reads' h).2.2⟩
theorem spNil {w : World} {base : Nat} {ok : Nat → Prop} {v : Value} (h : Kd.R (Kd.int .i64) 3 w base ok v []) : ∃ A cc, v = .slice A 0 cc := by
  obtain ⟨A, cc, rfl⟩ := Kd.R_slice h
  exact ⟨A, cc, rfl⟩
def spRules : List Ru := [⟨[], [⟨[⟨97, 97⟩]⟩, ⟨[⟨98, 98⟩]⟩], [], [⟨120, 0⟩]⟩]
theorem spRules_few : plFewL spRules := spSmall_few spRules (by kernel_rfl)
theorem spRules_check : checkS spRules = 0 := by kernel_rfl
theorem spRules_data : dataS spRules = spRules := by unfold dataS; rw [if_pos spRules_check]
theorem spRules_be : spBe spRules = 0 := by kernel_rfl
theorem spRules_ah : spAh spRules = 2 := by kernel_rfl
theorem spW_1 : spWrite spRules 0 2 ([], 0) [97] = ([], ([97], 0)) := by kernel_rfl
theorem spW_2 : spWrite spRules 0 2 ([97], 0) [99] = ([97], ([99], 0)) := by kernel_rfl
theorem spW_3 : (spRun spRules [99] 1 0).1 = [99] := by kernel_rfl
theorem awRow (w2 : World) (A1 : Option Addr) (c1 : Nat) (A2 : Option Addr) (c2 : Nat) (h1 : Kd.C k69 w2 A1 1 [⟨97, 97⟩]) (g1 : 1 ≤ c1) (h2 : Kd.C k69 w2 A2 1 [⟨98, 98⟩]) (g2 : 1 ≤ c2) :
    Kd.C k41 (((w2.alloc (.cells #[.slice A1 1 c1, .slice A2 1 c2] 45)).alloc (.cells #[.int .i64 120, .int .i64 0] 59)).alloc (.cells #[.slice none 0 0, .slice (some ⟨w2.heap.size, 0, none⟩) 2 2, .slice none 0 0, .slice (some ⟨w2.heap.size + 1, 0, none⟩) 1 1] 41)) (some ⟨w2.heap.size + 1 + 1, 0, none⟩) 1 spRules := by
  obtain ⟨W1, hW1⟩ : ∃ W1, W1 = w2.alloc (.cells #[.slice A1 1 c1, .slice A2 1 c2] 45) := ⟨_, rfl⟩
  obtain ⟨W2, hW2⟩ : ∃ W2, W2 = W1.alloc (.cells #[.int .i64 120, .int .i64 0] 59) := ⟨_, rfl⟩
  obtain ⟨W3, hW3⟩ : ∃ W3, W3 = W2.alloc (.cells #[.slice none 0 0, .slice (some ⟨w2.heap.size, 0, none⟩) 2 2, .slice none 0 0, .slice (some ⟨w2.heap.size + 1, 0, none⟩) 1 1] 41) := ⟨_, rfl⟩
  rw [← hW1, ← hW2, ← hW3]
  have s1 : W1.heap.size = w2.heap.size + 1 := by rw [hW1, World.size_alloc]
  have s2 : W2.heap.size = w2.heap.size + 1 + 1 := by rw [hW2, World.size_alloc, s1]
  have b1 : Below w2.heap.size w2 W1 := by rw [hW1]; exact below_alloc (Below.refl _ _) _
  have b2 : Below W1.heap.size W1 W2 := by rw [hW2]; exact below_alloc (Below.refl _ _) _
  have b3 : Below W2.heap.size W2 W3 := by rw [hW3]; exact below_alloc (Below.refl _ _) _
  have k1 : W1.heap[w2.heap.size]? = some (.cells #[.slice A1 1 c1, .slice A2 1 c2] 45 (0, 0)) := by rw [hW1]; exact heap_alloc_new _ _
  have k2 : W2.heap[w2.heap.size + 1]? = some (.cells #[.int .i64 120, .int .i64 0] 59 (0, 0)) := by rw [hW2, ← s1]; exact heap_alloc_new _ _
  have k3 : W3.heap[w2.heap.size + 1 + 1]? = some (.cells #[.slice none 0 0, .slice (some ⟨w2.heap.size, 0, none⟩) 2 2, .slice none 0 0, .slice (some ⟨w2.heap.size + 1, 0, none⟩) 1 1] 41 (0, 0)) := by rw [hW3, ← s2]; exact heap_alloc_new _ _
  have h1' := Kd.C_below (Kd.C_below (Kd.C_below h1 b1) b2) b3
  have h2' := Kd.C_below (Kd.C_below (Kd.C_below h2 b1) b2) b3
  have r1 : Kd.C k45 W3 (some ⟨w2.heap.size, 0, none⟩) 2 [⟨[⟨97, 97⟩]⟩, ⟨[⟨98, 98⟩]⟩] :=
    rowOf (blk_below (blk_below k1 b2) b3) (Reps.one (k45_mk W3 ⟨[⟨97, 97⟩]⟩ g1 h1') (Reps.one (k45_mk W3 ⟨[⟨98, 98⟩]⟩ g2 h2') (Reps.none _ _))) (by decide)
  have r2 : Kd.C k59 W3 (some ⟨w2.heap.size + 1, 0, none⟩) 1 [⟨120, 0⟩] :=
    rowOf (blk_below k2 b3) (Reps.c2 (k59_mk W3 ⟨120, 0⟩) (Reps.none _ _)) (by decide)
  exact rowOf k3 (Reps.c4 (k41_mk W3 ⟨[], [⟨[⟨97, 97⟩]⟩, ⟨[⟨98, 98⟩]⟩], [], [⟨120, 0⟩]⟩ (Nat.le_refl _) (Kd.C_nil _ _) (Nat.le_refl 2) r1 (Nat.le_refl _) (Kd.C_nil _ _) (Nat.le_refl 1) r2) (Reps.none _ _)) (by decide)
/-- New at the example's rules. -/
theorem awNew (A : Option Addr) (w : World) (hr : Kd.C k41 w A 1 spRules) :
    Calls Try.prog 13 #[.slice A 1 1] w fun e w' => ∃ b, e = .returned (.tuple #[.pointer (some ⟨b, 0, none⟩), .int .i64 0]) ∧ Strm w' b (fun k => w.heap.size ≤ k ∧ k ≠ b) [] 0 spRules 0 2 ∧ w.heap.size ≤ b ∧ Below w.heap.size w w' := by
  have h := sNew_calls A 1 spRules w spRules_few hr (Nat.le_refl _) spRules_check
  rw [spRules_be, spRules_ah] at h
  exact h
theorem awSp : SpOk spRules 0 2 := by
  have h := spOk spRules spRules_few spRules_data
  rwa [spRules_be, spRules_ah] at h
theorem awWrite (b : Nat) (ok : Nat → Prop) (t : List Int) (a : Nat) (c : Int) (A1 : Option Addr) (c1 : Nat) (out : List Int) (t2 : List Int) (a2 : Nat) (w : World) (hS : Strm w b ok t a spRules 0 2) (hok : ¬ ok b) (hnew : ∀ k, w.heap.size ≤ k → ok k) (ht : t.length < 1000) (ha : a ≤ t.length) (htx : okText (t ++ [c]) = true)
    (hT : Kd.C (Kd.int .i64) w A1 1 [c]) (hc1 : 1 ≤ c1) (he : spWrite spRules 0 2 (t, a) [c] = (out, (t2, a2))) :
    Calls Try.prog 14 #[.pointer (some ⟨b, 0, none⟩), .slice A1 1 c1] w fun e w' => ∃ v, e = .returned (.tuple #[v, .int .i64 0]) ∧ Kd.R (Kd.int .i64) 3 w' w.heap.size (fun _ => True) v out ∧ Strm w' b ok t2 a2 spRules 0 2 ∧ w.grownBy w' (some b) := by
  have h := sWrite_calls b ok t a spRules 0 2 A1 c1 [c] w hS hok hnew (by simp; omega) ha htx (plOkRules spRules_few) spRules_data awSp (by decide) (by decide) hT hc1
  rw [he] at h
  exact h
theorem awText (w : World) (c : Int) : Kd.C (Kd.int .i64) (w.alloc (.cells #[.int .i64 c] 3)) (some ⟨w.heap.size, 0, none⟩) 1 [c] :=
  rowOf (d := Kd.int .i64) (cells := #[.int .i64 c]) (heap_alloc_new w _) (Reps.one (R := (Kd.int .i64).K _) rfl (Reps.none _ _)) (Nat.le_of_ble_eq_true rfl)
theorem awWrite1 (b : Nat) (w : World) (hS : Strm w b (fun k => k ≠ b) [] 0 spRules 0 2) :
    Calls Try.prog 14 #[.pointer (some ⟨b, 0, none⟩), .slice (some ⟨w.heap.size, 0, none⟩) 1 1] (w.alloc (.cells #[.int .i64 97] 3)) fun e w' => (∃ A c, e = .returned (.tuple #[.slice A 0 c, .int .i64 0])) ∧ Strm w' b (fun k => k ≠ b) [97] 0 spRules 0 2 ∧ w.grownBy w' (some b) := by
  have hA : Below w.heap.size w (w.alloc (.cells #[.int .i64 97] 3)) := below_alloc (Below.refl _ _) _
  have hlt := hS.lt
  refine (awWrite b (fun k => k ≠ b) [] 0 97 (some ⟨w.heap.size, 0, none⟩) 1 [] [97] 0 _ (hS.below hA) (by simp) (fun k hk e => by rw [World.size_alloc] at hk; omega) (by decide) (by decide) (by kernel_rfl) (awText w 97) (Nat.le_refl _) spW_1).mono ?_
  rintro e w' ⟨v, rfl, hv, hs, hg⟩
  obtain ⟨A, c, rfl⟩ := spNil hv
  exact ⟨⟨A, c, rfl⟩, hs, (grown_of_below hA _).trans hg⟩
theorem awWrite2 (b : Nat) (w : World) (hS : Strm w b (fun k => k ≠ b) [97] 0 spRules 0 2) :
    Calls Try.prog 14 #[.pointer (some ⟨b, 0, none⟩), .slice (some ⟨w.heap.size, 0, none⟩) 1 1] (w.alloc (.cells #[.int .i64 99] 3)) fun e w' => (∃ A c, e = .returned (.tuple #[.slice A 1 c, .int .i64 0]) ∧ Kd.R (Kd.int .i64) 3 w' w.heap.size (fun _ => True) (.slice A 1 c) [97]) ∧ Strm w' b (fun k => k ≠ b) [99] 0 spRules 0 2 ∧ w.grownBy w' (some b) := by
  have hA : Below w.heap.size w (w.alloc (.cells #[.int .i64 99] 3)) := below_alloc (Below.refl _ _) _
  have hlt := hS.lt
  refine (awWrite b (fun k => k ≠ b) [97] 0 99 (some ⟨w.heap.size, 0, none⟩) 1 [97] [99] 0 _ (hS.below hA) (by simp) (fun k hk e => by rw [World.size_alloc] at hk; omega) (by decide) (by decide) (by kernel_rfl) (awText w 99) (Nat.le_refl _) spW_2).mono ?_
  rintro e w' ⟨v, rfl, hv, hs, hg⟩
  obtain ⟨A, c, rfl, _⟩ := spOne hv
  exact ⟨⟨A, c, rfl, Kd.R_lower hv hA.size⟩, hs, (grown_of_below hA _).trans hg⟩
theorem awClose (b : Nat) (w : World) (hS : Strm w b (fun k => k ≠ b) [99] 0 spRules 0 2) :
    Calls Try.prog 15 #[.pointer (some ⟨b, 0, none⟩)] w fun e w' => (∃ A c, e = .returned (.tuple #[.slice A 1 c, .int .i64 0]) ∧ Kd.R (Kd.int .i64) 3 w' w.heap.size (fun _ => True) (.slice A 1 c) [99]) ∧ StrmZ w' b ∧ w.grownBy w' (some b) := by
  have hlt := hS.lt
  refine (sClose_calls b (fun k => k ≠ b) [99] 0 spRules 0 2 w hS (by simp) (fun k hk e => by omega) (by decide) (by decide) (by kernel_rfl) (plOkRules spRules_few) spRules_data awSp (by decide)).mono ?_
  rintro e w' ⟨v, rfl, hv, hz, hg⟩
  rw [spW_3] at hv
  obtain ⟨A, c, rfl, _⟩ := spOne hv
  exact ⟨⟨A, c, rfl, hv⟩, hz, hg⟩
theorem awEq (A0 : Option Addr) (c0 : Nat) (A1 : Option Addr) (c1 : Nat) (c : Int) (w : World) (h0 : Kd.C (Kd.int .i64) w A0 1 [c]) (g0 : 1 ≤ c0) (h1 : Kd.C (Kd.int .i64) w A1 1 [c]) (g1 : 1 ≤ c1) :
    Calls Try.prog 16 #[.slice A0 1 c0, .slice A1 1 c1] w fun e w' => e = .returned (.bool true) ∧ Drawn0 w w' :=
  unicodetextref01_Equal.calls 10 A0 c0 [c] A1 c1 [c] true w h0 g0 h1 g1 (by rw [plEqual_ok _ _ _ (by simp) (by simp)]; simp)
set_option maxHeartbeats 8000000 in
set_option maxRecDepth 100000 in
theorem awake_calls (w : World) : Calls Try.prog 12 #[] w fun e w' => e = .returned (.bool true) ∧ Below w.heap.size w w' := by
  have hu1 := Try.underlying59
  have hu2 := Try.underlying41
  go_enter Try.func12, Try.ntmps12
  go_upto_region 2 with (first | (go_at_call 25; (with_reducible refine (unicodetextlaw52_one.calls 97 [⟨97, 97⟩] _ rfl).mono ?_); rintro e w1 ⟨v1, rfl, hv1, hb⟩; obtain ⟨A1, c1, rfl⟩ := Kd.R_slice hv1; have HV1 := Aside0.mk hv1; have HB1 := Aside0.mk hb; clear hv1 hb) | (go_at_call 25; (with_reducible refine (unicodetextlaw52_one.calls 98 [⟨98, 98⟩] _ rfl).mono ?_); rintro e w2 ⟨v2, rfl, hv2, hb⟩; obtain ⟨A2, c2, rfl⟩ := Kd.R_slice hv2; have HV2 := Aside0.mk hv2; have HV1b := Aside0.mk (Kd.R_below HV1.out hb); have HB2 := Aside0.mk (below_step HB1.out hb); clear hv2 hb) | (go_at_call 13; refine (awNew _ _ (awRow w2 A1 c1 A2 c2 (Kd.R_reads' HV1b.out).2.2 (Kd.R_reads' HV1b.out).2.1 (Kd.R_reads' HV2.out).2.2 (Kd.R_reads' HV2.out).2.1)).mono ?_; rintro e w3 ⟨b, rfl, hs3, hlb, hb⟩; have HS3 := Aside0.mk (hs3.mono (fun k hk => hk.2)); have HLB := Aside0.mk (show w.heap.size ≤ b by have := HB2.out.size; simp only [World.size_alloc] at hlb; omega); have HB3 := Aside0.mk (below_step (below_alloc (below_alloc (below_alloc HB2.out _) _) _) hb); clear hs3 hlb hb))
  have hlt := HS3.out.lt
  go_wp2_with (first | (go_at_call 14; (with_reducible refine (awWrite1 b _ HS3.out).mono ?_); rintro e w4 ⟨⟨A4, c4, rfl⟩, hs4, hg4⟩; have HS4 := Aside0.mk hs4; have HG4 := Aside0.mk hg4; clear hs4 hg4) | (go_at_call 14; (with_reducible refine (awWrite2 b _ HS4.out).mono ?_); rintro e w5 ⟨⟨A5, c5, rfl, hv5⟩, hs5, hg5⟩; have HV5 := Aside0.mk hv5; have HS5 := Aside0.mk hs5; have HG5 := Aside0.mk hg5; clear hs5 hg5 hv5) | (go_at_call 15; (with_reducible refine (awClose b _ HS5.out).mono ?_); rintro e w6 ⟨⟨A6, c6, rfl, hv6⟩, hz6, hg6⟩; have HV6 := Aside0.mk hv6; have HZ6 := Aside0.mk hz6; have HG6 := Aside0.mk hg6; clear hv6 hz6 hg6) | (go_at_call 14; (with_reducible refine (sWrite_closed b _ _ HZ6.out).mono ?_); rintro e w7 ⟨rfl, hb7⟩; have HR5 := Aside0.mk (Kd.R_below (rowKeep HV5.out HG6.out (HS5.out.notrow HV5.out)) hb7); have HR6 := Aside0.mk (Kd.R_below HV6.out hb7); have HB7 := Aside0.mk hb7; clear hb7) | (go_at_call 16; (with_reducible refine (awEq A5 c5 _ 1 97 _ (Kd.C_below (Kd.R_reads' HR5.out).2.2 (below_alloc (Below.refl _ _) _)) (Kd.R_reads' HR5.out).2.1 (awText w7 97) (Nat.le_refl _)).mono ?_); rintro e w8 ⟨rfl, hd8⟩; have HB8 := Aside0.mk (below_step (below_alloc (Below.refl w7.heap.size w7) _) hd8.below); clear hd8) | (go_at_call 16; (with_reducible refine (awEq A6 c6 _ 1 99 _ (Kd.C_below (Kd.R_reads' HR6.out).2.2 (below_alloc HB8.out _)) (Kd.R_reads' HR6.out).2.1 (awText w8 99) (Nat.le_refl _)).mono ?_); rintro e w9 ⟨rfl, hd9⟩; have HB9 := Aside0.mk (below_step (below_alloc (HB8.out) _) hd9.below); clear hd9))
  go_ret
  refine ⟨rfl, ?_⟩
  exact below_step (belowGrown (below_step (belowGrown (belowGrown (belowGrown HB3.out HG4.out HLB.out) HG5.out HLB.out) HG6.out HLB.out) HB7.out) (World.grownBy.refl _ _) HLB.out) HB9.out
end Go.Proofs.Ytcpicopaobhlcaa.Q
end
section
namespace Go.Proofs.Ytcpicopaobhlcaa.Q
open Go.RowKit Go.Proofs.YtcpicopaobhlcaaW.PrintWords Go.Proofs.YtcpicopaobhlcaaW.PrintLast Go.Proofs.YtcpicopaobhlcaaW.PrintMore
set_option linter.unusedVariables false
/-- A stream that was given T so far, with a elements done. -/
def SpSt (w : World) (b : Nat) (ok : Nat → Prop) (T : List Int) (a : Nat) (l : List Ru) : Prop :=
  ∃ s : List Int × Nat, SpRel (spBe l) T a s ∧ Strm w b ok s.1 s.2 l (spBe l) (spAh l) ∧ okText T = true ∧ T.length < 100000
theorem SpSt.new {w w' : World} {b : Nat} {l : List Ru} (h : Strm w' b (fun k => w.heap.size ≤ k ∧ k ≠ b) [] 0 l (spBe l) (spAh l)) : SpSt w' b (fun k => w.heap.size ≤ k ∧ k ≠ b) [] 0 l :=
  ⟨([], 0), SpRel.start _, h, by kernel_rfl, by decide⟩
theorem SpSt.step {w w' : World} {b : Nat} {ok : Nat → Prop} {T : List Int} {a : Nat} {l : List Ru} (h : SpSt w b ok T a l) (hb : w'.heap[b]? = w.heap[b]?) (hk : ∀ k, ok k → k < w.heap.size → w'.heap[k]? = w.heap[k]?) : SpSt w' b ok T a l := by
  obtain ⟨s, h1, h2, h3⟩ := h
  exact ⟨s, h1, h2.step hb hk, h3⟩
theorem SpSt.below {w w' : World} {b : Nat} {ok : Nat → Prop} {T : List Int} {a : Nat} {l : List Ru} (h : SpSt w b ok T a l) (hb : Below w.heap.size w w') : SpSt w' b ok T a l := by
  obtain ⟨s, h1, h2, h3⟩ := h
  exact ⟨s, h1, h2.below hb, h3⟩
theorem SpSt.grown {w w' : World} {b : Nat} {ok : Nat → Prop} {T : List Int} {a : Nat} {l : List Ru} (h : SpSt w b ok T a l) {row : Option Nat} (hg : w.grownBy w' row) (hb : some b ≠ row) (hk : ∀ k, ok k → some k ≠ row) : SpSt w' b ok T a l := by
  obtain ⟨s, h1, h2, h3⟩ := h
  exact ⟨s, h1, h2.grown hg hb hk, h3⟩
theorem SpSt.mono {w : World} {b : Nat} {ok ok' : Nat → Prop} {T : List Int} {a : Nat} {l : List Ru} (h : SpSt w b ok T a l) (hk : ∀ k, ok k → ok' k) : SpSt w b ok' T a l := by
  obtain ⟨s, h1, h2, h3⟩ := h
  exact ⟨s, h1, h2.mono hk, h3⟩
theorem SpSt.after {w w1 : World} {b : Nat} {ok : Nat → Prop} {T : List Int} {a : Nat} {l : List Ru} {v v1 : Value} (h : SpSt w b (fun k => ok k ∧ some k ≠ v.ownBlock) T a l) (hg : w.grownBy w1 v.ownBlock) (hat : v1.ownBlock = v.ownBlock ∨ ∃ c, v1.ownBlock = some c ∧ w.heap.size ≤ c) (hb : some b ≠ v.ownBlock) : SpSt w1 b (fun k => ok k ∧ some k ≠ v1.ownBlock) T a l := by
  obtain ⟨s, h1, h2, h3⟩ := h
  exact ⟨s, h1, h2.after hg hat hb, h3⟩
theorem SpSt.notrow {w : World} {b : Nat} {ok ok' : Nat → Prop} {T : List Int} {a : Nat} {l : List Ru} (h : SpSt w b ok T a l) {base : Nat} {v : Value} {xs : List Int} (hr : Kd.R (Kd.int .i64) 3 w base ok' v xs) : some b ≠ v.ownBlock := by
  obtain ⟨s, h1, h2, h3⟩ := h
  exact h2.notrow hr
theorem SpSt.lt {w : World} {b : Nat} {ok : Nat → Prop} {T : List Int} {a : Nat} {l : List Ru} (h : SpSt w b ok T a l) : b < w.heap.size := by
  obtain ⟨s, h1, h2, h3⟩ := h
  exact h2.lt
theorem spStNew (A0 : Option Addr) (c0 : Nat) (l : List Ru) (w : World) (hf : plFewL l) (hr : Kd.C k41 w A0 l.length l) (hc : l.length ≤ c0) (hd : checkS l = 0) :
    Calls Try.prog 13 #[.slice A0 l.length c0] w fun e w' => ∃ b, e = .returned (.tuple #[.pointer (some ⟨b, 0, none⟩), .int .i64 0]) ∧ SpSt w' b (fun k => w.heap.size ≤ k ∧ k ≠ b) [] 0 l ∧ w.heap.size ≤ b ∧ Below w.heap.size w w' := by
  refine (sNew_calls A0 c0 l w hf hr hc hd).mono ?_
  rintro e w' ⟨b, rfl, hs, hlb, hb⟩
  exact ⟨b, rfl, SpSt.new hs, hlb, hb⟩
def spFewB (l : List (List Int)) : Bool := decide (l.length ≤ 8) && l.all fun x => decide (x.length ≤ 30)
def wfTs (l : List (List Int)) : Prop := l.length ≤ maxLen ∧ ∀ x ∈ l, wfT x
end Go.Proofs.Ytcpicopaobhlcaa.Q
end
section
namespace Go.Proofs.Ytcpicopaobhlcaa.Q
open Go.RowKit Go.Proofs.YtcpicopaobhlcaaW.PrintWords Go.Proofs.YtcpicopaobhlcaaW.PrintLast Go.Proofs.YtcpicopaobhlcaaW.PrintMore
set_option linter.unusedVariables false
def RStB (w : World) (b : Nat) (Al : Option Addr) (nl cl : Nat) (ah : Int) (At : Option Addr) (nt ct : Nat) (a : Int) (op : Bool) : Prop :=
  w.heap[b]? = some (.cells #[.slice Al nl cl, .int .i64 ah, .slice At nt ct, .int .i64 a, .bool op] 71 (0, 0))
/-- The reference's stream: the rules, the input, the position; its rows lie in blocks of ok. -/
def RSt (w : World) (b : Nat) (ok : Nat → Prop) (t : List Int) (a : Nat) (l : List Ru) (ah : Nat) : Prop :=
  ∃ At ct Al cl, RStB w b Al l.length cl ah At t.length ct a true ∧ t.length ≤ ct ∧ Kd.F (Kd.int .i64) w ok At t.length t ∧ l.length ≤ cl ∧ Kd.F k41 w ok Al l.length l
theorem RSt.step {w w' : World} {b : Nat} {ok : Nat → Prop} {t : List Int} {a : Nat} {l : List Ru} {ah : Nat} (h : RSt w b ok t a l ah) (hb : w'.heap[b]? = w.heap[b]?) (hk : ∀ k, ok k → k < w.heap.size → w'.heap[k]? = w.heap[k]?) : RSt w' b ok t a l ah := by
  obtain ⟨At, ct, Al, cl, h1, h2, h3, h4, h5⟩ := h
  exact ⟨At, ct, Al, cl, hb.trans h1, h2, Kd.F_step h3 hk, h4, Kd.F_step h5 hk⟩
theorem RSt.lt {w : World} {b : Nat} {ok : Nat → Prop} {t : List Int} {a : Nat} {l : List Ru} {ah : Nat} (h : RSt w b ok t a l ah) : b < w.heap.size := by
  obtain ⟨At, ct, Al, cl, h1, _⟩ := h
  exact blk_lt h1
theorem RSt.below {w w' : World} {b : Nat} {ok : Nat → Prop} {t : List Int} {a : Nat} {l : List Ru} {ah : Nat} (h : RSt w b ok t a l ah) (hb : Below w.heap.size w w') : RSt w' b ok t a l ah :=
  h.step (hb.block b h.lt) (fun k _ hlt => hb.block k hlt)
theorem RSt.grown {w w' : World} {b : Nat} {ok : Nat → Prop} {t : List Int} {a : Nat} {l : List Ru} {ah : Nat} (h : RSt w b ok t a l ah) {row : Option Nat} (hg : w.grownBy w' row) (hb : some b ≠ row) (hk : ∀ k, ok k → some k ≠ row) : RSt w' b ok t a l ah :=
  h.step (hg.block b h.lt hb) (fun k hok hlt => hg.block k hlt (hk k hok))
theorem RSt.mono {w : World} {b : Nat} {ok ok' : Nat → Prop} {t : List Int} {a : Nat} {l : List Ru} {ah : Nat} (h : RSt w b ok t a l ah) (hk : ∀ k, ok k → ok' k) : RSt w b ok' t a l ah := by
  obtain ⟨At, ct, Al, cl, h1, h2, h3, h4, h5⟩ := h
  exact ⟨At, ct, Al, cl, h1, h2, Kd.F_mono h3 hk, h4, Kd.F_mono h5 hk⟩
theorem RSt.after {w w1 : World} {b : Nat} {ok : Nat → Prop} {t : List Int} {a : Nat} {l : List Ru} {ah : Nat} {v v1 : Value} (h : RSt w b (fun k => ok k ∧ some k ≠ v.ownBlock) t a l ah) (hg : w.grownBy w1 v.ownBlock) (hat : v1.ownBlock = v.ownBlock ∨ ∃ c, v1.ownBlock = some c ∧ w.heap.size ≤ c) (hb : some b ≠ v.ownBlock) : RSt w1 b (fun k => ok k ∧ some k ≠ v1.ownBlock) t a l ah := by
  obtain ⟨At, ct, Al, cl, h1, h2, h3, h4, h5⟩ := h
  exact ⟨At, ct, Al, cl, blk_grown h1 hg hb, h2, Kd.F_after h3 hg hat, h4, Kd.F_after h5 hg hat⟩
theorem RSt.notrow {w : World} {b : Nat} {ok ok' : Nat → Prop} {t : List Int} {a : Nat} {l : List Ru} {ah : Nat} (h : RSt w b ok t a l ah) {base : Nat} {v : Value} {xs : List Int} (hr : Kd.R (Kd.int .i64) 3 w base ok' v xs) : some b ≠ v.ownBlock := fun e => by
  obtain ⟨At, ct, Al, cl, h1, _⟩ := h
  obtain ⟨cells, hc⟩ := Kd.R_typed hr b e.symm
  rw [show w.heap[b]? = _ from h1] at hc
  injection hc with hc
  injection hc with _ hc2
  exact absurd hc2 (by decide)
theorem RStB.c0 {w : World} {b : Nat} {Al : Option Addr} {nl cl : Nat} {ah : Int} {At : Option Addr} {nt ct : Nat} {a : Int} {op : Bool} (h : RStB w b Al nl cl ah At nt ct a op) : w.cell? ⟨b, 0, none⟩ = some (.slice Al nl cl) := (blk_cell h 0).trans rfl
theorem RStB.c1 {w : World} {b : Nat} {Al : Option Addr} {nl cl : Nat} {ah : Int} {At : Option Addr} {nt ct : Nat} {a : Int} {op : Bool} (h : RStB w b Al nl cl ah At nt ct a op) : w.cell? ⟨b, 1, none⟩ = some (.int .i64 ah) := (blk_cell h 1).trans rfl
theorem RStB.c2 {w : World} {b : Nat} {Al : Option Addr} {nl cl : Nat} {ah : Int} {At : Option Addr} {nt ct : Nat} {a : Int} {op : Bool} (h : RStB w b Al nl cl ah At nt ct a op) : w.cell? ⟨b, 2, none⟩ = some (.slice At nt ct) := (blk_cell h 2).trans rfl
theorem RStB.c3 {w : World} {b : Nat} {Al : Option Addr} {nl cl : Nat} {ah : Int} {At : Option Addr} {nt ct : Nat} {a : Int} {op : Bool} (h : RStB w b Al nl cl ah At nt ct a op) : w.cell? ⟨b, 3, none⟩ = some (.int .i64 a) := (blk_cell h 3).trans rfl
theorem RStB.c4 {w : World} {b : Nat} {Al : Option Addr} {nl cl : Nat} {ah : Int} {At : Option Addr} {nt ct : Nat} {a : Int} {op : Bool} (h : RStB w b Al nl cl ah At nt ct a op) : w.cell? ⟨b, 4, none⟩ = some (.bool op) := (blk_cell h 4).trans rfl
theorem RStB.fz {w : World} {b : Nat} {Al : Option Addr} {nl cl : Nat} {ah : Int} {At : Option Addr} {nt ct : Nat} {a : Int} {op : Bool} (h : RStB w b Al nl cl ah At nt ct a op) (i : Nat) : w.frozen? ⟨b, i, none⟩ = false := blk_frozen h i
theorem RStB.below {w w' : World} {b : Nat} {Al : Option Addr} {nl cl : Nat} {ah : Int} {At : Option Addr} {nt ct : Nat} {a : Int} {op : Bool} (h : RStB w b Al nl cl ah At nt ct a op) (hb : Below w.heap.size w w') : RStB w' b Al nl cl ah At nt ct a op := blk_below h hb
attribute [local go_sem] max2_int max_two
set_option maxHeartbeats 4000000 in
set_option maxRecDepth 100000 in
theorem rNew_bad (A0 : Option Addr) (c0 : Nat) (l : List Ru) (w : World) (hf : plFewL l) (hr : Kd.C k41 w A0 l.length l) (hc : l.length ≤ c0) (hd : checkS l ≠ 0) :
    Calls Try.prog 19 #[.slice A0 l.length c0] w fun e w' => e = .returned (.tuple #[.pointer none, .int .i64 (checkS l)]) ∧ Below w.heap.size w w' := by
  have HR := Aside0.mk hr
  have HC := Aside0.mk hc
  have HCK := Aside0.mk (plCheck_ok l 1000 hf (by decide))
  have hq : (checkS l != 0) = true := by simpa using hd
  have hq2 : (!decide (checkS l = 0)) = true := by simpa using hd
  have hq3 : decide (checkS l = 0) = false := decide_eq_false hd
  have hq4 : (checkS l == 0) = false := by simpa using hd
  clear hr hc hd hf
  generalize checkS l = e0 at *
  go_enter Try.func19, Try.ntmps19
  go_wp2_with (go_at_call 38; (with_reducible refine (unicodetextref50_Check.calls 1000 A0 c0 l e0 _ HR.out HC.out HCK.out).mono ?_); rintro e w1 ⟨rfl, hb⟩; have HB := Aside0.mk hb; clear hb)
  go_ret2
  exact ⟨rfl, HB.out⟩
set_option maxHeartbeats 4000000 in
set_option maxRecDepth 100000 in
theorem rNew_calls (A0 : Option Addr) (c0 : Nat) (l : List Ru) (w : World) (hf : plFewL l) (hr : Kd.C k41 w A0 l.length l) (hc : l.length ≤ c0) (hd : checkS l = 0) :
    Calls Try.prog 19 #[.slice A0 l.length c0] w fun e w' => ∃ b, e = .returned (.tuple #[.pointer (some ⟨b, 0, none⟩), .int .i64 0]) ∧ RStB w' b A0 l.length c0 (spAh l) none 0 0 0 true ∧ w.heap.size ≤ b ∧ Below w.heap.size w w' := by
  have HR := Aside0.mk hr
  have HC := Aside0.mk hc
  have hck := plCheck_ok l 1000 hf (by decide)
  rw [hd] at hck
  have HCK := Aside0.mk hck
  have hde : dataS l = l := by unfold dataS; rw [if_pos hd]
  have hre : unicodetextref51_Reach.f 1000 l = some ((reachS l).1, (reachS l).2) := by
    rw [plReach_ok l 1000 hf (by decide), hde]
  have hmx : (if (reachS l).2 < (1 : Int) then 1 else (reachS l).2) = (spAh l : Int) := by
    obtain ⟨⟨b1, b2⟩, ⟨f1, f2⟩, _⟩ := plReach_bounds l hf
    unfold spAh; split <;> omega
  have HRE := Aside0.mk hre
  have HMX := Aside0.mk hmx
  clear hr hc hd hck hde hre hmx hf
  generalize (reachS l).2 = ahead at *
  generalize (reachS l).1 = beh at *
  have hu1 := Try.underlying71
  go_enter Try.func19, Try.ntmps19
  by_cases h1 : ahead < (1 : Int)
  · have HAH : Aside0 ((1 : Int) = (spAh l : Int)) := ⟨by have := HMX.out; rwa [if_pos h1] at this⟩
    go_wp2_with (first | (go_at_call 38; (with_reducible refine (unicodetextref50_Check.calls 1000 A0 c0 l 0 _ HR.out HC.out HCK.out).mono ?_); rintro e w1 ⟨rfl, hb⟩; have HB := Aside0.mk hb; clear hb) | (go_at_call 24; (with_reducible refine (unicodetextref51_Reach.calls 1000 A0 c0 l beh ahead _ (Kd.C_below HR.out HB.out) HC.out HRE.out).mono ?_); rintro e w2 ⟨rfl, hb⟩; have HB2 := Aside0.mk (below_step HB.out hb); clear hb))
    go_ret2
    have hbk := heap_alloc_new w2 (.cells #[.slice A0 l.length c0, .int .i64 1, .slice none 0 0, .int .i64 0, .bool true] 71)
    refine ⟨w2.heap.size, rfl, ?_, HB2.out.size, below_alloc HB2.out _⟩
    unfold RStB
    rw [← HAH.out]
    exact hbk
  · have HAH : Aside0 (ahead = (spAh l : Int)) := ⟨by have := HMX.out; rwa [if_neg h1] at this⟩
    go_wp2_with (first | (go_at_call 38; (with_reducible refine (unicodetextref50_Check.calls 1000 A0 c0 l 0 _ HR.out HC.out HCK.out).mono ?_); rintro e w1 ⟨rfl, hb⟩; have HB := Aside0.mk hb; clear hb) | (go_at_call 24; (with_reducible refine (unicodetextref51_Reach.calls 1000 A0 c0 l beh ahead _ (Kd.C_below HR.out HB.out) HC.out HRE.out).mono ?_); rintro e w2 ⟨rfl, hb⟩; have HB2 := Aside0.mk (below_step HB.out hb); clear hb))
    go_ret2
    have hbk := heap_alloc_new w2 (.cells #[.slice A0 l.length c0, .int .i64 ahead, .slice none 0 0, .int .i64 0, .bool true] 71)
    refine ⟨w2.heap.size, rfl, ?_, HB2.out.size, below_alloc HB2.out _⟩
    unfold RStB
    rw [← HAH.out]
    exact hbk
end Go.Proofs.Ytcpicopaobhlcaa.Q
end
section
namespace Go.Proofs.Ytcpicopaobhlcaa.Q
open Go.RowKit Go.Proofs.YtcpicopaobhlcaaW.PrintWords Go.Proofs.YtcpicopaobhlcaaW.PrintLast Go.Proofs.YtcpicopaobhlcaaW.PrintMore
set_option linter.unusedVariables false
set_option maxHeartbeats 8000000 in
set_option maxRecDepth 100000 in
theorem transstreamOpens_law (A0 : Option Addr) (c0 : Nat) (l0 : List Ru) (A1 : Option Addr) (c1 : Nat) (l1 : List Int) (w : World) (h0 : wfL l0) (h1 : wfT l1) (hr0 : Kd.C k41 w A0 l0.length l0) (hc0 : l0.length ≤ c0) (hr1 : Kd.C (Kd.int .i64) w A1 l1.length l1) (hc1 : l1.length ≤ c1) :
    Calls Try.prog 5 #[.slice A0 l0.length c0, .slice A1 l1.length c1] w fun e w' => e = .returned (.bool true) ∧ Below w.heap.size w w' := by
  have HR := Aside0.mk hr0
  have HC := Aside0.mk hc0
  have HT := Aside0.mk hr1
  have HC1 := Aside0.mk hc1
  have hsm := sSmall_calls A0 c0 l0
  clear hr0 hc0 hr1 hc1 h0
  cases hb0 : spSmallB l0 with
  | false =>
    rw [hb0] at hsm
    have HSM := Aside0.mk hsm
    clear hsm hb0 h1
    go_enter Try.func5, Try.ntmps5
    go_wp2_with (first | (go_at_call 10; (with_reducible refine (HSM.out _ HR.out HC.out).mono ?_); rintro e w1 ⟨rfl, hb⟩; have HB := Aside0.mk hb; clear hb) | (go_at_call 12; (with_reducible refine (awake_calls _).mono ?_); rintro e wz ⟨rfl, hb⟩; have HBA := Aside0.mk hb; clear hb))
    go_ret
    exact ⟨rfl, below_step HB.out HBA.out⟩
  | true =>
    rw [hb0] at hsm
    have HSM := Aside0.mk hsm
    have hf := spSmall_few l0 hb0
    clear hsm hb0
    by_cases hb1 : (60 : Int) < (l1.length : Int)
    · have hq1 : decide ((l1.length : Int) > 60) = true := decide_eq_true hb1
      clear hb1 hf h1
      go_enter Try.func5, Try.ntmps5
      go_wp2_with (first | (go_at_call 10; (with_reducible refine (HSM.out _ HR.out HC.out).mono ?_); rintro e w1 ⟨rfl, hb⟩; have HB := Aside0.mk hb; clear hb) | (go_at_call 12; (with_reducible refine (awake_calls _).mono ?_); rintro e wz ⟨rfl, hb⟩; have HBA := Aside0.mk hb; clear hb))
      go_ret
      exact ⟨rfl, below_step HB.out HBA.out⟩
    · have hq1 : decide ((l1.length : Int) > 60) = false := decide_eq_false hb1
      have HTX := Aside0.mk (show wfT l1 ∧ l1.length ≤ 60 from ⟨h1, by omega⟩)
      have HF := Aside0.mk hf
      clear hb1 hf h1
      have hu1 := Try.underlying53
      by_cases hd : checkS l0 = 0
      · have HD := Aside0.mk hd
        clear hd
        go_enter Try.func5, Try.ntmps5
        go_upto_region 8 with (first | (go_at_call 10; (with_reducible refine (HSM.out _ HR.out HC.out).mono ?_); rintro e w1 ⟨rfl, hb⟩; have HB := Aside0.mk hb; clear hb) | (go_at_call 13; (with_reducible refine (spStNew A0 c0 l0 _ HF.out (Kd.C_below HR.out HB.out) HC.out HD.out).mono ?_); rintro e w3 ⟨b, rfl, hs, hlb, hb⟩; have HS := Aside0.mk (hs.mono (fun k hk => hk.2)); have HLB := Aside0.mk (Nat.le_trans HB.out.size hlb); have HB3 := Aside0.mk (below_step HB.out hb); clear hb hs hlb) | (go_at_call 19; (with_reducible refine (rNew_calls A0 c0 l0 _ HF.out (Kd.C_below HR.out HB3.out) HC.out HD.out).mono ?_); rintro e w4 ⟨b4, rfl, h4, hl4, hb⟩; have HB4 := Aside0.mk (below_step HB3.out hb); clear hb hl4 h4) | (go_at_call 12; (with_reducible refine (awake_calls _).mono ?_); rintro e wz ⟨rfl, hb⟩; have HBA := Aside0.mk hb; clear hb))
        have HZ := Aside0.mk (show StrmZ _ w4.heap.size from .inl (heap_alloc_new w4 (.cells #[.slice none 0 0, .int .i64 0, .slice none 0 0, .int .i64 0, .int .i64 0] 53)))
        have HB5 := Aside0.mk (below_alloc HB4.out (.cells #[.slice none 0 0, .int .i64 0, .slice none 0 0, .int .i64 0, .int .i64 0] 53))
        go_wp2_with (first | (go_at_call 14; (with_reducible refine (sWrite_closed w4.heap.size _ _ HZ.out).mono ?_); rintro e w6 ⟨rfl, hb⟩; have HB6 := Aside0.mk (below_step HB5.out hb); have HZ6 := Aside0.mk (HZ.out.below hb); clear hb) | (go_at_call 15; (with_reducible refine (sClose_closed w4.heap.size _ HZ6.out).mono ?_); rintro e w7 ⟨rfl, hb⟩; have HB7 := Aside0.mk (below_step HB6.out hb); have HZ7 := Aside0.mk (HZ6.out.below hb); clear hb) | (go_at_call 14; (with_reducible refine (sWrite_nil _ _).mono ?_); rintro e w8 ⟨rfl, hb⟩; have HB8 := Aside0.mk (below_step HB7.out hb); have HZ8 := Aside0.mk (HZ7.out.below hb); clear hb) | (go_at_call 15; (with_reducible refine (sClose_nil _).mono ?_); rintro e w9 ⟨rfl, hb⟩; have HB9 := Aside0.mk (below_step HB8.out hb); have HZ9 := Aside0.mk (HZ8.out.below hb); clear hb) | (go_at_call 20; (with_reducible refine (sPend_closed w4.heap.size _ HZ9.out).mono ?_); rintro e wa ⟨rfl, hb⟩; have HBP := Aside0.mk (below_step HB9.out hb); clear hb) | (go_at_call 20; (with_reducible refine (sPend_nil _).mono ?_); rintro e wb ⟨rfl, hb⟩; have HBQ := Aside0.mk (below_step HBP.out hb); clear hb) | (go_at_call 12; (with_reducible refine (awake_calls _).mono ?_); rintro e wz ⟨rfl, hb⟩; have HBA := Aside0.mk hb; clear hb))
        go_ret
        exact ⟨rfl, below_step HBQ.out HBA.out⟩
      · have HD := Aside0.mk hd
        have hq : (checkS l0 = 0) = False := eq_false hd
        have hq2 : (checkS l0 == 0) = false := by simpa using hd
        have hq3 : decide (checkS l0 = 0) = false := decide_eq_false hd
        clear hd
        go_enter Try.func5, Try.ntmps5
        go_upto_region 8 with (first | (go_at_call 10; (with_reducible refine (HSM.out _ HR.out HC.out).mono ?_); rintro e w1 ⟨rfl, hb⟩; have HB := Aside0.mk hb; clear hb) | (go_at_call 13; (with_reducible refine (sNew_bad A0 c0 l0 _ HF.out (Kd.C_below HR.out HB.out) HC.out HD.out).mono ?_); rintro e w3 ⟨rfl, hb⟩; have HB3 := Aside0.mk (below_step HB.out hb); clear hb) | (go_at_call 19; (with_reducible refine (rNew_bad A0 c0 l0 _ HF.out (Kd.C_below HR.out HB3.out) HC.out HD.out).mono ?_); rintro e w4 ⟨rfl, hb⟩; have HB4 := Aside0.mk (below_step HB3.out hb); clear hb) | (go_at_call 12; (with_reducible refine (awake_calls _).mono ?_); rintro e wz ⟨rfl, hb⟩; have HBA := Aside0.mk hb; clear hb))
        have HZ := Aside0.mk (show StrmZ _ w4.heap.size from .inl (heap_alloc_new w4 (.cells #[.slice none 0 0, .int .i64 0, .slice none 0 0, .int .i64 0, .int .i64 0] 53)))
        have HB5 := Aside0.mk (below_alloc HB4.out (.cells #[.slice none 0 0, .int .i64 0, .slice none 0 0, .int .i64 0, .int .i64 0] 53))
        go_wp2_with (first | (go_at_call 14; (with_reducible refine (sWrite_closed w4.heap.size _ _ HZ.out).mono ?_); rintro e w6 ⟨rfl, hb⟩; have HB6 := Aside0.mk (below_step HB5.out hb); have HZ6 := Aside0.mk (HZ.out.below hb); clear hb) | (go_at_call 15; (with_reducible refine (sClose_closed w4.heap.size _ HZ6.out).mono ?_); rintro e w7 ⟨rfl, hb⟩; have HB7 := Aside0.mk (below_step HB6.out hb); have HZ7 := Aside0.mk (HZ6.out.below hb); clear hb) | (go_at_call 14; (with_reducible refine (sWrite_nil _ _).mono ?_); rintro e w8 ⟨rfl, hb⟩; have HB8 := Aside0.mk (below_step HB7.out hb); have HZ8 := Aside0.mk (HZ7.out.below hb); clear hb) | (go_at_call 15; (with_reducible refine (sClose_nil _).mono ?_); rintro e w9 ⟨rfl, hb⟩; have HB9 := Aside0.mk (below_step HB8.out hb); have HZ9 := Aside0.mk (HZ8.out.below hb); clear hb) | (go_at_call 20; (with_reducible refine (sPend_closed w4.heap.size _ HZ9.out).mono ?_); rintro e wa ⟨rfl, hb⟩; have HBP := Aside0.mk (below_step HB9.out hb); clear hb) | (go_at_call 20; (with_reducible refine (sPend_nil _).mono ?_); rintro e wb ⟨rfl, hb⟩; have HBQ := Aside0.mk (below_step HBP.out hb); clear hb) | (go_at_call 12; (with_reducible refine (awake_calls _).mono ?_); rintro e wz ⟨rfl, hb⟩; have HBA := Aside0.mk hb; clear hb))
        go_ret
        exact ⟨rfl, below_step HBQ.out HBA.out⟩
end Go.Proofs.Ytcpicopaobhlcaa.Q
end
