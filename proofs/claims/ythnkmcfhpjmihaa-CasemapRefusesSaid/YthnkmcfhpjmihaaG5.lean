/- Lemmas, printed and written for this claim: part 5. -/
import Derived.WalkKit
import Derived.WalkSpells
import Derived.IntWalk
import Derived.Deep.RegionHeld3
import Derived.Deep.RegionLaw
import Derived.Test.YthnkmcfhpjmihaaG4
import Derived.Test.YthnkmcfhpjmihaaG2
import Derived.Laws.Runes
import Derived.Test.YthnkmcfhpjmihaaG3
section
namespace Go.Proofs.Ythnkmcfhpjmihaa.Q
open Go.RowKit Go.Proofs.YthnkmcfhpjmihaaW.PrintWords Go.Proofs.YthnkmcfhpjmihaaW.PrintLast Go.Proofs.YthnkmcfhpjmihaaW.PrintMore
set_option linter.unusedVariables false
structure MprA (w : World) (b : Nat) (c : CaseS) (text : List Int) (A0 : Option Addr) (n0 : Nat) (A1 : Option Addr) (n1 : Nat) (A2 : Option Addr) (n2 : Nat) (A3 : Option Addr) (n3 : Nat) (A4 : Option Addr) (n4 : Nat) (A5 : Option Addr) (n5 : Nat) (At : Option Addr) (nt : Nat) : Prop where
  blk : w.heap[b]? = some (.cells #[.slice A0 c.lo.length n0, .slice A1 c.up.length n1, .slice A2 c.ti.length n2, .slice A3 c.fo.length n3, .slice A4 c.ca.length n4, .slice A5 c.ig.length n5, .slice At text.length nt] 53 (0, 0))
  l0 : c.lo.length ≤ n0
  r0 : Kd.C k43 w A0 c.lo.length c.lo
  l1 : c.up.length ≤ n1
  r1 : Kd.C k43 w A1 c.up.length c.up
  l2 : c.ti.length ≤ n2
  r2 : Kd.C k43 w A2 c.ti.length c.ti
  l3 : c.fo.length ≤ n3
  r3 : Kd.C k43 w A3 c.fo.length c.fo
  l4 : c.ca.length ≤ n4
  r4 : Kd.C k33 w A4 c.ca.length c.ca
  l5 : c.ig.length ≤ n5
  r5 : Kd.C k33 w A5 c.ig.length c.ig
  lt : text.length ≤ nt
  rt : Kd.C (Kd.int .i64) w At text.length text
def Mpr (w : World) (b : Nat) (c : CaseS) (text : List Int) : Prop := ∃ A0 n0 A1 n1 A2 n2 A3 n3 A4 n4 A5 n5 At nt, MprA w b c text A0 n0 A1 n1 A2 n2 A3 n3 A4 n4 A5 n5 At nt
theorem MprA.below {w w' : World} {b : Nat} {c : CaseS} {text : List Int} {A0 : Option Addr} {n0 : Nat} {A1 : Option Addr} {n1 : Nat} {A2 : Option Addr} {n2 : Nat} {A3 : Option Addr} {n3 : Nat} {A4 : Option Addr} {n4 : Nat} {A5 : Option Addr} {n5 : Nat} {At : Option Addr} {nt : Nat} (h : MprA w b c text A0 n0 A1 n1 A2 n2 A3 n3 A4 n4 A5 n5 At nt) (hb : Below w.heap.size w w') : MprA w' b c text A0 n0 A1 n1 A2 n2 A3 n3 A4 n4 A5 n5 At nt :=
  ⟨(hb.block b (blk_lt h.blk)).trans h.blk, h.l0, Kd.C_below h.r0 hb, h.l1, Kd.C_below h.r1 hb, h.l2, Kd.C_below h.r2 hb, h.l3, Kd.C_below h.r3 hb, h.l4, Kd.C_below h.r4 hb, h.l5, Kd.C_below h.r5 hb, h.lt, Kd.C_below h.rt hb⟩
theorem MprA.c0 {w : World} {b : Nat} {c : CaseS} {text : List Int} {A0 : Option Addr} {n0 : Nat} {A1 : Option Addr} {n1 : Nat} {A2 : Option Addr} {n2 : Nat} {A3 : Option Addr} {n3 : Nat} {A4 : Option Addr} {n4 : Nat} {A5 : Option Addr} {n5 : Nat} {At : Option Addr} {nt : Nat} (h : MprA w b c text A0 n0 A1 n1 A2 n2 A3 n3 A4 n4 A5 n5 At nt) : w.cell? ⟨b, 0, none⟩ = some (.slice A0 c.lo.length n0) := (blk_cell h.blk 0).trans rfl
theorem MprA.c1 {w : World} {b : Nat} {c : CaseS} {text : List Int} {A0 : Option Addr} {n0 : Nat} {A1 : Option Addr} {n1 : Nat} {A2 : Option Addr} {n2 : Nat} {A3 : Option Addr} {n3 : Nat} {A4 : Option Addr} {n4 : Nat} {A5 : Option Addr} {n5 : Nat} {At : Option Addr} {nt : Nat} (h : MprA w b c text A0 n0 A1 n1 A2 n2 A3 n3 A4 n4 A5 n5 At nt) : w.cell? ⟨b, 1, none⟩ = some (.slice A1 c.up.length n1) := (blk_cell h.blk 1).trans rfl
theorem MprA.c2 {w : World} {b : Nat} {c : CaseS} {text : List Int} {A0 : Option Addr} {n0 : Nat} {A1 : Option Addr} {n1 : Nat} {A2 : Option Addr} {n2 : Nat} {A3 : Option Addr} {n3 : Nat} {A4 : Option Addr} {n4 : Nat} {A5 : Option Addr} {n5 : Nat} {At : Option Addr} {nt : Nat} (h : MprA w b c text A0 n0 A1 n1 A2 n2 A3 n3 A4 n4 A5 n5 At nt) : w.cell? ⟨b, 2, none⟩ = some (.slice A2 c.ti.length n2) := (blk_cell h.blk 2).trans rfl
theorem MprA.c3 {w : World} {b : Nat} {c : CaseS} {text : List Int} {A0 : Option Addr} {n0 : Nat} {A1 : Option Addr} {n1 : Nat} {A2 : Option Addr} {n2 : Nat} {A3 : Option Addr} {n3 : Nat} {A4 : Option Addr} {n4 : Nat} {A5 : Option Addr} {n5 : Nat} {At : Option Addr} {nt : Nat} (h : MprA w b c text A0 n0 A1 n1 A2 n2 A3 n3 A4 n4 A5 n5 At nt) : w.cell? ⟨b, 3, none⟩ = some (.slice A3 c.fo.length n3) := (blk_cell h.blk 3).trans rfl
theorem MprA.c4 {w : World} {b : Nat} {c : CaseS} {text : List Int} {A0 : Option Addr} {n0 : Nat} {A1 : Option Addr} {n1 : Nat} {A2 : Option Addr} {n2 : Nat} {A3 : Option Addr} {n3 : Nat} {A4 : Option Addr} {n4 : Nat} {A5 : Option Addr} {n5 : Nat} {At : Option Addr} {nt : Nat} (h : MprA w b c text A0 n0 A1 n1 A2 n2 A3 n3 A4 n4 A5 n5 At nt) : w.cell? ⟨b, 4, none⟩ = some (.slice A4 c.ca.length n4) := (blk_cell h.blk 4).trans rfl
theorem MprA.c5 {w : World} {b : Nat} {c : CaseS} {text : List Int} {A0 : Option Addr} {n0 : Nat} {A1 : Option Addr} {n1 : Nat} {A2 : Option Addr} {n2 : Nat} {A3 : Option Addr} {n3 : Nat} {A4 : Option Addr} {n4 : Nat} {A5 : Option Addr} {n5 : Nat} {At : Option Addr} {nt : Nat} (h : MprA w b c text A0 n0 A1 n1 A2 n2 A3 n3 A4 n4 A5 n5 At nt) : w.cell? ⟨b, 5, none⟩ = some (.slice A5 c.ig.length n5) := (blk_cell h.blk 5).trans rfl
theorem MprA.c6 {w : World} {b : Nat} {c : CaseS} {text : List Int} {A0 : Option Addr} {n0 : Nat} {A1 : Option Addr} {n1 : Nat} {A2 : Option Addr} {n2 : Nat} {A3 : Option Addr} {n3 : Nat} {A4 : Option Addr} {n4 : Nat} {A5 : Option Addr} {n5 : Nat} {At : Option Addr} {nt : Nat} (h : MprA w b c text A0 n0 A1 n1 A2 n2 A3 n3 A4 n4 A5 n5 At nt) : w.cell? ⟨b, 6, none⟩ = some (.slice At text.length nt) := (blk_cell h.blk 6).trans rfl
set_option maxHeartbeats 4000000 in
set_option maxRecDepth 100000 in
theorem open_calls (A0_0 : Option Addr) (c0_0 : Nat) (l0_0 : List Mp) (A0_1 : Option Addr) (c0_1 : Nat) (l0_1 : List Mp) (A0_2 : Option Addr) (c0_2 : Nat) (l0_2 : List Mp) (A0_3 : Option Addr) (c0_3 : Nat) (l0_3 : List Mp) (A0_4 : Option Addr) (c0_4 : Nat) (l0_4 : List Rg) (A0_5 : Option Addr) (c0_5 : Nat) (l0_5 : List Rg) (At : Option Addr) (nt : Nat) (text : List Int) (w : World) (hr0_0 : Kd.C k43 w A0_0 l0_0.length l0_0) (hc0_0 : l0_0.length ≤ c0_0) (hr0_1 : Kd.C k43 w A0_1 l0_1.length l0_1) (hc0_1 : l0_1.length ≤ c0_1) (hr0_2 : Kd.C k43 w A0_2 l0_2.length l0_2) (hc0_2 : l0_2.length ≤ c0_2) (hr0_3 : Kd.C k43 w A0_3 l0_3.length l0_3) (hc0_3 : l0_3.length ≤ c0_3) (hr0_4 : Kd.C k33 w A0_4 l0_4.length l0_4) (hc0_4 : l0_4.length ≤ c0_4) (hr0_5 : Kd.C k33 w A0_5 l0_5.length l0_5) (hc0_5 : l0_5.length ≤ c0_5) (hrt : Kd.C (Kd.int .i64) w At text.length text) (hct : text.length ≤ nt) (hok : okC ⟨l0_0, l0_1, l0_2, l0_3, l0_4, l0_5⟩ = true) :
    Calls Try.prog 30 #[.agg #[.slice A0_0 l0_0.length c0_0, .slice A0_1 l0_1.length c0_1, .slice A0_2 l0_2.length c0_2, .slice A0_3 l0_3.length c0_3, .slice A0_4 l0_4.length c0_4, .slice A0_5 l0_5.length c0_5], .slice At text.length nt] w fun e w' => ∃ b, e = .returned (.pointer (some ⟨b, 0, none⟩)) ∧ Mpr w' b (caseData ⟨l0_0, l0_1, l0_2, l0_3, l0_4, l0_5⟩) text ∧ Below w.heap.size w w' := by
  have HBX := Aside0.mk (below_alloc (Below.refl w.heap.size w) (Obj.cells #[Value.slice A0_0 l0_0.length c0_0, Value.slice A0_1 l0_1.length c0_1, Value.slice A0_2 l0_2.length c0_2, Value.slice A0_3 l0_3.length c0_3, Value.slice A0_4 l0_4.length c0_4, Value.slice A0_5 l0_5.length c0_5] 27))
  have HK0 := Aside0.mk (blk_new w (Obj.cells #[Value.slice A0_0 l0_0.length c0_0, Value.slice A0_1 l0_1.length c0_1, Value.slice A0_2 l0_2.length c0_2, Value.slice A0_3 l0_3.length c0_3, Value.slice A0_4 l0_4.length c0_4, Value.slice A0_5 l0_5.length c0_5] 27))
  have HOK := Aside0.mk hok
  have hu := Try.underlying27
  have hu2 := Try.underlying53
  have HRT := Aside0.mk hrt
  have HCT := Aside0.mk hct
  have HR0 := Aside0.mk hr0_0
  have HC0 := Aside0.mk hc0_0
  have HR1 := Aside0.mk hr0_1
  have HC1 := Aside0.mk hc0_1
  have HR2 := Aside0.mk hr0_2
  have HC2 := Aside0.mk hc0_2
  have HR3 := Aside0.mk hr0_3
  have HC3 := Aside0.mk hc0_3
  have HR4 := Aside0.mk hr0_4
  have HC4 := Aside0.mk hc0_4
  have HR5 := Aside0.mk hr0_5
  have HC5 := Aside0.mk hc0_5
  by_cases h0 : caseChk ⟨l0_0, l0_1, l0_2, l0_3, l0_4, l0_5⟩ = 0
  · have HE := Aside0.mk h0
    have HCD := Aside0.mk (show caseData ⟨l0_0, l0_1, l0_2, l0_3, l0_4, l0_5⟩ = ⟨l0_0, l0_1, l0_2, l0_3, l0_4, l0_5⟩ by unfold caseData; rw [if_pos h0])
    clear h0 hok hrt hct hr0_0 hc0_0 hr0_1 hc0_1 hr0_2 hc0_2 hr0_3 hc0_3 hr0_4 hc0_4 hr0_5 hc0_5
    go_enter Try.func30, Try.ntmps30
    go_wp2_with (go_at_call 21; (with_reducible refine (caseCheck_calls A0_0 c0_0 l0_0 A0_1 c0_1 l0_1 A0_2 c0_2 l0_2 A0_3 c0_3 l0_3 A0_4 c0_4 l0_4 A0_5 c0_5 l0_5 _ (Kd.C_below HR0.out HBX.out) HC0.out (Kd.C_below HR1.out HBX.out) HC1.out (Kd.C_below HR2.out HBX.out) HC2.out (Kd.C_below HR3.out HBX.out) HC3.out (Kd.C_below HR4.out HBX.out) HC4.out (Kd.C_below HR5.out HBX.out) HC5.out HOK.out).mono ?_); rw [HE.out]; rintro e w2 ⟨rfl, hb⟩; have hk2 := (hb.block _ (blk_lt HK0.out)).trans HK0.out; have HK2 := Aside0.mk hk2; have a0 : w2.cell? ⟨w.heap.size, 0, none⟩ = some (.slice A0_0 l0_0.length c0_0) := (blk_cell hk2 0).trans rfl; have f0 := blk_frozen hk2 0; have a1 : w2.cell? ⟨w.heap.size, 1, none⟩ = some (.slice A0_1 l0_1.length c0_1) := (blk_cell hk2 1).trans rfl; have f1 := blk_frozen hk2 1; have a2 : w2.cell? ⟨w.heap.size, 2, none⟩ = some (.slice A0_2 l0_2.length c0_2) := (blk_cell hk2 2).trans rfl; have f2 := blk_frozen hk2 2; have a3 : w2.cell? ⟨w.heap.size, 3, none⟩ = some (.slice A0_3 l0_3.length c0_3) := (blk_cell hk2 3).trans rfl; have f3 := blk_frozen hk2 3; have a4 : w2.cell? ⟨w.heap.size, 4, none⟩ = some (.slice A0_4 l0_4.length c0_4) := (blk_cell hk2 4).trans rfl; have f4 := blk_frozen hk2 4; have a5 : w2.cell? ⟨w.heap.size, 5, none⟩ = some (.slice A0_5 l0_5.length c0_5) := (blk_cell hk2 5).trans rfl; have f5 := blk_frozen hk2 5;  have HB2 := Aside0.mk (below_step HBX.out hb); clear hb hk2)
    go_ret
    rw [HCD.out]
    exact ⟨w2.heap.size, rfl, ⟨_, _, _, _, _, _, _, _, _, _, _, _, _, _, ⟨blk_new w2 _, HC0.out, Kd.C_alloc (Kd.C_below HR0.out HB2.out) _, HC1.out, Kd.C_alloc (Kd.C_below HR1.out HB2.out) _, HC2.out, Kd.C_alloc (Kd.C_below HR2.out HB2.out) _, HC3.out, Kd.C_alloc (Kd.C_below HR3.out HB2.out) _, HC4.out, Kd.C_alloc (Kd.C_below HR4.out HB2.out) _, HC5.out, Kd.C_alloc (Kd.C_below HR5.out HB2.out) _, HCT.out, Kd.C_alloc (Kd.C_below HRT.out HB2.out) _⟩⟩, below_alloc HB2.out _⟩
  · obtain ⟨u, hu0⟩ : ∃ u, u = caseChk ⟨l0_0, l0_1, l0_2, l0_3, l0_4, l0_5⟩ := ⟨_, rfl⟩
    have HE := Aside0.mk hu0.symm
    rw [← hu0] at h0
    have HCD := Aside0.mk (show caseData ⟨l0_0, l0_1, l0_2, l0_3, l0_4, l0_5⟩ = ⟨[], [], [], [], [], []⟩ by unfold caseData; rw [← hu0, if_neg h0])
    have y1 : (u != 0) = true := by simpa using h0
    have y2 : (u == 0) = false := by simpa using h0
    have y3 : decide (u = 0) = false := decide_eq_false h0
    clear h0 hu0 hok hrt hct hr0_0 hc0_0 hr0_1 hc0_1 hr0_2 hc0_2 hr0_3 hc0_3 hr0_4 hc0_4 hr0_5 hc0_5
    go_enter Try.func30, Try.ntmps30
    go_wp2_with (go_at_call 21; (with_reducible refine (caseCheck_calls A0_0 c0_0 l0_0 A0_1 c0_1 l0_1 A0_2 c0_2 l0_2 A0_3 c0_3 l0_3 A0_4 c0_4 l0_4 A0_5 c0_5 l0_5 _ (Kd.C_below HR0.out HBX.out) HC0.out (Kd.C_below HR1.out HBX.out) HC1.out (Kd.C_below HR2.out HBX.out) HC2.out (Kd.C_below HR3.out HBX.out) HC3.out (Kd.C_below HR4.out HBX.out) HC4.out (Kd.C_below HR5.out HBX.out) HC5.out HOK.out).mono ?_); rw [HE.out]; rintro e w2 ⟨rfl, hb⟩; have hk2 := (hb.block _ (blk_lt HK0.out)).trans HK0.out; have HK2 := Aside0.mk hk2; have a0 : w2.cell? ⟨w.heap.size, 0, none⟩ = some (.slice A0_0 l0_0.length c0_0) := (blk_cell hk2 0).trans rfl; have f0 := blk_frozen hk2 0; have a1 : w2.cell? ⟨w.heap.size, 1, none⟩ = some (.slice A0_1 l0_1.length c0_1) := (blk_cell hk2 1).trans rfl; have f1 := blk_frozen hk2 1; have a2 : w2.cell? ⟨w.heap.size, 2, none⟩ = some (.slice A0_2 l0_2.length c0_2) := (blk_cell hk2 2).trans rfl; have f2 := blk_frozen hk2 2; have a3 : w2.cell? ⟨w.heap.size, 3, none⟩ = some (.slice A0_3 l0_3.length c0_3) := (blk_cell hk2 3).trans rfl; have f3 := blk_frozen hk2 3; have a4 : w2.cell? ⟨w.heap.size, 4, none⟩ = some (.slice A0_4 l0_4.length c0_4) := (blk_cell hk2 4).trans rfl; have f4 := blk_frozen hk2 4; have a5 : w2.cell? ⟨w.heap.size, 5, none⟩ = some (.slice A0_5 l0_5.length c0_5) := (blk_cell hk2 5).trans rfl; have f5 := blk_frozen hk2 5;  have HB2 := Aside0.mk (below_step HBX.out hb); clear hb hk2)
    go_ret
    rw [HCD.out]
    have hb3 := (Below.setCell (p := ⟨w.heap.size, 5, none⟩) (Below.setCell (p := ⟨w.heap.size, 4, none⟩) (Below.setCell (p := ⟨w.heap.size, 3, none⟩) (Below.setCell (p := ⟨w.heap.size, 2, none⟩) (Below.setCell (p := ⟨w.heap.size, 1, none⟩) (Below.setCell (p := ⟨w.heap.size, 0, none⟩) HB2.out (Nat.le_refl _) (Value.slice none 0 0)) (Nat.le_refl _) (Value.slice none 0 0)) (Nat.le_refl _) (Value.slice none 0 0)) (Nat.le_refl _) (Value.slice none 0 0)) (Nat.le_refl _) (Value.slice none 0 0)) (Nat.le_refl _) (Value.slice none 0 0))
    have hsz : (((((((w2.setCell ⟨w.heap.size, 0, none⟩ (Value.slice none 0 0)).setCell ⟨w.heap.size, 1, none⟩ (Value.slice none 0 0)).setCell ⟨w.heap.size, 2, none⟩ (Value.slice none 0 0)).setCell ⟨w.heap.size, 3, none⟩ (Value.slice none 0 0)).setCell ⟨w.heap.size, 4, none⟩ (Value.slice none 0 0)).setCell ⟨w.heap.size, 5, none⟩ (Value.slice none 0 0))).heap.size = w2.heap.size := by simp [World.setCell]
    generalize ((((((w2.setCell ⟨w.heap.size, 0, none⟩ (Value.slice none 0 0)).setCell ⟨w.heap.size, 1, none⟩ (Value.slice none 0 0)).setCell ⟨w.heap.size, 2, none⟩ (Value.slice none 0 0)).setCell ⟨w.heap.size, 3, none⟩ (Value.slice none 0 0)).setCell ⟨w.heap.size, 4, none⟩ (Value.slice none 0 0)).setCell ⟨w.heap.size, 5, none⟩ (Value.slice none 0 0)) = W3 at *
    have hbk := blk_new W3 (Obj.cells #[Value.slice none 0 0, Value.slice none 0 0, Value.slice none 0 0, Value.slice none 0 0, Value.slice none 0 0, Value.slice none 0 0, Value.slice At text.length nt] 53)
    rw [hsz] at hbk
    exact ⟨w2.heap.size, rfl, ⟨none, 0, none, 0, none, 0, none, 0, none, 0, none, 0, At, nt, ⟨hbk, Nat.le_refl _, Kd.C_nil _ _, Nat.le_refl _, Kd.C_nil _ _, Nat.le_refl _, Kd.C_nil _ _, Nat.le_refl _, Kd.C_nil _ _, Nat.le_refl _, Kd.C_nil _ _, Nat.le_refl _, Kd.C_nil _ _, HCT.out, Kd.C_alloc (Kd.C_below HRT.out hb3) _⟩⟩, below_alloc hb3 _⟩
end Go.Proofs.Ythnkmcfhpjmihaa.Q
end
section
namespace Go.Proofs.Ythnkmcfhpjmihaa.Q
open Go.RowKit Go.Proofs.YthnkmcfhpjmihaaW.PrintWords Go.Proofs.YthnkmcfhpjmihaaW.PrintLast Go.Proofs.YthnkmcfhpjmihaaW.PrintMore
set_option linter.unusedVariables false
theorem hasF (l : List Rg) (x : Int) (h : l.length < 1000000) : cpset_Has.f l x = some (hasL l x) := by unfold cpset_Has.f; rw [if_pos (by omega)]; rfl
set_option maxHeartbeats 4000000 in
set_option maxRecDepth 100000 in
theorem near_fwd (bi bm b i : Nat) (c : CaseS) (text : List Int) (w : World) (hM : Mpr w b c text) (hi : w.cell? ⟨bi, 0, none⟩ = some (.int .i64 i)) (hbm : w.cell? ⟨bm, 0, none⟩ = some (.pointer (some ⟨b, 0, none⟩))) (hlt : i < text.length) (ht : text.length < 1000000) (hs : c.ca.length < 1000000 ∧ c.ig.length < 1000000) :
    Calls Try.prog 65 #[.int .i64 1, .pointer (some ⟨bi, 0, none⟩), .pointer (some ⟨bm, 0, none⟩)] w fun e w' => e = .returned (.bool (nearL c (text.drop (i + 1)))) ∧ Below w.heap.size w w' := by
  obtain ⟨A0, n0, A1, n1, A2, n2, A3, n3, A4, n4, A5, n5, At, nt, hA⟩ := hM
  have HM := Aside0.mk hA
  have HBM := Aside0.mk hbm
  have HT := Aside0.mk (And.intro hlt ht)
  have HS := Aside0.mk hs
  have hw0 : wrap64 ((i : Int) + 1) = ((i + 1 : Nat) : Int) := by unfold wrap64; omega
  clear hA hbm hlt ht hs
  go_enter Try.func65, Try.ntmps65
  go_wp2
  go_loopw [5] (fun k wr => ∃ p : Nat, k = .int .i64 p ∧ Aside0 (p ≤ text.length) ∧ Aside0 (nearL c (text.drop (i + 1)) = nearL c (text.drop p)) ∧ Aside0 (Below w.heap.size w wr)) (fun k _ => text.length - (intOf k).toNat)
  case atStart => exact ⟨i + 1, by rw [hw0], ⟨by have := HT.out; omega⟩, ⟨rfl⟩, ⟨Below.refl _ _⟩⟩
  case round =>
    clear hw0 hi
    obtain ⟨p, rfl, HK, HE, HB⟩ := hrel
    have c6 := pw_cell_below HB.out HM.out.c6
    have cm := pw_cell_below HB.out HBM.out
    have g0 : decide ((p : Int) ≥ 0) = true := decide_eq_true (by omega)
    have hw : wrap64 ((p : Int) + 1) = ((p + 1 : Nat) : Int) := by have := HK.out; have := HT.out; unfold wrap64; omega
    by_cases hlt : p < text.length
    · obtain ⟨ad, e, t1⟩ := Kd.at_int HM.out.rt (p : Int) (by omega) (by omega)
      cases e
      rw [Int.toNat_natCast] at t1
      have hd : text.drop p = rd text (p : Int) :: text.drop (p + 1) := by
        rw [List.drop_eq_getElem_cons hlt]
        unfold rd
        rw [Int.toNat_natCast, List.getD_eq_getElem?_getD, List.getElem?_eq_getElem hlt]; rfl
      have g1 : decide ((p : Int) < (text.length : Int)) = true := decide_eq_true (by omega)
      have hp1 : (0 ≤ (p : Int)) = True := eq_true (by omega)
      have hp2 : ((p : Int) < (text.length : Int)) = True := eq_true (by omega)
      have hp3 : (p < text.length) = True := eq_true hlt
      have hq1 : (0 : Int) ≤ (p : Int) := by omega
      have hq2 : (p : Int) < (text.length : Int) := by omega
      have c5 := pw_cell_below HB.out HM.out.c5
      generalize rd text (p : Int) = x at *
      have t0 := pw_cell_below HB.out t1
      have T1 := Aside0.mk t1
      have HD := Aside0.mk hd
      have HLT := Aside0.mk hlt
      have HH5 := Aside0.mk (hasF c.ig x HS.out.2)
      have HH4 := Aside0.mk (hasF c.ca x HS.out.1)
      clear hd hlt t1
      cases hg : hasL c.ig x with
      | true =>
        have HG := Aside0.mk (show nearL c (text.drop p) = nearL c (text.drop (p + 1)) by rw [HD.out, nearL, hg]; rfl)
        rw [hg] at HH5
        clear hg
        go_wp2
        go_region_held3 (fun w' => w'.cell? ⟨bm, 0, none⟩ = some (.pointer (some ⟨b, 0, none⟩)) ∧ w'.cell? ⟨b, 5, none⟩ = some (.slice A5 c.ig.length n5) ∧ w'.cell? ⟨b, 6, none⟩ = some (.slice (some ad) text.length nt) ∧ w'.cell? (ad.add p) = some (.int .i64 x)) (first | go_keep | (go_split_ands; refine ⟨?_, ?_, ?_, ?_⟩; (refine pw_cell_below hb ?_; assumption); (refine pw_cell_below hb ?_; assumption); (refine pw_cell_below hb ?_; assumption); (refine pw_cell_below hb ?_; assumption)))
          (first | (go_at_call 32; (with_reducible refine (cpset_Has.calls A5 n5 c.ig x true _ ?s1 HM.out.l5 HH5.out).mono ?_); (case s1 => exact Kd.C_below HM.out.r5 (by repeat (first | (with_reducible first | exact HB.out | apply below_alloc | apply pw_below_drewN | apply below_drew1) | exact HB.out))); rintro e w1 ⟨rfl, hb⟩; have HB1 := Aside0.mk (below_step (show Below w.heap.size w _ from (by repeat (first | (with_reducible first | exact HB.out | apply below_alloc | apply pw_below_drewN | apply below_drew1) | exact HB.out))) hb)))
        clear hb
        go_wp2
        go_roundw
        case rel => exact ⟨p + 1, by rw [hw], HLT, ⟨HE.out.trans HG.out⟩, HB1⟩
        case measure => rw [hw]; simp only [intOf]; have := HLT.out; omega
      | false =>
        have HG := Aside0.mk (show nearL c (text.drop p) = hasL c.ca x by rw [HD.out, nearL, hg]; rfl)
        rw [hg] at HH5
        clear hg
        generalize hasL c.ca x = r at *
        go_wp2
        go_region_held3 (fun w' => w'.cell? ⟨bm, 0, none⟩ = some (.pointer (some ⟨b, 0, none⟩)) ∧ w'.cell? ⟨b, 5, none⟩ = some (.slice A5 c.ig.length n5) ∧ w'.cell? ⟨b, 6, none⟩ = some (.slice (some ad) text.length nt) ∧ w'.cell? (ad.add p) = some (.int .i64 x)) (first | go_keep | (go_split_ands; refine ⟨?_, ?_, ?_, ?_⟩; (refine pw_cell_below hb ?_; assumption); (refine pw_cell_below hb ?_; assumption); (refine pw_cell_below hb ?_; assumption); (refine pw_cell_below hb ?_; assumption)))
          (first | (go_at_call 32; (with_reducible refine (cpset_Has.calls A5 n5 c.ig x false _ ?s1 HM.out.l5 HH5.out).mono ?_); (case s1 => exact Kd.C_below HM.out.r5 (by repeat (first | (with_reducible first | exact HB.out | apply below_alloc | apply pw_below_drewN | apply below_drew1) | exact HB.out))); rintro e w1 ⟨rfl, hb⟩; have HB1 := Aside0.mk (below_step (show Below w.heap.size w _ from (by repeat (first | (with_reducible first | exact HB.out | apply below_alloc | apply pw_below_drewN | apply below_drew1) | exact HB.out))) hb)))
        clear hb c5 c6 cm t0
        have d4 := pw_cell_below HB1.out HM.out.c4
        have d6 := pw_cell_below HB1.out HM.out.c6
        have dm := pw_cell_below HB1.out HBM.out
        have dt := pw_cell_below HB1.out T1.out
        go_wp2
        go_region_held3 (fun w' => w'.cell? ⟨bm, 0, none⟩ = some (.pointer (some ⟨b, 0, none⟩)) ∧ w'.cell? ⟨b, 4, none⟩ = some (.slice A4 c.ca.length n4) ∧ w'.cell? ⟨b, 6, none⟩ = some (.slice (some ad) text.length nt) ∧ w'.cell? (ad.add p) = some (.int .i64 x)) (first | go_keep | (go_split_ands; refine ⟨?_, ?_, ?_, ?_⟩; (refine pw_cell_below hb ?_; assumption); (refine pw_cell_below hb ?_; assumption); (refine pw_cell_below hb ?_; assumption); (refine pw_cell_below hb ?_; assumption)))
          (first | (go_at_call 32; (with_reducible refine (cpset_Has.calls A4 n4 c.ca x r _ ?s1 HM.out.l4 HH4.out).mono ?_); (case s1 => exact Kd.C_below HM.out.r4 (by repeat (first | (with_reducible first | exact HB1.out | apply below_alloc | apply pw_below_drewN | apply below_drew1) | exact HB1.out))); rintro e w2 ⟨rfl, hb⟩; have HB2 := Aside0.mk (below_step (show Below w.heap.size w _ from (by repeat (first | (with_reducible first | exact HB1.out | apply below_alloc | apply pw_below_drewN | apply below_drew1) | exact HB1.out))) hb)))
        clear hb
        go_wp2
        go_ret
        rw [HE.out, HG.out]
        exact ⟨rfl, HB2.out⟩
    · obtain rfl : p = text.length := by have := HK.out; omega
      have g1 : decide ((text.length : Int) < (text.length : Int)) = false := decide_eq_false (by omega)
      have hp3 : (text.length < text.length) = False := eq_false (by omega)
      have HG := Aside0.mk (show nearL c (text.drop text.length) = false by rw [List.drop_length]; rfl)
      clear hlt
      go_wp2
      go_ret
      rw [HE.out, HG.out]
      exact ⟨rfl, by repeat (first | exact HB.out | apply below_alloc | apply pw_below_drewN | apply below_drew1)⟩
set_option maxHeartbeats 4000000 in
set_option maxRecDepth 100000 in
theorem near_bwd (bi bm b i : Nat) (c : CaseS) (text : List Int) (w : World) (hM : Mpr w b c text) (hi : w.cell? ⟨bi, 0, none⟩ = some (.int .i64 i)) (hbm : w.cell? ⟨bm, 0, none⟩ = some (.pointer (some ⟨b, 0, none⟩))) (hlt : i < text.length) (ht : text.length < 1000000) (hs : c.ca.length < 1000000 ∧ c.ig.length < 1000000) :
    Calls Try.prog 65 #[.int .i64 (-1), .pointer (some ⟨bi, 0, none⟩), .pointer (some ⟨bm, 0, none⟩)] w fun e w' => e = .returned (.bool (nearL c ((text.take i).reverse))) ∧ Below w.heap.size w w' := by
  obtain ⟨A0, n0, A1, n1, A2, n2, A3, n3, A4, n4, A5, n5, At, nt, hA⟩ := hM
  have HM := Aside0.mk hA
  have HBM := Aside0.mk hbm
  have HT := Aside0.mk (And.intro hlt ht)
  have HS := Aside0.mk hs
  have hw0 : wrap64 ((i : Int) + (-1)) = (i : Int) - 1 := by unfold wrap64; omega
  have hw00 : wrap64 ((i : Int) - 1) = (i : Int) - 1 := by unfold wrap64; omega
  clear hA hbm hlt ht hs
  go_enter Try.func65, Try.ntmps65
  go_wp2
  go_loopw [5] (fun k wr => ∃ q : Nat, k = .int .i64 ((q : Int) - 1) ∧ Aside0 (q ≤ text.length) ∧ Aside0 (nearL c (text.take i).reverse = nearL c (text.take q).reverse) ∧ Aside0 (Below w.heap.size w wr)) (fun k _ => (intOf k + 1).toNat)
  case atStart => exact ⟨i, by first | rw [hw0] | rw [hw00], ⟨by have := HT.out; omega⟩, ⟨rfl⟩, ⟨Below.refl _ _⟩⟩
  case round =>
    clear hw0 hi
    clear hw00
    obtain ⟨q, rfl, HK, HE, HB⟩ := hrel
    have c6 := pw_cell_below HB.out HM.out.c6
    have cm := pw_cell_below HB.out HBM.out
    by_cases hlt0 : 0 < q
    · obtain ⟨p, rfl⟩ : ∃ p, q = p + 1 := ⟨q - 1, by omega⟩
      have ek : (((p + 1 : Nat) : Int) - 1) = (p : Int) := by omega
      rw [ek]
      have hlt : p < text.length := HK.out
      have g0 : decide ((p : Int) ≥ 0) = true := decide_eq_true (by omega)
      have hw : wrap64 ((p : Int) + (-1)) = (p : Int) - 1 := by have := HT.out; unfold wrap64; omega
      have hwb : wrap64 ((p : Int) - 1) = (p : Int) - 1 := by have := HT.out; unfold wrap64; omega
      obtain ⟨ad, e, t1⟩ := Kd.at_int HM.out.rt (p : Int) (by omega) (by omega)
      cases e
      rw [Int.toNat_natCast] at t1
      have hd : (text.take (p + 1)).reverse = rd text (p : Int) :: (text.take p).reverse := by
        rw [List.take_succ_eq_append_getElem hlt, List.reverse_append]
        unfold rd
        rw [Int.toNat_natCast, List.getD_eq_getElem?_getD, List.getElem?_eq_getElem hlt]; rfl
      clear hlt0 ek
      have g1 : decide ((p : Int) < (text.length : Int)) = true := decide_eq_true (by omega)
      have hp1 : (0 ≤ (p : Int)) = True := eq_true (by omega)
      have hp2 : ((p : Int) < (text.length : Int)) = True := eq_true (by omega)
      have hp3 : (p < text.length) = True := eq_true hlt
      have hq1 : (0 : Int) ≤ (p : Int) := by omega
      have hq2 : (p : Int) < (text.length : Int) := by omega
      have c5 := pw_cell_below HB.out HM.out.c5
      generalize rd text (p : Int) = x at *
      have t0 := pw_cell_below HB.out t1
      have T1 := Aside0.mk t1
      have HD := Aside0.mk hd
      have HLT := Aside0.mk hlt
      have HH5 := Aside0.mk (hasF c.ig x HS.out.2)
      have HH4 := Aside0.mk (hasF c.ca x HS.out.1)
      clear hd hlt t1
      cases hg : hasL c.ig x with
      | true =>
        have HG := Aside0.mk (show nearL c ((text.take (p + 1)).reverse) = nearL c ((text.take p).reverse) by rw [HD.out, nearL, hg]; rfl)
        rw [hg] at HH5
        clear hg
        go_wp2
        go_region_held3 (fun w' => w'.cell? ⟨bm, 0, none⟩ = some (.pointer (some ⟨b, 0, none⟩)) ∧ w'.cell? ⟨b, 5, none⟩ = some (.slice A5 c.ig.length n5) ∧ w'.cell? ⟨b, 6, none⟩ = some (.slice (some ad) text.length nt) ∧ w'.cell? (ad.add p) = some (.int .i64 x)) (first | go_keep | (go_split_ands; refine ⟨?_, ?_, ?_, ?_⟩; (refine pw_cell_below hb ?_; assumption); (refine pw_cell_below hb ?_; assumption); (refine pw_cell_below hb ?_; assumption); (refine pw_cell_below hb ?_; assumption)))
          (first | (go_at_call 32; (with_reducible refine (cpset_Has.calls A5 n5 c.ig x true _ ?s1 HM.out.l5 HH5.out).mono ?_); (case s1 => exact Kd.C_below HM.out.r5 (by repeat (first | (with_reducible first | exact HB.out | apply below_alloc | apply pw_below_drewN | apply below_drew1) | exact HB.out))); rintro e w1 ⟨rfl, hb⟩; have HB1 := Aside0.mk (below_step (show Below w.heap.size w _ from (by repeat (first | (with_reducible first | exact HB.out | apply below_alloc | apply pw_below_drewN | apply below_drew1) | exact HB.out))) hb)))
        clear hb
        go_wp2
        go_roundw
        case rel => exact ⟨p, by first | rw [hw] | rw [hwb], ⟨by have := HLT.out; omega⟩, ⟨HE.out.trans HG.out⟩, HB1⟩
        case measure => (first | rw [hw] | rw [hwb]); simp only [intOf]; omega
      | false =>
        have HG := Aside0.mk (show nearL c ((text.take (p + 1)).reverse) = hasL c.ca x by rw [HD.out, nearL, hg]; rfl)
        rw [hg] at HH5
        clear hg
        generalize hasL c.ca x = r at *
        go_wp2
        go_region_held3 (fun w' => w'.cell? ⟨bm, 0, none⟩ = some (.pointer (some ⟨b, 0, none⟩)) ∧ w'.cell? ⟨b, 5, none⟩ = some (.slice A5 c.ig.length n5) ∧ w'.cell? ⟨b, 6, none⟩ = some (.slice (some ad) text.length nt) ∧ w'.cell? (ad.add p) = some (.int .i64 x)) (first | go_keep | (go_split_ands; refine ⟨?_, ?_, ?_, ?_⟩; (refine pw_cell_below hb ?_; assumption); (refine pw_cell_below hb ?_; assumption); (refine pw_cell_below hb ?_; assumption); (refine pw_cell_below hb ?_; assumption)))
          (first | (go_at_call 32; (with_reducible refine (cpset_Has.calls A5 n5 c.ig x false _ ?s1 HM.out.l5 HH5.out).mono ?_); (case s1 => exact Kd.C_below HM.out.r5 (by repeat (first | (with_reducible first | exact HB.out | apply below_alloc | apply pw_below_drewN | apply below_drew1) | exact HB.out))); rintro e w1 ⟨rfl, hb⟩; have HB1 := Aside0.mk (below_step (show Below w.heap.size w _ from (by repeat (first | (with_reducible first | exact HB.out | apply below_alloc | apply pw_below_drewN | apply below_drew1) | exact HB.out))) hb)))
        clear hb c5 c6 cm t0
        have d4 := pw_cell_below HB1.out HM.out.c4
        have d6 := pw_cell_below HB1.out HM.out.c6
        have dm := pw_cell_below HB1.out HBM.out
        have dt := pw_cell_below HB1.out T1.out
        go_wp2
        go_region_held3 (fun w' => w'.cell? ⟨bm, 0, none⟩ = some (.pointer (some ⟨b, 0, none⟩)) ∧ w'.cell? ⟨b, 4, none⟩ = some (.slice A4 c.ca.length n4) ∧ w'.cell? ⟨b, 6, none⟩ = some (.slice (some ad) text.length nt) ∧ w'.cell? (ad.add p) = some (.int .i64 x)) (first | go_keep | (go_split_ands; refine ⟨?_, ?_, ?_, ?_⟩; (refine pw_cell_below hb ?_; assumption); (refine pw_cell_below hb ?_; assumption); (refine pw_cell_below hb ?_; assumption); (refine pw_cell_below hb ?_; assumption)))
          (first | (go_at_call 32; (with_reducible refine (cpset_Has.calls A4 n4 c.ca x r _ ?s1 HM.out.l4 HH4.out).mono ?_); (case s1 => exact Kd.C_below HM.out.r4 (by repeat (first | (with_reducible first | exact HB1.out | apply below_alloc | apply pw_below_drewN | apply below_drew1) | exact HB1.out))); rintro e w2 ⟨rfl, hb⟩; have HB2 := Aside0.mk (below_step (show Below w.heap.size w _ from (by repeat (first | (with_reducible first | exact HB1.out | apply below_alloc | apply pw_below_drewN | apply below_drew1) | exact HB1.out))) hb)))
        clear hb
        go_wp2
        go_ret
        rw [HE.out, HG.out]
        exact ⟨rfl, HB2.out⟩
    · obtain rfl : q = 0 := by omega
      have HG := Aside0.mk (show nearL c (text.take 0).reverse = false by rw [List.take_zero]; rfl)
      clear hlt0
      rw [show (((0 : Nat) : Int) - 1) = -1 by rfl]
      go_wp2
      go_ret
      rw [HE.out, HG.out]
      exact ⟨rfl, by repeat (first | exact HB.out | apply below_alloc | apply pw_below_drewN | apply below_drew1)⟩
end Go.Proofs.Ythnkmcfhpjmihaa.Q
end
section
namespace Go.Proofs.Ythnkmcfhpjmihaa.Q
open Go.RowKit Go.Proofs.YthnkmcfhpjmihaaW.PrintWords Go.Proofs.YthnkmcfhpjmihaaW.PrintLast Go.Proofs.YthnkmcfhpjmihaaW.PrintMore
set_option linter.unusedVariables false
theorem Mpr.below {w w' : World} {b : Nat} {c : CaseS} {text : List Int} (h : Mpr w b c text) (hb : Below w.heap.size w w') : Mpr w' b c text := by
  obtain ⟨A0, n0, A1, n1, A2, n2, A3, n3, A4, n4, A5, n5, At, nt, hA⟩ := h
  exact ⟨A0, n0, A1, n1, A2, n2, A3, n3, A4, n4, A5, n5, At, nt, hA.below hb⟩
set_option maxHeartbeats 4000000 in
set_option maxRecDepth 100000 in
theorem final_calls (b : Nat) (c : CaseS) (text : List Int) (i : Int) (w : World) (hM : Mpr w b c text) (ht : text.length < 1000000) (hs : c.ca.length < 1000000 ∧ c.ig.length < 1000000) :
    Calls Try.prog 45 #[.pointer (some ⟨b, 0, none⟩), .int .i64 i] w fun e w' => e = .returned (.bool (finalI c text i)) ∧ Below w.heap.size w w' := by
  have HMP := Aside0.mk hM
  have HT := Aside0.mk ht
  have HS := Aside0.mk hs
  obtain ⟨A0, n0, A1, n1, A2, n2, A3, n3, A4, n4, A5, n5, At, nt, hA⟩ := hM
  have HM := Aside0.mk hA
  have HBW := Aside0.mk (below_alloc (below_alloc (Below.refl w.heap.size w) (.cells #[.pointer (some ⟨b, 0, none⟩)] 49)) (.cells #[.int .i64 i] 3))
  clear hA ht hs
  by_cases h0 : i < 0
  · have hf : finalI c text i = false := by unfold finalI; rw [decide_eq_false (by omega)]; rfl
    have y1 : decide (i < 0) = true := decide_eq_true h0
    have y2 : (i < 0) = True := eq_true h0
    rw [hf]
    clear hf h0
    go_enter Try.func45, Try.ntmps45
    go_wp2
    have c6 := pw_cell_below HBW.out HM.out.c6
    have k0 : ((w.alloc (Obj.cells #[Value.pointer (some { block := b, off := 0 })] 49)).alloc (Obj.cells #[Value.int IntKind.i64 i] 3)).cell? ⟨w.heap.size, 0, none⟩ = some (.pointer (some ⟨b, 0, none⟩)) := pw_cell_below (below_alloc (Below.refl (w.alloc (Obj.cells #[Value.pointer (some { block := b, off := 0 })] 49)).heap.size _) _) ((blk_cell (blk_new w _) 0).trans rfl)
    have k1 : ((w.alloc (Obj.cells #[Value.pointer (some { block := b, off := 0 })] 49)).alloc (Obj.cells #[Value.int IntKind.i64 i] 3)).cell? ⟨w.heap.size + 1, 0, none⟩ = some (.int .i64 i) := by
      have h := (blk_cell (blk_new (w.alloc (Obj.cells #[Value.pointer (some { block := b, off := 0 })] 49)) (Obj.cells #[Value.int IntKind.i64 i] 3)) 0).trans rfl
      rw [World.size_alloc] at h
      exact h
    have HK0 := Aside0.mk k0
    have HK1 := Aside0.mk k1
    generalize ((w.alloc (Obj.cells #[Value.pointer (some { block := b, off := 0 })] 49)).alloc (Obj.cells #[Value.int IntKind.i64 i] 3)) = W at *
    go_quiet (fail)
    go_wp2
    go_ret
    exact ⟨rfl, pw_below_drewN HBW.out _⟩
  · have y1 : decide (i < 0) = false := decide_eq_false h0
    have y2 : (i < 0) = False := eq_false h0
    by_cases h1 : i < (text.length : Int)
    · obtain ⟨n, rfl⟩ : ∃ n : Nat, i = (n : Int) := ⟨i.toNat, by omega⟩
      have y3 : decide ((n : Int) ≥ (text.length : Int)) = false := decide_eq_false (by omega)
      have y4 : (text.length ≤ n) = False := eq_false (by omega)
      have hf : finalI c text (n : Int) = (nearL c (text.take n).reverse && !nearL c (text.drop (n + 1))) := by
        unfold finalI finalS
        rw [decide_eq_true (by omega), decide_eq_true h1, Int.toNat_natCast]; rfl
      have HN : Aside0 (n < text.length) := ⟨by omega⟩
      rw [hf]
      clear hf h0 h1
      cases hr1 : nearL c (text.take n).reverse with
      | false =>
        have HR1 := Aside0.mk hr1
        clear hr1
        go_enter Try.func45, Try.ntmps45
        go_wp2
        have c6 := pw_cell_below HBW.out HM.out.c6
        have k0 : ((w.alloc (Obj.cells #[Value.pointer (some { block := b, off := 0 })] 49)).alloc (Obj.cells #[Value.int IntKind.i64 n] 3)).cell? ⟨w.heap.size, 0, none⟩ = some (.pointer (some ⟨b, 0, none⟩)) := pw_cell_below (below_alloc (Below.refl (w.alloc (Obj.cells #[Value.pointer (some { block := b, off := 0 })] 49)).heap.size _) _) ((blk_cell (blk_new w _) 0).trans rfl)
        have k1 : ((w.alloc (Obj.cells #[Value.pointer (some { block := b, off := 0 })] 49)).alloc (Obj.cells #[Value.int IntKind.i64 n] 3)).cell? ⟨w.heap.size + 1, 0, none⟩ = some (.int .i64 n) := by
          have h := (blk_cell (blk_new (w.alloc (Obj.cells #[Value.pointer (some { block := b, off := 0 })] 49)) (Obj.cells #[Value.int IntKind.i64 n] 3)) 0).trans rfl
          rw [World.size_alloc] at h
          exact h
        have HK0 := Aside0.mk k0
        have HK1 := Aside0.mk k1
        generalize ((w.alloc (Obj.cells #[Value.pointer (some { block := b, off := 0 })] 49)).alloc (Obj.cells #[Value.int IntKind.i64 n] 3)) = W at *
        go_quiet (fail)
        go_wp2_with (first | (go_at_call 65; (with_reducible refine (near_bwd (w.heap.size + 1) w.heap.size b n c text _ (HMP.out.below (pw_below_drewN HBW.out _)) ?k1 ?k0 HN.out HT.out HS.out).mono ?_); (case k1 => exact pw_cell_below (pw_below_drewN (Below.refl _ _) _) HK1.out); (case k0 => exact pw_cell_below (pw_below_drewN (Below.refl _ _) _) HK0.out); rw [HR1.out]; rintro e w1 ⟨rfl, hb⟩; have HB1 := Aside0.mk (below_step (pw_below_drewN HBW.out _) hb); have HJ1 := Aside0.mk (pw_cell_below (below_step (pw_below_drewN (Below.refl _ _) _) hb) HK1.out); have HJ0 := Aside0.mk (pw_cell_below (below_step (pw_below_drewN (Below.refl _ _) _) hb) HK0.out); clear hb))
        go_ret
        exact ⟨rfl, HB1.out⟩
      | true =>
        have HR1 := Aside0.mk hr1
        clear hr1
        go_enter Try.func45, Try.ntmps45
        go_wp2
        have c6 := pw_cell_below HBW.out HM.out.c6
        have k0 : ((w.alloc (Obj.cells #[Value.pointer (some { block := b, off := 0 })] 49)).alloc (Obj.cells #[Value.int IntKind.i64 n] 3)).cell? ⟨w.heap.size, 0, none⟩ = some (.pointer (some ⟨b, 0, none⟩)) := pw_cell_below (below_alloc (Below.refl (w.alloc (Obj.cells #[Value.pointer (some { block := b, off := 0 })] 49)).heap.size _) _) ((blk_cell (blk_new w _) 0).trans rfl)
        have k1 : ((w.alloc (Obj.cells #[Value.pointer (some { block := b, off := 0 })] 49)).alloc (Obj.cells #[Value.int IntKind.i64 n] 3)).cell? ⟨w.heap.size + 1, 0, none⟩ = some (.int .i64 n) := by
          have h := (blk_cell (blk_new (w.alloc (Obj.cells #[Value.pointer (some { block := b, off := 0 })] 49)) (Obj.cells #[Value.int IntKind.i64 n] 3)) 0).trans rfl
          rw [World.size_alloc] at h
          exact h
        have HK0 := Aside0.mk k0
        have HK1 := Aside0.mk k1
        generalize ((w.alloc (Obj.cells #[Value.pointer (some { block := b, off := 0 })] 49)).alloc (Obj.cells #[Value.int IntKind.i64 n] 3)) = W at *
        go_quiet (fail)
        go_wp2_with (first | (go_at_call 65; (with_reducible refine (near_bwd (w.heap.size + 1) w.heap.size b n c text _ (HMP.out.below (pw_below_drewN HBW.out _)) ?k1 ?k0 HN.out HT.out HS.out).mono ?_); (case k1 => exact pw_cell_below (pw_below_drewN (Below.refl _ _) _) HK1.out); (case k0 => exact pw_cell_below (pw_below_drewN (Below.refl _ _) _) HK0.out); rw [HR1.out]; rintro e w1 ⟨rfl, hb⟩; have HB1 := Aside0.mk (below_step (pw_below_drewN HBW.out _) hb); have HJ1 := Aside0.mk (pw_cell_below (below_step (pw_below_drewN (Below.refl _ _) _) hb) HK1.out); have HJ0 := Aside0.mk (pw_cell_below (below_step (pw_below_drewN (Below.refl _ _) _) hb) HK0.out); clear hb) | (go_at_call 65; (with_reducible refine (near_fwd (w.heap.size + 1) w.heap.size b n c text _ (HMP.out.below HB1.out) HJ1.out HJ0.out HN.out HT.out HS.out).mono ?_); rintro e w2 ⟨rfl, hb⟩; have HB2 := Aside0.mk (below_step HB1.out hb); clear hb))
        go_ret
        exact ⟨by simp, HB2.out⟩
    · have hf : finalI c text i = false := by unfold finalI; rw [decide_eq_false h1, Bool.and_false]; rfl
      have y3 : decide (i ≥ (text.length : Int)) = true := decide_eq_true (by omega)
      have y4 : ((text.length : Int) ≤ i) = True := eq_true (by omega)
      rw [hf]
      clear hf h0 h1
      go_enter Try.func45, Try.ntmps45
      go_wp2
      have c6 := pw_cell_below HBW.out HM.out.c6
      have k0 : ((w.alloc (Obj.cells #[Value.pointer (some { block := b, off := 0 })] 49)).alloc (Obj.cells #[Value.int IntKind.i64 i] 3)).cell? ⟨w.heap.size, 0, none⟩ = some (.pointer (some ⟨b, 0, none⟩)) := pw_cell_below (below_alloc (Below.refl (w.alloc (Obj.cells #[Value.pointer (some { block := b, off := 0 })] 49)).heap.size _) _) ((blk_cell (blk_new w _) 0).trans rfl)
      have k1 : ((w.alloc (Obj.cells #[Value.pointer (some { block := b, off := 0 })] 49)).alloc (Obj.cells #[Value.int IntKind.i64 i] 3)).cell? ⟨w.heap.size + 1, 0, none⟩ = some (.int .i64 i) := by
        have h := (blk_cell (blk_new (w.alloc (Obj.cells #[Value.pointer (some { block := b, off := 0 })] 49)) (Obj.cells #[Value.int IntKind.i64 i] 3)) 0).trans rfl
        rw [World.size_alloc] at h
        exact h
      have HK0 := Aside0.mk k0
      have HK1 := Aside0.mk k1
      generalize ((w.alloc (Obj.cells #[Value.pointer (some { block := b, off := 0 })] 49)).alloc (Obj.cells #[Value.int IntKind.i64 i] 3)) = W at *
      go_quiet (fail)
      go_wp2
      go_ret
      exact ⟨rfl, pw_below_drewN HBW.out _⟩
end Go.Proofs.Ythnkmcfhpjmihaa.Q
end
section
namespace Go.Proofs.Ythnkmcfhpjmihaa.Q
open Go.RowKit Go.Proofs.YthnkmcfhpjmihaaW.PrintWords Go.Proofs.YthnkmcfhpjmihaaW.PrintLast Go.Proofs.YthnkmcfhpjmihaaW.PrintMore
set_option linter.unusedVariables false
theorem mappedF (l : List Mp) (x : Int) (h : okM l = true) : casemap_mapped.f l x = some (mapdS l x) := by
  unfold casemap_mapped.f mapping_Get.f
  rw [if_pos h, Option.bind_some]
  unfold mapdS getP tagE
  cases getM l x ⟨#[]⟩ with
  | none => rfl
  | some xs => rfl
theorem getF (l : List Mp) (x : Int) (t : ByteArray) (h : okM l = true) : mapping_Get.f l x t = some ((getP l x t).1, (getP l x t).2) := by unfold mapping_Get.f; rw [if_pos h]
set_option maxHeartbeats 4000000 in
set_option maxRecDepth 100000 in
theorem upper_calls (b : Nat) (c : CaseS) (text : List Int) (i : Nat) (w : World) (hM : Mpr w b c text) (hi : i < text.length) (hok : okM c.up = true) :
    Calls Try.prog 40 #[.pointer (some ⟨b, 0, none⟩), .int .i64 i] w fun e w' => ∃ v, e = .returned v ∧ Kd.R (Kd.int .i64) 3 w' w.heap.size (fun _ => True) v (mapdS c.up (text.getD i 0)) ∧ Below w.heap.size w w' := by
  obtain ⟨A0, n0, A1, n1, A2, n2, A3, n3, A4, n4, A5, n5, At, nt, hA⟩ := hM
  have HM := Aside0.mk hA
  obtain ⟨ad, e, t1⟩ := Kd.at_int HM.out.rt (i : Int) (by omega) (by omega)
  cases e
  rw [Int.toNat_natCast] at t1
  have hrd : rd text (i : Int) = text.getD i 0 := by unfold rd; rw [Int.toNat_natCast]
  rw [hrd] at t1
  have hp1 : (0 ≤ (i : Int)) = True := eq_true (by omega)
  have hp2 : ((i : Int) < (text.length : Int)) = True := eq_true (by omega)
  have hp3 : (i < text.length) = True := eq_true hi
  have hq1 : (0 : Int) ≤ (i : Int) := by omega
  have hq2 : (i : Int) < (text.length : Int) := by omega
  have c6 := HM.out.c6
  have HBR := Aside0.mk (Below.refl w.heap.size w)
  have c1 := HM.out.c1
  have HMF := Aside0.mk (mappedF c.up (text.getD i 0) hok)
  generalize text.getD i 0 = x at *
  clear hA hi hok hrd
  go_enter Try.func40, Try.ntmps40
  go_wp2
  go_region_held3 (fun w' => w'.cell? ⟨b, 1, none⟩ = some (.slice A1 c.up.length n1) ∧ w'.cell? ⟨b, 6, none⟩ = some (.slice (some ad) text.length nt) ∧ w'.cell? (ad.add i) = some (.int .i64 x)) (first | go_keep | (go_split_ands; refine ⟨?_, ?_, ?_⟩; (refine pw_cell_below hb ?_; assumption); (refine pw_cell_below hb ?_; assumption); (refine pw_cell_below hb ?_; assumption)))
    (first | (go_at_call 51; (with_reducible refine (casemap_mapped.calls A1 n1 c.up x (mapdS c.up x) _ ?s1 HM.out.l1 HMF.out).mono ?_); (case s1 => exact Kd.C_below HM.out.r1 (by repeat (first | (with_reducible first | exact HBR.out | apply below_alloc | apply pw_below_drewN | apply below_drew1) | exact HBR.out))); rintro e w1 ⟨v1, rfl, hv, hb⟩; have HV := Aside0.mk (Kd.R_lower hv (below_size (show Below w.heap.size w _ from (by repeat (first | (with_reducible first | exact HBR.out | apply below_alloc | apply pw_below_drewN | apply below_drew1) | exact HBR.out))))); have HB1 := Aside0.mk (below_step (show Below w.heap.size w _ from (by repeat (first | (with_reducible first | exact HBR.out | apply below_alloc | apply pw_below_drewN | apply below_drew1) | exact HBR.out))) hb)))
  clear hb hv
  go_wp2
  go_ret
  exact ⟨v1, rfl, HV.out, HB1.out⟩
set_option maxHeartbeats 4000000 in
set_option maxRecDepth 100000 in
theorem title_calls (b : Nat) (c : CaseS) (text : List Int) (i : Nat) (w : World) (hM : Mpr w b c text) (hi : i < text.length) (hok : okM c.ti = true) :
    Calls Try.prog 33 #[.pointer (some ⟨b, 0, none⟩), .int .i64 i] w fun e w' => ∃ v, e = .returned v ∧ Kd.R (Kd.int .i64) 3 w' w.heap.size (fun _ => True) v (mapdS c.ti (text.getD i 0)) ∧ Below w.heap.size w w' := by
  obtain ⟨A0, n0, A1, n1, A2, n2, A3, n3, A4, n4, A5, n5, At, nt, hA⟩ := hM
  have HM := Aside0.mk hA
  obtain ⟨ad, e, t1⟩ := Kd.at_int HM.out.rt (i : Int) (by omega) (by omega)
  cases e
  rw [Int.toNat_natCast] at t1
  have hrd : rd text (i : Int) = text.getD i 0 := by unfold rd; rw [Int.toNat_natCast]
  rw [hrd] at t1
  have hp1 : (0 ≤ (i : Int)) = True := eq_true (by omega)
  have hp2 : ((i : Int) < (text.length : Int)) = True := eq_true (by omega)
  have hp3 : (i < text.length) = True := eq_true hi
  have hq1 : (0 : Int) ≤ (i : Int) := by omega
  have hq2 : (i : Int) < (text.length : Int) := by omega
  have c6 := HM.out.c6
  have HBR := Aside0.mk (Below.refl w.heap.size w)
  have c2 := HM.out.c2
  have HMF := Aside0.mk (mappedF c.ti (text.getD i 0) hok)
  generalize text.getD i 0 = x at *
  clear hA hi hok hrd
  go_enter Try.func33, Try.ntmps33
  go_wp2
  go_region_held3 (fun w' => w'.cell? ⟨b, 2, none⟩ = some (.slice A2 c.ti.length n2) ∧ w'.cell? ⟨b, 6, none⟩ = some (.slice (some ad) text.length nt) ∧ w'.cell? (ad.add i) = some (.int .i64 x)) (first | go_keep | (go_split_ands; refine ⟨?_, ?_, ?_⟩; (refine pw_cell_below hb ?_; assumption); (refine pw_cell_below hb ?_; assumption); (refine pw_cell_below hb ?_; assumption)))
    (first | (go_at_call 51; (with_reducible refine (casemap_mapped.calls A2 n2 c.ti x (mapdS c.ti x) _ ?s1 HM.out.l2 HMF.out).mono ?_); (case s1 => exact Kd.C_below HM.out.r2 (by repeat (first | (with_reducible first | exact HBR.out | apply below_alloc | apply pw_below_drewN | apply below_drew1) | exact HBR.out))); rintro e w1 ⟨v1, rfl, hv, hb⟩; have HV := Aside0.mk (Kd.R_lower hv (below_size (show Below w.heap.size w _ from (by repeat (first | (with_reducible first | exact HBR.out | apply below_alloc | apply pw_below_drewN | apply below_drew1) | exact HBR.out))))); have HB1 := Aside0.mk (below_step (show Below w.heap.size w _ from (by repeat (first | (with_reducible first | exact HBR.out | apply below_alloc | apply pw_below_drewN | apply below_drew1) | exact HBR.out))) hb)))
  clear hb hv
  go_wp2
  go_ret
  exact ⟨v1, rfl, HV.out, HB1.out⟩
set_option maxHeartbeats 4000000 in
set_option maxRecDepth 100000 in
theorem lower_calls (b : Nat) (c : CaseS) (text : List Int) (i : Nat) (w : World) (hM : Mpr w b c text) (hi : i < text.length) (hok : okM c.lo = true) (ht : text.length < 1000000) (hs : c.ca.length < 1000000 ∧ c.ig.length < 1000000) :
    Calls Try.prog 34 #[.pointer (some ⟨b, 0, none⟩), .int .i64 i] w fun e w' => ∃ v, e = .returned v ∧ Kd.R (Kd.int .i64) 3 w' w.heap.size (fun _ => True) v (lowerS c text i) ∧ Below w.heap.size w w' := by
  have HMP := Aside0.mk hM
  have HT := Aside0.mk ht
  have HS := Aside0.mk hs
  obtain ⟨A0, n0, A1, n1, A2, n2, A3, n3, A4, n4, A5, n5, At, nt, hA⟩ := hM
  have HM := Aside0.mk hA
  obtain ⟨ad, e, t1⟩ := Kd.at_int HM.out.rt (i : Int) (by omega) (by omega)
  cases e
  rw [Int.toNat_natCast] at t1
  have hrd : rd text (i : Int) = text.getD i 0 := by unfold rd; rw [Int.toNat_natCast]
  rw [hrd] at t1
  have hp1 : (0 ≤ (i : Int)) = True := eq_true (by omega)
  have hp2 : ((i : Int) < (text.length : Int)) = True := eq_true (by omega)
  have hp3 : (i < text.length) = True := eq_true hi
  have hq1 : (0 : Int) ≤ (i : Int) := by omega
  have hq2 : (i : Int) < (text.length : Int) := by omega
  have c6 := HM.out.c6
  have HBR := Aside0.mk (Below.refl w.heap.size w)
  have c0 := HM.out.c0
  have HMF := Aside0.mk (mappedF c.lo (text.getD i 0) hok)
  have hgf := getF c.lo (text.getD i 0) ⟨#[102, 105, 110, 97, 108]⟩ hok
  have hls : lowerS c text i = match getM c.lo (text.getD i 0) tagF with | some xs => if finalS c text i then xs else mapdS c.lo (text.getD i 0) | none => mapdS c.lo (text.getD i 0) := rfl
  have hfi : finalI c text (i : Int) = finalS c text i := by
    unfold finalI
    rw [decide_eq_true (by omega), decide_eq_true (by omega), Int.toNat_natCast]; rfl
  rw [hls]
  generalize text.getD i 0 = x at *
  have T1 := Aside0.mk t1
  cases hg : getM c.lo x tagF with
  | none =>
    obtain ⟨xs, HGF⟩ : ∃ xs : List Int, Aside0 (mapping_Get.f c.lo x ⟨#[102, 105, 110, 97, 108]⟩ = some (xs, false)) := ⟨[], ⟨by
      refine hgf.trans ?_
      unfold getP
      rw [show getM c.lo x ⟨#[102, 105, 110, 97, 108]⟩ = none from hg]⟩⟩
    clear hA hi hok hrd ht hs hg hgf hls hfi t1
    show Calls _ _ _ _ fun e w' => ∃ v, e = .returned v ∧ Kd.R (Kd.int .i64) 3 w' w.heap.size (fun _ => True) v (mapdS c.lo x) ∧ Below w.heap.size w w'
    have t1 := T1.out
    go_enter Try.func34, Try.ntmps34
    go_wp2
    go_region_held3 (fun w' => w'.cell? ⟨b, 0, none⟩ = some (.slice A0 c.lo.length n0) ∧ w'.cell? ⟨b, 6, none⟩ = some (.slice (some ad) text.length nt) ∧ w'.cell? (ad.add i) = some (.int .i64 x)) (first | go_keep | (go_split_ands; refine ⟨?_, ?_, ?_⟩; (refine pw_cell_below hb ?_; assumption); (refine pw_cell_below hb ?_; assumption); (refine pw_cell_below hb ?_; assumption)))
      (first | (go_at_call 56; (with_reducible refine (mapping_Get.calls A0 n0 c.lo x ⟨#[102, 105, 110, 97, 108]⟩ xs false _ ?s1 HM.out.l0 HGF.out).mono ?_); (case s1 => exact Kd.C_below HM.out.r0 (by repeat (first | (with_reducible first | exact HBR.out | apply below_alloc | apply pw_below_drewN | apply below_drew1) | exact HBR.out))); rintro e w1 ⟨v1, rfl, hv, hb⟩; have HV1 := Aside0.mk (Kd.R_lower hv (below_size (show Below w.heap.size w _ from (by repeat (first | (with_reducible first | exact HBR.out | apply below_alloc | apply pw_below_drewN | apply below_drew1) | exact HBR.out))))); have HB1 := Aside0.mk (below_step (show Below w.heap.size w _ from (by repeat (first | (with_reducible first | exact HBR.out | apply below_alloc | apply pw_below_drewN | apply below_drew1) | exact HBR.out))) hb)))
    clear hb hv t1 c0 c6
    have c0 := pw_cell_below HB1.out HM.out.c0
    have c6 := pw_cell_below HB1.out HM.out.c6
    have t2 := pw_cell_below HB1.out T1.out
    go_wp2
    go_region_held3 (fun w' => w'.cell? ⟨b, 0, none⟩ = some (.slice A0 c.lo.length n0) ∧ w'.cell? ⟨b, 6, none⟩ = some (.slice (some ad) text.length nt) ∧ w'.cell? (ad.add i) = some (.int .i64 x)) (first | go_keep | (go_split_ands; refine ⟨?_, ?_, ?_⟩; (refine pw_cell_below hb ?_; assumption); (refine pw_cell_below hb ?_; assumption); (refine pw_cell_below hb ?_; assumption)))
      (first | (go_at_call 51; (with_reducible refine (casemap_mapped.calls A0 n0 c.lo x (mapdS c.lo x) _ ?s1 HM.out.l0 HMF.out).mono ?_); (case s1 => exact Kd.C_below HM.out.r0 (by repeat (first | (with_reducible first | exact HB1.out | apply below_alloc | apply pw_below_drewN | apply below_drew1) | exact HB1.out))); rintro e w3 ⟨v3, rfl, hv, hb⟩; have HV := Aside0.mk (Kd.R_lower hv (below_size (show Below w.heap.size w _ from (by repeat (first | (with_reducible first | exact HB1.out | apply below_alloc | apply pw_below_drewN | apply below_drew1) | exact HB1.out))))); have HB3 := Aside0.mk (below_step (show Below w.heap.size w _ from (by repeat (first | (with_reducible first | exact HB1.out | apply below_alloc | apply pw_below_drewN | apply below_drew1) | exact HB1.out))) hb)))
    clear hb hv
    go_wp2
    go_ret
    exact ⟨v3, rfl, HV.out, HB3.out⟩
  | some ys =>
    have HGF := Aside0.mk (show mapping_Get.f c.lo x ⟨#[102, 105, 110, 97, 108]⟩ = some (ys, true) by
      refine hgf.trans ?_
      unfold getP
      rw [show getM c.lo x ⟨#[102, 105, 110, 97, 108]⟩ = some ys from hg])
    cases hf : finalS c text i with
    | true =>
      have HFI := Aside0.mk (hfi.trans hf)
      clear hA hi hok hrd ht hs hg hgf hls hfi hf t1
      show Calls _ _ _ _ fun e w' => ∃ v, e = .returned v ∧ Kd.R (Kd.int .i64) 3 w' w.heap.size (fun _ => True) v ys ∧ Below w.heap.size w w'
      have t1 := T1.out
      obtain ⟨ok, hok2⟩ : ∃ ok, ok = true := ⟨_, rfl⟩
      obtain ⟨xs, hxs⟩ : ∃ xs, xs = ys := ⟨_, rfl⟩
      subst hok2 hxs
      go_enter Try.func34, Try.ntmps34
      go_wp2
      go_region_held3 (fun w' => w'.cell? ⟨b, 0, none⟩ = some (.slice A0 c.lo.length n0) ∧ w'.cell? ⟨b, 6, none⟩ = some (.slice (some ad) text.length nt) ∧ w'.cell? (ad.add i) = some (.int .i64 x)) (first | go_keep | (go_split_ands; refine ⟨?_, ?_, ?_⟩; (refine pw_cell_below hb ?_; assumption); (refine pw_cell_below hb ?_; assumption); (refine pw_cell_below hb ?_; assumption)))
        (first | (go_at_call 56; (with_reducible refine (mapping_Get.calls A0 n0 c.lo x ⟨#[102, 105, 110, 97, 108]⟩ xs true _ ?s1 HM.out.l0 HGF.out).mono ?_); (case s1 => exact Kd.C_below HM.out.r0 (by repeat (first | (with_reducible first | exact HBR.out | apply below_alloc | apply pw_below_drewN | apply below_drew1) | exact HBR.out))); rintro e w1 ⟨v1, rfl, hv, hb⟩; have HV1 := Aside0.mk (Kd.R_lower hv (below_size (show Below w.heap.size w _ from (by repeat (first | (with_reducible first | exact HBR.out | apply below_alloc | apply pw_below_drewN | apply below_drew1) | exact HBR.out))))); have HB1 := Aside0.mk (below_step (show Below w.heap.size w _ from (by repeat (first | (with_reducible first | exact HBR.out | apply below_alloc | apply pw_below_drewN | apply below_drew1) | exact HBR.out))) hb)))
      clear hb hv t1 c0 c6
      go_wp2_with (first | (go_at_call 45; (with_reducible refine (final_calls b c text (i : Int) _ (HMP.out.below HB1.out) HT.out HS.out).mono ?_); rw [HFI.out]; rintro e w2 ⟨rfl, hb⟩; have HV2 := Aside0.mk (Kd.R_below HV1.out hb); have HB2 := Aside0.mk (below_step HB1.out hb); clear hb))
      go_ret
      exact ⟨v1, rfl, HV2.out, HB2.out⟩
    | false =>
      have HFI := Aside0.mk (hfi.trans hf)
      clear hA hi hok hrd ht hs hg hgf hls hfi hf t1
      show Calls _ _ _ _ fun e w' => ∃ v, e = .returned v ∧ Kd.R (Kd.int .i64) 3 w' w.heap.size (fun _ => True) v (mapdS c.lo x) ∧ Below w.heap.size w w'
      have t1 := T1.out
      obtain ⟨ok, hok2⟩ : ∃ ok, ok = true := ⟨_, rfl⟩
      obtain ⟨xs, hxs⟩ : ∃ xs, xs = ys := ⟨_, rfl⟩
      subst hok2 hxs
      go_enter Try.func34, Try.ntmps34
      go_wp2
      go_region_held3 (fun w' => w'.cell? ⟨b, 0, none⟩ = some (.slice A0 c.lo.length n0) ∧ w'.cell? ⟨b, 6, none⟩ = some (.slice (some ad) text.length nt) ∧ w'.cell? (ad.add i) = some (.int .i64 x)) (first | go_keep | (go_split_ands; refine ⟨?_, ?_, ?_⟩; (refine pw_cell_below hb ?_; assumption); (refine pw_cell_below hb ?_; assumption); (refine pw_cell_below hb ?_; assumption)))
        (first | (go_at_call 56; (with_reducible refine (mapping_Get.calls A0 n0 c.lo x ⟨#[102, 105, 110, 97, 108]⟩ xs true _ ?s1 HM.out.l0 HGF.out).mono ?_); (case s1 => exact Kd.C_below HM.out.r0 (by repeat (first | (with_reducible first | exact HBR.out | apply below_alloc | apply pw_below_drewN | apply below_drew1) | exact HBR.out))); rintro e w1 ⟨v1, rfl, hv, hb⟩; have HV1 := Aside0.mk (Kd.R_lower hv (below_size (show Below w.heap.size w _ from (by repeat (first | (with_reducible first | exact HBR.out | apply below_alloc | apply pw_below_drewN | apply below_drew1) | exact HBR.out))))); have HB1 := Aside0.mk (below_step (show Below w.heap.size w _ from (by repeat (first | (with_reducible first | exact HBR.out | apply below_alloc | apply pw_below_drewN | apply below_drew1) | exact HBR.out))) hb)))
      clear hb hv t1 c0 c6
      go_upto_region 4 with (first | (go_at_call 45; (with_reducible refine (final_calls b c text (i : Int) _ (HMP.out.below HB1.out) HT.out HS.out).mono ?_); rw [HFI.out]; rintro e w2 ⟨rfl, hb⟩; have HV2 := Aside0.mk (Kd.R_below HV1.out hb); have HB2 := Aside0.mk (below_step HB1.out hb); clear hb))
      have c0 := pw_cell_below HB2.out HM.out.c0
      have c6 := pw_cell_below HB2.out HM.out.c6
      have t2 := pw_cell_below HB2.out T1.out
      go_wp2
      go_region_held3 (fun w' => w'.cell? ⟨b, 0, none⟩ = some (.slice A0 c.lo.length n0) ∧ w'.cell? ⟨b, 6, none⟩ = some (.slice (some ad) text.length nt) ∧ w'.cell? (ad.add i) = some (.int .i64 x)) (first | go_keep | (go_split_ands; refine ⟨?_, ?_, ?_⟩; (refine pw_cell_below hb ?_; assumption); (refine pw_cell_below hb ?_; assumption); (refine pw_cell_below hb ?_; assumption)))
        (first | (go_at_call 51; (with_reducible refine (casemap_mapped.calls A0 n0 c.lo x (mapdS c.lo x) _ ?s1 HM.out.l0 HMF.out).mono ?_); (case s1 => exact Kd.C_below HM.out.r0 (by repeat (first | (with_reducible first | exact HB2.out | apply below_alloc | apply pw_below_drewN | apply below_drew1) | exact HB2.out))); rintro e w3 ⟨v3, rfl, hv, hb⟩; have HV := Aside0.mk (Kd.R_lower hv (below_size (show Below w.heap.size w _ from (by repeat (first | (with_reducible first | exact HB2.out | apply below_alloc | apply pw_below_drewN | apply below_drew1) | exact HB2.out))))); have HB3 := Aside0.mk (below_step (show Below w.heap.size w _ from (by repeat (first | (with_reducible first | exact HB2.out | apply below_alloc | apply pw_below_drewN | apply below_drew1) | exact HB2.out))) hb)))
      clear hb hv
      go_wp2
      go_ret
      exact ⟨v3, rfl, HV.out, HB3.out⟩
end Go.Proofs.Ythnkmcfhpjmihaa.Q
end
section
namespace Go.Proofs.Ythnkmcfhpjmihaa.Q
open Go.RowKit Go.Proofs.YthnkmcfhpjmihaaW.PrintWords Go.Proofs.YthnkmcfhpjmihaaW.PrintLast Go.Proofs.YthnkmcfhpjmihaaW.PrintMore
set_option linter.unusedVariables false
theorem getM_len {l : List Mp} (h : okM l = true) {x : Int} {t : ByteArray} {xs : List Int} (hg : getM l x t = some xs) : xs.length < 100000 := by
  unfold getM at hg
  split at hg
  · unfold findM at hg
    obtain ⟨y, hy, rfl⟩ := Option.map_eq_some_iff.1 hg
    exact ((okM_spec h).2 y (List.mem_of_find?_eq_some hy)).1
  · cases hg
theorem mapdS_len {l : List Mp} (h : okM l = true) (x : Int) : (mapdS l x).length < 100000 := by
  unfold mapdS
  cases hg : getM l x tagE with
  | none => show (1 : Nat) < 100000; decide
  | some xs => exact getM_len h hg
theorem lowerS_len {c : CaseS} (h : okM c.lo = true) (text : List Int) (i : Nat) : (lowerS c text i).length < 100000 := by
  unfold lowerS
  split
  · rename_i xs hg
    split
    · exact getM_len h hg
    · exact mapdS_len h _
  · exact mapdS_len h _
theorem lowerA_len {c : CaseS} (h : okM c.lo = true) (text : List Int) : ∀ n, (lowerA c text n).length ≤ 100000 * n
  | 0 => Nat.le_refl _
  | n + 1 => by
    have h1 := lowerA_len h text n
    have h2 := lowerS_len h text n
    rw [lowerA, List.length_append]; omega
theorem upperA_len {c : CaseS} (h : okM c.up = true) (text : List Int) : ∀ n, (upperA c text n).length ≤ 100000 * n
  | 0 => Nat.le_refl _
  | n + 1 => by
    have h1 := upperA_len h text n
    have h2 := mapdS_len h (text.getD n 0)
    rw [upperA, List.length_append]; omega
theorem caseData_ok {c : CaseS} (h : okC c = true) : okM (caseData c).lo = true ∧ okM (caseData c).up = true ∧ okM (caseData c).ti = true ∧ (caseData c).ca.length < 1000000 ∧ (caseData c).ig.length < 1000000 := by
  obtain ⟨h1, h2, h3, h4, h5, h6⟩ := okC_spec h
  unfold caseData
  split
  · exact ⟨h1, h2, h3, h5, h6⟩
  · exact ⟨rfl, rfl, rfl, by decide, by decide⟩
set_option maxHeartbeats 4000000 in
set_option maxRecDepth 100000 in
theorem each_lower (b : Nat) (c : CaseS) (text : List Int) (w : World) (hM : Mpr w b c text) (hok : okM c.lo = true) (ht : text.length < 100000) (hs : c.ca.length < 1000000 ∧ c.ig.length < 1000000) :
    Calls Try.prog 39 #[.pointer (some ⟨b, 0, none⟩), .func (.func 34) #[.pointer (some ⟨b, 0, none⟩)] #[]] w fun e w' => ∃ v, e = .returned v ∧ Kd.R (Kd.int .i64) 3 w' w.heap.size (fun _ => True) v (lowerA c text text.length) ∧ Below w.heap.size w w' := by
  have HMP := Aside0.mk hM
  have HOK := Aside0.mk hok
  have HT := Aside0.mk ht
  have HS := Aside0.mk hs
  clear hs
  obtain ⟨A0, n0, A1, n1, A2, n2, A3, n3, A4, n4, A5, n5, At, nt, hA⟩ := hM
  have c6 := hA.c6
  clear hA hok ht
  go_enter Try.func39, Try.ntmps39
  go_wp2
  go_loopw [5, 12] (fun lv i wr => ∃ k : Nat, i = .int .i64 k ∧ Aside0 (k ≤ text.length) ∧ Aside0 (Kd.R (Kd.int .i64) 3 wr w.heap.size (fun _ => True) lv (lowerA c text k)) ∧ Aside0 (Below w.heap.size w wr)) (fun _ i _ => text.length - (intOf i).toNat)
  case atStart => exact ⟨0, rfl, ⟨Nat.zero_le _⟩, ⟨Kd.R_nil _ _ _ _ _⟩, ⟨Below.refl _ _⟩⟩
  case round =>
    clear c6
    obtain ⟨k, rfl, HK, HO, HB⟩ := hrel
    by_cases hlt : k < text.length
    · have HLT := Aside0.mk hlt
      have hdl : decide ((k : Int) < (text.length : Int)) = true := decide_eq_true (by omega)
      have hw : wrap64 ((k : Int) + 1) = (k : Int) + 1 := by have := HT.out; unfold wrap64; omega
      have hd2 : decide (k < text.length) = true := decide_eq_true hlt
      have hd3 : (k < text.length) = True := eq_true hlt
      have hpc := fun W => lower_calls b c text k W
      have HWL := Aside0.mk (lowerS_len HOK.out text k)
      have hnx : lowerA c text (k + 1) = lowerA c text k ++ lowerS c text k := rfl
      generalize lowerS c text k = wl at *
      have HPC := Aside0.mk hpc
      have HNX := Aside0.mk hnx
      clear hlt hpc hnx
      go_wp2_with (first | (go_at_call 34; (with_reducible refine (HPC.out _ (HMP.out.below HB.out) HLT.out HOK.out (by have := HT.out; omega) HS.out).mono ?_); rintro e w1 ⟨v1, rfl, hv, hb⟩; obtain ⟨A1, c1, rfl⟩ := Kd.R_slice hv; have HV := Aside0.mk hv; have HO1 := Aside0.mk (Kd.R_below HO.out hb); have HB1 := Aside0.mk (below_step HB.out hb); clear hv hb) | (at_builtin; refine Kd.R_append_rows (Kd.int .i64) (w0 := w1) w.heap.size rfl (.tmp 15) (.tmp 18) 28 3 (.int .i64 0) 8 rfl Try.underlying28 info3 rfl (by decide) (by omega) u5 (lowerA c text k) wl _ _ _ (fun _ => True) (fun _ => False) rfl rfl ?aO ?aR (fun _ _ h => h) (fun _ h => h.elim) ?aF ?aB ?aS ?aL ?_; (case aR => exact (Kd.R_reads' HV.out).2.2); (case aB => exact Below.refl _ _); (case aF => exact (fun _ _ => trivial)); (case aO => exact HO1.out); (case aS => exact HB1.out.size); (case aL => have h1_ := lowerA_len HOK.out text k; have h2_ := HWL.out; have h3_ := HT.out; have h4_ := HLT.out; omega); intro v4 w4 ho hb hg hat; have HO4 := Aside0.mk ho; have HB4 := Aside0.mk (HB1.out.grown hg HB1.out.size (fun k_ hk_ => Kd.R_base HO1.out k_ hk_)); clear ho hb hg hat))
      go_roundw
      case rel => exact ⟨k + 1, by rw [hw]; rfl, HLT, ⟨by rw [HNX.out]; exact HO4.out⟩, HB4⟩
      case measure => rw [hw]; simp only [intOf]; have := HLT.out; omega
    · obtain rfl : k = text.length := by have := HK.out; omega
      have hdl : decide ((text.length : Int) < (text.length : Int)) = false := decide_eq_false (by omega)
      have hd2 : decide (text.length < text.length) = false := decide_eq_false (by omega)
      have hd3 : (text.length < text.length) = False := eq_false (by omega)
      clear hlt
      go_wp2
      go_ret
      exact ⟨u5, rfl, HO.out, HB.out⟩
set_option maxHeartbeats 4000000 in
set_option maxRecDepth 100000 in
theorem each_upper (b : Nat) (c : CaseS) (text : List Int) (w : World) (hM : Mpr w b c text) (hok : okM c.up = true) (ht : text.length < 100000) :
    Calls Try.prog 39 #[.pointer (some ⟨b, 0, none⟩), .func (.func 40) #[.pointer (some ⟨b, 0, none⟩)] #[]] w fun e w' => ∃ v, e = .returned v ∧ Kd.R (Kd.int .i64) 3 w' w.heap.size (fun _ => True) v (upperA c text text.length) ∧ Below w.heap.size w w' := by
  have HMP := Aside0.mk hM
  have HOK := Aside0.mk hok
  have HT := Aside0.mk ht
  obtain ⟨A0, n0, A1, n1, A2, n2, A3, n3, A4, n4, A5, n5, At, nt, hA⟩ := hM
  have c6 := hA.c6
  clear hA hok ht
  go_enter Try.func39, Try.ntmps39
  go_wp2
  go_loopw [5, 12] (fun lv i wr => ∃ k : Nat, i = .int .i64 k ∧ Aside0 (k ≤ text.length) ∧ Aside0 (Kd.R (Kd.int .i64) 3 wr w.heap.size (fun _ => True) lv (upperA c text k)) ∧ Aside0 (Below w.heap.size w wr)) (fun _ i _ => text.length - (intOf i).toNat)
  case atStart => exact ⟨0, rfl, ⟨Nat.zero_le _⟩, ⟨Kd.R_nil _ _ _ _ _⟩, ⟨Below.refl _ _⟩⟩
  case round =>
    clear c6
    obtain ⟨k, rfl, HK, HO, HB⟩ := hrel
    by_cases hlt : k < text.length
    · have HLT := Aside0.mk hlt
      have hdl : decide ((k : Int) < (text.length : Int)) = true := decide_eq_true (by omega)
      have hw : wrap64 ((k : Int) + 1) = (k : Int) + 1 := by have := HT.out; unfold wrap64; omega
      have hd2 : decide (k < text.length) = true := decide_eq_true hlt
      have hd3 : (k < text.length) = True := eq_true hlt
      have hpc := fun W => upper_calls b c text k W
      have HWL := Aside0.mk (mapdS_len HOK.out (text.getD k 0))
      have hnx : upperA c text (k + 1) = upperA c text k ++ mapdS c.up (text.getD k 0) := rfl
      generalize mapdS c.up (text.getD k 0) = wl at *
      have HPC := Aside0.mk hpc
      have HNX := Aside0.mk hnx
      clear hlt hpc hnx
      go_wp2_with (first | (go_at_call 40; (with_reducible refine (HPC.out _ (HMP.out.below HB.out) HLT.out HOK.out).mono ?_); rintro e w1 ⟨v1, rfl, hv, hb⟩; obtain ⟨A1, c1, rfl⟩ := Kd.R_slice hv; have HV := Aside0.mk hv; have HO1 := Aside0.mk (Kd.R_below HO.out hb); have HB1 := Aside0.mk (below_step HB.out hb); clear hv hb) | (at_builtin; refine Kd.R_append_rows (Kd.int .i64) (w0 := w1) w.heap.size rfl (.tmp 15) (.tmp 18) 28 3 (.int .i64 0) 8 rfl Try.underlying28 info3 rfl (by decide) (by omega) u5 (upperA c text k) wl _ _ _ (fun _ => True) (fun _ => False) rfl rfl ?aO ?aR (fun _ _ h => h) (fun _ h => h.elim) ?aF ?aB ?aS ?aL ?_; (case aR => exact (Kd.R_reads' HV.out).2.2); (case aB => exact Below.refl _ _); (case aF => exact (fun _ _ => trivial)); (case aO => exact HO1.out); (case aS => exact HB1.out.size); (case aL => have h1_ := upperA_len HOK.out text k; have h2_ := HWL.out; have h3_ := HT.out; have h4_ := HLT.out; omega); intro v4 w4 ho hb hg hat; have HO4 := Aside0.mk ho; have HB4 := Aside0.mk (HB1.out.grown hg HB1.out.size (fun k_ hk_ => Kd.R_base HO1.out k_ hk_)); clear ho hb hg hat))
      go_roundw
      case rel => exact ⟨k + 1, by rw [hw]; rfl, HLT, ⟨by rw [HNX.out]; exact HO4.out⟩, HB4⟩
      case measure => rw [hw]; simp only [intOf]; have := HLT.out; omega
    · obtain rfl : k = text.length := by have := HK.out; omega
      have hdl : decide ((text.length : Int) < (text.length : Int)) = false := decide_eq_false (by omega)
      have hd2 : decide (text.length < text.length) = false := decide_eq_false (by omega)
      have hd3 : (text.length < text.length) = False := eq_false (by omega)
      clear hlt
      go_wp2
      go_ret
      exact ⟨u5, rfl, HO.out, HB.out⟩
set_option maxHeartbeats 4000000 in
set_option maxRecDepth 100000 in
theorem casemap_Lower.calls (A0_0 : Option Addr) (c0_0 : Nat) (l0_0 : List Mp) (A0_1 : Option Addr) (c0_1 : Nat) (l0_1 : List Mp) (A0_2 : Option Addr) (c0_2 : Nat) (l0_2 : List Mp) (A0_3 : Option Addr) (c0_3 : Nat) (l0_3 : List Mp) (A0_4 : Option Addr) (c0_4 : Nat) (l0_4 : List Rg) (A0_5 : Option Addr) (c0_5 : Nat) (l0_5 : List Rg) (A1 : Option Addr) (c1 : Nat) (l1 : List Int) (r : List Int) (w : World) (hr0_0 : Kd.C k43 w A0_0 l0_0.length l0_0) (hc0_0 : l0_0.length ≤ c0_0) (hr0_1 : Kd.C k43 w A0_1 l0_1.length l0_1) (hc0_1 : l0_1.length ≤ c0_1) (hr0_2 : Kd.C k43 w A0_2 l0_2.length l0_2) (hc0_2 : l0_2.length ≤ c0_2) (hr0_3 : Kd.C k43 w A0_3 l0_3.length l0_3) (hc0_3 : l0_3.length ≤ c0_3) (hr0_4 : Kd.C k33 w A0_4 l0_4.length l0_4) (hc0_4 : l0_4.length ≤ c0_4) (hr0_5 : Kd.C k33 w A0_5 l0_5.length l0_5) (hc0_5 : l0_5.length ≤ c0_5) (hr1 : Kd.C (Kd.int .i64) w A1 l1.length l1) (hc1 : l1.length ≤ c1) (h : casemap_Lower.f l0_0 l0_1 l0_2 l0_3 l0_4 l0_5 l1 = some r) :
    Calls Try.prog 18 #[.agg #[.slice A0_0 l0_0.length c0_0, .slice A0_1 l0_1.length c0_1, .slice A0_2 l0_2.length c0_2, .slice A0_3 l0_3.length c0_3, .slice A0_4 l0_4.length c0_4, .slice A0_5 l0_5.length c0_5], .slice A1 l1.length c1] w fun e w' => ∃ v0_ : Value, e = .returned (v0_) ∧ Kd.R (Kd.int .i64) 3 w' w.heap.size (fun _ => True) v0_ r ∧ Below w.heap.size w w' := by
  unfold casemap_Lower.f at h
  by_cases hok : okC ⟨l0_0, l0_1, l0_2, l0_3, l0_4, l0_5⟩ = true ∧ okT l1 = true
  · rw [if_pos hok] at h
    injection h with h
    subst h
    obtain ⟨hok, hot⟩ := hok
    have hlt : l1.length < 100000 := by unfold okT at hot; exact of_decide_eq_true hot
    obtain ⟨d1, d2, d3, d4, d5⟩ := caseData_ok hok
    have HBX := Aside0.mk (below_alloc (Below.refl w.heap.size w) (Obj.cells #[Value.slice A0_0 l0_0.length c0_0, Value.slice A0_1 l0_1.length c0_1, Value.slice A0_2 l0_2.length c0_2, Value.slice A0_3 l0_3.length c0_3, Value.slice A0_4 l0_4.length c0_4, Value.slice A0_5 l0_5.length c0_5] 27))
    have HOK := Aside0.mk hok
    have HRT := Aside0.mk hr1
    have HCT := Aside0.mk hc1
    have HLT := Aside0.mk hlt
    have HD := Aside0.mk (And.intro d1 (And.intro d2 (And.intro d3 (And.intro d4 d5))))
    have hu := Try.underlying27
    have HR0 := Aside0.mk hr0_0
    have HC0 := Aside0.mk hc0_0
    have HR1 := Aside0.mk hr0_1
    have HC1 := Aside0.mk hc0_1
    have HR2 := Aside0.mk hr0_2
    have HC2 := Aside0.mk hc0_2
    have HR3 := Aside0.mk hr0_3
    have HC3 := Aside0.mk hc0_3
    have HR4 := Aside0.mk hr0_4
    have HC4 := Aside0.mk hc0_4
    have HR5 := Aside0.mk hr0_5
    have HC5 := Aside0.mk hc0_5
    clear hok hot hlt d1 d2 d3 d4 d5 hr1 hc1 hr0_0 hc0_0 hr0_1 hc0_1 hr0_2 hc0_2 hr0_3 hc0_3 hr0_4 hc0_4 hr0_5 hc0_5
    show Calls _ _ _ _ fun e w' => ∃ v0_ : Value, e = .returned (v0_) ∧ Kd.R (Kd.int .i64) 3 w' w.heap.size (fun _ => True) v0_ (lowerA (caseData ⟨l0_0, l0_1, l0_2, l0_3, l0_4, l0_5⟩) l1 l1.length) ∧ Below w.heap.size w w'
    go_enter Try.func18, Try.ntmps18
    go_wp2_with (first | (go_at_call 30; (with_reducible refine (open_calls A0_0 c0_0 l0_0 A0_1 c0_1 l0_1 A0_2 c0_2 l0_2 A0_3 c0_3 l0_3 A0_4 c0_4 l0_4 A0_5 c0_5 l0_5 A1 c1 l1 _ (Kd.C_below HR0.out HBX.out) HC0.out (Kd.C_below HR1.out HBX.out) HC1.out (Kd.C_below HR2.out HBX.out) HC2.out (Kd.C_below HR3.out HBX.out) HC3.out (Kd.C_below HR4.out HBX.out) HC4.out (Kd.C_below HR5.out HBX.out) HC5.out (Kd.C_below HRT.out HBX.out) HCT.out HOK.out).mono ?_); rintro e w2 ⟨b, rfl, hm, hb⟩; have HM := Aside0.mk hm; have HB2 := Aside0.mk (below_step HBX.out hb); clear hm hb) | (go_at_call 39; (with_reducible refine (each_lower b (caseData ⟨l0_0, l0_1, l0_2, l0_3, l0_4, l0_5⟩) l1 _ HM.out HD.out.1 HLT.out HD.out.2.2.2).mono ?_); rintro e w3 ⟨v3, rfl, hv, hb⟩; have HV := Aside0.mk (Kd.R_lower hv HB2.out.size); have HB3 := Aside0.mk (below_step HB2.out hb); clear hv hb))
    go_ret
    exact ⟨v3, rfl, HV.out, HB3.out⟩
  · rw [if_neg hok] at h; cases h
set_option maxHeartbeats 4000000 in
set_option maxRecDepth 100000 in
theorem casemap_Upper.calls (A0_0 : Option Addr) (c0_0 : Nat) (l0_0 : List Mp) (A0_1 : Option Addr) (c0_1 : Nat) (l0_1 : List Mp) (A0_2 : Option Addr) (c0_2 : Nat) (l0_2 : List Mp) (A0_3 : Option Addr) (c0_3 : Nat) (l0_3 : List Mp) (A0_4 : Option Addr) (c0_4 : Nat) (l0_4 : List Rg) (A0_5 : Option Addr) (c0_5 : Nat) (l0_5 : List Rg) (A1 : Option Addr) (c1 : Nat) (l1 : List Int) (r : List Int) (w : World) (hr0_0 : Kd.C k43 w A0_0 l0_0.length l0_0) (hc0_0 : l0_0.length ≤ c0_0) (hr0_1 : Kd.C k43 w A0_1 l0_1.length l0_1) (hc0_1 : l0_1.length ≤ c0_1) (hr0_2 : Kd.C k43 w A0_2 l0_2.length l0_2) (hc0_2 : l0_2.length ≤ c0_2) (hr0_3 : Kd.C k43 w A0_3 l0_3.length l0_3) (hc0_3 : l0_3.length ≤ c0_3) (hr0_4 : Kd.C k33 w A0_4 l0_4.length l0_4) (hc0_4 : l0_4.length ≤ c0_4) (hr0_5 : Kd.C k33 w A0_5 l0_5.length l0_5) (hc0_5 : l0_5.length ≤ c0_5) (hr1 : Kd.C (Kd.int .i64) w A1 l1.length l1) (hc1 : l1.length ≤ c1) (h : casemap_Upper.f l0_0 l0_1 l0_2 l0_3 l0_4 l0_5 l1 = some r) :
    Calls Try.prog 19 #[.agg #[.slice A0_0 l0_0.length c0_0, .slice A0_1 l0_1.length c0_1, .slice A0_2 l0_2.length c0_2, .slice A0_3 l0_3.length c0_3, .slice A0_4 l0_4.length c0_4, .slice A0_5 l0_5.length c0_5], .slice A1 l1.length c1] w fun e w' => ∃ v0_ : Value, e = .returned (v0_) ∧ Kd.R (Kd.int .i64) 3 w' w.heap.size (fun _ => True) v0_ r ∧ Below w.heap.size w w' := by
  unfold casemap_Upper.f at h
  by_cases hok : okC ⟨l0_0, l0_1, l0_2, l0_3, l0_4, l0_5⟩ = true ∧ okT l1 = true
  · rw [if_pos hok] at h
    injection h with h
    subst h
    obtain ⟨hok, hot⟩ := hok
    have hlt : l1.length < 100000 := by unfold okT at hot; exact of_decide_eq_true hot
    obtain ⟨d1, d2, d3, d4, d5⟩ := caseData_ok hok
    have HBX := Aside0.mk (below_alloc (Below.refl w.heap.size w) (Obj.cells #[Value.slice A0_0 l0_0.length c0_0, Value.slice A0_1 l0_1.length c0_1, Value.slice A0_2 l0_2.length c0_2, Value.slice A0_3 l0_3.length c0_3, Value.slice A0_4 l0_4.length c0_4, Value.slice A0_5 l0_5.length c0_5] 27))
    have HOK := Aside0.mk hok
    have HRT := Aside0.mk hr1
    have HCT := Aside0.mk hc1
    have HLT := Aside0.mk hlt
    have HD := Aside0.mk (And.intro d1 (And.intro d2 (And.intro d3 (And.intro d4 d5))))
    have hu := Try.underlying27
    have HR0 := Aside0.mk hr0_0
    have HC0 := Aside0.mk hc0_0
    have HR1 := Aside0.mk hr0_1
    have HC1 := Aside0.mk hc0_1
    have HR2 := Aside0.mk hr0_2
    have HC2 := Aside0.mk hc0_2
    have HR3 := Aside0.mk hr0_3
    have HC3 := Aside0.mk hc0_3
    have HR4 := Aside0.mk hr0_4
    have HC4 := Aside0.mk hc0_4
    have HR5 := Aside0.mk hr0_5
    have HC5 := Aside0.mk hc0_5
    clear hok hot hlt d1 d2 d3 d4 d5 hr1 hc1 hr0_0 hc0_0 hr0_1 hc0_1 hr0_2 hc0_2 hr0_3 hc0_3 hr0_4 hc0_4 hr0_5 hc0_5
    show Calls _ _ _ _ fun e w' => ∃ v0_ : Value, e = .returned (v0_) ∧ Kd.R (Kd.int .i64) 3 w' w.heap.size (fun _ => True) v0_ (upperA (caseData ⟨l0_0, l0_1, l0_2, l0_3, l0_4, l0_5⟩) l1 l1.length) ∧ Below w.heap.size w w'
    go_enter Try.func19, Try.ntmps19
    go_wp2_with (first | (go_at_call 30; (with_reducible refine (open_calls A0_0 c0_0 l0_0 A0_1 c0_1 l0_1 A0_2 c0_2 l0_2 A0_3 c0_3 l0_3 A0_4 c0_4 l0_4 A0_5 c0_5 l0_5 A1 c1 l1 _ (Kd.C_below HR0.out HBX.out) HC0.out (Kd.C_below HR1.out HBX.out) HC1.out (Kd.C_below HR2.out HBX.out) HC2.out (Kd.C_below HR3.out HBX.out) HC3.out (Kd.C_below HR4.out HBX.out) HC4.out (Kd.C_below HR5.out HBX.out) HC5.out (Kd.C_below HRT.out HBX.out) HCT.out HOK.out).mono ?_); rintro e w2 ⟨b, rfl, hm, hb⟩; have HM := Aside0.mk hm; have HB2 := Aside0.mk (below_step HBX.out hb); clear hm hb) | (go_at_call 39; (with_reducible refine (each_upper b (caseData ⟨l0_0, l0_1, l0_2, l0_3, l0_4, l0_5⟩) l1 _ HM.out HD.out.2.1 HLT.out).mono ?_); rintro e w3 ⟨v3, rfl, hv, hb⟩; have HV := Aside0.mk (Kd.R_lower hv HB2.out.size); have HB3 := Aside0.mk (below_step HB2.out hb); clear hv hb))
    go_ret
    exact ⟨v3, rfl, HV.out, HB3.out⟩
  · rw [if_neg hok] at h; cases h
set_option maxHeartbeats 4000000 in
set_option maxRecDepth 100000 in
theorem casemap_Final.calls (A0_0 : Option Addr) (c0_0 : Nat) (l0_0 : List Mp) (A0_1 : Option Addr) (c0_1 : Nat) (l0_1 : List Mp) (A0_2 : Option Addr) (c0_2 : Nat) (l0_2 : List Mp) (A0_3 : Option Addr) (c0_3 : Nat) (l0_3 : List Mp) (A0_4 : Option Addr) (c0_4 : Nat) (l0_4 : List Rg) (A0_5 : Option Addr) (c0_5 : Nat) (l0_5 : List Rg) (A1 : Option Addr) (c1 : Nat) (l1 : List Int) (a2 : Int) (r : Bool) (w : World) (hr0_0 : Kd.C k43 w A0_0 l0_0.length l0_0) (hc0_0 : l0_0.length ≤ c0_0) (hr0_1 : Kd.C k43 w A0_1 l0_1.length l0_1) (hc0_1 : l0_1.length ≤ c0_1) (hr0_2 : Kd.C k43 w A0_2 l0_2.length l0_2) (hc0_2 : l0_2.length ≤ c0_2) (hr0_3 : Kd.C k43 w A0_3 l0_3.length l0_3) (hc0_3 : l0_3.length ≤ c0_3) (hr0_4 : Kd.C k33 w A0_4 l0_4.length l0_4) (hc0_4 : l0_4.length ≤ c0_4) (hr0_5 : Kd.C k33 w A0_5 l0_5.length l0_5) (hc0_5 : l0_5.length ≤ c0_5) (hr1 : Kd.C (Kd.int .i64) w A1 l1.length l1) (hc1 : l1.length ≤ c1) (h : casemap_Final.f l0_0 l0_1 l0_2 l0_3 l0_4 l0_5 l1 a2 = some r) :
    Calls Try.prog 22 #[.agg #[.slice A0_0 l0_0.length c0_0, .slice A0_1 l0_1.length c0_1, .slice A0_2 l0_2.length c0_2, .slice A0_3 l0_3.length c0_3, .slice A0_4 l0_4.length c0_4, .slice A0_5 l0_5.length c0_5], .slice A1 l1.length c1, .int .i64 a2] w fun e w' => e = .returned (.bool r) ∧ Below w.heap.size w w' := by
  unfold casemap_Final.f at h
  by_cases hok : okC ⟨l0_0, l0_1, l0_2, l0_3, l0_4, l0_5⟩ = true ∧ okT l1 = true
  · rw [if_pos hok] at h
    injection h with h
    subst h
    obtain ⟨hok, hot⟩ := hok
    have hlt : l1.length < 100000 := by unfold okT at hot; exact of_decide_eq_true hot
    obtain ⟨d1, d2, d3, d4, d5⟩ := caseData_ok hok
    have HBX := Aside0.mk (below_alloc (Below.refl w.heap.size w) (Obj.cells #[Value.slice A0_0 l0_0.length c0_0, Value.slice A0_1 l0_1.length c0_1, Value.slice A0_2 l0_2.length c0_2, Value.slice A0_3 l0_3.length c0_3, Value.slice A0_4 l0_4.length c0_4, Value.slice A0_5 l0_5.length c0_5] 27))
    have HOK := Aside0.mk hok
    have HRT := Aside0.mk hr1
    have HCT := Aside0.mk hc1
    have HLT := Aside0.mk hlt
    have HD := Aside0.mk (And.intro d1 (And.intro d2 (And.intro d3 (And.intro d4 d5))))
    have hu := Try.underlying27
    have HR0 := Aside0.mk hr0_0
    have HC0 := Aside0.mk hc0_0
    have HR1 := Aside0.mk hr0_1
    have HC1 := Aside0.mk hc0_1
    have HR2 := Aside0.mk hr0_2
    have HC2 := Aside0.mk hc0_2
    have HR3 := Aside0.mk hr0_3
    have HC3 := Aside0.mk hc0_3
    have HR4 := Aside0.mk hr0_4
    have HC4 := Aside0.mk hc0_4
    have HR5 := Aside0.mk hr0_5
    have HC5 := Aside0.mk hc0_5
    clear hok hot hlt d1 d2 d3 d4 d5 hr1 hc1 hr0_0 hc0_0 hr0_1 hc0_1 hr0_2 hc0_2 hr0_3 hc0_3 hr0_4 hc0_4 hr0_5 hc0_5
    go_enter Try.func22, Try.ntmps22
    go_wp2_with (first | (go_at_call 30; (with_reducible refine (open_calls A0_0 c0_0 l0_0 A0_1 c0_1 l0_1 A0_2 c0_2 l0_2 A0_3 c0_3 l0_3 A0_4 c0_4 l0_4 A0_5 c0_5 l0_5 A1 c1 l1 _ (Kd.C_below HR0.out HBX.out) HC0.out (Kd.C_below HR1.out HBX.out) HC1.out (Kd.C_below HR2.out HBX.out) HC2.out (Kd.C_below HR3.out HBX.out) HC3.out (Kd.C_below HR4.out HBX.out) HC4.out (Kd.C_below HR5.out HBX.out) HC5.out (Kd.C_below HRT.out HBX.out) HCT.out HOK.out).mono ?_); rintro e w2 ⟨b, rfl, hm, hb⟩; have HM := Aside0.mk hm; have HB2 := Aside0.mk (below_step HBX.out hb); clear hm hb) | (go_at_call 45; (with_reducible refine (final_calls b (caseData ⟨l0_0, l0_1, l0_2, l0_3, l0_4, l0_5⟩) l1 a2 _ HM.out (by have := HLT.out; omega) HD.out.2.2.2).mono ?_); rintro e w3 ⟨rfl, hb⟩; have HB3 := Aside0.mk (below_step HB2.out hb); clear hb))
    go_ret
    exact ⟨rfl, HB3.out⟩
  · rw [if_neg hok] at h; cases h
end Go.Proofs.Ythnkmcfhpjmihaa.Q
end
