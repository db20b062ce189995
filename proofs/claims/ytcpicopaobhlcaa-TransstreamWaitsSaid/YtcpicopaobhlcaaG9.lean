/- Lemmas, printed and written for this claim: part 9. -/
import Derived.WalkSpells
import Derived.WalkKit
import Derived.IntWalk
import Derived.Test.YtcpicopaobhlcaaG2
import Derived.Test.YtcpicopaobhlcaaG8
import Derived.LaidEqlPtr
import Derived.Test.YtcpicopaobhlcaaG3
import Derived.Deep.LoopGhost
section
namespace Go.Proofs.Ytcpicopaobhlcaa.Q
open Go.RowKit Go.Proofs.YtcpicopaobhlcaaW.PrintWords Go.Proofs.YtcpicopaobhlcaaW.PrintLast Go.Proofs.YtcpicopaobhlcaaW.PrintMore
set_option linter.unusedVariables false
def spLenB (x : Ru) : Bool := decide (x.f0.length ≤ 20) && (decide (x.f1.length ≤ 20) && (decide (x.f2.length ≤ 20) && decide (x.f3.length ≤ 20)))
def spRuleB (x : Ru) : Bool := spLenB x && (x.f0 ++ x.f1 ++ x.f2).all okSet
def spSmallB (l : List Ru) : Bool := decide (l.length ≤ 220) && l.all spRuleB
theorem spSmall_few (l : List Ru) (h : spSmallB l = true) : plFewL l := by
  unfold spSmallB at h
  rw [Bool.and_eq_true, decide_eq_true_eq, List.all_eq_true] at h
  refine ⟨h.1, fun x hx => ?_⟩
  have h2 := h.2 x hx
  unfold spRuleB spLenB at h2
  simp only [Bool.and_eq_true, decide_eq_true_eq, List.all_append, List.all_eq_true, okSet] at h2
  obtain ⟨⟨a0, a1, a2, a3⟩, ⟨b0, b1⟩, b2⟩ := h2
  exact ⟨⟨a0, b0⟩, ⟨a1, b1⟩, ⟨a2, b2⟩, a3⟩
theorem spAll_false {l : List Ru} {x : Ru} (hx : x ∈ l) (h : spRuleB x = false) : spSmallB l = false := by
  unfold spSmallB
  rw [Bool.and_eq_false_iff]
  right
  rw [List.all_eq_false]
  exact ⟨x, hx, by rw [h]; decide⟩
theorem spOwnNew {v1 : Value} {n : Nat} (hat : v1.ownBlock = (.slice none 0 0 : Value).ownBlock ∨ ∃ b, v1.ownBlock = some b ∧ n ≤ b) : ∀ k, v1.ownBlock = some k → n ≤ k := by
  intro k hk
  rcases hat with h | ⟨b, h, hb⟩
  · rw [h] at hk; simp [Value.ownBlock] at hk
  · rw [h] at hk; injection hk with hk; omega
theorem spOwnStep {v1 v2 : Value} {n m : Nat} (h1 : ∀ k, v1.ownBlock = some k → n ≤ k) (hnm : n ≤ m) (hat : v2.ownBlock = v1.ownBlock ∨ ∃ b, v2.ownBlock = some b ∧ m ≤ b) : ∀ k, v2.ownBlock = some k → n ≤ k := by
  intro k hk
  rcases hat with h | ⟨b, h, hb⟩
  · rw [h] at hk; exact h1 k hk
  · rw [h] at hk; injection hk with hk; omega
theorem spKeepG {W w9 : World} {g i n : Nat} {v : Value} {u : Option Nat} (hg : W.grownBy w9 u) (hlt : ∀ k, u = some k → n ≤ k) (hn : g < n) (h : W.cell? ⟨g, i, none⟩ = some v) : w9.cell? ⟨g, i, none⟩ = some v :=
  (World.cell?_of_block (hg.block g (World.block_lt_of_cell? _ _ h) (fun e => by have := hlt _ e.symm; omega))).trans h
set_option maxHeartbeats 8000000 in
set_option maxRecDepth 100000 in
theorem sSmall_calls (A0 : Option Addr) (c0 : Nat) (l : List Ru) (w : World) (hr : Kd.C k41 w A0 l.length l) (hc : l.length ≤ c0) :
    Calls Try.prog 10 #[.slice A0 l.length c0] w fun e w' => e = .returned (.bool (spSmallB l)) ∧ Below w.heap.size w w' := by
  have HR := Aside0.mk hr
  have HC := Aside0.mk hc
  clear hr hc
  by_cases hl : (l.length : Int) > 220
  · have hd : decide ((l.length : Int) > 220) = true := decide_eq_true hl
    have hres : spSmallB l = false := by unfold spSmallB; rw [decide_eq_false (by omega)]; rfl
    rw [hres]
    clear hres hl
    go_enter Try.func10, Try.ntmps10
    go_wp2
    go_ret
    exact ⟨rfl, Below.refl _ _⟩
  · have hd : decide ((l.length : Int) > 220) = false := decide_eq_false hl
    have HL := Aside0.mk (show l.length ≤ 220 by omega)
    clear hl
    go_enter Try.func10, Try.ntmps10
    go_wp2
    go_loopw [3] (fun i wr => ∃ k : Nat, i = .int .i64 k ∧ Aside0 (k ≤ l.length) ∧ Aside0 (∀ x ∈ l.take k, spRuleB x = true) ∧ Aside0 (Below w.heap.size w wr)) (fun i _ => l.length - (intOf i).toNat)
    case atStart => exact ⟨0, rfl, ⟨Nat.zero_le _⟩, ⟨fun x hx => by simp at hx⟩, ⟨Below.refl _ _⟩⟩
    case round =>
      obtain ⟨k, rfl, HK, HOLD, HB⟩ := hrel
      by_cases hlt : k < l.length
      · obtain ⟨ad, B0, d0, B1, d1, B2, d2, B3, d3, e, x0, x1, x2, x3, y0, z0, y1, z1, y2, z2, y3, z3⟩ := at_T41 (Kd.C_below HR.out HB.out) (k : Int) (by omega) (by omega)
        cases e
        rw [Int.toNat_natCast] at x0 x1 x2 x3
        have hmem : rd_T41 l (k : Int) ∈ l := by unfold rd_T41; rw [Int.toNat_natCast, List.getD_eq_getElem?_getD, List.getElem?_eq_getElem hlt]; exact List.getElem_mem hlt
        have hst : l.take (k + 1) = l.take k ++ [rd_T41 l (k : Int)] := by
          unfold rd_T41
          rw [Int.toNat_natCast, List.getD_eq_getElem?_getD, List.take_add_one, List.getElem?_eq_getElem hlt]
          rfl
        have HST := Aside0.mk hst
        have HMEM := Aside0.mk hmem
        have Z0 := Aside0.mk z0
        have Z1 := Aside0.mk z1
        have Z2 := Aside0.mk z2
        clear hst hmem y0 z0 y1 z1 y2 z2 y3 z3
        generalize rd_T41 l (k : Int) = x at *
        have hp1 : (0 ≤ (k : Int)) = True := eq_true (by omega)
        have hp2 : ((k : Int) < (l.length : Int)) = True := eq_true (by omega)
        have hdl : decide ((k : Int) < (l.length : Int)) = true := decide_eq_true (by omega)
        have hw : wrap64 ((k : Int) + 1) = (k : Int) + 1 := by have := HL.out; unfold wrap64; omega
        have hbk := heap_alloc_new wr (.cells #[.slice B0 x.f0.length d0, .slice B1 x.f1.length d1, .slice B2 x.f2.length d2, .slice B3 x.f3.length d3] 41)
        have X0 : (wr.alloc (.cells #[.slice B0 x.f0.length d0, .slice B1 x.f1.length d1, .slice B2 x.f2.length d2, .slice B3 x.f3.length d3] 41)).cell? ⟨wr.heap.size, 0, none⟩ = some (.slice B0 x.f0.length d0) := (blk_cell hbk 0).trans rfl
        have X1 : (wr.alloc (.cells #[.slice B0 x.f0.length d0, .slice B1 x.f1.length d1, .slice B2 x.f2.length d2, .slice B3 x.f3.length d3] 41)).cell? ⟨wr.heap.size, 1, none⟩ = some (.slice B1 x.f1.length d1) := (blk_cell hbk 1).trans rfl
        have X2 : (wr.alloc (.cells #[.slice B0 x.f0.length d0, .slice B1 x.f1.length d1, .slice B2 x.f2.length d2, .slice B3 x.f3.length d3] 41)).cell? ⟨wr.heap.size, 2, none⟩ = some (.slice B2 x.f2.length d2) := (blk_cell hbk 2).trans rfl
        have X3 : (wr.alloc (.cells #[.slice B0 x.f0.length d0, .slice B1 x.f1.length d1, .slice B2 x.f2.length d2, .slice B3 x.f3.length d3] 41)).cell? ⟨wr.heap.size, 3, none⟩ = some (.slice B3 x.f3.length d3) := (blk_cell hbk 3).trans rfl
        have HWA := Aside0.mk (below_alloc (Below.refl wr.heap.size wr) (.cells #[.slice B0 x.f0.length d0, .slice B1 x.f1.length d1, .slice B2 x.f2.length d2, .slice B3 x.f3.length d3] 41))
        generalize hW : wr.alloc (.cells #[.slice B0 x.f0.length d0, .slice B1 x.f1.length d1, .slice B2 x.f2.length d2, .slice B3 x.f3.length d3] 41) = W at X0 X1 X2 X3 HWA
        clear hbk
        by_cases hlen : spLenB x = true
        · have hq := hlen
          unfold spLenB at hq
          simp only [Bool.and_eq_true, decide_eq_true_eq] at hq
          have e0 : decide ((x.f0.length : Int) > 20) = false := decide_eq_false (by omega)
          have e1 : decide ((x.f1.length : Int) > 20) = false := decide_eq_false (by omega)
          have e2 : decide ((x.f2.length : Int) > 20) = false := decide_eq_false (by omega)
          have e3 : decide ((x.f3.length : Int) > 20) = false := decide_eq_false (by omega)
          have HQ := Aside0.mk hq
          have HLT0 := Aside0.mk hlt
          have HLEN := Aside0.mk hlen
          clear hq hlen hlt
          go_upto_region 10 with (fail)
          have HB0 := Aside0.mk (Kd.C_F k45_heap (Kd.C_below Z0.out HWA.out))
          have HB1 := Aside0.mk (Kd.C_F k45_heap (Kd.C_below Z1.out HWA.out))
          have HB2 := Aside0.mk (Kd.C_F k45_heap (Kd.C_below Z2.out HWA.out))
          obtain ⟨al, hal⟩ : ∃ al, al = [] ++ x.f0 ++ x.f1 ++ x.f2 := ⟨_, rfl⟩
          have HALL := Aside0.mk hal
          clear hal
          have HN0 := Aside0.mk (Kd.N_nil k45 45 W W.heap.size (fun _ => True))
          go_upto_region 13 with (first | (at_builtin; refine Kd.N_append_rows k45 (w0 := W) W.heap.size rfl (.tmp 42) (.tmp 44) 38 45 (.agg #[.slice none 0 0]) 24 rfl Try.underlying38 spInfoS rfl (by decide) (by omega) (.slice none 0 0) [] x.f0 B0 _ _ (fun _ => True) (fun k_ => k_ < W.heap.size) rfl rfl HN0.out HB0.out (fun _ _ => ⟨trivial, by simp [Value.ownBlock]⟩) (fun _ _ => trivial) (Below.refl _ _) (Nat.le_refl _) (by have := HQ.out; simp; omega) ?_; intro v1 w1 ho hb hg hat; have HN1 := Aside0.mk ho; have HW1 := Aside0.mk hb; have HF1 := Aside0.mk (Kd.F_below HB1.out hb); have HF2 := Aside0.mk (Kd.F_below HB2.out hb); have HA1 := Aside0.mk (spOwnNew hat); have X1a := pw_cell_below hb X1; have X2a := pw_cell_below hb X2; clear X0 X1 X2 X3 ho hb hg hat) | (at_builtin; refine Kd.N_append_rows k45 (w0 := W) W.heap.size rfl (.tmp 46) (.tmp 48) 38 45 (.agg #[.slice none 0 0]) 24 rfl Try.underlying38 spInfoS rfl (by decide) (by omega) _ ([] ++ x.f0) x.f1 B1 _ _ (fun _ => True) (fun k_ => k_ < W.heap.size) rfl rfl HN1.out HF1.out (fun k_ hk => ⟨trivial, fun e => by have := HA1.out k_ e.symm; omega⟩) (fun _ _ => trivial) HW1.out HW1.out.size (by have := HQ.out; simp; omega) ?_; intro v2 w2 ho hb hg hat; have HN2 := Aside0.mk ho; have HW2 := Aside0.mk hb; have HG2 := Aside0.mk (Kd.F_grown HF2.out hg (fun k_ hk e => by have := HA1.out k_ e.symm; omega)); have HA2 := Aside0.mk (spOwnStep HA1.out HW1.out.size hat); have X2b := spKeepG hg HA1.out (show wr.heap.size < W.heap.size by rw [← hW, World.size_alloc]; omega) X2a; clear X1a X2a ho hb hg hat) | (at_builtin; refine Kd.N_append_rows k45 (w0 := W) W.heap.size rfl (.tmp 50) (.tmp 52) 38 45 (.agg #[.slice none 0 0]) 24 rfl Try.underlying38 spInfoS rfl (by decide) (by omega) _ ([] ++ x.f0 ++ x.f1) x.f2 B2 _ _ (fun _ => True) (fun k_ => k_ < W.heap.size) rfl rfl HN2.out HG2.out (fun k_ hk => ⟨trivial, fun e => by have := HA2.out k_ e.symm; omega⟩) (fun _ _ => trivial) HW2.out HW2.out.size (by have := HQ.out; simp; omega) ?_; intro v3 w3 ho hb hg hat; rw [← HALL.out] at ho; obtain ⟨A3, c3, rfl⟩ := Kd.N_slice ho; have HN3 := Aside0.mk ho; have HW3 := Aside0.mk hb; clear X2b ho hb hg hat))
          have HAC := Aside0.mk (Kd.N_reads' HN3.out)
          have HAL : Aside0 (al.length < 1000) := ⟨by have := HQ.out; rw [HALL.out]; simp only [List.length_append, List.length_nil]; omega⟩
          have HBW := Aside0.mk (below_step (below_step HB.out HWA.out) HW3.out)
          go_wp2
          go_loopw [6] (fun j wj => ∃ m : Nat, j = .int .i64 m ∧ Aside0 (m ≤ al.length) ∧ Aside0 (∀ s ∈ al.take m, okSet s = true) ∧ Aside0 (Below w3.heap.size w3 wj)) (fun j _ => al.length - (intOf j).toNat)
          case atStart => exact ⟨0, rfl, ⟨Nat.zero_le _⟩, ⟨fun x hx => by simp at hx⟩, ⟨Below.refl _ _⟩⟩
          case round =>
            obtain ⟨m, rfl, HKM, HOM, HBJ⟩ := hrel
            by_cases hlm : m < al.length
            · obtain ⟨ada, E0, h0, ea, p0, q0, r0⟩ := at_T45 (Kd.C_below HAC.out.2.2 HBJ.out) (m : Int) (by omega) (by omega)
              cases ea
              rw [Int.toNat_natCast] at p0
              have hmm : rd_T45 al (m : Int) ∈ al := by unfold rd_T45; rw [Int.toNat_natCast, List.getD_eq_getElem?_getD, List.getElem?_eq_getElem hlm]; exact List.getElem_mem hlm
              have hsm : al.take (m + 1) = al.take m ++ [rd_T45 al (m : Int)] := by
                unfold rd_T45
                rw [Int.toNat_natCast, List.getD_eq_getElem?_getD, List.take_add_one, List.getElem?_eq_getElem hlm]
                rfl
              have HSM := Aside0.mk hsm
              have HMM := Aside0.mk hmm
              clear hsm hmm q0 r0
              generalize rd_T45 al (m : Int) = y at *
              have hm1 : (0 ≤ (m : Int)) = True := eq_true (by omega)
              have hm2 : ((m : Int) < (al.length : Int)) = True := eq_true (by omega)
              have hdm : decide ((m : Int) < (al.length : Int)) = true := decide_eq_true (by omega)
              have hwm : wrap64 ((m : Int) + 1) = (m : Int) + 1 := by have := HAL.out; unfold wrap64; omega
              by_cases hy : (y.f0.length : Int) > 12
              · have hy1 : decide ((y.f0.length : Int) > 12) = true := decide_eq_true hy
                have hrl : spRuleB x = false := by
                  unfold spRuleB
                  rw [Bool.and_eq_false_iff]
                  right
                  rw [List.all_eq_false]
                  refine ⟨y, ?_, ?_⟩
                  · have := HMM.out
                    rw [HALL.out, List.nil_append] at this
                    exact this
                  · unfold okSet
                    rw [decide_eq_false (by omega)]
                    decide
                have HRES := Aside0.mk (spAll_false HMEM.out hrl)
                clear hy hrl hlm
                go_wp2
                go_ret
                exact ⟨by rw [HRES.out]; rfl, below_step HBW.out HBJ.out⟩
              · have hy1 : decide ((y.f0.length : Int) > 12) = false := decide_eq_false hy
                have HY := Aside0.mk (show okSet y = true by unfold okSet; rw [decide_eq_true (by omega)])
                have HLM := Aside0.mk hlm
                clear hy hlm
                go_wp2
                go_roundw
                case rel => exact ⟨m + 1, by rw [hwm]; rfl, ⟨HLM.out⟩, ⟨fun z hz => by
                  rw [HSM.out, List.mem_append, List.mem_singleton] at hz
                  rcases hz with hz | rfl
                  · exact HOM.out z hz
                  · exact HY.out⟩, HBJ⟩
                case measure => rw [hwm]; simp only [intOf]; have := HLM.out; omega
            · obtain rfl : m = al.length := by have := HKM.out; omega
              rw [List.take_length] at HOM
              have hdm : decide ((al.length : Int) < (al.length : Int)) = false := decide_eq_false (by omega)
              have HRX : Aside0 (spRuleB x = true) := ⟨by
                unfold spRuleB
                rw [HLEN.out, Bool.true_and, List.all_eq_true]
                intro z hz
                refine HOM.out z ?_
                rw [HALL.out, List.nil_append]
                exact hz⟩
              clear hlm
              go_wp2
              go_roundw
              case rel => exact ⟨k + 1, by rw [hw]; rfl, ⟨HLT0.out⟩, ⟨fun z hz => by
                rw [HST.out, List.mem_append, List.mem_singleton] at hz
                rcases hz with hz | rfl
                · exact HOLD.out z hz
                · exact HRX.out⟩, ⟨below_step HBW.out HBJ.out⟩⟩
              case measure => rw [hw]; simp only [intOf]; have := HLT0.out; omega
        · have hrl : spRuleB x = false := by
            unfold spRuleB
            rw [Bool.eq_false_iff.2 hlen]
            rfl
          have HRES := Aside0.mk (spAll_false HMEM.out hrl)
          unfold spLenB at hlen
          simp only [Bool.and_eq_true, decide_eq_true_eq] at hlen
          by_cases a0 : (x.f0.length : Int) > 20
          · have e0 : decide ((x.f0.length : Int) > 20) = true := decide_eq_true a0
            clear hlen a0 hlt
            go_wp2
            go_ret
            exact ⟨by rw [HRES.out]; rfl, below_step HB.out HWA.out⟩
          · have e0 : decide ((x.f0.length : Int) > 20) = false := decide_eq_false a0
            by_cases a1 : (x.f1.length : Int) > 20
            · have e1 : decide ((x.f1.length : Int) > 20) = true := decide_eq_true a1
              clear hlen a0 a1 hlt
              go_wp2
              go_ret
              exact ⟨by rw [HRES.out]; rfl, below_step HB.out HWA.out⟩
            · have e1 : decide ((x.f1.length : Int) > 20) = false := decide_eq_false a1
              by_cases a2 : (x.f2.length : Int) > 20
              · have e2 : decide ((x.f2.length : Int) > 20) = true := decide_eq_true a2
                clear hlen a0 a1 a2 hlt
                go_wp2
                go_ret
                exact ⟨by rw [HRES.out]; rfl, below_step HB.out HWA.out⟩
              · have e2 : decide ((x.f2.length : Int) > 20) = false := decide_eq_false a2
                have e3 : decide ((x.f3.length : Int) > 20) = true := decide_eq_true (by omega)
                clear hlen a0 a1 a2 hlt
                go_wp2
                go_ret
                exact ⟨by rw [HRES.out]; rfl, below_step HB.out HWA.out⟩
      · obtain rfl : k = l.length := by have := HK.out; omega
        rw [List.take_length] at HOLD
        have hres : spSmallB l = true := by unfold spSmallB; rw [decide_eq_true (by have := HL.out; omega), List.all_eq_true.2 HOLD.out]; rfl
        have HRES := Aside0.mk hres
        have hdl : decide ((l.length : Int) < (l.length : Int)) = false := decide_eq_false (by omega)
        clear hres
        go_wp2
        go_ret
        exact ⟨by rw [HRES.out]; rfl, HB.out⟩
end Go.Proofs.Ytcpicopaobhlcaa.Q
end
section
namespace Go.Proofs.Ytcpicopaobhlcaa.Q
open Go.RowKit Go.Proofs.YtcpicopaobhlcaaW.PrintWords Go.Proofs.YtcpicopaobhlcaaW.PrintLast Go.Proofs.YtcpicopaobhlcaaW.PrintMore
set_option linter.unusedVariables false
theorem belowGrown {w w1 w2 : World} {b : Nat} (h : Below w.heap.size w w1) (g : w1.grownBy w2 (some b)) (hb : w.heap.size ≤ b) : Below w.heap.size w w2 :=
  ⟨g.os.trans h.os, g.tape.trans h.tape, g.output.trans h.output, Nat.le_trans h.size g.size, fun k hk => (g.block k (Nat.lt_of_lt_of_le hk h.size) (fun e => by injection e with e; omega)).trans (h.block k hk)⟩
theorem rowOf {α : Type} {d : Kd α} {W : World} {g t : Nat} {cells : Array Value} {xs : List α} (hb : W.heap[g]? = some (.cells cells t (0, 0))) (hr : Reps (d.K W) d.sz xs cells.toList) (hl : xs.length ≤ 1000000) : Kd.C d W (some ⟨g, 0, none⟩) xs.length xs := by
  refine ⟨rfl, by omega, fun _ => ⟨_, rfl, fun j p hj => ?_⟩⟩
  have hk := hr.2 j p hj
  refine ⟨_, d.K_len hk, hk, fun i u hu => ?_⟩
  rw [List.getElem?_take] at hu
  split at hu
  · rw [List.getElem?_drop] at hu
    have h2 := blk_cell hb (j * d.sz + i)
    rw [← Array.getElem?_toList, hu] at h2
    have e : ((⟨g, 0, none⟩ : Addr).add (j * d.sz + i)) = ⟨g, j * d.sz + i, none⟩ := by
      unfold Addr.add
      split
      · rename_i h0; rw [h0]
      · simp
    rw [e]
    exact h2
  · cases hu
theorem spOne {w : World} {base : Nat} {ok : Nat → Prop} {v : Value} {c : Int} (h : Kd.R (Kd.int .i64) 3 w base ok v [c]) : ∃ A cc, v = .slice A 1 cc ∧ 1 ≤ cc ∧ Kd.C (Kd.int .i64) w A 1 [c] := by
  obtain ⟨A, cc, rfl⟩ := Kd.R_slice h
  exact ⟨A, cc, rfl, (Kd.R_reads' h).2.1, (Kd.R_reads' h).2.2⟩
theorem spNil {w : World} {base : Nat} {ok : Nat → Prop} {v : Value} (h : Kd.R (Kd.int .i64) 3 w base ok v []) : ∃ A cc, v = .slice A 0 cc := by
  obtain ⟨A, cc, rfl⟩ := Kd.R_slice h
  exact ⟨A, cc, rfl⟩
def spRules : List Ru := [⟨[], [⟨[⟨97, 97⟩]⟩, ⟨[⟨98, 98⟩]⟩], [], [⟨120, 0⟩]⟩]
theorem spRules_few : plFewL spRules := spSmall_few spRules (by kernel_rfl)
theorem spRules_check : checkS spRules = 0 := by kernel_rfl
theorem spRules_data : dataS spRules = spRules := by unfold dataS; rw [if_pos spRules_check]
theorem spRules_be : spBe spRules = 0 := by kernel_rfl
theorem spRules_ah : spAh spRules = 2 := by kernel_rfl
theorem spW_1 : spWrite spRules 0 2 ([], 0) [97] = ([], ([97], 0)) := by kernel_rfl
theorem spW_2 : spWrite spRules 0 2 ([97], 0) [99] = ([97], ([99], 0)) := by kernel_rfl
theorem spW_3 : (spRun spRules [99] 1 0).1 = [99] := by kernel_rfl
theorem awRow (w2 : World) (A1 : Option Addr) (c1 : Nat) (A2 : Option Addr) (c2 : Nat) (h1 : Kd.C k69 w2 A1 1 [⟨97, 97⟩]) (g1 : 1 ≤ c1) (h2 : Kd.C k69 w2 A2 1 [⟨98, 98⟩]) (g2 : 1 ≤ c2) :
    Kd.C k41 (((w2.alloc (.cells #[.slice A1 1 c1, .slice A2 1 c2] 45)).alloc (.cells #[.int .i64 120, .int .i64 0] 59)).alloc (.cells #[.slice none 0 0, .slice (some ⟨w2.heap.size, 0, none⟩) 2 2, .slice none 0 0, .slice (some ⟨w2.heap.size + 1, 0, none⟩) 1 1] 41)) (some ⟨w2.heap.size + 1 + 1, 0, none⟩) 1 spRules := by
  obtain ⟨W1, hW1⟩ : ∃ W1, W1 = w2.alloc (.cells #[.slice A1 1 c1, .slice A2 1 c2] 45) := ⟨_, rfl⟩
  obtain ⟨W2, hW2⟩ : ∃ W2, W2 = W1.alloc (.cells #[.int .i64 120, .int .i64 0] 59) := ⟨_, rfl⟩
  obtain ⟨W3, hW3⟩ : ∃ W3, W3 = W2.alloc (.cells #[.slice none 0 0, .slice (some ⟨w2.heap.size, 0, none⟩) 2 2, .slice none 0 0, .slice (some ⟨w2.heap.size + 1, 0, none⟩) 1 1] 41) := ⟨_, rfl⟩
  rw [← hW1, ← hW2, ← hW3]
  have s1 : W1.heap.size = w2.heap.size + 1 := by rw [hW1, World.size_alloc]
  have s2 : W2.heap.size = w2.heap.size + 1 + 1 := by rw [hW2, World.size_alloc, s1]
  have b1 : Below w2.heap.size w2 W1 := by rw [hW1]; exact below_alloc (Below.refl _ _) _
  have b2 : Below W1.heap.size W1 W2 := by rw [hW2]; exact below_alloc (Below.refl _ _) _
  have b3 : Below W2.heap.size W2 W3 := by rw [hW3]; exact below_alloc (Below.refl _ _) _
  have k1 : W1.heap[w2.heap.size]? = some (.cells #[.slice A1 1 c1, .slice A2 1 c2] 45 (0, 0)) := by rw [hW1]; exact heap_alloc_new _ _
  have k2 : W2.heap[w2.heap.size + 1]? = some (.cells #[.int .i64 120, .int .i64 0] 59 (0, 0)) := by rw [hW2, ← s1]; exact heap_alloc_new _ _
  have k3 : W3.heap[w2.heap.size + 1 + 1]? = some (.cells #[.slice none 0 0, .slice (some ⟨w2.heap.size, 0, none⟩) 2 2, .slice none 0 0, .slice (some ⟨w2.heap.size + 1, 0, none⟩) 1 1] 41 (0, 0)) := by rw [hW3, ← s2]; exact heap_alloc_new _ _
  have h1' := Kd.C_below (Kd.C_below (Kd.C_below h1 b1) b2) b3
  have h2' := Kd.C_below (Kd.C_below (Kd.C_below h2 b1) b2) b3
  have r1 : Kd.C k45 W3 (some ⟨w2.heap.size, 0, none⟩) 2 [⟨[⟨97, 97⟩]⟩, ⟨[⟨98, 98⟩]⟩] :=
    rowOf (blk_below (blk_below k1 b2) b3) (Reps.one (k45_mk W3 ⟨[⟨97, 97⟩]⟩ g1 h1') (Reps.one (k45_mk W3 ⟨[⟨98, 98⟩]⟩ g2 h2') (Reps.none _ _))) (by decide)
  have r2 : Kd.C k59 W3 (some ⟨w2.heap.size + 1, 0, none⟩) 1 [⟨120, 0⟩] :=
    rowOf (blk_below k2 b3) (Reps.c2 (k59_mk W3 ⟨120, 0⟩) (Reps.none _ _)) (by decide)
  exact rowOf k3 (Reps.c4 (k41_mk W3 ⟨[], [⟨[⟨97, 97⟩]⟩, ⟨[⟨98, 98⟩]⟩], [], [⟨120, 0⟩]⟩ (Nat.le_refl _) (Kd.C_nil _ _) (Nat.le_refl 2) r1 (Nat.le_refl _) (Kd.C_nil _ _) (Nat.le_refl 1) r2) (Reps.none _ _)) (by decide)
/-- New at the example's rules. -/
theorem awNew (A : Option Addr) (w : World) (hr : Kd.C k41 w A 1 spRules) :
    Calls Try.prog 13 #[.slice A 1 1] w fun e w' => ∃ b, e = .returned (.tuple #[.pointer (some ⟨b, 0, none⟩), .int .i64 0]) ∧ Strm w' b (fun k => w.heap.size ≤ k ∧ k ≠ b) [] 0 spRules 0 2 ∧ w.heap.size ≤ b ∧ Below w.heap.size w w' := by
  have h := sNew_calls A 1 spRules w spRules_few hr (Nat.le_refl _) spRules_check
  rw [spRules_be, spRules_ah] at h
  exact h
theorem awSp : SpOk spRules 0 2 := by
  have h := spOk spRules spRules_few spRules_data
  rwa [spRules_be, spRules_ah] at h
theorem awWrite (b : Nat) (ok : Nat → Prop) (t : List Int) (a : Nat) (c : Int) (A1 : Option Addr) (c1 : Nat) (out : List Int) (t2 : List Int) (a2 : Nat) (w : World) (hS : Strm w b ok t a spRules 0 2) (hok : ¬ ok b) (hnew : ∀ k, w.heap.size ≤ k → ok k) (ht : t.length < 1000) (ha : a ≤ t.length) (htx : okText (t ++ [c]) = true)
    (hT : Kd.C (Kd.int .i64) w A1 1 [c]) (hc1 : 1 ≤ c1) (he : spWrite spRules 0 2 (t, a) [c] = (out, (t2, a2))) :
    Calls Try.prog 14 #[.pointer (some ⟨b, 0, none⟩), .slice A1 1 c1] w fun e w' => ∃ v, e = .returned (.tuple #[v, .int .i64 0]) ∧ Kd.R (Kd.int .i64) 3 w' w.heap.size (fun _ => True) v out ∧ Strm w' b ok t2 a2 spRules 0 2 ∧ w.grownBy w' (some b) := by
  have h := sWrite_calls b ok t a spRules 0 2 A1 c1 [c] w hS hok hnew (by simp; omega) ha htx (plOkRules spRules_few) spRules_data awSp (by decide) (by decide) hT hc1
  rw [he] at h
  exact h
theorem awText (w : World) (c : Int) : Kd.C (Kd.int .i64) (w.alloc (.cells #[.int .i64 c] 3)) (some ⟨w.heap.size, 0, none⟩) 1 [c] :=
  rowOf (d := Kd.int .i64) (cells := #[.int .i64 c]) (heap_alloc_new w _) (Reps.one (R := (Kd.int .i64).K _) rfl (Reps.none _ _)) (Nat.le_of_ble_eq_true rfl)
theorem awWrite1 (b : Nat) (w : World) (hS : Strm w b (fun k => k ≠ b) [] 0 spRules 0 2) :
    Calls Try.prog 14 #[.pointer (some ⟨b, 0, none⟩), .slice (some ⟨w.heap.size, 0, none⟩) 1 1] (w.alloc (.cells #[.int .i64 97] 3)) fun e w' => (∃ A c, e = .returned (.tuple #[.slice A 0 c, .int .i64 0])) ∧ Strm w' b (fun k => k ≠ b) [97] 0 spRules 0 2 ∧ w.grownBy w' (some b) := by
  have hA : Below w.heap.size w (w.alloc (.cells #[.int .i64 97] 3)) := below_alloc (Below.refl _ _) _
  have hlt := hS.lt
  refine (awWrite b (fun k => k ≠ b) [] 0 97 (some ⟨w.heap.size, 0, none⟩) 1 [] [97] 0 _ (hS.below hA) (by simp) (fun k hk e => by rw [World.size_alloc] at hk; omega) (by decide) (by decide) (by kernel_rfl) (awText w 97) (Nat.le_refl _) spW_1).mono ?_
  rintro e w' ⟨v, rfl, hv, hs, hg⟩
  obtain ⟨A, c, rfl⟩ := spNil hv
  exact ⟨⟨A, c, rfl⟩, hs, (grown_of_below hA _).trans hg⟩
theorem awWrite2 (b : Nat) (w : World) (hS : Strm w b (fun k => k ≠ b) [97] 0 spRules 0 2) :
    Calls Try.prog 14 #[.pointer (some ⟨b, 0, none⟩), .slice (some ⟨w.heap.size, 0, none⟩) 1 1] (w.alloc (.cells #[.int .i64 99] 3)) fun e w' => (∃ A c, e = .returned (.tuple #[.slice A 1 c, .int .i64 0]) ∧ Kd.R (Kd.int .i64) 3 w' w.heap.size (fun _ => True) (.slice A 1 c) [97]) ∧ Strm w' b (fun k => k ≠ b) [99] 0 spRules 0 2 ∧ w.grownBy w' (some b) := by
  have hA : Below w.heap.size w (w.alloc (.cells #[.int .i64 99] 3)) := below_alloc (Below.refl _ _) _
  have hlt := hS.lt
  refine (awWrite b (fun k => k ≠ b) [97] 0 99 (some ⟨w.heap.size, 0, none⟩) 1 [97] [99] 0 _ (hS.below hA) (by simp) (fun k hk e => by rw [World.size_alloc] at hk; omega) (by decide) (by decide) (by kernel_rfl) (awText w 99) (Nat.le_refl _) spW_2).mono ?_
  rintro e w' ⟨v, rfl, hv, hs, hg⟩
  obtain ⟨A, c, rfl, _⟩ := spOne hv
  exact ⟨⟨A, c, rfl, Kd.R_lower hv hA.size⟩, hs, (grown_of_below hA _).trans hg⟩
theorem awClose (b : Nat) (w : World) (hS : Strm w b (fun k => k ≠ b) [99] 0 spRules 0 2) :
    Calls Try.prog 15 #[.pointer (some ⟨b, 0, none⟩)] w fun e w' => (∃ A c, e = .returned (.tuple #[.slice A 1 c, .int .i64 0]) ∧ Kd.R (Kd.int .i64) 3 w' w.heap.size (fun _ => True) (.slice A 1 c) [99]) ∧ StrmZ w' b ∧ w.grownBy w' (some b) := by
  have hlt := hS.lt
  refine (sClose_calls b (fun k => k ≠ b) [99] 0 spRules 0 2 w hS (by simp) (fun k hk e => by omega) (by decide) (by decide) (by kernel_rfl) (plOkRules spRules_few) spRules_data awSp (by decide)).mono ?_
  rintro e w' ⟨v, rfl, hv, hz, hg⟩
  rw [spW_3] at hv
  obtain ⟨A, c, rfl, _⟩ := spOne hv
  exact ⟨⟨A, c, rfl, hv⟩, hz, hg⟩
theorem awEq (A0 : Option Addr) (c0 : Nat) (A1 : Option Addr) (c1 : Nat) (c : Int) (w : World) (h0 : Kd.C (Kd.int .i64) w A0 1 [c]) (g0 : 1 ≤ c0) (h1 : Kd.C (Kd.int .i64) w A1 1 [c]) (g1 : 1 ≤ c1) :
    Calls Try.prog 16 #[.slice A0 1 c0, .slice A1 1 c1] w fun e w' => e = .returned (.bool true) ∧ Drawn0 w w' :=
  unicodetextref01_Equal.calls 10 A0 c0 [c] A1 c1 [c] true w h0 g0 h1 g1 (by rw [plEqual_ok _ _ _ (by simp) (by simp)]; simp)
set_option maxHeartbeats 8000000 in
set_option maxRecDepth 100000 in
theorem awake_calls (w : World) : Calls Try.prog 12 #[] w fun e w' => e = .returned (.bool true) ∧ Below w.heap.size w w' := by
  have hu1 := Try.underlying59
  have hu2 := Try.underlying41
  go_enter Try.func12, Try.ntmps12
  go_upto_region 2 with (first | (go_at_call 25; (with_reducible refine (unicodetextlaw52_one.calls 97 [⟨97, 97⟩] _ rfl).mono ?_); rintro e w1 ⟨v1, rfl, hv1, hb⟩; obtain ⟨A1, c1, rfl⟩ := Kd.R_slice hv1; have HV1 := Aside0.mk hv1; have HB1 := Aside0.mk hb; clear hv1 hb) | (go_at_call 25; (with_reducible refine (unicodetextlaw52_one.calls 98 [⟨98, 98⟩] _ rfl).mono ?_); rintro e w2 ⟨v2, rfl, hv2, hb⟩; obtain ⟨A2, c2, rfl⟩ := Kd.R_slice hv2; have HV2 := Aside0.mk hv2; have HV1b := Aside0.mk (Kd.R_below HV1.out hb); have HB2 := Aside0.mk (below_step HB1.out hb); clear hv2 hb) | (go_at_call 13; refine (awNew _ _ (awRow w2 A1 c1 A2 c2 (Kd.R_reads' HV1b.out).2.2 (Kd.R_reads' HV1b.out).2.1 (Kd.R_reads' HV2.out).2.2 (Kd.R_reads' HV2.out).2.1)).mono ?_; rintro e w3 ⟨b, rfl, hs3, hlb, hb⟩; have HS3 := Aside0.mk (hs3.mono (fun k hk => hk.2)); have HLB := Aside0.mk (show w.heap.size ≤ b by have := HB2.out.size; simp only [World.size_alloc] at hlb; omega); have HB3 := Aside0.mk (below_step (below_alloc (below_alloc (below_alloc HB2.out _) _) _) hb); clear hs3 hlb hb))
  have hlt := HS3.out.lt
  go_wp2_with (first | (go_at_call 14; (with_reducible refine (awWrite1 b _ HS3.out).mono ?_); rintro e w4 ⟨⟨A4, c4, rfl⟩, hs4, hg4⟩; have HS4 := Aside0.mk hs4; have HG4 := Aside0.mk hg4; clear hs4 hg4) | (go_at_call 14; (with_reducible refine (awWrite2 b _ HS4.out).mono ?_); rintro e w5 ⟨⟨A5, c5, rfl, hv5⟩, hs5, hg5⟩; have HV5 := Aside0.mk hv5; have HS5 := Aside0.mk hs5; have HG5 := Aside0.mk hg5; clear hs5 hg5 hv5) | (go_at_call 15; (with_reducible refine (awClose b _ HS5.out).mono ?_); rintro e w6 ⟨⟨A6, c6, rfl, hv6⟩, hz6, hg6⟩; have HV6 := Aside0.mk hv6; have HZ6 := Aside0.mk hz6; have HG6 := Aside0.mk hg6; clear hv6 hz6 hg6) | (go_at_call 14; (with_reducible refine (sWrite_closed b _ _ HZ6.out).mono ?_); rintro e w7 ⟨rfl, hb7⟩; have HR5 := Aside0.mk (Kd.R_below (rowKeep HV5.out HG6.out (HS5.out.notrow HV5.out)) hb7); have HR6 := Aside0.mk (Kd.R_below HV6.out hb7); have HB7 := Aside0.mk hb7; clear hb7) | (go_at_call 16; (with_reducible refine (awEq A5 c5 _ 1 97 _ (Kd.C_below (Kd.R_reads' HR5.out).2.2 (below_alloc (Below.refl _ _) _)) (Kd.R_reads' HR5.out).2.1 (awText w7 97) (Nat.le_refl _)).mono ?_); rintro e w8 ⟨rfl, hd8⟩; have HB8 := Aside0.mk (below_step (below_alloc (Below.refl w7.heap.size w7) _) hd8.below); clear hd8) | (go_at_call 16; (with_reducible refine (awEq A6 c6 _ 1 99 _ (Kd.C_below (Kd.R_reads' HR6.out).2.2 (below_alloc HB8.out _)) (Kd.R_reads' HR6.out).2.1 (awText w8 99) (Nat.le_refl _)).mono ?_); rintro e w9 ⟨rfl, hd9⟩; have HB9 := Aside0.mk (below_step (below_alloc (HB8.out) _) hd9.below); clear hd9))
  go_ret
  refine ⟨rfl, ?_⟩
  exact below_step (belowGrown (below_step (belowGrown (belowGrown (belowGrown HB3.out HG4.out HLB.out) HG5.out HLB.out) HG6.out HLB.out) HB7.out) (World.grownBy.refl _ _) HLB.out) HB9.out
end Go.Proofs.Ytcpicopaobhlcaa.Q
end
section
namespace Go.Proofs.Ytcpicopaobhlcaa.Q
open Go.RowKit Go.Proofs.YtcpicopaobhlcaaW.PrintWords Go.Proofs.YtcpicopaobhlcaaW.PrintLast Go.Proofs.YtcpicopaobhlcaaW.PrintMore
set_option linter.unusedVariables false
/-- A stream that was given T so far, with a elements done. -/
def SpSt (w : World) (b : Nat) (ok : Nat → Prop) (T : List Int) (a : Nat) (l : List Ru) : Prop :=
  ∃ s : List Int × Nat, SpRel (spBe l) T a s ∧ Strm w b ok s.1 s.2 l (spBe l) (spAh l) ∧ okText T = true ∧ T.length < 100000
theorem okText_drop {T : List Int} (d : Nat) (h : okText T = true) : okText (T.drop d) = true := by
  unfold okText at h ⊢
  simp only [Bool.and_eq_true, decide_eq_true_eq, List.all_eq_true, List.length_drop] at h ⊢
  exact ⟨by omega, fun x hx => h.2 x (List.mem_of_mem_drop hx)⟩
theorem okText_app {T U : List Int} (h : okText T = true) (hU : okText U = true) (hl : (T ++ U).length < 100000000) : okText (T ++ U) = true := by
  unfold okText at h hU ⊢
  simp only [Bool.and_eq_true, decide_eq_true_eq, List.all_eq_true] at h hU ⊢
  exact ⟨hl, fun x hx => (List.mem_append.1 hx).elim (h.2 x) (hU.2 x)⟩
theorem okText_wf {l : List Int} (h : wfT l) (hl : l.length < 100000000) : okText l = true := by
  unfold okText
  rw [decide_eq_true hl, Bool.true_and, List.all_eq_true]
  exact h.2
theorem spSmall_ah (l : List Ru) (hf : plFewL l) : spAh l < 1000000 ∧ spBe l < 1000000 ∧ 1 ≤ spAh l := by
  obtain ⟨⟨b1, b2⟩, ⟨f1, f2⟩, _⟩ := plReach_bounds l hf
  unfold spAh spBe
  omega
theorem SpSt.new {w w' : World} {b : Nat} {l : List Ru} (h : Strm w' b (fun k => w.heap.size ≤ k ∧ k ≠ b) [] 0 l (spBe l) (spAh l)) : SpSt w' b (fun k => w.heap.size ≤ k ∧ k ≠ b) [] 0 l :=
  ⟨([], 0), SpRel.start _, h, by kernel_rfl, by decide⟩
theorem SpSt.step {w w' : World} {b : Nat} {ok : Nat → Prop} {T : List Int} {a : Nat} {l : List Ru} (h : SpSt w b ok T a l) (hb : w'.heap[b]? = w.heap[b]?) (hk : ∀ k, ok k → k < w.heap.size → w'.heap[k]? = w.heap[k]?) : SpSt w' b ok T a l := by
  obtain ⟨s, h1, h2, h3⟩ := h
  exact ⟨s, h1, h2.step hb hk, h3⟩
theorem SpSt.below {w w' : World} {b : Nat} {ok : Nat → Prop} {T : List Int} {a : Nat} {l : List Ru} (h : SpSt w b ok T a l) (hb : Below w.heap.size w w') : SpSt w' b ok T a l := by
  obtain ⟨s, h1, h2, h3⟩ := h
  exact ⟨s, h1, h2.below hb, h3⟩
theorem SpSt.grown {w w' : World} {b : Nat} {ok : Nat → Prop} {T : List Int} {a : Nat} {l : List Ru} (h : SpSt w b ok T a l) {row : Option Nat} (hg : w.grownBy w' row) (hb : some b ≠ row) (hk : ∀ k, ok k → some k ≠ row) : SpSt w' b ok T a l := by
  obtain ⟨s, h1, h2, h3⟩ := h
  exact ⟨s, h1, h2.grown hg hb hk, h3⟩
theorem SpSt.mono {w : World} {b : Nat} {ok ok' : Nat → Prop} {T : List Int} {a : Nat} {l : List Ru} (h : SpSt w b ok T a l) (hk : ∀ k, ok k → ok' k) : SpSt w b ok' T a l := by
  obtain ⟨s, h1, h2, h3⟩ := h
  exact ⟨s, h1, h2.mono hk, h3⟩
theorem SpSt.after {w w1 : World} {b : Nat} {ok : Nat → Prop} {T : List Int} {a : Nat} {l : List Ru} {v v1 : Value} (h : SpSt w b (fun k => ok k ∧ some k ≠ v.ownBlock) T a l) (hg : w.grownBy w1 v.ownBlock) (hat : v1.ownBlock = v.ownBlock ∨ ∃ c, v1.ownBlock = some c ∧ w.heap.size ≤ c) (hb : some b ≠ v.ownBlock) : SpSt w1 b (fun k => ok k ∧ some k ≠ v1.ownBlock) T a l := by
  obtain ⟨s, h1, h2, h3⟩ := h
  exact ⟨s, h1, h2.after hg hat hb, h3⟩
theorem SpSt.notrow {w : World} {b : Nat} {ok ok' : Nat → Prop} {T : List Int} {a : Nat} {l : List Ru} (h : SpSt w b ok T a l) {base : Nat} {v : Value} {xs : List Int} (hr : Kd.R (Kd.int .i64) 3 w base ok' v xs) : some b ≠ v.ownBlock := by
  obtain ⟨s, h1, h2, h3⟩ := h
  exact h2.notrow hr
theorem SpSt.lt {w : World} {b : Nat} {ok : Nat → Prop} {T : List Int} {a : Nat} {l : List Ru} (h : SpSt w b ok T a l) : b < w.heap.size := by
  obtain ⟨s, h1, h2, h3⟩ := h
  exact h2.lt
theorem spStNew (A0 : Option Addr) (c0 : Nat) (l : List Ru) (w : World) (hf : plFewL l) (hr : Kd.C k41 w A0 l.length l) (hc : l.length ≤ c0) (hd : checkS l = 0) :
    Calls Try.prog 13 #[.slice A0 l.length c0] w fun e w' => ∃ b, e = .returned (.tuple #[.pointer (some ⟨b, 0, none⟩), .int .i64 0]) ∧ SpSt w' b (fun k => w.heap.size ≤ k ∧ k ≠ b) [] 0 l ∧ w.heap.size ≤ b ∧ Below w.heap.size w w' := by
  refine (sNew_calls A0 c0 l w hf hr hc hd).mono ?_
  rintro e w' ⟨b, rfl, hs, hlb, hb⟩
  exact ⟨b, rfl, SpSt.new hs, hlb, hb⟩
theorem spDataS {l : List Ru} (hd : checkS l = 0) : dataS l = l := by unfold dataS; rw [if_pos hd]
theorem spStWrite (b : Nat) (ok : Nat → Prop) (T : List Int) (a : Nat) (l : List Ru) (A1 : Option Addr) (c1 : Nat) (text : List Int) (w : World) (hf : plFewL l) (hd : checkS l = 0) (hS : SpSt w b ok T a l) (hok : ¬ ok b) (hnew : ∀ k, w.heap.size ≤ k → ok k) (htx : okText text = true) (hl : (T ++ text).length < 100000)
    (hT : Kd.C (Kd.int .i64) w A1 text.length text) (hc1 : text.length ≤ c1) :
    Calls Try.prog 14 #[.pointer (some ⟨b, 0, none⟩), .slice A1 text.length c1] w fun e w' => ∃ v, e = .returned (.tuple #[v, .int .i64 0]) ∧ Kd.R (Kd.int .i64) 3 w' w.heap.size (fun _ => True) v (spRun l (T ++ text) (spAh l) a).1 ∧ SpSt w' b ok (T ++ text) (spRun l (T ++ text) (spAh l) a).2 l ∧ w.grownBy w' (some b) := by
  obtain ⟨s, h1, h2, h3, h4⟩ := hS
  have hsp := spOk l hf (spDataS hd)
  obtain ⟨ha1, ha2, ha3⟩ := spSmall_ah l hf
  have hrel := h1.write hsp text
  have hall := okText_app h3 htx (by omega)
  have hb := h1
  obtain ⟨d, e1, e2, e3, e4, e5⟩ := hb
  have hlen : s.1.length + text.length < 10000000 := by rw [e1, List.length_drop]; simp only [List.length_append] at hl; omega
  refine (sWrite_calls b ok s.1 s.2 l (spBe l) (spAh l) A1 c1 text w h2 hok hnew hlen (by rw [e1, e2, List.length_drop]; omega) ?_ (plOkRules hf) (spDataS hd) hsp ha1 ha2 hT hc1).mono ?_
  · rw [e1]
    exact okText_app (okText_drop d h3) htx (by rw [e1] at hlen; rw [List.length_append]; omega)
  · rintro e w' ⟨v, rfl, hv, hs, hg⟩
    rw [show (s.1, s.2) = s from rfl, hrel.1] at hv
    exact ⟨v, rfl, hv, ⟨_, hrel.2, hs, hall, hl⟩, hg⟩
theorem spStPend (b : Nat) (ok : Nat → Prop) (T : List Int) (a : Nat) (l : List Ru) (w : World) (hf : plFewL l) (hS : SpSt w b ok T a l) :
    Calls Try.prog 20 #[.pointer (some ⟨b, 0, none⟩)] w fun e w' => ∃ v, e = .returned v ∧ Kd.R (Kd.int .i64) 3 w' w.heap.size (fun _ => True) v (T.drop a) ∧ Below w.heap.size w w' := by
  obtain ⟨s, h1, h2, h3, h4⟩ := hS
  obtain ⟨ha1, ha2, ha3⟩ := spSmall_ah l hf
  have hp := h1.pend
  obtain ⟨d, e1, e2, e3, e4, e5⟩ := h1
  rw [← hp]
  exact sPend_calls b ok s.1 s.2 l (spBe l) (spAh l) w h2 ha3 (by rw [e1, List.length_drop]; omega) (by rw [e1, e2, List.length_drop]; omega)
def spFewB (l : List (List Int)) : Bool := decide (l.length ≤ 8) && l.all fun x => decide (x.length ≤ 30)
theorem spRd_mid (pre : List (List Int)) (x : List Int) (rest : List (List Int)) : rd_L10 (pre ++ x :: rest) (pre.length : Int) = x := by
  unfold rd_L10
  rw [Int.toNat_natCast, List.getD_eq_getElem?_getD, List.getElem?_append_right (Nat.le_refl _), Nat.sub_self]
  rfl
theorem spFew_go : ∀ (rest pre : List (List Int)) (k : Nat), (pre ++ rest).length < 1000000 → rest.length + 1 ≤ k → unicodetextlaw52_few.l0 k (pre ++ rest) (pre.length : Int) = some (rest.all fun x => decide (x.length ≤ 30))
  | [], pre, k, h1, h2 => by
    obtain ⟨k, rfl⟩ : ∃ j, k = j + 1 := ⟨k - 1, by omega⟩
    rw [unicodetextlaw52_few.l0, if_neg (by simp)]
    rfl
  | x :: rest, pre, k, h1, h2 => by
    simp only [List.length_append, List.length_cons] at h1 h2
    obtain ⟨k, rfl⟩ : ∃ j, k = j + 1 := ⟨k - 1, by omega⟩
    have ih := spFew_go rest (pre ++ [x]) k (by simp; omega) (by omega)
    rw [List.append_assoc, List.singleton_append] at ih
    have hw : wrap64 ((pre.length : Int) + 1) = ((pre ++ [x]).length : Int) := by simp only [List.length_append, List.length_cons, List.length_nil]; unfold wrap64; omega
    rw [unicodetextlaw52_few.l0, if_pos (by simp; omega), if_pos (by omega), spRd_mid, hw, ih]
    by_cases h : x.length ≤ 30
    · rw [if_neg (by omega), List.all_cons, decide_eq_true h, Bool.true_and]
    · rw [if_pos (by omega), List.all_cons, decide_eq_false h, Bool.false_and]
theorem spFew_ok (l : List (List Int)) : unicodetextlaw52_few.f 20 l = some (spFewB l) := by
  unfold unicodetextlaw52_few.f spFewB
  by_cases h : l.length ≤ 8
  · rw [if_neg (by omega), decide_eq_true h, Bool.true_and]
    have := spFew_go l [] 20 (by simp; omega) (by omega)
    simpa using this
  · rw [if_pos (by omega), decide_eq_false h, Bool.false_and]
theorem spFewB_spec {l : List (List Int)} (h : spFewB l = true) : l.length ≤ 8 ∧ ∀ x ∈ l, x.length ≤ 30 := by
  unfold spFewB at h
  simpa using h
def wfTs (l : List (List Int)) : Prop := l.length ≤ maxLen ∧ ∀ x ∈ l, wfT x
theorem opens_texts : Opens (Kd.slice 31 (Kd.slice 3 (Kd.int .i64))) wfTs 23 := opens_slice Try.underlying23 (by kernel_rfl) opens_ints
/-- What few texts, one after the other, are. -/
theorem spTexts {l : List (List Int)} (hw : wfTs l) (hf : spFewB l = true) : ∀ i, i ≤ l.length → okText (l.take i).flatten = true ∧ (l.take i).flatten.length ≤ 30 * i
  | 0, _ => ⟨by rw [List.take_zero]; kernel_rfl, by simp⟩
  | i + 1, h => by
    obtain ⟨h1, h2⟩ := spTexts hw hf i (by omega)
    obtain ⟨q1, q2⟩ := spFewB_spec hf
    have hi : i < l.length := by omega
    have hm : l[i] ∈ l := List.getElem_mem hi
    have e : (l.take (i + 1)).flatten = (l.take i).flatten ++ l[i] := by
      rw [List.take_succ_eq_append_getElem hi, List.flatten_append]; simp
    have := q2 _ hm
    rw [e]
    exact ⟨okText_app h1 (okText_wf (hw.2 _ hm) (by omega)) (by rw [List.length_append]; omega), by rw [List.length_append]; omega⟩
/-- One more text. -/
theorem spText_at {l : List (List Int)} (hw : wfTs l) (hf : spFewB l = true) (i : Nat) (hi : i < l.length) : (l.take (i + 1)).flatten = (l.take i).flatten ++ rd_L10 l (i : Int) ∧ okText (rd_L10 l (i : Int)) = true ∧ (rd_L10 l (i : Int)).length ≤ 30 ∧ ((l.take i).flatten ++ rd_L10 l (i : Int)).length < 1000 := by
  obtain ⟨q1, q2⟩ := spFewB_spec hf
  have hm : l[i] ∈ l := List.getElem_mem hi
  have e2 : rd_L10 l (i : Int) = l[i] := by
    unfold rd_L10
    rw [Int.toNat_natCast, List.getD_eq_getElem?_getD, List.getElem?_eq_getElem hi]; rfl
  have e : (l.take (i + 1)).flatten = (l.take i).flatten ++ l[i] := by
    rw [List.take_succ_eq_append_getElem hi, List.flatten_append]; simp
  have := q2 _ hm
  have := (spTexts hw hf i (by omega)).2
  rw [e2]
  exact ⟨e, okText_wf (hw.2 _ hm) (by omega), by omega, by rw [List.length_append]; omega⟩
end Go.Proofs.Ytcpicopaobhlcaa.Q
end
section
namespace Go.Proofs.Ytcpicopaobhlcaa.Q
open Go.RowKit Go.Proofs.YtcpicopaobhlcaaW.PrintWords Go.Proofs.YtcpicopaobhlcaaW.PrintLast Go.Proofs.YtcpicopaobhlcaaW.PrintMore
set_option linter.unusedVariables false
abbrev RI (w : World) (base : Nat) (v : Value) (xs : List Int) : Prop := Kd.R (Kd.int .i64) 3 w base (fun _ => True) v xs
def okB (b : Nat) (u7 u8 : Value) : Nat → Prop := fun k => k ≠ b ∧ some k ≠ u7.ownBlock ∧ some k ≠ u8.ownBlock
structure St2 (w wr : World) (b : Nat) (u7 u8 : Value) (I O : List Int) (T : List Int) (a : Nat) (l : List Ru) : Prop where
  h7 : RI wr w.heap.size u7 I
  h8 : RI wr w.heap.size u8 O
  far : ∀ k, u7.ownBlock = some k → u8.ownBlock ≠ some k
  str : SpSt wr b (okB b u7 u8) T a l
  low : w.heap.size ≤ b
  bel : Below w.heap.size w wr
theorem okB_not (b : Nat) (u7 u8 : Value) : ¬ okB b u7 u8 b := fun h => h.1 rfl
theorem St2.start {w wr : World} {b : Nat} {T : List Int} {a : Nat} {l : List Ru} (h : SpSt wr b (fun k => k ≠ b) T a l) (hl : w.heap.size ≤ b) (hb : Below w.heap.size w wr) : St2 w wr b (.slice none 0 0) (.slice none 0 0) [] [] T a l :=
  ⟨Kd.R_nil _ _ _ _ _, Kd.R_nil _ _ _ _ _, fun k hk => by simp [Value.ownBlock] at hk, h.mono (fun k hk => ⟨hk, by simp [Value.ownBlock], by simp [Value.ownBlock]⟩), hl, hb⟩
theorem St2.below {w wr w2 : World} {b : Nat} {u7 u8 : Value} {I O T : List Int} {a : Nat} {l : List Ru} (h : St2 w wr b u7 u8 I O T a l) (hb : Below wr.heap.size wr w2) : St2 w w2 b u7 u8 I O T a l :=
  ⟨Kd.R_below h.h7 hb, Kd.R_below h.h8 hb, h.far, h.str.below hb, h.low, below_step h.bel hb⟩
theorem St2.new {w wr : World} {b : Nat} {u7 u8 : Value} {I O T : List Int} {a : Nat} {l : List Ru} (h : St2 w wr b u7 u8 I O T a l) : ∀ k, wr.heap.size ≤ k → okB b u7 u8 k := fun k hk =>
  ⟨fun e => by have := h.str.lt; omega, fun e => by have := Kd.R_lt h.h7 k e.symm; omega, fun e => by have := Kd.R_lt h.h8 k e.symm; omega⟩
theorem St2.write {w wr w2 : World} {b : Nat} {u7 u8 : Value} {I O T T2 : List Int} {a a2 : Nat} {l : List Ru} (h : St2 w wr b u7 u8 I O T a l) (hg : wr.grownBy w2 (some b)) (hs : SpSt w2 b (okB b u7 u8) T2 a2 l) : St2 w w2 b u7 u8 I O T2 a2 l :=
  ⟨rowKeep h.h7 hg (h.str.notrow h.h7), rowKeep h.h8 hg (h.str.notrow h.h8), h.far, hs, h.low, belowGrown h.bel hg h.low⟩
theorem rowApart {w w2 : World} {row : Option Nat} {base : Nat} {v : Value} {xs : List Int} (h : RI w base v xs) (hg : w.grownBy w2 row) (hne : row = none ∨ row ≠ v.ownBlock) : RI w2 base v xs := by
  rcases hne with rfl | hne
  · exact Kd.R_mono (Kd.R_step (Kd.R_tight rfl h) (fun k hk hlt => hg.block k hlt (by simp))) (fun _ _ => trivial)
  · exact Kd.R_grown1 h rfl hg hne
theorem St2.app7 {w wr w2 : World} {b : Nat} {u7 u8 v : Value} {I O T x : List Int} {a : Nat} {l : List Ru} (h : St2 w wr b u7 u8 I O T a l) (hv : RI w2 w.heap.size v (I ++ x)) (hb : Below w.heap.size w w2) (hg : wr.grownBy w2 u7.ownBlock) (hat : v.ownBlock = u7.ownBlock ∨ ∃ c, v.ownBlock = some c ∧ wr.heap.size ≤ c) : St2 w w2 b v u8 (I ++ x) O T a l := by
  have hnb := h.str.notrow h.h7
  have s2 : SpSt wr b (fun k => (k ≠ b ∧ some k ≠ u8.ownBlock) ∧ some k ≠ u7.ownBlock) T a l := h.str.mono (fun k hk => ⟨⟨hk.1, hk.2.2⟩, hk.2.1⟩)
  refine ⟨hv, rowApart h.h8 hg ?_, ?_, (s2.after hg hat hnb).mono (fun k hk => ⟨hk.1.1, hk.2, hk.1.2⟩), h.low, hb⟩
  · cases hk : u7.ownBlock with
    | none => exact .inl rfl
    | some k => exact .inr (fun e => h.far k hk e.symm)
  · intro k hk e
    rcases hat with e1 | ⟨c, e1, hc⟩
    · exact h.far k (by rw [← e1, hk]) e
    · have h1 := Kd.R_lt h.h8 k e
      rw [e1] at hk
      injection hk with hk
      omega
/-- Write in such a loop. -/
theorem spSt2Write {w : World} (b : Nat) (u7 u8 : Value) (I O T : List Int) (a : Nat) (l : List Ru) (A1 : Option Addr) (c1 : Nat) (text : List Int) (wr : World) (hf : plFewL l) (hd : checkS l = 0) (h : St2 w wr b u7 u8 I O T a l) (htx : okText text = true) (hl : (T ++ text).length < 100000)
    (hT : Kd.C (Kd.int .i64) wr A1 text.length text) (hc1 : text.length ≤ c1) :
    Calls Try.prog 14 #[.pointer (some ⟨b, 0, none⟩), .slice A1 text.length c1] wr fun e w' => ∃ A c, e = .returned (.tuple #[.slice A (spRun l (T ++ text) (spAh l) a).1.length c, .int .i64 0]) ∧ RI w' wr.heap.size (.slice A (spRun l (T ++ text) (spAh l) a).1.length c) (spRun l (T ++ text) (spAh l) a).1 ∧ St2 w w' b u7 u8 I O (T ++ text) (spRun l (T ++ text) (spAh l) a).2 l ∧ wr.grownBy w' (some b) := by
  refine (spStWrite b (okB b u7 u8) T a l A1 c1 text wr hf hd h.str (okB_not b u7 u8) h.new htx hl hT hc1).mono ?_
  rintro e w' ⟨v, rfl, hv, hs, hg⟩
  obtain ⟨A, c, rfl⟩ := Kd.R_slice hv
  exact ⟨A, c, rfl, hv, h.write hg hs, hg⟩
theorem spSt2Pend {w : World} (b : Nat) (u7 u8 : Value) (I O T : List Int) (a : Nat) (l : List Ru) (wr : World) (hf : plFewL l) (h : St2 w wr b u7 u8 I O T a l) :
    Calls Try.prog 20 #[.pointer (some ⟨b, 0, none⟩)] wr fun e w' => ∃ A c, e = .returned (.slice A (T.drop a).length c) ∧ RI w' wr.heap.size (.slice A (T.drop a).length c) (T.drop a) ∧ St2 w w' b u7 u8 I O T a l := by
  refine (spStPend b (okB b u7 u8) T a l wr hf h.str).mono ?_
  rintro e w' ⟨v, rfl, hv, hb⟩
  obtain ⟨A, c, rfl⟩ := Kd.R_slice hv
  exact ⟨A, c, rfl, hv, h.below hb⟩
end Go.Proofs.Ytcpicopaobhlcaa.Q
end
section
namespace Go.Proofs.Ytcpicopaobhlcaa.Q
open Go.RowKit Go.Proofs.YtcpicopaobhlcaaW.PrintWords Go.Proofs.YtcpicopaobhlcaaW.PrintLast Go.Proofs.YtcpicopaobhlcaaW.PrintMore
set_option linter.unusedVariables false
attribute [local go_sem] max2_int max_two
set_option maxHeartbeats 8000000 in
set_option maxRecDepth 100000 in
theorem transstreamWaits_law (A0 : Option Addr) (c0 : Nat) (l0 : List Ru) (A1 : Option Addr) (c1 : Nat) (l1 : List (List Int)) (w : World) (h0 : wfL l0) (h1 : wfTs l1) (hr0 : Kd.C k41 w A0 l0.length l0) (hc0 : l0.length ≤ c0) (hr1 : Kd.C (Kd.slice 3 (Kd.int .i64)) w A1 l1.length l1) (hc1 : l1.length ≤ c1) :
    Calls Try.prog 7 #[.slice A0 l0.length c0, .slice A1 l1.length c1] w fun e w' => e = .returned (.bool true) ∧ Below w.heap.size w w' := by
  have HR := Aside0.mk hr0
  have HC := Aside0.mk hc0
  have HT := Aside0.mk hr1
  have HC1 := Aside0.mk hc1
  have hsm := sSmall_calls A0 c0 l0
  have hfw := unicodetextlaw52_few.calls 20 A1 c1 l1
  clear hr0 hc0 hr1 hc1 h0
  cases hb0 : spSmallB l0 with
  | false =>
    rw [hb0] at hsm
    have HSM := Aside0.mk hsm
    clear hsm hb0 h1 hfw
    go_enter Try.func7, Try.ntmps7
    go_wp2_with (first | (go_at_call 10; (with_reducible refine (HSM.out _ HR.out HC.out).mono ?_); rintro e w1 ⟨rfl, hb⟩; have HB := Aside0.mk hb; clear hb) | (go_at_call 12; (with_reducible refine (awake_calls _).mono ?_); rintro e wz ⟨rfl, hb⟩; have HBA := Aside0.mk hb; clear hb))
    go_ret
    exact ⟨rfl, below_step HB.out HBA.out⟩
  | true =>
    rw [hb0] at hsm
    have HSM := Aside0.mk hsm
    have hf := spSmall_few l0 hb0
    clear hsm hb0
    cases hb1 : spFewB l1 with
    | false =>
      have HFEW := Aside0.mk (hfw false)
      have HFQ := Aside0.mk (show unicodetextlaw52_few.f 20 l1 = some false by rw [spFew_ok, hb1])
      clear hfw hb1 hf h1
      go_enter Try.func7, Try.ntmps7
      go_wp2_with (first | (go_at_call 10; (with_reducible refine (HSM.out _ HR.out HC.out).mono ?_); rintro e w1 ⟨rfl, hb⟩; have HB := Aside0.mk hb; clear hb) | (go_at_call 11; (with_reducible refine (HFEW.out _ (Kd.C_below HT.out HB.out) HC1.out HFQ.out).mono ?_); rintro e w2 ⟨rfl, hb⟩; have HB1 := Aside0.mk (below_step HB.out hb.below); clear hb) | (go_at_call 12; (with_reducible refine (awake_calls _).mono ?_); rintro e wz ⟨rfl, hb⟩; have HBA := Aside0.mk hb; clear hb))
      go_ret
      exact ⟨rfl, below_step HB1.out HBA.out⟩
    | true =>
      have HFEW := Aside0.mk (hfw true)
      have HFQ := Aside0.mk (show unicodetextlaw52_few.f 20 l1 = some true by rw [spFew_ok, hb1])
      have HTX := Aside0.mk (And.intro h1 hb1)
      have HF := Aside0.mk hf
      clear hfw hb1 hf h1
      by_cases hd : checkS l0 = 0
      · have HD := Aside0.mk hd
        have hre := plReach_ok l0 300 HF.out (by decide)
        rw [spDataS hd] at hre
        have hah : spAh l0 = (max 1 (reachS l0).2).toNat := rfl
        obtain ⟨r1, hr1⟩ : ∃ r, r = (reachS l0).1 := ⟨_, rfl⟩
        obtain ⟨r2, hr2⟩ : ∃ r, r = (reachS l0).2 := ⟨_, rfl⟩
        have hrr : reachS l0 = (r1, r2) := by rw [hr1, hr2]
        rw [← hr2] at hah
        rw [hrr] at hre
        have HRE := Aside0.mk hre
        have HAH := Aside0.mk (show (if r2 < 1 then (1 : Int) else r2) = (spAh l0 : Int) by rw [hah]; split <;> omega)
        clear hre hr1 hr2 hrr hd hah
        go_enter Try.func7, Try.ntmps7
        go_wp2_with (first | (go_at_call 10; (with_reducible refine (HSM.out _ HR.out HC.out).mono ?_); rintro e w1 ⟨rfl, hb⟩; have HB := Aside0.mk hb; clear hb) | (go_at_call 11; (with_reducible refine (HFEW.out _ (Kd.C_below HT.out HB.out) HC1.out HFQ.out).mono ?_); rintro e w2 ⟨rfl, hb⟩; have HB1 := Aside0.mk (below_step HB.out hb.below); clear hb) | (go_at_call 13; (with_reducible refine (spStNew A0 c0 l0 _ HF.out (Kd.C_below HR.out HB1.out) HC.out HD.out).mono ?_); rintro e w3 ⟨b, rfl, hs, hlb, hb⟩; have HS := Aside0.mk (hs.mono (fun k hk => hk.2)); have HLB := Aside0.mk (Nat.le_trans HB1.out.size hlb); have HB3 := Aside0.mk (below_step HB1.out hb); clear hb hs hlb) | (go_at_call 24; (with_reducible refine (unicodetextref51_Reach.calls 300 A0 c0 l0 r1 r2 _ (Kd.C_below HR.out HB3.out) HC.out HRE.out).mono ?_); rintro e w4 ⟨rfl, hb⟩; have HB4 := Aside0.mk hb; clear hb) | (go_at_call 12; (with_reducible refine (awake_calls _).mono ?_); rintro e wz ⟨rfl, hb⟩; have HBA := Aside0.mk hb; clear hb))
        have HS0 := Aside0.mk ((St2.start (w := w) HS.out HLB.out HB3.out).below HB4.out)
        go_loopg [9, 10] (l1.length + 1) (fun kq v9 iv wr => ∃ (i a : Nat), iv = .int .i64 i ∧ Aside0 (i ≤ l1.length ∧ l1.length + 1 ≤ i + kq) ∧ Aside0 (St2 w wr b v9 (.slice none 0 0) (l1.take i).flatten [] (l1.take i).flatten a l0) ∧ Aside0 (a ≤ (l1.take i).flatten.length))
        case atStart => exact ⟨0, 0, rfl, ⟨Nat.zero_le _, by omega⟩, HS0, ⟨Nat.zero_le _⟩⟩
        case round =>
          obtain ⟨i, a, rfl, HK, HST, HO⟩ := hrel
          have hsp := spOk l0 HF.out (spDataS HD.out)
          by_cases hlt : i < l1.length
          · cases gk with
            | zero => have := HK.out; omega
            | succ k1 =>
              have hbd : l1.length ≤ 8 := (spFewB_spec HTX.out.2).1
              have hdl : decide ((i : Int) < (l1.length : Int)) = true := decide_eq_true (by omega)
              have hwi : wrap64 ((i : Int) + 1) = ((i + 1 : Nat) : Int) := by unfold wrap64; omega
              have hp1 : (0 ≤ (i : Int)) = True := eq_true (by omega)
              have hp2 : ((i : Int) < (l1.length : Int)) = True := eq_true (by omega)
              obtain ⟨e1, e2, e3, e4⟩ := spText_at HTX.out.1 HTX.out.2 i hlt
              obtain ⟨ad, A2, c2, e5, x0, x1, x2⟩ := at_L10 (Kd.C_below HT.out HST.out.bel) (i : Int) (by omega) (by omega)
              cases e5
              rw [Int.toNat_natCast] at x0
              obtain ⟨T, hTT⟩ : ∃ T, T = (l1.take i).flatten := ⟨_, rfl⟩
              rw [← hTT] at HST HO e1 e4
              have hwr := spSt2Write b u9 (.slice none 0 0) T [] T a l0 A2 c2 (rd_L10 l1 (i : Int)) wr HF.out HD.out HST.out e2 (by omega) x2 x1
              have hend := spRun_end l0 (T ++ rd_L10 l1 (i : Int)) (spAh l0) hsp.one hsp.ahp a (by rw [List.length_append]; have := HO.out; omega)
              obtain ⟨wl, a2, hrun⟩ : ∃ wl a2, spRun l0 (T ++ rd_L10 l1 (i : Int)) (spAh l0) a = (wl, a2) := ⟨_, _, rfl⟩
              rw [hrun] at hwr hend
              have HWR := Aside0.mk hwr
              have HE4 := Aside0.mk e4
              obtain ⟨T2, hT2⟩ : ∃ T2, T2 = T ++ rd_L10 l1 (i : Int) := ⟨_, rfl⟩
              have HT2 := Aside0.mk hT2
              rw [← hT2] at hend e1 e4
              have HE1 := Aside0.mk e1
              obtain ⟨P, hP⟩ : ∃ P, P = T2.drop a2 := ⟨_, rfl⟩
              have HP := Aside0.mk hP
              have hPl : P.length + a2 = T2.length := by rw [hP, List.length_drop]; omega
              have HEND := Aside0.mk hend.2.2
              have hwa : wrap64 ((T2.length : Int) - (P.length : Int)) = (a2 : Int) := by unfold wrap64; omega
              have hq1 : decide ((P.length : Int) ≥ (spAh l0 : Int)) = false := decide_eq_false (by omega)
              have hq2 : decide ((P.length : Int) > (T2.length : Int)) = false := decide_eq_false (by omega)
              have hq3 : (P.length < spAh l0) = True := eq_true (by omega)
              have hq4 : (P.length ≤ T2.length) = True := eq_true (by omega)
              have hq5 : (spAh l0 ≤ P.length) = False := eq_false (by omega)
              have hq6 : (T2.length < P.length) = False := eq_false (by omega)
              obtain ⟨P2, hP2⟩ : ∃ P2, P2 = P := ⟨_, rfl⟩
              have hPl2 : P2.length = T2.length - a2 := by rw [hP2]; omega
              have HQC := Aside0.mk (fun A7 c7 B6 d6 => unicodetextref01_Equal.calls 100000 A7 c7 P B6 d6 P2 true)
              rw [hPl2] at HQC
              have HPL2 := Aside0.mk hPl2
              have HP2 := Aside0.mk hP2
              have hs1 : (0 ≤ (a2 : Int)) = True := eq_true (by omega)
              have hs2 : ((a2 : Int) ≤ (T2.length : Int)) = True := eq_true (by omega)
              have HEQ := Aside0.mk (show unicodetextref01_Equal.f 100000 P P2 = some true by rw [plEqual_ok _ _ _ (by omega) (by omega), hP2]; simp)
              have HPL := Aside0.mk hPl
              clear e1 e2 e3 e4 x1 x2 hwr hend hrun hbd hsp hTT hT2 hP hPl hP2 hPl2
              go_upto_region 16 with (first | (go_at_call 14; (with_reducible refine HWR.out.mono ?_); rintro e w5 ⟨A5, c5, rfl, hv5, hs5, hg5⟩; obtain ⟨ad5, A9, c9, e9, y0, y1, y2⟩ := at_L10 (Kd.C_below HT.out hs5.bel) (i : Int) (by omega) (by omega); cases e9; rw [Int.toNat_natCast] at y0; have HY1 := Aside0.mk y1; have HY2 := Aside0.mk y2; have HS5 := Aside0.mk hs5; clear hv5 hs5 hg5 x0 y1 y2) | (at_builtin; go_loud (refine Kd.R_append_rows (Kd.int .i64) (w0 := w) w.heap.size rfl (.tmp 61) (.tmp 65) 31 3 (.int .i64 0) 8 rfl Try.underlying31 info3 rfl (by decide) (by omega) u9 T (rd_L10 l1 (i : Int)) _ _ _ (fun _ => True) (fun _ => False) rfl rfl ?aO ?aR (fun _ _ h => h) (fun _ h => h.elim) ?aF ?aB ?aS ?aL ?_; (case aR => exact HY2.out); (case aB => exact HS5.out.bel); (case aF => exact (fun _ _ => trivial)); (case aO => exact HS5.out.h7); (case aS => exact HS5.out.bel.size); (case aL => have h1_ := HE4.out; simp only [List.length_append] at h1_; omega); intro v6 w6 ho hb hg hat; have hs6 := HS5.out.app7 ho hb hg hat; rw [← HT2.out] at hs6 ho; obtain ⟨B6, d6, rfl⟩ := Kd.R_slice ho; have HS6 := Aside0.mk hs6; clear ho hb hg hat hs6)) | (go_at_call 20; (with_reducible refine (spSt2Pend b _ _ _ _ _ _ l0 _ HF.out HS6.out).mono ?_); rintro e w7 ⟨A7, c7, rfl, hv7, hs7⟩; rw [← HP.out] at hv7; rw [← HP.out]; have HV7 := Aside0.mk hv7; have HS7 := Aside0.mk hs7; clear hv7 hs7))
              have hmx := HAH.out
              have hcut := Kd.C_drop (m := a2) (Kd.R_reads' HS7.out.h7).2.2 HEND.out (Kd.R_reads' HS7.out.h7).2.1
              rw [show a2 * (Kd.int .i64).sz = a2 from Nat.mul_one _, ← HP.out, ← HP2.out, HPL2.out] at hcut
              by_cases hct : d6 = a2
              · rw [if_pos hct] at hcut
                have HCUT := Aside0.mk hcut
                have HCC := Aside0.mk (show T2.length - a2 ≤ 0 by have := HPL.out; have := (Kd.R_reads' HS7.out.h7).2.1; omega)
                have hctT : (d6 = a2) = True := eq_true hct
                clear hcut
                go_wp2_with (first | (go_at_call 16; (with_reducible refine (HQC.out A7 c7 _ _ _ (Kd.R_reads' HV7.out).2.2 (Kd.R_reads' HV7.out).2.1 HCUT.out HCC.out HEQ.out).mono ?_); rintro e we ⟨rfl, hde⟩; have HBE := Aside0.mk (hde.below); clear hde))
                go_roundg k1
                case measure => omega
                case rel => exact ⟨i + 1, a2, by rw [hwi], ⟨hlt, by have := HK.out; omega⟩, ⟨by rw [HE1.out]; first | exact HS7.out.below HBE.out | exact (hct ▸ HS7.out.below HBE.out)⟩, ⟨by rw [HE1.out]; exact HEND.out⟩⟩
              · rw [if_neg hct] at hcut
                have HCUT := Aside0.mk hcut
                have HCC := Aside0.mk (show T2.length - a2 ≤ d6 - a2 by have := HPL.out; have := (Kd.R_reads' HS7.out.h7).2.1; omega)
                have hctF : (d6 = a2) = False := eq_false hct
                clear hcut hct
                go_wp2_with (first | (go_at_call 16; (with_reducible refine (HQC.out A7 c7 _ _ _ (Kd.R_reads' HV7.out).2.2 (Kd.R_reads' HV7.out).2.1 HCUT.out HCC.out HEQ.out).mono ?_); rintro e we ⟨rfl, hde⟩; have HBE := Aside0.mk (hde.below); clear hde))
                go_roundg k1
                case measure => omega
                case rel => exact ⟨i + 1, a2, by rw [hwi], ⟨hlt, by have := HK.out; omega⟩, ⟨by rw [HE1.out]; first | exact HS7.out.below HBE.out | exact (hct ▸ HS7.out.below HBE.out)⟩, ⟨by rw [HE1.out]; exact HEND.out⟩⟩
          · obtain rfl : i = l1.length := by have := HK.out; omega
            have hdl : decide ((l1.length : Int) < (l1.length : Int)) = false := decide_eq_false (by omega)
            clear hsp hlt
            go_wp2_with (first | (go_at_call 12; (with_reducible refine (awake_calls _).mono ?_); rintro e wz ⟨rfl, hb⟩; have HBA := Aside0.mk hb; clear hb))
            go_ret
            exact ⟨rfl, below_step HST.out.bel HBA.out⟩
      · have HD := Aside0.mk hd
        have hq : (checkS l0 = 0) = False := eq_false hd
        have hq2 : (checkS l0 == 0) = false := by simpa using hd
        have hq3 : decide (checkS l0 = 0) = false := decide_eq_false hd
        clear hd
        go_enter Try.func7, Try.ntmps7
        go_wp2_with (first | (go_at_call 10; (with_reducible refine (HSM.out _ HR.out HC.out).mono ?_); rintro e w1 ⟨rfl, hb⟩; have HB := Aside0.mk hb; clear hb) | (go_at_call 11; (with_reducible refine (HFEW.out _ (Kd.C_below HT.out HB.out) HC1.out HFQ.out).mono ?_); rintro e w2 ⟨rfl, hb⟩; have HB1 := Aside0.mk (below_step HB.out hb.below); clear hb) | (go_at_call 13; (with_reducible refine (sNew_bad A0 c0 l0 _ HF.out (Kd.C_below HR.out HB1.out) HC.out HD.out).mono ?_); rintro e w3 ⟨rfl, hb⟩; have HB3 := Aside0.mk (below_step HB1.out hb); clear hb) | (go_at_call 12; (with_reducible refine (awake_calls _).mono ?_); rintro e wz ⟨rfl, hb⟩; have HBA := Aside0.mk hb; clear hb))
        go_ret
        exact ⟨rfl, below_step HB3.out HBA.out⟩
end Go.Proofs.Ytcpicopaobhlcaa.Q
end
