/- Lemmas, printed and written for this claim: part 4. -/
import Derived.Test.YtcpicopaobhlcaaG2
import Derived.Test.YtcpicopaobhlcaaG3
import Derived.RangeFuncNested
import Derived.RangeFuncBound
import Derived.RangeFuncCalls
import Derived.RangeFuncLeaves
import Derived.RangeFuncBox
import Derived.Shelf.Abstract
import Derived.OwnWalkIn
import Derived.TacticsInMore
import Derived.LoopNIn
import Derived.LoopIn
import Derived.Maps.AppendAt
import Derived.WalkKit
import Derived.Shelf.SlSorted.Search
import Derived.Shelf.Lay
import Derived.RegionTactic
import Derived.Maps.Own
import Derived.Maps.OwnSet
import Derived.Maps.OwnOps
import Derived.Maps.Views
import Derived.Maps.Keyed
section
namespace Go.Proofs.Ytcpicopaobhlcaa.Q
open Go.RowKit Go.Proofs.YtcpicopaobhlcaaW.PrintWords Go.Proofs.YtcpicopaobhlcaaW.PrintLast Go.Proofs.YtcpicopaobhlcaaW.PrintMore
set_option linter.unusedVariables false
theorem rdG_mid (pre : List Rg) (x : Rg) (rest : List Rg) : rd_T69 (pre ++ x :: rest) (pre.length : Int) = x := by
  unfold rd_T69
  rw [Int.toNat_natCast, List.getD_eq_getElem?_getD, List.getElem?_append_right (Nat.le_refl _), Nat.sub_self]
  rfl
theorem wrap_suc {n : Nat} (h : n < 1000000000) : wrap64 ((n : Int) + 1) = ((n + 1 : Nat) : Int) := by unfold wrap64; omega
theorem valid_go : ∀ (xs ys px py : List Rg) (k : Nat), px.length = py.length → xs.length = ys.length → (px ++ xs).length < 1000000000 → xs.length + 1 ≤ k →
    cpset_Valid.l0 k (px ++ xs) ((px ++ xs).length : Int) (px.length : Int) (py ++ ys) = some (decide (xs.map toP = ys.map toP))
  | [], [], px, py, k, h1, h2, h3, h4 => by
    obtain ⟨k, rfl⟩ : ∃ j, k = j + 1 := ⟨k - 1, by omega⟩
    rw [cpset_Valid.l0, if_neg (by simp)]
    rfl
  | x :: xs, y :: ys, px, py, k, h1, h2, h3, h4 => by
    obtain ⟨k, rfl⟩ : ∃ j, k = j + 1 := ⟨k - 1, by omega⟩
    have hp : px.length < 1000000000 := by simp at h3; omega
    have ih := valid_go xs ys (px ++ [x]) (py ++ [y]) k (by simp [h1]) (by simpa using h2) (by simpa using h3) (by simp at h4; omega)
    have ex : (px ++ [x]) ++ xs = px ++ x :: xs := by simp
    have ey : (py ++ [y]) ++ ys = py ++ y :: ys := by simp
    have el : ((px ++ [x]).length : Int) = ((px.length + 1 : Nat) : Int) := by simp
    rw [ex, ey, el] at ih
    have e1 : rd_T69 (py ++ y :: ys) (px.length : Int) = y := by rw [h1]; exact rdG_mid _ _ _
    rw [cpset_Valid.l0, if_pos (by simp; omega), if_pos (by omega), if_pos (by simp; omega), if_pos (by simp at h2 ⊢; omega), rdG_mid, e1, wrap_suc hp]
    rw [ih]
    by_cases ha : x.f0 = y.f0
    · by_cases hb : x.f1 = y.f1
      · rw [if_neg (by simp [ha, hb])]
        simp [toP, ha, hb]
      · rw [if_pos (by simp [hb])]
        simp [toP, hb]
    · rw [if_pos (by simp [ha])]
      simp [toP, ha]
  | [], _ :: _, _, _, _, _, h2, _, _ => by simp at h2
  | _ :: _, [], _, _, _, _, h2, _, _ => by simp at h2
def mkRS (xs : List Rg) : List Rg := (CpM.make (xs.map toP)).map ofP
theorem valid_ok (s : St) (h : s.f0.length < 1000000000) : cpset_Valid.f (s.f0.length + 1) s.f0 = some (validS s) := by
  have hm : cpset_Make.f s.f0 = some (mkRS s.f0) := by unfold cpset_Make.f; rw [if_pos h]; rfl
  unfold cpset_Valid.f
  rw [hm]
  show (if ((mkRS s.f0).length : Int) = (s.f0.length : Int) then _ else _) = _
  unfold validS
  have e : (mkRS s.f0).map toP = CpM.make (s.f0.map toP) := toP_ofP _
  by_cases hl : (mkRS s.f0).length = s.f0.length
  · rw [if_pos (by omega)]
    have := valid_go (mkRS s.f0) s.f0 [] [] (s.f0.length + 1) rfl hl (by simpa [hl] using h) (by omega)
    rw [List.nil_append, List.nil_append, e] at this
    exact this.trans (congrArg some (decide_eq_decide.2 eq_comm))
  · rw [if_neg (by omega), decide_eq_false]
    intro hh
    rw [← e] at hh
    exact hl (by simpa using (congrArg List.length hh).symm)
def transrule_checkRule.f (k : Nat) (l0_0 l0_1 l0_2 : List S45) (l0_3 : List S59) : Option Int :=
  if okRule ⟨l0_0, l0_1, l0_2, l0_3⟩ = true then some (oneS ⟨l0_0, l0_1, l0_2, l0_3⟩) else none
/-- max of three whole numbers. -/
theorem run_max3 (w : World) (a b c : Int) : Sem.run Try.prog (Builtin.max_ #[3, 3, 3] 3 #[.int .i64 a, .int .i64 b, .int .i64 c]) w = .ok (.int .i64 (max a (max b c))) w := by
  simp [Builtin.max_, Builtin.max2]
  split <;> split <;> omega
theorem cpvalid_eq (c : Int) : codepoint_Valid.f c = some (decide (0 ≤ c ∧ c ≤ 1114111)) := by
  unfold codepoint_Valid.f
  split
  · rename_i h; simp only [ge_iff_le] at h; simp [h]
  · rename_i h; simp only [ge_iff_le] at h; simp [h]
def cond1 (x : Ru) : Bool := decide (x.f1.length < 1 ∨ 8 < x.f1.length ∨ 8 < x.f0.length ∨ 8 < x.f2.length ∨ 16 < x.f3.length)
set_option maxHeartbeats 4000000 in
set_option maxRecDepth 100000 in
theorem transrule_checkRule.calls (k : Nat) (A0_0 : Option Addr) (c0_0 : Nat) (l0_0 : List (S45)) (A0_1 : Option Addr) (c0_1 : Nat) (l0_1 : List (S45)) (A0_2 : Option Addr) (c0_2 : Nat) (l0_2 : List (S45)) (A0_3 : Option Addr) (c0_3 : Nat) (l0_3 : List (S59)) (r : Int) (w : World)
    (hr0_0 : Kd.C k45 w A0_0 l0_0.length l0_0) (hc0_0 : l0_0.length ≤ c0_0) (hr0_1 : Kd.C k45 w A0_1 l0_1.length l0_1) (hc0_1 : l0_1.length ≤ c0_1) (hr0_2 : Kd.C k45 w A0_2 l0_2.length l0_2) (hc0_2 : l0_2.length ≤ c0_2) (hr0_3 : Kd.C k59 w A0_3 l0_3.length l0_3) (hc0_3 : l0_3.length ≤ c0_3) (h : transrule_checkRule.f k l0_0 l0_1 l0_2 l0_3 = some r) :
    Calls Try.prog 41 #[.agg #[.slice A0_0 l0_0.length c0_0, .slice A0_1 l0_1.length c0_1, .slice A0_2 l0_2.length c0_2, .slice A0_3 l0_3.length c0_3]] w fun e w' => e = .returned (.int .i64 r) ∧ Below w.heap.size w w' := by
  have hn : okRule ⟨l0_0, l0_1, l0_2, l0_3⟩ = true ∧ oneS ⟨l0_0, l0_1, l0_2, l0_3⟩ = r := by
    unfold transrule_checkRule.f at h
    split at h
    · rename_i hl; exact ⟨hl, Option.some.inj h⟩
    · cases h
  have HOK := Aside0.mk hn.1
  have HRES := Aside0.mk hn.2
  have H0 := Aside0.mk hr0_0
  have H1 := Aside0.mk hr0_1
  have H2 := Aside0.mk hr0_2
  have H3 := Aside0.mk hr0_3
  clear hn h hr0_0 hr0_1 hr0_2 hr0_3 hc0_0 hc0_1 hc0_2 hc0_3
  go_enter Try.func41, Try.ntmps41
  by_cases h1 : l0_1.length < 1
  · have hr : r = 2 := by rw [← HRES.out]; unfold oneS; rw [if_pos (.inl h1)]
    have hd : decide ((l0_1.length : Int) < 1) = true := decide_eq_true (by omega)
    have HR := Aside0.mk hr
    clear hr h1
    go_wp2
    go_ret
    exact ⟨by rw [HR.out]; rfl, below_alloc (Below.refl _ w) _⟩
  · have hd : decide ((l0_1.length : Int) < 1) = false := decide_eq_false (by omega)
    have hM : ∀ w, Sem.run Try.prog (Builtin.max_ #[3, 3, 3] 3 #[.int .i64 (l0_1.length : Int), .int .i64 (l0_0.length : Int), .int .i64 (l0_2.length : Int)]) w = .ok (.int .i64 (max (l0_1.length : Int) (max (l0_0.length : Int) (l0_2.length : Int)))) w := fun w => run_max3 w _ _ _
    generalize hMM : max (l0_1.length : Int) (max (l0_0.length : Int) (l0_2.length : Int)) = M at hM
    by_cases h2 : M > 8
    · have hr : r = 2 := by rw [← HRES.out]; unfold oneS; simp only; rw [if_pos (by omega)]
      have hd2 : decide (M > 8) = true := decide_eq_true h2
      have HR := Aside0.mk hr
      clear hr h1 h2 hMM
      go_wp2
      go_ret
      exact ⟨by rw [HR.out]; rfl, below_alloc (Below.refl _ w) _⟩
    · have hd2 : decide (M > 8) = false := decide_eq_false h2
      by_cases h3 : (l0_3.length : Int) > 16
      · have hr : r = 2 := by rw [← HRES.out]; unfold oneS; simp only; rw [if_pos (by omega)]
        have hd3 : decide ((l0_3.length : Int) > 16) = true := decide_eq_true h3
        have HR := Aside0.mk hr
        clear hr h1 h2 h3 hMM
        go_wp2
        go_ret
        exact ⟨by rw [HR.out]; rfl, below_alloc (Below.refl _ w) _⟩
      · have hd3 : decide ((l0_3.length : Int) > 16) = false := decide_eq_false h3
        have HC1 : Aside0 (¬ (l0_1.length < 1 ∨ 8 < l0_1.length ∨ 8 < l0_0.length ∨ 8 < l0_2.length ∨ 16 < l0_3.length)) := ⟨by omega⟩
        clear h1 h2 h3 hMM
        go_upto_region 3 with (fail)
        have HSZ := Aside0.mk HOK.out
        have hok := HOK.out
        simp only [okRule, Bool.and_eq_true, decide_eq_true_eq, List.all_eq_true] at hok
        have HSC := Aside0.mk (sets_calls A0_0 c0_0 l0_0 A0_1 c0_1 l0_1 A0_2 c0_2 l0_2 (.slice A0_3 l0_3.length c0_3) (w.alloc (.cells #[.slice A0_0 l0_0.length c0_0, .slice A0_1 l0_1.length c0_1, .slice A0_2 l0_2.length c0_2, .slice A0_3 l0_3.length c0_3] 41)) rfl (Kd.C_alloc H0.out _) (Kd.C_alloc H1.out _) (Kd.C_alloc H2.out _) (by omega))
        have hall : ∀ s ∈ l0_0 ++ l0_1 ++ l0_2, s.f0.length ≤ 12 := by
          intro s hs
          simp only [List.mem_append] at hs
          rcases hs with (hs | hs) | hs
          · exact of_decide_eq_true (hok.2.1 s hs)
          · exact of_decide_eq_true (hok.2.2.1 s hs)
          · exact of_decide_eq_true (hok.2.2.2 s hs)
        have HALL := Aside0.mk hall
        have HL3 : Aside0 (l0_3.length < 100000000) := ⟨hok.1.2.2.2⟩
        have HSL : Aside0 ((l0_0 ++ l0_1 ++ l0_2).length < 1000000000) := ⟨by simp only [List.length_append]; omega⟩
        clear hok hall HOK HSZ H0 H1 H2 hM
        generalize hss : l0_0 ++ l0_1 ++ l0_2 = ss at HSC HALL HSL
        have HSS := Aside0.mk hss
        clear hss
        have HXB := Aside0.mk (heap_alloc_new w (.cells #[.slice A0_0 l0_0.length c0_0, .slice A0_1 l0_1.length c0_1, .slice A0_2 l0_2.length c0_2, .slice A0_3 l0_3.length c0_3] 41))
        go_wp2_with (go_at_call 51; (with_reducible refine HSC.out.mono ?_); rintro e w1 ⟨As1, cs1, rfl, hlc1, hcs, hb⟩; have HCS := Aside0.mk hcs; have HB1 := Aside0.mk hb; clear hcs hb hlc1)
        have HXB1 := Aside0.mk (blk_below HXB.out HB1.out)
        have HBW := Aside0.mk (below_step (below_alloc (Below.refl _ w) _) HB1.out)
        clear HSC HXB HB1
        go_loopw [34] (fun i wr => ∃ (k : Nat), i = .int .i64 k ∧ Aside0 (k ≤ ss.length) ∧ Aside0 ((ss.take k).any (fun s => !validS s || decide (s.f0.length = 0)) = false) ∧ Aside0 (Below w1.heap.size w1 wr)) (fun i _ => ss.length - (intOf i).toNat)
        case atStart => exact ⟨0, rfl, ⟨Nat.zero_le _⟩, ⟨rfl⟩, ⟨Below.refl _ _⟩⟩
        case round =>
          obtain ⟨k, rfl, HK, HAN, HB⟩ := hrel
          by_cases hlt : k < ss.length
          · obtain ⟨ad, As, cs, e, hx0, hlc, hsr⟩ := at_T45 HCS.out (k : Int) (by omega) (by omega)
            cases e
            rw [Int.toNat_natCast] at hx0
            have hc0 := (HB.out.cell (World.block_lt_of_cell? w1 _ hx0)).trans hx0
            have HSR := Aside0.mk (Kd.C_below hsr HB.out)
            clear hx0 hsr
            have hst : ss.take (k + 1) = ss.take k ++ [rd_T45 ss (k : Int)] := by
              unfold rd_T45
              rw [Int.toNat_natCast, List.getD_eq_getElem?_getD, List.take_add_one, List.getElem?_eq_getElem hlt]
              rfl
            have hmem : rd_T45 ss (k : Int) ∈ ss := by unfold rd_T45; rw [Int.toNat_natCast, List.getD_eq_getElem?_getD, List.getElem?_eq_getElem hlt]; exact List.getElem_mem hlt
            have HSM := Aside0.mk (HALL.out _ hmem)
            have HMEM := Aside0.mk hmem
            have HST := Aside0.mk hst
            clear hmem hst
            generalize rd_T45 ss (k : Int) = s at *
            have hp : (0 ≤ (k : Int)) = True := eq_true (by omega)
            have hw : wrap64 ((k : Int) + 1) = (k : Int) + 1 := by have := HSL.out; unfold wrap64; omega
            have HV := Aside0.mk (valid_ok s (by have := HSM.out; omega))
            have hnx : (ss.take (k + 1)).any (fun s => !validS s || decide (s.f0.length = 0)) = (!validS s || decide (s.f0.length = 0)) := by rw [HST.out, List.any_append, HAN.out]; simp
            have HNX := Aside0.mk hnx
            have hbad : (!validS s || decide (s.f0.length = 0)) = true → r = 11 := fun hb => by
              rw [← HRES.out]
              unfold oneS
              simp only
              rw [if_neg HC1.out, if_pos]
              rw [HSS.out, List.any_eq_true]
              exact ⟨s, HMEM.out, hb⟩
            have HBAD := Aside0.mk hbad
            clear hnx hbad
            generalize validS s = b at HV HNX HBAD
            cases b with
            | false =>
              have HR := Aside0.mk (HBAD.out rfl)
              go_wp2_with (go_at_call 52; (with_reducible refine (cpset_Valid.calls (s.f0.length + 1) _ _ s.f0 false _ ?s1 hlc HV.out).mono ?_); (case s1 => exact Kd.C_alloc HSR.out _); rintro e w2 ⟨rfl, hb⟩; have hbx := pw_cell_below hb ((blk_cell (heap_alloc_new wr (.cells #[.slice As s.f0.length cs] 45)) 0).trans rfl); have HB2 := Aside0.mk (below_step (below_alloc HB.out _) hb); clear hb)
              go_ret
              exact ⟨by rw [HR.out]; rfl, below_step HBW.out HB2.out⟩
            | true =>
              by_cases hz : s.f0.length = 0
              · have HR := Aside0.mk (HBAD.out (by rw [decide_eq_true hz]; rfl))
                have hzz : ((s.f0.length : Int) == 0) = true := by rw [hz]; rfl
                clear hz
                go_wp2_with (go_at_call 52; (with_reducible refine (cpset_Valid.calls (s.f0.length + 1) _ _ s.f0 true _ ?s1 hlc HV.out).mono ?_); (case s1 => exact Kd.C_alloc HSR.out _); rintro e w2 ⟨rfl, hb⟩; have hbx := pw_cell_below hb ((blk_cell (heap_alloc_new wr (.cells #[.slice As s.f0.length cs] 45)) 0).trans rfl); have HB2 := Aside0.mk (below_step (below_alloc HB.out _) hb); clear hb)
                go_ret
                exact ⟨by rw [HR.out]; rfl, below_step HBW.out HB2.out⟩
              · have HN2 : Aside0 ((ss.take (k + 1)).any (fun s => !validS s || decide (s.f0.length = 0)) = false) := ⟨by rw [HNX.out, decide_eq_false hz]; rfl⟩
                have hzz : ((s.f0.length : Int) == 0) = false := by rw [beq_eq_false_iff_ne]; omega
                clear hz
                go_wp2_with (go_at_call 52; (with_reducible refine (cpset_Valid.calls (s.f0.length + 1) _ _ s.f0 true _ ?s1 hlc HV.out).mono ?_); (case s1 => exact Kd.C_alloc HSR.out _); rintro e w2 ⟨rfl, hb⟩; have hbx := pw_cell_below hb ((blk_cell (heap_alloc_new wr (.cells #[.slice As s.f0.length cs] 45)) 0).trans rfl); have HB2 := Aside0.mk (below_step (below_alloc HB.out _) hb); clear hb)
                go_roundw
                case rel => exact ⟨k + 1, by rw [hw]; rfl, ⟨hlt⟩, HN2, HB2⟩
                case measure => rw [hw]; simp only [intOf]; omega
          · obtain rfl : k = ss.length := by have := HK.out; omega
            rw [List.take_length] at HAN
            have hxb := blk_below HXB1.out HB.out
            have hx0 : wr.cell? ⟨w.heap.size, 0, none⟩ = some (.slice A0_0 l0_0.length c0_0) := (blk_cell hxb 0).trans rfl
            have hx1 : wr.cell? ⟨w.heap.size, 1, none⟩ = some (.slice A0_1 l0_1.length c0_1) := (blk_cell hxb 1).trans rfl
            have hx3 : wr.cell? ⟨w.heap.size, 3, none⟩ = some (.slice A0_3 l0_3.length c0_3) := (blk_cell hxb 3).trans rfl
            have hbwr := below_step HBW.out HB.out
            have H3' := Aside0.mk (Kd.C_below H3.out hbwr)
            have HX1 := Aside0.mk hx1
            have HBWR := Aside0.mk hbwr
            clear hxb hbwr HBW HB HXB1 HCS HSL HALL H3 hd hd2 hd3 hx0 hx1
            obtain ⟨w5, rfl⟩ : ∃ w5, w5 = wr := ⟨_, rfl⟩
            go_wp2
            go_loopw [51] (fun i wq => ∃ (k : Nat), i = .int .i64 k ∧ Aside0 (k ≤ l0_3.length) ∧ Aside0 ((l0_3.take k).any (pieceBad l0_1.length) = false) ∧ Aside0 (Below w5.heap.size w5 wq)) (fun i _ => l0_3.length - (intOf i).toNat)
            case atStart => exact ⟨0, rfl, ⟨Nat.zero_le _⟩, ⟨rfl⟩, ⟨Below.refl _ _⟩⟩
            case round =>
              obtain ⟨k, rfl, HK, HAP, HB⟩ := hrel
              by_cases hlt : k < l0_3.length
              · obtain ⟨ad, e, hy0, hy1⟩ := at_T59 H3'.out (k : Int) (by omega) (by omega)
                cases e
                rw [Int.toNat_natCast] at hy0 hy1
                have hc0 := (HB.out.cell (World.block_lt_of_cell? w5 _ hy0)).trans hy0
                have hc1 := (HB.out.cell (World.block_lt_of_cell? w5 _ hy1)).trans hy1
                have hx1 := (HB.out.cell (World.block_lt_of_cell? w5 _ HX1.out)).trans HX1.out
                have hst : l0_3.take (k + 1) = l0_3.take k ++ [rd_T59 l0_3 (k : Int)] := by
                  unfold rd_T59
                  rw [Int.toNat_natCast, List.getD_eq_getElem?_getD, List.take_add_one, List.getElem?_eq_getElem hlt]
                  rfl
                have hmem : rd_T59 l0_3 (k : Int) ∈ l0_3 := by unfold rd_T59; rw [Int.toNat_natCast, List.getD_eq_getElem?_getD, List.getElem?_eq_getElem hlt]; exact List.getElem_mem hlt
                have HNX : Aside0 ((l0_3.take (k + 1)).any (pieceBad l0_1.length) = pieceBad l0_1.length (rd_T59 l0_3 (k : Int))) := ⟨by rw [hst, List.any_append, HAP.out]; simp⟩
                have HBAD : Aside0 (pieceBad l0_1.length (rd_T59 l0_3 (k : Int)) = true → r = 1) := ⟨fun hb => by
                  rw [← HRES.out]
                  unfold oneS
                  simp only
                  rw [if_neg HC1.out, if_neg (by rw [HSS.out, HAN.out]; decide), if_pos (List.any_eq_true.2 ⟨_, hmem, hb⟩)]⟩
                clear hst hmem hy0 hy1
                generalize rd_T59 l0_3 (k : Int) = p at *
                have hx1b := pw_cell_below (below_alloc (Below.refl _ wr) (.cells #[.int .i64 p.f0, .int .i64 p.f1] 59)) hx1
                have hp : (0 ≤ (k : Int)) = True := eq_true (by omega)
                have hw : wrap64 ((k : Int) + 1) = (k : Int) + 1 := by have := HL3.out; unfold wrap64; omega
                by_cases h1 : p.f0 = 0
                · have e1 : (p.f0 == 0) = true := by rw [h1]; rfl
                  have D1 := Aside0.mk (decide_eq_true h1)
                  by_cases h2 : 1 ≤ p.f1
                  · have d2 : decide (p.f1 ≥ 1) = true := decide_eq_true h2
                    have D2 := Aside0.mk (decide_eq_true h2)
                    by_cases h3 : p.f1 ≤ (l0_1.length : Int)
                    · have d3 : decide (p.f1 ≤ (l0_1.length : Int)) = true := decide_eq_true h3
                      have HPB : Aside0 (pieceBad l0_1.length p = false) := ⟨by unfold pieceBad; rw [D1.out, D2.out, d3]; rfl⟩
                      clear h1 h2 h3
                      go_wp2
                      go_roundw
                      case rel => exact ⟨k + 1, by rw [hw]; rfl, ⟨hlt⟩, ⟨by rw [HNX.out, HPB.out]⟩, ⟨by repeat (first | (with_reducible first | exact HB.out | apply below_alloc | apply pw_below_drewN | apply below_drew1) | exact HB.out)⟩⟩
                      case measure => rw [hw]; simp only [intOf]; omega
                    · have d3 : decide (p.f1 ≤ (l0_1.length : Int)) = false := decide_eq_false h3
                      have D3 := Aside0.mk d3
                      clear h1 h2 h3
                      by_cases h4 : p.f1 = 0
                      · have e4 : (p.f1 == 0) = true := by rw [h4]; rfl
                        have e4b : (p.f1 != 0) = false := by rw [h4]; rfl
                        have e4c : (!decide (p.f1 = 0)) = false := by rw [decide_eq_true h4]; rfl
                        have D4 : decide (p.f1 = 0) = true := decide_eq_true h4
                        have HV := Aside0.mk (cpvalid_eq p.f0)
                        by_cases h5 : 0 ≤ p.f0 ∧ p.f0 ≤ 1114111
                        · have D5 : (decide (0 ≤ p.f0) && decide (p.f0 ≤ 1114111)) = true := by rw [← Bool.decide_and]; exact decide_eq_true h5
                          rw [decide_eq_true h5] at HV
                          have HPB : Aside0 (pieceBad l0_1.length p = false) := ⟨by unfold pieceBad; rw [D1.out, D2.out, D3.out, D4, D5]; rfl⟩
                          clear D5 h4 h5
                          go_wp2_with (go_at_call 53; (with_reducible refine (codepoint_Valid.calls p.f0 true _ HV.out).mono ?_); rintro e w2 ⟨rfl, ⟨nd, rfl⟩⟩)
                          go_roundw
                          case rel => exact ⟨k + 1, by rw [hw]; rfl, ⟨hlt⟩, ⟨by rw [HNX.out, HPB.out]⟩, ⟨by repeat (first | (with_reducible first | exact HB.out | apply below_alloc | apply pw_below_drewN | apply below_drew1) | exact HB.out)⟩⟩
                          case measure => rw [hw]; simp only [intOf]; omega
                        · have D5 : (decide (0 ≤ p.f0) && decide (p.f0 ≤ 1114111)) = false := by rw [← Bool.decide_and]; exact decide_eq_false h5
                          rw [decide_eq_false h5] at HV
                          have HR := Aside0.mk (HBAD.out (show pieceBad l0_1.length p = true by unfold pieceBad; rw [D1.out, D2.out, D3.out, D4, D5]; rfl))
                          clear D5 h4 h5
                          go_wp2_with (go_at_call 53; (with_reducible refine (codepoint_Valid.calls p.f0 false _ HV.out).mono ?_); rintro e w2 ⟨rfl, ⟨nd, rfl⟩⟩)
                          go_ret
                          exact ⟨by rw [HR.out]; rfl, below_step HBWR.out (by repeat (first | (with_reducible first | exact HB.out | apply below_alloc | apply pw_below_drewN | apply below_drew1) | exact HB.out))⟩
                      · have e4 : (p.f1 == 0) = false := by rw [beq_eq_false_iff_ne]; exact h4
                        have e4b : (p.f1 != 0) = true := by rw [bne_iff_ne]; exact h4
                        have e4c : (!decide (p.f1 = 0)) = true := by rw [decide_eq_false h4]; rfl
                        have D4 : decide (p.f1 = 0) = false := decide_eq_false h4
                        have HR := Aside0.mk (HBAD.out (show pieceBad l0_1.length p = true by unfold pieceBad; rw [D1.out, D2.out, D3.out, D4]; rfl))
                        clear h4
                        go_wp2
                        go_ret
                        exact ⟨by rw [HR.out]; rfl, below_step HBWR.out (by repeat (first | (with_reducible first | exact HB.out | apply below_alloc | apply pw_below_drewN | apply below_drew1) | exact HB.out))⟩
                  · have d2 : decide (p.f1 ≥ 1) = false := decide_eq_false h2
                    have D2 : Aside0 (decide (1 ≤ p.f1) = false) := ⟨decide_eq_false h2⟩
                    clear h1 h2
                    by_cases h4 : p.f1 = 0
                    · have e4 : (p.f1 == 0) = true := by rw [h4]; rfl
                      have e4b : (p.f1 != 0) = false := by rw [h4]; rfl
                      have e4c : (!decide (p.f1 = 0)) = false := by rw [decide_eq_true h4]; rfl
                      have D4 : decide (p.f1 = 0) = true := decide_eq_true h4
                      have HV := Aside0.mk (cpvalid_eq p.f0)
                      by_cases h5 : 0 ≤ p.f0 ∧ p.f0 ≤ 1114111
                      · have D5 : (decide (0 ≤ p.f0) && decide (p.f0 ≤ 1114111)) = true := by rw [← Bool.decide_and]; exact decide_eq_true h5
                        rw [decide_eq_true h5] at HV
                        have HPB : Aside0 (pieceBad l0_1.length p = false) := ⟨by unfold pieceBad; rw [D1.out, D2.out, D4, D5]; rfl⟩
                        clear D5 h4 h5
                        go_wp2_with (go_at_call 53; (with_reducible refine (codepoint_Valid.calls p.f0 true _ HV.out).mono ?_); rintro e w2 ⟨rfl, ⟨nd, rfl⟩⟩)
                        go_roundw
                        case rel => exact ⟨k + 1, by rw [hw]; rfl, ⟨hlt⟩, ⟨by rw [HNX.out, HPB.out]⟩, ⟨by repeat (first | (with_reducible first | exact HB.out | apply below_alloc | apply pw_below_drewN | apply below_drew1) | exact HB.out)⟩⟩
                        case measure => rw [hw]; simp only [intOf]; omega
                      · have D5 : (decide (0 ≤ p.f0) && decide (p.f0 ≤ 1114111)) = false := by rw [← Bool.decide_and]; exact decide_eq_false h5
                        rw [decide_eq_false h5] at HV
                        have HR := Aside0.mk (HBAD.out (show pieceBad l0_1.length p = true by unfold pieceBad; rw [D1.out, D2.out, D4, D5]; rfl))
                        clear D5 h4 h5
                        go_wp2_with (go_at_call 53; (with_reducible refine (codepoint_Valid.calls p.f0 false _ HV.out).mono ?_); rintro e w2 ⟨rfl, ⟨nd, rfl⟩⟩)
                        go_ret
                        exact ⟨by rw [HR.out]; rfl, below_step HBWR.out (by repeat (first | (with_reducible first | exact HB.out | apply below_alloc | apply pw_below_drewN | apply below_drew1) | exact HB.out))⟩
                    · have e4 : (p.f1 == 0) = false := by rw [beq_eq_false_iff_ne]; exact h4
                      have e4b : (p.f1 != 0) = true := by rw [bne_iff_ne]; exact h4
                      have e4c : (!decide (p.f1 = 0)) = true := by rw [decide_eq_false h4]; rfl
                      have D4 : decide (p.f1 = 0) = false := decide_eq_false h4
                      have HR := Aside0.mk (HBAD.out (show pieceBad l0_1.length p = true by unfold pieceBad; rw [D1.out, D2.out, D4]; rfl))
                      clear h4
                      go_wp2
                      go_ret
                      exact ⟨by rw [HR.out]; rfl, below_step HBWR.out (by repeat (first | (with_reducible first | exact HB.out | apply below_alloc | apply pw_below_drewN | apply below_drew1) | exact HB.out))⟩
                · have e1 : (p.f0 == 0) = false := by rw [beq_eq_false_iff_ne]; exact h1
                  have D1 := Aside0.mk (decide_eq_false h1)
                  clear h1
                  by_cases h4 : p.f1 = 0
                  · have e4 : (p.f1 == 0) = true := by rw [h4]; rfl
                    have e4b : (p.f1 != 0) = false := by rw [h4]; rfl
                    have e4c : (!decide (p.f1 = 0)) = false := by rw [decide_eq_true h4]; rfl
                    have D4 : decide (p.f1 = 0) = true := decide_eq_true h4
                    have HV := Aside0.mk (cpvalid_eq p.f0)
                    by_cases h5 : 0 ≤ p.f0 ∧ p.f0 ≤ 1114111
                    · have D5 : (decide (0 ≤ p.f0) && decide (p.f0 ≤ 1114111)) = true := by rw [← Bool.decide_and]; exact decide_eq_true h5
                      rw [decide_eq_true h5] at HV
                      have HPB : Aside0 (pieceBad l0_1.length p = false) := ⟨by unfold pieceBad; rw [D1.out, D4, D5]; rfl⟩
                      clear D5 h4 h5
                      go_wp2_with (go_at_call 53; (with_reducible refine (codepoint_Valid.calls p.f0 true _ HV.out).mono ?_); rintro e w2 ⟨rfl, ⟨nd, rfl⟩⟩)
                      go_roundw
                      case rel => exact ⟨k + 1, by rw [hw]; rfl, ⟨hlt⟩, ⟨by rw [HNX.out, HPB.out]⟩, ⟨by repeat (first | (with_reducible first | exact HB.out | apply below_alloc | apply pw_below_drewN | apply below_drew1) | exact HB.out)⟩⟩
                      case measure => rw [hw]; simp only [intOf]; omega
                    · have D5 : (decide (0 ≤ p.f0) && decide (p.f0 ≤ 1114111)) = false := by rw [← Bool.decide_and]; exact decide_eq_false h5
                      rw [decide_eq_false h5] at HV
                      have HR := Aside0.mk (HBAD.out (show pieceBad l0_1.length p = true by unfold pieceBad; rw [D1.out, D4, D5]; rfl))
                      clear D5 h4 h5
                      go_wp2_with (go_at_call 53; (with_reducible refine (codepoint_Valid.calls p.f0 false _ HV.out).mono ?_); rintro e w2 ⟨rfl, ⟨nd, rfl⟩⟩)
                      go_ret
                      exact ⟨by rw [HR.out]; rfl, below_step HBWR.out (by repeat (first | (with_reducible first | exact HB.out | apply below_alloc | apply pw_below_drewN | apply below_drew1) | exact HB.out))⟩
                  · have e4 : (p.f1 == 0) = false := by rw [beq_eq_false_iff_ne]; exact h4
                    have e4b : (p.f1 != 0) = true := by rw [bne_iff_ne]; exact h4
                    have e4c : (!decide (p.f1 = 0)) = true := by rw [decide_eq_false h4]; rfl
                    have D4 : decide (p.f1 = 0) = false := decide_eq_false h4
                    have HR := Aside0.mk (HBAD.out (show pieceBad l0_1.length p = true by unfold pieceBad; rw [D1.out, D4]; rfl))
                    clear h4
                    go_wp2
                    go_ret
                    exact ⟨by rw [HR.out]; rfl, below_step HBWR.out (by repeat (first | (with_reducible first | exact HB.out | apply below_alloc | apply pw_below_drewN | apply below_drew1) | exact HB.out))⟩
              · obtain rfl : k = l0_3.length := by have := HK.out; omega
                rw [List.take_length] at HAP
                have HR : Aside0 (r = 0) := ⟨by
                  rw [← HRES.out]
                  unfold oneS
                  simp only
                  rw [if_neg HC1.out, if_neg (by rw [HSS.out, HAN.out]; decide), if_neg (by rw [HAP.out]; decide)]⟩
                go_wp2
                go_ret
                exact ⟨by rw [HR.out]; rfl, below_step HBWR.out HB.out⟩
end Go.Proofs.Ytcpicopaobhlcaa.Q
end
section
namespace Go.Proofs.Ytcpicopaobhlcaa.Q
open Go.RowKit Go.Proofs.YtcpicopaobhlcaaW.PrintWords Go.Proofs.YtcpicopaobhlcaaW.PrintLast Go.Proofs.YtcpicopaobhlcaaW.PrintMore
attribute [local go_sem] max2_int min2_int max_two min_two max_three min_three max_four min_four   -- for this text's walks alone
set_option linter.unusedVariables false
set_option linter.unusedSimpArgs false
def transrule_Check.l0 : Nat → List (S41) → Int → Int → Option (Int)
  | 0, _, _, _ => none
  | k + 1, x9, x10, x11 => if x11 < x10 then (if 0 ≤ x11 then (if x11 < (x9.length : Int) then ((transrule_checkRule.f k ((rd_T41 x9 x11).f0) ((rd_T41 x9 x11).f1) ((rd_T41 x9 x11).f2) ((rd_T41 x9 x11).f3)).bind fun t116 => (if t116 = 0 then (transrule_Check.l0 k x9 x10 (wrap64 (x11 + 1))) else (some t116))) else (none)) else (none)) else (some 0)
def transrule_Check.f (k : Nat) (l0 : List (S41)) : Option (Int) := if (l0.length : Int) > 200 then (some 2) else (transrule_Check.l0 k l0 (l0.length : Int) 0)
set_option maxHeartbeats 8000000 in
set_option maxRecDepth 100000 in
theorem transrule_Check.calls (k : Nat) (A0 : Option Addr) (c0 : Nat) (l0 : List (S41)) (r : Int) (w : World) (hr0 : Kd.C k41 w A0 l0.length l0) (hc0 : l0.length ≤ c0) (h : transrule_Check.f k l0 = some r) :
    Calls Try.prog 26 #[.slice A0 l0.length c0] w fun e w' => e = .returned (.int .i64 r) ∧ Below w.heap.size w w' := by
  have hu41 := Try.underlying41
  have HR0 := Aside0.mk hr0
  have HC0 := Aside0.mk hc0
  clear hr0 hc0
  have HB := Aside0.mk (Below.refl w.heap.size w)
  have H : (if (l0.length : Int) > 200 then (some 2) else (transrule_Check.l0 k l0 (l0.length : Int) 0)) = some r := h
  clear h
  by_cases c2 : (l0.length : Int) > 200
  · rw [if_pos c2] at H
    have c2b0 : decide (200 < (l0.length : Int)) = true := decide_eq_true c2
    have c2b1 : decide (200 < l0.length) = true := decide_eq_true (by omega)
    clear c2
    obtain rfl := Option.some.inj H
    go_enter Try.func26, Try.ntmps26
    go_wp2
    go_ret
    exact ⟨by first | rfl | (simp [errW_none, errW_some] <;> rfl) | (simp [*, errW_none, errW_some] <;> rfl), by repeat (first | (with_reducible first | exact HB.out | apply below_alloc | apply pw_below_drewN | apply below_drew1) | exact HB.out)⟩
  · rw [if_neg c2] at H
    have c2b0 : decide (200 < (l0.length : Int)) = false := decide_eq_false c2
    have c2b1 : decide (200 < l0.length) = false := decide_eq_false (by omega)
    clear c2
    have H' := Aside0.mk H
    clear H
    go_enter Try.func26, Try.ntmps26
    go_wp2
    go_loopg [11] k (fun kq v11 w' => ∃ (x11_1 : Int), v11 = .int .i64 x11_1 ∧ Aside0 (transrule_Check.l0 kq l0 (l0.length : Int) x11_1 = some r) ∧ Aside0 (kq ≤ k) ∧ Aside0 (Below w.heap.size w w'))
    case atStart => exact ⟨(0), (by first | rfl | (simp; done) | (simp [*]; done)), H', ⟨Nat.le_refl _⟩, ⟨by repeat (first | (with_reducible first | exact HB.out | apply below_alloc | apply pw_below_drewN | apply below_drew1) | exact HB.out)⟩⟩
    case round =>
      clear H'
      try clear c2
      try clear c2b0
      try clear c2b1
      try clear p2
      obtain ⟨x11_1, rfl, HA, HK1, HB⟩ := hrel
      cases gk with
      | zero => exact absurd HA.out (by simp [transrule_Check.l0])
      | succ k1 =>
        have H := HA.out
        clear HA
        simp only [transrule_Check.l0] at H
        by_cases c3 : x11_1 < (l0.length : Int)
        · rw [if_pos c3] at H
          have c3b0 : decide (x11_1 < (l0.length : Int)) = true := decide_eq_true c3
          clear c3
          by_cases c4 : 0 ≤ x11_1
          · rw [if_pos c4] at H
            have c4b0 : decide (0 ≤ x11_1) = true := decide_eq_true c4
            clear c4
            by_cases c5 : x11_1 < (l0.length : Int)
            · rw [if_pos c5] at H
              have c5b0 : decide (x11_1 < (l0.length : Int)) = true := decide_eq_true c5
              clear c5
              replace H := Option.bind_eq_some_iff.mp H
              obtain ⟨t116, A60, H⟩ := H
              replace H : (if t116 = 0 then (transrule_Check.l0 k1 l0 (l0.length : Int) (wrap64 (x11_1 + 1))) else (some t116)) = some r := H
              have A6 := Aside0.mk A60
              clear A60
              by_cases c7 : t116 = 0
              · rw [if_pos c7] at H
                have c7b0 : (t116 == 0) = true := beq_iff_eq.mpr c7
                have c7b1 : (t116 != 0) = false := bne_eq_false_iff_eq.mpr c7
                clear c7
                have H' := Aside0.mk H
                clear H
                have p114 : 0 ≤ (x11_1 : Int) := of_decide_eq_true (by first | (with_reducible assumption) | assumption)
                have q114 : x11_1 < (l0.length : Int) := of_decide_eq_true (by first | (with_reducible assumption) | assumption)
                obtain ⟨ad114, A114_0, c114_0, A114_1, c114_1, A114_2, c114_2, A114_3, c114_3, e114, hx114_0, hx114_1, hx114_2, hx114_3, hl114_0, hi114_0, hl114_1, hi114_1, hl114_2, hi114_2, hl114_3, hi114_3⟩ := at_T41 HR0.out x11_1 p114 q114
                cases e114
                replace hx114_0 := (HB.out.cell (World.block_lt_of_cell? w _ hx114_0)).trans hx114_0
                replace hx114_1 := (HB.out.cell (World.block_lt_of_cell? w _ hx114_1)).trans hx114_1
                replace hx114_2 := (HB.out.cell (World.block_lt_of_cell? w _ hx114_2)).trans hx114_2
                replace hx114_3 := (HB.out.cell (World.block_lt_of_cell? w _ hx114_3)).trans hx114_3
                have HR114_0 := Aside0.mk hi114_0
                have HC114_0 := Aside0.mk hl114_0
                clear hi114_0 hl114_0
                have HR114_1 := Aside0.mk hi114_1
                have HC114_1 := Aside0.mk hl114_1
                clear hi114_1 hl114_1
                have HR114_2 := Aside0.mk hi114_2
                have HC114_2 := Aside0.mk hl114_2
                clear hi114_2 hl114_2
                have HR114_3 := Aside0.mk hi114_3
                have HC114_3 := Aside0.mk hl114_3
                clear hi114_3 hl114_3
                replace p114 := eq_true p114
                replace q114 := eq_true q114
                go_wp2_with (first | ((with_reducible refine gate_dst (N := 4) rfl ?_); refine box_event ?hg (N := 4) ?hd (cs := #[.slice none 0 0, .slice none 0 0, .slice none 0 0, .slice none 0 0]) (t := 41) ?hr ?_; (case hd => rfl); (case hg => rfl); (case hr => first | (go_simp; done) | (go_simp; rfl)); intro gb115 hg w8 hbox hb; have n0_ := Aside0.mk (below_step (by repeat (first | (with_reducible first | exact HB.out | apply below_alloc | apply pw_below_drewN | apply below_drew1) | exact HB.out)) hb); have n1_ := Aside0.mk (hbox); have n2_ := Aside0.mk ((by rw [hg]; exact (below_size (by repeat (first | (with_reducible first | exact HB.out | apply below_alloc | apply pw_below_drewN | apply below_drew1) | exact HB.out))) : w.heap.size ≤ gb115)); have n3_ := Aside0.mk ((by rw [hg]; exact (below_size (by repeat (first | (with_reducible first | exact HB.out | apply below_alloc | apply pw_below_drewN | apply below_drew1) | exact HB.out))) : w.heap.size ≤ gb115)); clear HB; have HB := n0_; have BK115 := n1_; have GW115 := n2_; have GE115 := n3_; clear n0_ n1_ n2_ n3_; clear hb hbox hg; have hcz9_0 : w8.cell? ⟨gb115, 0, none⟩ = some (.slice none 0 0) := (blk_cell BK115.out 0).trans rfl; have hcz9_1 : w8.cell? ⟨gb115, 1, none⟩ = some (.slice none 0 0) := (blk_cell BK115.out 1).trans rfl; have hcz9_2 : w8.cell? ⟨gb115, 2, none⟩ = some (.slice none 0 0) := (blk_cell BK115.out 2).trans rfl; have hcz9_3 : w8.cell? ⟨gb115, 3, none⟩ = some (.slice none 0 0) := (blk_cell BK115.out 3).trans rfl; have hfz9_0 := blk_frozen BK115.out 0; have hfz9_1 := blk_frozen BK115.out 1; have hfz9_2 := blk_frozen BK115.out 2; have hfz9_3 := blk_frozen BK115.out 3) | ((with_reducible refine gate_callee (f := 41) rfl ?_); refine goesL_ (some 16) rfl rfl Try.func41 (by kernel_rfl) rfl #[.agg #[.slice A114_0 ((rd_T41 l0 x11_1).f0).length c114_0, .slice A114_1 ((rd_T41 l0 x11_1).f1).length c114_1, .slice A114_2 ((rd_T41 l0 x11_1).f2).length c114_2, .slice A114_3 ((rd_T41 l0 x11_1).f3).length c114_3]] rfl (by (try simp only [List.map_toArray, List.map_cons, List.map_nil]); first | done | rfl | (simp only [List.length_drop, List.length_take]; rfl)) ?_; (with_reducible refine (transrule_checkRule.calls k1 _ _ ((rd_T41 l0 x11_1).f0) _ _ ((rd_T41 l0 x11_1).f1) _ _ ((rd_T41 l0 x11_1).f2) _ _ ((rd_T41 l0 x11_1).f3) t116 _ ?side1 ?side2 ?side3 ?side4 ?side5 ?side6 ?side7 ?side8 A6.out).mono ?_); (case side1 => exact Kd.C_below HR114_0.out (by repeat (first | (with_reducible first | exact HB.out | apply below_alloc | apply pw_below_drewN | apply below_drew1 | refine below_set ?_ GE115.out) | exact HB.out))); (case side2 => exact HC114_0.out); (case side3 => exact Kd.C_below HR114_1.out (by repeat (first | (with_reducible first | exact HB.out | apply below_alloc | apply pw_below_drewN | apply below_drew1 | refine below_set ?_ GE115.out) | exact HB.out))); (case side4 => exact HC114_1.out); (case side5 => exact Kd.C_below HR114_2.out (by repeat (first | (with_reducible first | exact HB.out | apply below_alloc | apply pw_below_drewN | apply below_drew1 | refine below_set ?_ GE115.out) | exact HB.out))); (case side6 => exact HC114_2.out); (case side7 => exact Kd.C_below HR114_3.out (by repeat (first | (with_reducible first | exact HB.out | apply below_alloc | apply pw_below_drewN | apply below_drew1 | refine below_set ?_ GE115.out) | exact HB.out))); (case side8 => exact HC114_3.out); rintro e w10 ⟨rfl, hb⟩; refine ⟨_, rfl, ?_⟩; have n0_ := Aside0.mk (blk_below (g := gb115) (o := .cells #[.slice A114_0 ((rd_T41 l0 x11_1).f0).length c114_0, .slice A114_1 ((rd_T41 l0 x11_1).f1).length c114_1, .slice A114_2 ((rd_T41 l0 x11_1).f2).length c114_2, .slice A114_3 ((rd_T41 l0 x11_1).f3).length c114_3] 41 (0, 0)) (by (with_reducible repeat (first | refine blk_drewN ?_ _ | refine blk_drew ?_ | refine blk_alloc ?_ _)); refine blk_put (cs := #[.slice A114_0 ((rd_T41 l0 x11_1).f0).length c114_0, .slice A114_1 ((rd_T41 l0 x11_1).f1).length c114_1, .slice A114_2 ((rd_T41 l0 x11_1).f2).length c114_2, .slice none 0 0]) ?_ 3 _ rfl; (with_reducible repeat (first | refine blk_drewN ?_ _ | refine blk_drew ?_ | refine blk_alloc ?_ _)); refine blk_put (cs := #[.slice A114_0 ((rd_T41 l0 x11_1).f0).length c114_0, .slice A114_1 ((rd_T41 l0 x11_1).f1).length c114_1, .slice none 0 0, .slice none 0 0]) ?_ 2 _ rfl; (with_reducible repeat (first | refine blk_drewN ?_ _ | refine blk_drew ?_ | refine blk_alloc ?_ _)); refine blk_put (cs := #[.slice A114_0 ((rd_T41 l0 x11_1).f0).length c114_0, .slice none 0 0, .slice none 0 0, .slice none 0 0]) ?_ 1 _ rfl; (with_reducible repeat (first | refine blk_drewN ?_ _ | refine blk_drew ?_ | refine blk_alloc ?_ _)); refine blk_put (cs := #[.slice none 0 0, .slice none 0 0, .slice none 0 0, .slice none 0 0]) ?_ 0 _ rfl; (with_reducible repeat (first | refine blk_drewN ?_ _ | refine blk_drew ?_ | refine blk_alloc ?_ _)); exact BK115.out) hb); have n1_ := Aside0.mk (below_step (by repeat (first | (with_reducible first | exact HB.out | apply below_alloc | apply pw_below_drewN | apply below_drew1 | refine below_set ?_ GE115.out) | exact HB.out)) hb); clear BK115; clear HB; have BK115 := n0_; have HB := n1_; clear n0_ n1_; (try clear hb); (try clear hb2); (try clear hk); (try clear hi)))
                go_roundg k1
                case measure => have := HK1.out; omega
                case rel => exact ⟨(wrap64 (x11_1 + 1)), (by first | rfl | (simp; done) | (simp [*]; done)), H', ⟨by have := HK1.out; omega⟩, ⟨by repeat (first | (with_reducible first | exact HB.out | apply below_alloc | apply pw_below_drewN | apply below_drew1 | refine below_set ?_ GE115.out) | exact HB.out)⟩⟩
              · rw [if_neg c7] at H
                have c7b0 : (t116 == 0) = false := beq_eq_false_iff_ne.mpr c7
                have c7b1 : (t116 != 0) = true := bne_iff_ne.mpr c7
                obtain rfl := Option.some.inj H
                have p114 : 0 ≤ (x11_1 : Int) := of_decide_eq_true (by first | (with_reducible assumption) | assumption)
                have q114 : x11_1 < (l0.length : Int) := of_decide_eq_true (by first | (with_reducible assumption) | assumption)
                obtain ⟨ad114, A114_0, c114_0, A114_1, c114_1, A114_2, c114_2, A114_3, c114_3, e114, hx114_0, hx114_1, hx114_2, hx114_3, hl114_0, hi114_0, hl114_1, hi114_1, hl114_2, hi114_2, hl114_3, hi114_3⟩ := at_T41 HR0.out x11_1 p114 q114
                cases e114
                replace hx114_0 := (HB.out.cell (World.block_lt_of_cell? w _ hx114_0)).trans hx114_0
                replace hx114_1 := (HB.out.cell (World.block_lt_of_cell? w _ hx114_1)).trans hx114_1
                replace hx114_2 := (HB.out.cell (World.block_lt_of_cell? w _ hx114_2)).trans hx114_2
                replace hx114_3 := (HB.out.cell (World.block_lt_of_cell? w _ hx114_3)).trans hx114_3
                have HR114_0 := Aside0.mk hi114_0
                have HC114_0 := Aside0.mk hl114_0
                clear hi114_0 hl114_0
                have HR114_1 := Aside0.mk hi114_1
                have HC114_1 := Aside0.mk hl114_1
                clear hi114_1 hl114_1
                have HR114_2 := Aside0.mk hi114_2
                have HC114_2 := Aside0.mk hl114_2
                clear hi114_2 hl114_2
                have HR114_3 := Aside0.mk hi114_3
                have HC114_3 := Aside0.mk hl114_3
                clear hi114_3 hl114_3
                replace p114 := eq_true p114
                replace q114 := eq_true q114
                go_wp2_with (first | ((with_reducible refine gate_dst (N := 4) rfl ?_); refine box_event ?hg (N := 4) ?hd (cs := #[.slice none 0 0, .slice none 0 0, .slice none 0 0, .slice none 0 0]) (t := 41) ?hr ?_; (case hd => rfl); (case hg => rfl); (case hr => first | (go_simp; done) | (go_simp; rfl)); intro gb115 hg w11 hbox hb; have n0_ := Aside0.mk (below_step (by repeat (first | (with_reducible first | exact HB.out | apply below_alloc | apply pw_below_drewN | apply below_drew1) | exact HB.out)) hb); have n1_ := Aside0.mk (hbox); have n2_ := Aside0.mk ((by rw [hg]; exact (below_size (by repeat (first | (with_reducible first | exact HB.out | apply below_alloc | apply pw_below_drewN | apply below_drew1) | exact HB.out))) : w.heap.size ≤ gb115)); have n3_ := Aside0.mk ((by rw [hg]; exact (below_size (by repeat (first | (with_reducible first | exact HB.out | apply below_alloc | apply pw_below_drewN | apply below_drew1) | exact HB.out))) : w.heap.size ≤ gb115)); clear HB; have HB := n0_; have BK115 := n1_; have GW115 := n2_; have GE115 := n3_; clear n0_ n1_ n2_ n3_; clear hb hbox hg; have hcz12_0 : w11.cell? ⟨gb115, 0, none⟩ = some (.slice none 0 0) := (blk_cell BK115.out 0).trans rfl; have hcz12_1 : w11.cell? ⟨gb115, 1, none⟩ = some (.slice none 0 0) := (blk_cell BK115.out 1).trans rfl; have hcz12_2 : w11.cell? ⟨gb115, 2, none⟩ = some (.slice none 0 0) := (blk_cell BK115.out 2).trans rfl; have hcz12_3 : w11.cell? ⟨gb115, 3, none⟩ = some (.slice none 0 0) := (blk_cell BK115.out 3).trans rfl; have hfz12_0 := blk_frozen BK115.out 0; have hfz12_1 := blk_frozen BK115.out 1; have hfz12_2 := blk_frozen BK115.out 2; have hfz12_3 := blk_frozen BK115.out 3) | ((with_reducible refine gate_callee (f := 41) rfl ?_); refine goesL_ (some 16) rfl rfl Try.func41 (by kernel_rfl) rfl #[.agg #[.slice A114_0 ((rd_T41 l0 x11_1).f0).length c114_0, .slice A114_1 ((rd_T41 l0 x11_1).f1).length c114_1, .slice A114_2 ((rd_T41 l0 x11_1).f2).length c114_2, .slice A114_3 ((rd_T41 l0 x11_1).f3).length c114_3]] rfl (by (try simp only [List.map_toArray, List.map_cons, List.map_nil]); first | done | rfl | (simp only [List.length_drop, List.length_take]; rfl)) ?_; (with_reducible refine (transrule_checkRule.calls k1 _ _ ((rd_T41 l0 x11_1).f0) _ _ ((rd_T41 l0 x11_1).f1) _ _ ((rd_T41 l0 x11_1).f2) _ _ ((rd_T41 l0 x11_1).f3) t116 _ ?side1 ?side2 ?side3 ?side4 ?side5 ?side6 ?side7 ?side8 A6.out).mono ?_); (case side1 => exact Kd.C_below HR114_0.out (by repeat (first | (with_reducible first | exact HB.out | apply below_alloc | apply pw_below_drewN | apply below_drew1 | refine below_set ?_ GE115.out) | exact HB.out))); (case side2 => exact HC114_0.out); (case side3 => exact Kd.C_below HR114_1.out (by repeat (first | (with_reducible first | exact HB.out | apply below_alloc | apply pw_below_drewN | apply below_drew1 | refine below_set ?_ GE115.out) | exact HB.out))); (case side4 => exact HC114_1.out); (case side5 => exact Kd.C_below HR114_2.out (by repeat (first | (with_reducible first | exact HB.out | apply below_alloc | apply pw_below_drewN | apply below_drew1 | refine below_set ?_ GE115.out) | exact HB.out))); (case side6 => exact HC114_2.out); (case side7 => exact Kd.C_below HR114_3.out (by repeat (first | (with_reducible first | exact HB.out | apply below_alloc | apply pw_below_drewN | apply below_drew1 | refine below_set ?_ GE115.out) | exact HB.out))); (case side8 => exact HC114_3.out); rintro e w13 ⟨rfl, hb⟩; refine ⟨_, rfl, ?_⟩; have n0_ := Aside0.mk (blk_below (g := gb115) (o := .cells #[.slice A114_0 ((rd_T41 l0 x11_1).f0).length c114_0, .slice A114_1 ((rd_T41 l0 x11_1).f1).length c114_1, .slice A114_2 ((rd_T41 l0 x11_1).f2).length c114_2, .slice A114_3 ((rd_T41 l0 x11_1).f3).length c114_3] 41 (0, 0)) (by (with_reducible repeat (first | refine blk_drewN ?_ _ | refine blk_drew ?_ | refine blk_alloc ?_ _)); refine blk_put (cs := #[.slice A114_0 ((rd_T41 l0 x11_1).f0).length c114_0, .slice A114_1 ((rd_T41 l0 x11_1).f1).length c114_1, .slice A114_2 ((rd_T41 l0 x11_1).f2).length c114_2, .slice none 0 0]) ?_ 3 _ rfl; (with_reducible repeat (first | refine blk_drewN ?_ _ | refine blk_drew ?_ | refine blk_alloc ?_ _)); refine blk_put (cs := #[.slice A114_0 ((rd_T41 l0 x11_1).f0).length c114_0, .slice A114_1 ((rd_T41 l0 x11_1).f1).length c114_1, .slice none 0 0, .slice none 0 0]) ?_ 2 _ rfl; (with_reducible repeat (first | refine blk_drewN ?_ _ | refine blk_drew ?_ | refine blk_alloc ?_ _)); refine blk_put (cs := #[.slice A114_0 ((rd_T41 l0 x11_1).f0).length c114_0, .slice none 0 0, .slice none 0 0, .slice none 0 0]) ?_ 1 _ rfl; (with_reducible repeat (first | refine blk_drewN ?_ _ | refine blk_drew ?_ | refine blk_alloc ?_ _)); refine blk_put (cs := #[.slice none 0 0, .slice none 0 0, .slice none 0 0, .slice none 0 0]) ?_ 0 _ rfl; (with_reducible repeat (first | refine blk_drewN ?_ _ | refine blk_drew ?_ | refine blk_alloc ?_ _)); exact BK115.out) hb); have n1_ := Aside0.mk (below_step (by repeat (first | (with_reducible first | exact HB.out | apply below_alloc | apply pw_below_drewN | apply below_drew1 | refine below_set ?_ GE115.out) | exact HB.out)) hb); clear BK115; clear HB; have BK115 := n0_; have HB := n1_; clear n0_ n1_; (try clear hb); (try clear hb2); (try clear hk); (try clear hi)))
                go_ret
                exact ⟨by first | rfl | (simp [errW_none, errW_some] <;> rfl) | (simp [*, errW_none, errW_some] <;> rfl), by repeat (first | (with_reducible first | exact HB.out | apply below_alloc | apply pw_below_drewN | apply below_drew1 | refine below_set ?_ GE115.out) | exact HB.out)⟩
            · rw [if_neg c5] at H
              exact absurd H (by simp)
          · rw [if_neg c4] at H
            exact absurd H (by simp)
        · rw [if_neg c3] at H
          have c3b0 : decide (x11_1 < (l0.length : Int)) = false := decide_eq_false c3
          clear c3
          obtain rfl := Option.some.inj H
          go_wp2
          go_ret
          exact ⟨by first | rfl | (simp [errW_none, errW_some] <;> rfl) | (simp [*, errW_none, errW_some] <;> rfl), by repeat (first | (with_reducible first | exact HB.out | apply below_alloc | apply pw_below_drewN | apply below_drew1) | exact HB.out)⟩
end Go.Proofs.Ytcpicopaobhlcaa.Q
end
section
namespace Go.Proofs.Ytcpicopaobhlcaa.Q
open Go.RowKit Go.Shelf Go.Proofs.YtcpicopaobhlcaaW.PrintWords Go.Proofs.YtcpicopaobhlcaaW.PrintLast Go.Proofs.YtcpicopaobhlcaaW.PrintMore
set_option linter.unusedVariables false
attribute [local go_sem] Oper.semAt_some
def mkR (xs : List Rg) : List Rg := (CpM.make (xs.map toP)).map ofP
theorem mkR_length (xs : List Rg) : (mkR xs).length ≤ xs.length := by
  unfold mkR
  have := make_length (xs.map toP)
  simpa using this
/-- The block that the slice in the box B lies in. -/
def rowAt (W : World) (B k : Nat) : Prop := ∃ v t fr, W.heap[B]? = some (.cells #[v] t fr) ∧ v.ownBlock = some k
/-- What a round keeps: all cells but the box B and the row that the box leads to. -/
structure KpB (B : Nat) (W W' : World) : Prop where
  size : W.heap.size ≤ W'.heap.size
  same : ∀ k cs t fr, W.heap[k]? = some (.cells cs t fr) → k ≠ B → ¬ rowAt W B k → W'.heap[k]? = some (.cells cs t fr)
  row : ∀ k, rowAt W' B k → rowAt W B k ∨ W.heap.size ≤ k
theorem lt_of_heap {W : World} {k : Nat} {o : Obj} (h : W.heap[k]? = some o) : k < W.heap.size := (Array.getElem?_eq_some_iff.1 h).1
theorem KpB.trans {B : Nat} {X Y Z : World} (h : KpB B X Y) (k : KpB B Y Z) : KpB B X Z where
  size := Nat.le_trans h.size k.size
  same i cs t fr hi hne hr := by
    refine k.same i cs t fr (h.same i cs t fr hi hne hr) hne fun hy => ?_
    rcases h.row i hy with h1 | h1
    · exact hr h1
    · have := lt_of_heap hi; omega
  row i hi := by
    rcases k.row i hi with h1 | h1
    · exact h.row i h1
    · exact .inr (Nat.le_trans h.size h1)
theorem KpB.putObj {B : Nat} (W : World) (l : Nat) (o o' : Obj) (hB : B < l) (hl : W.heap[l]? = some o) (hc : o.isCells = false) : KpB B W (W.putObj l o') where
  size := (grownBy_putObj' W l o').size
  same i cs t fr hi hne hr := by
    refine ((grownBy_putObj' W l o').block i (lt_of_heap hi) fun e => ?_).trans hi
    injection e with e
    subst e
    rw [hi] at hl
    cases hl
    cases hc
  row i hi := by
    obtain ⟨v, t, fr, h1, h2⟩ := hi
    rw [World.putObj_heap_other (show B ≠ l by omega)] at h1
    exact .inl ⟨v, t, fr, h1, h2⟩
theorem KpB.of_below {B : Nat} {W W' : World} (hb : Below W.heap.size W W') (hB : B < W.heap.size) : KpB B W W' where
  size := hb.size
  same i cs t fr hi hne hr := (hb.block i (lt_of_heap hi)).trans hi
  row i hi := by
    obtain ⟨v, t, fr, h1, h2⟩ := hi
    exact .inl ⟨v, t, fr, by rw [← hb.block B hB]; exact h1, h2⟩
set_option maxHeartbeats 1000000 in
theorem ranges_calls (v : Value) (w : World) : Calls Try.prog 94 #[.agg #[v]] w fun e w' => e = .returned (.func (.func 101) #[] #[.pointer (some ⟨w.heap.size, 0, none⟩)]) ∧ w' = w.alloc (.cells #[v] 45) := by
  go_enter Try.func94, Try.ntmps94
  go_wp2
  go_ret
  exact ⟨rfl, rfl⟩
/-- What the iterator reads still lies where it lay, and is not the collector's own row. -/
def Stays (B : Nat) (v : Value) (W1 wr : World) : Prop := ∀ k, v.ownBlock = some k → wr.heap[k]? = W1.heap[k]? ∧ ¬ rowAt wr B k
set_option maxHeartbeats 4000000 in
set_option maxRecDepth 100000 in
theorem ranges_iter (B n : Nat) (hn : 1 ≤ n) (l Bn : Nat) (A0 : Option Addr) (c0 : Nat) (xs : List Rg) (J Jx : List Rg → World → Prop)
    (hY : ∀ pre x W, J pre W → pre.length < (mkR xs).length → YieldAt Fence.wide (n - 1) Try.prog l #[.agg #[.int .i64 x.f0, .int .i64 x.f1]] W fun e W' =>
      (e = .returned (.bool true) ∧ J (pre ++ [x]) W' ∧ KpB B W W') ∨ (e = .returned (.bool false) ∧ Jx (pre ++ [x]) W'))
    (W : World) (hBn : W.cell? ⟨Bn, 0, none⟩ = some (.slice A0 xs.length c0)) (hR : Kd.C kRg W A0 xs.length xs) (hc : xs.length ≤ c0) (hbig : xs.length < 1000000000)
    (hB0 : W.heap[B]? = some (.cells #[.slice none 0 0] 43 (0, 0))) (hJ : AbidesFrom W.heap.size J) (h0 : J [] W) :
    CallsIn Fence.wide n Try.prog 101 #[.func (.yield l) #[] #[], .pointer (some ⟨Bn, 0, none⟩)] W fun e W' => (∃ v, e = .returned v) ∧
      ((∃ ys, ys = mkR xs ∧ J ys W') ∨ (∃ pre, pre <+: mkR xs ∧ Jx pre W')) := by
  have hmk : cpset_Make.f xs = some (mkR xs) := by unfold cpset_Make.f; rw [if_pos hbig]; rfl
  have HM := Aside0.mk hmk
  have HR := Aside0.mk hR
  have HC := Aside0.mk hc
  have HB0 := Aside0.mk hB0
  have HBIG := Aside0.mk hbig
  clear hmk hR hc hbig hB0
  refine callsIn_of_wp Try.func101 rfl trivial ?_ rfl
  simp only [Try.ntmps101, List.size_toArray, List.length_cons, List.length_nil, Nat.reduceAdd, Nat.reduceSub, Array.replicate_succ, Array.replicate_zero, List.push_toArray, List.append_toArray, List.nil_append, List.cons_append]
  gi_wp2_with (refine ⟨trivial, ?_⟩; gi_at_call 59; refine (callsIn_wide.2 (cpset_Make.calls _ _ xs (mkR xs) _ HR.out HC.out HM.out)).mono ?_; rintro e W1 ⟨v, rfl, ho, hb⟩; have HO := Aside0.mk ho; have HB := Aside0.mk hb; obtain ⟨A1, c1, ev⟩ := Kd.R_slice ho; subst ev; clear ho hb)
  have hJ1 : J [] W1 := hJ [] W W1 none h0 (grown_of_below HB.out none) (fun r e => by cases e)
  have hBlt := lt_of_heap HB0.out
  have hB1 := (HB.out.block B hBlt).trans HB0.out
  have hst0 : Stays B (.slice A1 (mkR xs).length c1) W1 W1 := fun k hk => ⟨rfl, fun ⟨v, t, fr, h1, h2⟩ => by rw [hB1] at h1; cases h1; simp [Value.ownBlock] at h2⟩
  have hown : ∀ k, (Value.slice A1 (mkR xs).length c1).ownBlock = some k → W.heap.size ≤ k ∧ k < W1.heap.size ∧ ∃ cells, W1.heap[k]? = some (.cells cells 69 (0, 0)) := fun k hk => ⟨Kd.R_base HO.out k hk, Kd.R_lt HO.out k hk, by obtain ⟨inner, ho⟩ := Kd.R_own HO.out; exact own_typed ho k hk⟩
  have HOWN := Aside0.mk hown
  have HST := Aside0.mk hst0
  have HMM := Aside0.mk (Nat.lt_of_le_of_lt (mkR_length xs) HBIG.out)
  have HBL := Aside0.mk hBlt
  clear hB1 hst0 hown hBlt
  have HJJ := Aside0.mk hJ
  have HJ1 := Aside0.mk hJ1
  have HWS := Aside0.mk HB.out.size
  clear hJ hJ1 h0
  gi_loopw [10] (fun i wr => ∃ k : Nat, i = .int .i64 k ∧ Aside0 (k ≤ (mkR xs).length) ∧ Aside0 (W1.heap.size ≤ wr.heap.size) ∧ Aside0 (J ((mkR xs).take k) wr) ∧ Aside0 (Stays B (.slice A1 (mkR xs).length c1) W1 wr)) (fun i wr => (mkR xs).length - (intOf i).toNat)
  case atStart => exact ⟨0, rfl, ⟨Nat.zero_le _⟩, ⟨Nat.le_refl _⟩, HJ1, HST⟩
  case round =>
    obtain ⟨k, rfl, HK, HS, HJ, HST1⟩ := hrel
    by_cases hlt : k < (mkR xs).length
    · have hRr : Kd.R kRg 69 wr W.heap.size (fun j => some j = (Value.slice A1 (mkR xs).length c1).ownBlock) (.slice A1 (mkR xs).length c1) (mkR xs) := Kd.R_move (Kd.R_tight rfl HO.out) (fun j hj => (HST1.out j hj.symm).1)
      obtain ⟨ad, e, hx0, hx1⟩ := at_T69 (Kd.R_reads' hRr).2.2 (k : Int) (by omega) (by omega)
      cases e
      rw [Int.toNat_natCast] at hx0 hx1
      clear hRr
      have hst := Aside0.mk (rd_take hlt)
      generalize rd_T69 (mkR xs) (k : Int) = x at hx0 hx1 hst
      have hw : wrap64 ((k : Int) + 1) = (k : Int) + 1 := by have := HMM.out; unfold wrap64; omega
      have hp : (0 ≤ (k : Int)) = True := eq_true (by omega)
      have hJ' := HJJ.out _ wr (wr.alloc (.cells #[.int .i64 x.f0, .int .i64 x.f1] 69)) none HJ.out (World.grownBy_alloc wr _ none) (fun r e => by cases e)
      obtain ⟨fn, tmps, assign, body, hy, hR⟩ := hY ((mkR xs).take k) x _ hJ' (by rw [List.length_take]; omega)
      clear hJ' hY
      have HRR := Aside0.mk hR
      clear hR
      gi_wp2
      refine HRR.out.mono ?_
      rintro e W3 (⟨rfl, hJ3, hk3⟩ | ⟨rfl, hJx3⟩)
      · have HJ3 := Aside0.mk hJ3
        have hsz3 := hk3.size
        have HST3 : Aside0 (Stays B (.slice (some ad) (mkR xs).length c1) W1 W3) := ⟨fun j hj => by
          obtain ⟨h1, h2⟩ := HST1.out j hj
          obtain ⟨h3, h4, cells, h5⟩ := HOWN.out j hj
          have h6 : (wr.alloc (.cells #[.int .i64 x.f0, .int .i64 x.f1] 69)).heap[j]? = some (.cells cells 69 (0, 0)) := by
            rw [Below.heap_alloc _ _ _ (Nat.lt_of_lt_of_le h4 HS.out), h1]; exact h5
          have h7 : ¬ rowAt (wr.alloc (.cells #[.int .i64 x.f0, .int .i64 x.f1] 69)) B j := by
            rintro ⟨v, t, fr, ha, hb⟩
            rw [Below.heap_alloc _ _ _ (by have := HBL.out; have := HWS.out; have := HS.out; omega)] at ha
            exact h2 ⟨v, t, fr, ha, hb⟩
          refine ⟨(hk3.same j _ _ _ h6 (by have := HBL.out; omega) h7).trans h5.symm, fun h8 => ?_⟩
          rcases hk3.row j h8 with h9 | h9
          · exact h7 h9
          · have := HS.out
            rw [World.size_alloc] at h9
            omega⟩
        have HS3 : Aside0 (W1.heap.size ≤ W3.heap.size) := ⟨by rw [World.size_alloc] at hsz3; have := HS.out; omega⟩
        clear hJ3 hk3 hsz3
        gi_wp2
        go_roundw
        case rel => exact ⟨k + 1, by rw [hw]; rfl, ⟨hlt⟩, HS3, ⟨by rw [hst.out]; exact HJ3.out⟩, HST3⟩
        case measure => rw [hw]; simp only [intOf]; omega
      · have HJX := Aside0.mk hJx3
        clear hJx3
        gi_wp2
        refine bodyPost_ret (results_none rfl _ _ _) rfl ?_
        exact ⟨⟨_, rfl⟩, .inr ⟨_, by rw [← hst.out]; exact List.take_prefix _ _, HJX.out⟩⟩
    · obtain rfl : k = (mkR xs).length := by have := HK.out; omega
      gi_wp2
      go_end0
      exact ⟨⟨_, rfl⟩, .inl ⟨_, rfl, by have := HJ.out; rwa [List.take_length] at this⟩⟩
end Go.Proofs.Ytcpicopaobhlcaa.Q
end
section
namespace Go.Proofs.Ytcpicopaobhlcaa.Q
open Go.RowKit Go.Shelf Go.Proofs.YtcpicopaobhlcaaW.PrintWords Go.Proofs.YtcpicopaobhlcaaW.PrintLast Go.Proofs.YtcpicopaobhlcaaW.PrintMore
set_option linter.unusedVariables false
attribute [local go_sem] Oper.semAt_some
theorem wpListIn_append_at {F : Fence} {n : Nat} {P : Program} (w : World) {ops : Array Oper} {rest : List Oper} {o : Oper} {a : Act} {Q : Exit → Act → World → Prop}
    (hg : o.guard = none) (s x : Operand) (t : TypeId) (hop : o.op = Op.call { callee := Callee.builtin Builtin.append, args := #[s, x], argTypes := #[t, t] })
    (base : Nat) (e : TypeId) (i : TypeInfo) (z : Value) (size bytes : Nat) (h1 : P.underlying t = some (.slice e)) (h2 : P.info? e = some i) (h3 : i.zero = some z) (h4 : i.size = size) (h5 : i.bytes = bytes) (h6 : z.cells.size = size) (h7 : 0 < size)
    (v : Value) (k : Nat) (xs : List Value) (hs : a.eval s = v) (hown : w.ownsRow base e size v k xs) (ad : Addr) (m c : Nat) (news : List Value) (hx : a.eval x = .slice (some ad) m c) (hn : news.length = m * size)
    (hc : ∀ j u, news[j]? = some u → w.cell? (ad.add j) = some u) (h1c : ∀ u ∈ news, u.oneCell' = true) (b1 : k + m ≤ maxLen) (b2 : (k + m) * bytes ≤ 140737488355328) (b3 : base ≤ w.heap.size)
    (hK : ∀ v' w', w'.ownsRow base e size v' (k + m) (xs ++ news) → w.grownBy w' v.ownBlock → (v'.ownBlock = v.ownBlock ∨ v'.ownBlock = some w.heap.size) → wpListIn F n P ops Q rest (a.put o.dst v') w') :
    wpListIn F n P ops Q (o :: rest) a w := by
  refine wpListIn_plain hg fun K hK' => ?_
  obtain ⟨v', w', hrun, r1, r2, _, r3⟩ := run_append_own_at (P := P) w base t o.type e i z size bytes h1 h2 h3 h4 h5 h6 h7 v k xs hown ad m c news hn hc h1c b1 b2 b3
  unfold Oper.wpIn
  refine ⟨?_, ?_⟩
  · simp [Oper.about, hop, resolve, Target.leads, Sem.run_pure]
  · rw [Oper.semAt_plain F _ _ (by rw [hop]; intro c hc'; cases hc')]
    simp [execOp, hop, resolve, invoke, builtin, hs, hx, hrun, Result.andThen]
    exact hK' _ _ (hK v' w' r1 r2 r3)
theorem KpB.appended {B : Nat} {W w1 : World} {tmp : Obj} {t : TypeId} {v v' : Value} (hv : Boxed W B t v) (hgrow : (W.alloc tmp).grownBy w1 v.ownBlock) (hat : v'.ownBlock = v.ownBlock ∨ v'.ownBlock = some (W.alloc tmp).heap.size) (hv1 : Boxed w1 B t v) :
    KpB B W (w1.setCell ⟨B, 0, none⟩ v') where
  size := Nat.le_trans (Nat.le_trans (by simp) hgrow.size) (KeepsWalks.setCell w1 _ v').size
  same k cs t' fr hk hne hr := by
    have hlt := lt_of_heap hk
    rw [Below.heap_setCell _ _ _ _ hne, hgrow.block k (by simp; omega) (fun e => hr ⟨v, t, _, hv, e.symm⟩), Below.heap_alloc _ _ _ hlt]
    exact hk
  row k hk := by
    obtain ⟨u, t', fr, h1, h2⟩ := hk
    have h3 : (w1.setCell ⟨B, 0, none⟩ v').heap[B]? = _ := hv1.set v'
    rw [h3] at h1
    cases h1
    rcases hat with h4 | h4
    · exact .inl ⟨v, t, _, hv, by rw [← h4]; exact h2⟩
    · rw [h4] at h2
      injection h2 with h2
      exact .inr (by rw [← h2]; simp)
set_option maxHeartbeats 4000000 in
set_option maxRecDepth 100000 in
theorem append_seq (n : Nat) (hn : 3 ≤ n) (Bn : Nat) (A0 : Option Addr) (c0 : Nat) (xs : List Rg) (w : World)
    (hBn : w.cell? ⟨Bn, 0, none⟩ = some (.slice A0 xs.length c0)) (hR : Kd.C kRg w A0 xs.length xs) (hc : xs.length ≤ c0) (hbig : xs.length < 1000000000) :
    CallsIn Fence.wide n Try.prog 100 #[.slice none 0 0, .func (.func 101) #[] #[.pointer (some ⟨Bn, 0, none⟩)]] w fun e W' =>
      ∃ v, e = .returned v ∧ Kd.R kRg 69 W' w.heap.size (fun _ => True) v (mkR xs) ∧ Below w.heap.size w W' := by
  have h1 : 1 ≤ n := by omega
  obtain ⟨i0, hi, hzz⟩ := Option.map_eq_some_iff.1 info69
  simp only [Prod.mk.injEq] at hzz
  obtain ⟨hz0, hz1, hz2⟩ := hzz
  have HZ := Aside0.mk hz0
  have HZ1 := Aside0.mk hz1
  have HZ2 := Aside0.mk hz2
  have HI := Aside0.mk hi
  clear hz0 hz1 hz2 hi
  refine callsIn_of_wp_marks Try.func100 rfl trivial ?_ rfl
  simp only [Try.ntmps100, List.size_toArray, List.length_cons, List.length_nil, Nat.reduceAdd, Nat.reduceSub, Array.replicate_succ, Array.replicate_zero, List.push_toArray, List.append_toArray, List.nil_append, List.cons_append]
  have HBn := Aside0.mk hBn
  have HR := Aside0.mk hR
  have HG := Aside0.mk hbig
  clear hBn hR hbig
  gi_wp2
  have bO := Boxed.new w 43 (.slice none 0 0)
  have hB0 : Below w.heap.size w (w.alloc (.cells #[.slice none 0 0] 43)) := (Below.refl _ w).alloc (Nat.le_refl _) _
  have hsz : (w.alloc (.cells #[.slice none 0 0] 43)).heap.size = w.heap.size + 1 := by simp
  obtain ⟨W0, hW0⟩ : ∃ W0, w.alloc (.cells #[.slice none 0 0] 43) = W0 := ⟨_, rfl⟩
  rw [hW0] at bO hB0 hsz ⊢
  clear hW0
  refine wpIn_rangeFunc_ownH (F := Fence.wide) rfl h1 (gf := 101) (lb := #[.pointer (some ⟨Bn, 0, none⟩)]) rfl trivial (enters_of Try.func101 (by kernel_rfl) rfl)
    (encs := fun x : Rg => #[.agg #[.int .i64 x.f0, .int .i64 x.f1]]) (Kp := KpB w.heap.size) (S := fun ys => ys = mkR xs) (Sp := fun pre => pre <+: mkR xs) (N := (mkR xs).length) (w0 := W0)
    (fun l J Jx W hW hJ _ hY h0 => ranges_iter w.heap.size (n - 1) (by omega) l Bn A0 c0 xs J Jx hY W
      ((hW.cell (p := ⟨Bn, 0, none⟩) (by have : Bn < w.heap.size := World.block_lt_of_cell? w _ HBn.out; show Bn < W0.heap.size; omega)).trans ((hB0.cell (p := ⟨Bn, 0, none⟩) (show Bn < w.heap.size from World.block_lt_of_cell? w _ HBn.out)).trans HBn.out))
      (Kd.C_below (Kd.C_below HR.out hB0) hW) hc HG.out ((hW.block _ bO.lt).trans bO) hJ h0)
    KpB.trans (fun W l o o' hl hlo hoc _ => KpB.putObj W l o o' (by omega) hlo hoc) (Below.refl _ _) (fun _ => rfl)
    (fun pre W => (∃ v, Boxed W w.heap.size 43 v ∧ W.ownsRow w.heap.size 69 2 v pre.length (flatR pre) ∧ True) ∧ Below w.heap.size w W)
    (fun _ _ _ => False)
    (OwnFrom.and (Own.from (holdsRow_own w.heap.size w.heap.size 43 69 2 (fun pre : List Rg => pre.length) flatR (fun _ _ => True)) _) (ownFrom_below (Nat.le_refl _) (by omega)))
    (fun _ _ _ _ _ hs _ _ => hs)
    ⟨⟨_, bO, World.ownsRow_nil _ _ _ _, trivial⟩, hB0⟩
    (fun x a' W => ∃ Bx, w.heap.size < Bx ∧ W.heap[Bx]? = some (.cells #[.int .i64 x.f0, .int .i64 x.f1] 69 (0, 0)) ∧ a' = { tmps := #[.slice none 0 0, .func (.func 101) #[] #[.pointer (some ⟨Bn, 0, none⟩)], .pointer (some ⟨w.heap.size, 0, none⟩), undef, .slice none 0 0, .pointer (some ⟨Bx, 0, none⟩), .func (.func 101) #[] #[.pointer (some ⟨Bn, 0, none⟩)], .agg #[.int .i64 x.f0, .int .i64 x.f1], undef, undef, undef, undef, undef], defers := [] })
    (fun x a' _ X Y row hs hg hr => by obtain ⟨Bx, h1, h2, h3⟩ := hs; exact ⟨Bx, h1, (grownBy_keeps_cells hg (fun r e => (hr r e).2) h2 rfl).trans h2, h3⟩)
    ?assign ?body ?done ?stop
  case assign =>
    rintro l pre x W K ⟨⟨v, hv, hrow, _⟩, hB⟩ hK
    have HV := Aside0.mk hv
    have HRW := Aside0.mk hrow
    have HB := Aside0.mk hB
    clear hv hrow hB
    gi_wp2
    refine hK _ _ ((KeepsOthers.alloc _ _).from _) (KpB.of_below (below_alloc (Below.refl _ W) _) (Nat.lt_of_lt_of_le HV.out.lt (Nat.le_refl _))) ⟨⟨v, HV.out.alloc _, HRW.out.alloc _, trivial⟩, HB.out.alloc HB.out.size _⟩ ⟨W.heap.size, HV.out.lt, heap_alloc_new W _, rfl⟩
  case body =>
    rintro l pre x a' W hl _ ⟨⟨v, hv, hrow, _⟩, hB⟩ ⟨Bx, hBx, hx, rfl⟩ hlt
    have hcv := hv.cell
    have hc0 : W.cell? ⟨Bx, 0, none⟩ = some (.int .i64 x.f0) := (blk_cell hx 0).trans rfl
    have hc1 : W.cell? ⟨Bx, 1, none⟩ = some (.int .i64 x.f1) := (blk_cell hx 1).trans rfl
    have HX := Aside0.mk hx
    have HV := Aside0.mk hv
    have HRW := Aside0.mk hrow
    have HB := Aside0.mk hB
    have hpl : pre.length < 1000000000 := Nat.lt_of_lt_of_le hlt (Nat.le_trans (mkR_length xs) (Nat.le_of_lt HG.out))
    have HPL := Aside0.mk hpl
    clear hx hv hrow hB hpl hlt
    gi_wp2_with (gi_at_builtin; refine wpListIn_append_at _ rfl _ _ 43 rfl w.heap.size 69 i0 (.agg #[.int .i64 0, .int .i64 0]) 2 16 Try.underlying43 HI.out HZ.out HZ1.out HZ2.out rfl (by decide) v pre.length (flatR pre) rfl (HRW.out.alloc _) ⟨W.heap.size, 0, none⟩ 1 1 [.int .i64 x.f0, .int .i64 x.f1] rfl rfl (by simpa using World.news_of_block (cs := #[.int .i64 x.f0, .int .i64 x.f1]) (t := 69) (fr := (0, 0)) (heap_alloc_new W (.cells #[.int .i64 x.f0, .int .i64 x.f1] 69))) (by simp [Value.oneCell']) (by have := HPL.out; unfold maxLen; omega) (by have := HPL.out; omega) (by have := HB.out.size; simp; omega) ?_; intro v' w1 hown' hgrow hat; obtain ⟨g', cap', rfl⟩ := ownsRow_succ hown'; obtain ⟨hv1, hv2, hr2, hk2, hb2⟩ := HV.out.appended (by decide) HRW.out HB.out.size (Nat.le_refl _) hown' hgrow; have hc1' := hv1.cell; have hf1 := hv1.frozen; have HG2 := Aside0.mk hgrow; have HA2 := Aside0.mk hat; have HV1 := Aside0.mk hv1; have HV2 := Aside0.mk hv2; have HR2 := Aside0.mk hr2; have HK2 := Aside0.mk hk2; have HB2 := Aside0.mk hb2; clear hgrow hat hown' hv1 hv2 hr2 hk2 hb2)
    refine ⟨HK2.out.from _, KpB.appended HV.out HG2.out HA2.out HV1.out, ⟨⟨_, HV2.out, ?_, trivial⟩, HB.out.trans HB2.out⟩⟩
    rw [List.length_append, List.length_singleton, flatR_append]
    exact HR2.out
  case done =>
    rintro D ys W hD rfl ⟨⟨v, hv, hrow, _⟩, hB⟩ hK
    have hcv := hv.cell
    have HRW := Aside0.mk hrow
    have HB := Aside0.mk hB
    have HK := Aside0.mk hK
    clear hv hrow hB hK
    gi_wp2
    refine ⟨by simp, .inl ⟨_, _, rfl, run_takeDeferred HK.out, ?_⟩⟩
    exact ⟨_, results_tmp rfl _ _ _, v, rfl, R_own_iff.2 ⟨fun _ _ => trivial, ownsRow_putObj HRW.out _ HK.out rfl⟩, HB.out.trans (belowK_b (w := w) (Nat.le_refl _) W D _ _ (by omega) HK.out rfl rfl)⟩
  case stop =>
    rintro D c pre W _ _ h _
    exact h.elim
set_option maxHeartbeats 1000000 in
theorem collect_calls (Bn : Nat) (A0 : Option Addr) (c0 : Nat) (xs : List Rg) (w : World)
    (hBn : w.cell? ⟨Bn, 0, none⟩ = some (.slice A0 xs.length c0)) (hR : Kd.C kRg w A0 xs.length xs) (hc : xs.length ≤ c0) (hbig : xs.length < 1000000000) :
    Calls Try.prog 93 #[.func (.func 101) #[] #[.pointer (some ⟨Bn, 0, none⟩)]] w fun e W' =>
      ∃ v, e = .returned v ∧ Kd.R kRg 69 W' w.heap.size (fun _ => True) v (mkR xs) ∧ Below w.heap.size w W' := by
  have HS := Aside0.mk (callsIn_wide.1 (append_seq 3 (by omega) Bn A0 c0 xs w hBn hR hc hbig))
  clear hBn hR hc hbig
  go_enter Try.func93, Try.ntmps93
  go_wp2_with (go_at_call 100; refine HS.out.mono ?_; rintro e w1 ⟨v, rfl, ho, hb⟩; have HO := Aside0.mk ho; have HB := Aside0.mk hb; clear ho hb)
  go_ret
  exact ⟨v, rfl, HO.out, HB.out⟩
end Go.Proofs.Ytcpicopaobhlcaa.Q
end
section
namespace Go.Proofs.Ytcpicopaobhlcaa.Q
open Go.RowKit Go.Shelf Go.Proofs.YtcpicopaobhlcaaW.PrintWords Go.Proofs.YtcpicopaobhlcaaW.PrintLast Go.Proofs.YtcpicopaobhlcaaW.PrintMore
set_option linter.unusedVariables false
/-- Whether the ranges of a canonical list hold c, as the closure of finder answers it. -/
def findR (ys : List Rg) (c : Int) : Bool :=
  let n := (List.range ys.length).countP (fun i : Nat => !decide (c ≤ (rd_T69 ys (i : Int)).f1))
  decide (n < ys.length) && decide ((rd_T69 ys n).f0 ≤ c)
set_option maxHeartbeats 2000000 in
theorem finder11_calls (bl bc : Nat) (A : Option Addr) (cap : Nat) (ys : List Rg) (c : Int) (i : Nat) (W : World) (hi : i < ys.length)
    (ha : W.cell? ⟨bl, 0, none⟩ = some (.slice A ys.length cap)) (hx : W.cell? ⟨bc, 0, none⟩ = some (.int .i64 c)) (hc : Kd.C kRg W A ys.length ys) :
    Calls Try.prog 97 (#[.int .i64 i] ++ #[.pointer (some ⟨bl, 0, none⟩), .pointer (some ⟨bc, 0, none⟩)]) W fun e w' => e = .returned (.bool (decide (c ≤ (rd_T69 ys i).f1))) ∧ ∃ q, w' = W.drewN q := by
  obtain ⟨ad, e, h0, h1⟩ := at_T69 hc (i : Int) (by omega) (by omega)
  subst e
  rw [Int.toNat_natCast] at h0 h1
  generalize rd_T69 ys i = y at h0 h1 ⊢
  clear hc
  have hiz : (i : Int) < (ys.length : Int) := by omega
  generalize ys.length = n at *
  go_enter Try.func97, Try.ntmps97
  go_wp2
  go_region
  all_goals go_wp2
  all_goals go_ret
  all_goals exact ⟨by first | rfl | simp, 1, rfl⟩
set_option maxHeartbeats 4000000 in
set_option maxRecDepth 100000 in
theorem finder1_calls (bl : Nat) (A : Option Addr) (cap : Nat) (ys : List Rg) (c : Int) (w : World) (hsz : ys.length < 1000000000)
    (ha : w.cell? ⟨bl, 0, none⟩ = some (.slice A ys.length cap)) (hC : Kd.C kRg w A ys.length ys)
    (hmono : ∀ a b : Nat, a ≤ b → b < ys.length → c ≤ (rd_T69 ys (a : Int)).f1 → c ≤ (rd_T69 ys (b : Int)).f1) :
    Calls Try.prog 95 #[.int .i64 c, .pointer (some ⟨bl, 0, none⟩)] w fun e w' => e = .returned (.bool (findR ys c)) ∧ Below w.heap.size w w' := by
  have hbl : bl < w.heap.size := World.block_lt_of_cell? w _ ha
  obtain ⟨W0, hW0⟩ : ∃ W0, W0 = w.alloc (.cells #[.int .i64 c] 3) := ⟨_, rfl⟩
  have hsize : W0.heap.size = w.heap.size + 1 := by rw [hW0]; simp
  have hB0 : Below w.heap.size w W0 := by rw [hW0]; exact (Below.refl _ w).alloc (Nat.le_refl _) _
  have ca : W0.cell? ⟨bl, 0, none⟩ = some (.slice A ys.length cap) := by rw [hW0]; exact cell_alloc_sl _ ha
  have cx : W0.cell? ⟨w.heap.size, 0, none⟩ = some (.int .i64 c) := by rw [hW0]; exact cell_new_sl w _ _
  have cc : Kd.C kRg W0 A ys.length ys := Kd.C_below hC hB0
  have eg : ∀ args w, (callFunc 97 args).run Try.prog w = .ok (.enter 97 args) w := enters_of Try.func97 (by kernel_rfl) rfl
  have hS := Any.sort_Search Try.search 97 #[.pointer (some ⟨bl, 0, none⟩), .pointer (some ⟨w.heap.size, 0, none⟩)] ys.length (fun i => decide (c ≤ (rd_T69 ys (i : Int)).f1)) W0 eg (by omega)
    (fun m os i hi => (finder11_calls bl w.heap.size A cap ys c i _ hi ((below_grown_sl W0.heap.size W0 m os (Nat.le_refl _)).cell (p := ⟨bl, 0, none⟩) (show bl < W0.heap.size by omega) |>.trans ca) ((below_grown_sl W0.heap.size W0 m os (Nat.le_refl _)).cell (p := ⟨w.heap.size, 0, none⟩) (show w.heap.size < W0.heap.size by omega) |>.trans cx) (Kd.C_below cc (below_grown_sl W0.heap.size W0 m os (Nat.le_refl _)))).mono
      fun _ _ ⟨he, q, hq⟩ => ⟨he, q, #[], by rw [hq, Go.Sort.grow_empty]⟩) (fun a b hab hb h => decide_eq_true (hmono a b hab hb (of_decide_eq_true h)))
  change Calls Try.prog 96 _ _ _ at hS
  unfold findR
  have hle : (List.range ys.length).countP (fun i : Nat => !decide (c ≤ (rd_T69 ys (i : Int)).f1)) ≤ ys.length := by
    have := List.countP_le_length (p := fun i : Nat => !decide (c ≤ (rd_T69 ys (i : Int)).f1)) (l := List.range ys.length)
    simpa using this
  generalize (List.range ys.length).countP (fun i : Nat => !decide (c ≤ (rd_T69 ys (i : Int)).f1)) = r at hS hle ⊢
  generalize hres : (decide (r < ys.length) && decide ((rd_T69 ys (r : Int)).f0 ≤ c)) = res
  have HRES := Aside0.mk hres
  clear hres
  have HS := Aside0.mk hS
  have HC := Aside0.mk cc
  have HCA := Aside0.mk ca
  have HCX := Aside0.mk cx
  have HB0 := Aside0.mk hB0
  clear hS hC ca cx cc eg hmono hB0
  go_enter Try.func95, Try.ntmps95
  go_wp2_with (go_at_call 96; rw [← hW0]; refine HS.out.mono ?_; rintro e w' ⟨rfl, q, os, rfl⟩; have HB1 := Aside0.mk (below_grown_sl W0.heap.size W0 q os (Nat.le_refl _)); generalize Go.Sort.grow (W0.drewN q) os = W1 at HB1 ⊢)
  have ha1 : W1.cell? ⟨bl, 0, none⟩ = some (.slice A ys.length cap) := (HB1.out.cell (p := ⟨bl, 0, none⟩) (show bl < W0.heap.size by omega)).trans HCA.out
  have hx1 : W1.cell? ⟨w.heap.size, 0, none⟩ = some (.int .i64 c) := (HB1.out.cell (p := ⟨w.heap.size, 0, none⟩) (show w.heap.size < W0.heap.size by omega)).trans HCX.out
  have HC1 := Aside0.mk (Kd.C_below HC.out HB1.out)
  have hBW : Aside0 (Below w.heap.size w W1) := ⟨below_step HB0.out HB1.out⟩
  clear HS ha HC HCA HCX hW0 HB0 HB1 hsize hbl
  by_cases hlt : r < ys.length
  · obtain ⟨ad, e, h0, h1⟩ := at_T69 HC1.out (r : Int) (by omega) (by omega)
    subst e
    rw [Int.toNat_natCast] at h0 h1
    have hd : res = decide ((rd_T69 ys (r : Int)).f0 ≤ c) := by rw [← HRES.out, decide_eq_true hlt, Bool.true_and]
    clear HRES
    generalize rd_T69 ys (r : Int) = y at h0 h1 hd
    have hiz : (r : Int) < (ys.length : Int) := by omega
    have HF := Aside0.mk hd
    clear HC1 hd hle
    generalize ys.length = n at *
    go_region
    all_goals go_wp2
    all_goals go_ret
    all_goals exact ⟨by rw [HF.out]; rfl, pw_below_drewN hBW.out _⟩
  · have hd : res = false := by rw [← HRES.out, decide_eq_false hlt, Bool.false_and]
    clear HRES
    have hiz : ¬ (r : Int) < (ys.length : Int) := by omega
    have HF := Aside0.mk hd
    clear hd hle
    generalize ys.length = n at *
    go_region
    all_goals go_wp2
    all_goals go_ret
    all_goals exact ⟨by rw [HF.out]; rfl, pw_below_drewN hBW.out _⟩
set_option maxHeartbeats 2000000 in
set_option maxRecDepth 100000 in
theorem finder_calls (A0 : Option Addr) (c0 : Nat) (xs : List Rg) (w : World) (hR : Kd.C kRg w A0 xs.length xs) (hc : xs.length ≤ c0) (hbig : xs.length < 1000000000) :
    Calls Try.prog 85 #[.agg #[.slice A0 xs.length c0]] w fun e w' => ∃ (b : Nat) (A1 : Option Addr) (c1 : Nat), e = .returned (.func (.func 95) #[] #[.pointer (some ⟨b, 0, none⟩)]) ∧
      w.heap.size ≤ b ∧ w'.cell? ⟨b, 0, none⟩ = some (.slice A1 (mkR xs).length c1) ∧ (mkR xs).length ≤ c1 ∧ Kd.C kRg w' A1 (mkR xs).length (mkR xs) ∧ Below w.heap.size w w' := by
  have HR := Aside0.mk hR
  have HC := Aside0.mk hc
  have HG := Aside0.mk hbig
  have HN : Aside0 (((w.alloc (.cells #[.slice A0 xs.length c0] 45)).alloc (.cells #[.slice A0 xs.length c0] 45)).cell? ⟨w.heap.size + 1, 0, none⟩ = some (.slice A0 xs.length c0)) := ⟨by have := cell_new_sl (w.alloc (.cells #[.slice A0 xs.length c0] 45)) (.slice A0 xs.length c0) 45; rwa [World.size_alloc] at this⟩
  have HRR := Aside0.mk (Kd.C_alloc (Kd.C_alloc hR (.cells #[.slice A0 xs.length c0] 45)) (.cells #[.slice A0 xs.length c0] 45))
  clear hR hc hbig
  go_enter Try.func85, Try.ntmps85
  go_wp2_with (first | (go_at_call 94; refine (ranges_calls _ _).mono ?_; rintro e W1 ⟨rfl, rfl⟩) | (go_at_call 93; refine (collect_calls (w.heap.size + 1) A0 c0 xs _ HN.out HRR.out HC.out HG.out).mono ?_; rintro e W1 ⟨v, rfl, ho, hb⟩; have HO := Aside0.mk ho; have HB := Aside0.mk hb; obtain ⟨A1, c1, ev⟩ := Kd.R_slice ho; subst ev; clear ho hb))
  go_ret
  have hB1 : Below w.heap.size w W1 := by
    have h0 : Below w.heap.size w ((w.alloc (.cells #[.slice A0 xs.length c0] 45)).alloc (.cells #[.slice A0 xs.length c0] 45)) := ((Below.refl _ w).alloc (Nat.le_refl _) _).alloc (by simp) _
    exact below_step h0 HB.out
  refine ⟨_, A1, c1, rfl, hB1.size, ?_, (Kd.R_reads' HO.out).2.1, Kd.C_alloc (Kd.R_reads' HO.out).2.2 _, hB1.alloc hB1.size _⟩
  exact cell_new_sl _ _ _
theorem countP_rangeL {α : Type} (z : α) (f : α → Bool) : ∀ ys : List α, (List.range ys.length).countP (fun i : Nat => f (ys.getD i z)) = ys.countP f
  | [] => rfl
  | y :: ys => by
    rw [List.length_cons, List.range_succ_eq_map, List.countP_cons, List.countP_cons, List.countP_map]
    have := countP_rangeL z f ys
    simp only [Function.comp_def, List.getD_cons_succ, List.getD_cons_zero] at this ⊢
    rw [this]
theorem canon_none (c : Int) : ∀ (ys : List Rg) (b : Int), CpM.CanonFrom b (ys.map toP) → c < b → ys.countP (fun r => !decide (c ≤ r.f1)) = 0
  | [], b, _, _ => rfl
  | r :: ys, b, ⟨h1, h2, h3, h4⟩, h => by
    have h1' : b ≤ r.f0 := h1
    have h2' : r.f0 ≤ r.f1 := h2
    rw [List.countP_cons, canon_none c ys _ h4 (show c < r.f1 + 2 by omega), decide_eq_true (show c ≤ r.f1 by omega)]
    rfl
theorem find_mem (c : Int) : ∀ (ys : List Rg) (b : Int), CpM.CanonFrom b (ys.map toP) →
    ((ys.countP (fun r => !decide (c ≤ r.f1)) < ys.length ∧ (ys.getD (ys.countP (fun r => !decide (c ≤ r.f1))) z69).f0 ≤ c) ↔ CpM.mem (ys.map toP) c)
  | [], b, _ => by simp [CpM.mem_nil]
  | r :: ys, b, ⟨h1, h2, h3, h4⟩ => by
    have h1' : b ≤ r.f0 := h1
    have h2' : r.f0 ≤ r.f1 := h2
    rw [List.map_cons, CpM.mem_cons, List.countP_cons]
    by_cases hc : c ≤ r.f1
    · rw [canon_none c ys _ h4 (show c < r.f1 + 2 by omega), decide_eq_true hc]
      constructor
      · rintro ⟨_, h⟩
        exact .inl ⟨h, hc⟩
      · rintro (⟨h, _⟩ | h)
        · exact ⟨by simp, h⟩
        · have h5 : r.f1 + 2 ≤ c := CpM.CanonFrom.ge h4 h
          omega
    · rw [decide_eq_false hc, ← find_mem c ys _ h4]
      simp only [Bool.not_false, if_true, List.length_cons, List.getD_cons_succ]
      constructor
      · rintro ⟨h5, h6⟩
        exact .inr ⟨by omega, h6⟩
      · rintro (⟨_, h5⟩ | ⟨h5, h6⟩)
        · exact absurd h5 hc
        · exact ⟨by omega, h6⟩
theorem mkR_canon (xs : List Rg) : CpM.CanonFrom 0 ((mkR xs).map toP) := by unfold mkR; rw [toP_ofP]; exact CpM.make_canon _
theorem findR_mk (xs : List Rg) (c : Int) : findR (mkR xs) c = CpM.hasB (xs.map toP) c := by
  have hn : (List.range (mkR xs).length).countP (fun i : Nat => !decide (c ≤ (rd_T69 (mkR xs) (i : Int)).f1)) = (mkR xs).countP (fun r => !decide (c ≤ r.f1)) :=
    countP_rangeL z69 (fun r : Rg => !decide (c ≤ r.f1)) (mkR xs)
  unfold findR
  simp only [hn]
  rw [Bool.eq_iff_iff, CpM.hasB_iff, ← CpM.make_mem, Bool.and_eq_true, decide_eq_true_eq, decide_eq_true_eq]
  have := find_mem c (mkR xs) 0 (mkR_canon xs)
  rw [show (mkR xs).map toP = CpM.make (xs.map toP) from toP_ofP _] at this
  exact this
theorem mkR_mono (xs : List Rg) (c : Int) (a b : Nat) (hab : a ≤ b) (hb : b < (mkR xs).length) (h : c ≤ (rd_T69 (mkR xs) (a : Int)).f1) : c ≤ (rd_T69 (mkR xs) (b : Int)).f1 := by
  suffices H : ∀ (ys : List Rg) (z : Int), CpM.CanonFrom z (ys.map toP) → ∀ a b : Nat, a ≤ b → b < ys.length → (ys.getD a z69).f1 ≤ (ys.getD b z69).f1 ∧ z ≤ (ys.getD b z69).f1 by
    exact Int.le_trans h (H (mkR xs) 0 (mkR_canon xs) a b hab hb).1
  intro ys
  induction ys with
  | nil => intro z _ a b _ h; simp at h
  | cons r ys ih =>
    rintro z ⟨h1, h2, h3, h4⟩ a b hab hb
    have h1' : z ≤ r.f0 := h1
    have h2' : r.f0 ≤ r.f1 := h2
    cases b with
    | zero => cases a with
      | zero => exact ⟨Int.le_refl _, show z ≤ r.f1 by omega⟩
      | succ a => omega
    | succ b =>
      have hb' : b < ys.length := by simpa using hb
      cases a with
      | zero =>
        have h5 : r.f1 + 2 ≤ (ys.getD b z69).f1 := (ih _ h4 b b (Nat.le_refl _) hb').2
        rw [List.getD_cons_succ, List.getD_cons_zero]
        exact ⟨by omega, by omega⟩
      | succ a =>
        have h5 := ih _ h4 a b (by omega) hb'
        have h6 : r.f1 + 2 ≤ (ys.getD b z69).f1 := h5.2
        rw [List.getD_cons_succ, List.getD_cons_succ]
        exact ⟨h5.1, by omega⟩
def cpset_Has.f (l0_0 : List S69) (a1 : Int) : Option Bool := if l0_0.length < 1000000000 then some (CpM.hasB (l0_0.map toP) a1) else none
set_option maxHeartbeats 2000000 in
theorem cpset_Has.calls (A0_0 : Option Addr) (c0_0 : Nat) (l0_0 : List S69) (a1 : Int) (r : Bool) (w : World) (hr0_0 : Kd.C k69 w A0_0 l0_0.length l0_0) (hc0_0 : l0_0.length ≤ c0_0) (h : cpset_Has.f l0_0 a1 = some r) :
    Calls Try.prog 73 #[.agg #[.slice A0_0 l0_0.length c0_0], .int .i64 a1] w fun e w' => e = .returned (.bool r) ∧ Below w.heap.size w w' := by
  unfold cpset_Has.f at h
  split at h
  · rename_i hlt
    injection h with h
    rw [← findR_mk] at h
    subst h
    have HL := Aside0.mk hlt
    have HR := Aside0.mk hr0_0
    have HC := Aside0.mk hc0_0
    have eg : ∀ args w, (callFunc 95 args).run Try.prog w = .ok (.enter 95 args) w := enters_of Try.func95 (by kernel_rfl) rfl
    clear hlt hr0_0 hc0_0
    generalize hf : findR (mkR l0_0) a1 = res
    have HF := Aside0.mk hf
    clear hf
    go_enter Try.func73, Try.ntmps73
    go_wp2_with (first | (go_at_call 85; refine (finder_calls A0_0 c0_0 l0_0 _ (Kd.C_alloc HR.out _) HC.out HL.out).mono ?_; rintro e W1 ⟨b, A1, c1, rfl, hb, hcell, hc1, hC1, hB⟩; have HB := Aside0.mk hB; have HCL := Aside0.mk hcell; have HC1 := Aside0.mk hC1; clear hb hcell hc1 hC1 hB) | (go_at_fn 95; go_loud (refine (finder1_calls _ A1 c1 (mkR l0_0) a1 _ (Nat.lt_of_le_of_lt (mkR_length l0_0) HL.out) HCL.out HC1.out (mkR_mono l0_0 a1)).mono ?_); rintro e W2 ⟨rfl, hB2⟩; have HB2 := Aside0.mk hB2; clear hB2))
    go_ret
    exact ⟨by rw [← HF.out]; rfl, below_step (below_step ((Below.refl _ w).alloc (Nat.le_refl _) _) HB.out) HB2.out⟩
  · cases h
end Go.Proofs.Ytcpicopaobhlcaa.Q
end
section
namespace Go.Proofs.Ytcpicopaobhlcaa.Q
open Go.RowKit Go.Maps Go.Proofs.YtcpicopaobhlcaaW.PrintWords Go.Proofs.YtcpicopaobhlcaaW.PrintLast Go.Proofs.YtcpicopaobhlcaaW.PrintMore
set_option linter.unusedVariables false
theorem rdU_mid (pre : List Ru) (x : Ru) (rest : List Ru) : rd_T41 (pre ++ x :: rest) (pre.length : Int) = x := by
  unfold rd_T41
  rw [Int.toNat_natCast, List.getD_eq_getElem?_getD, List.getElem?_append_right (Nat.le_refl _), Nat.sub_self]
  rfl
theorem check_go : ∀ (rest pre : List Ru) (k : Nat), (∀ x ∈ rest, okRule x = true) → (pre ++ rest).length < 1000000000 → rest.length + 1 ≤ k →
    transrule_Check.l0 k (pre ++ rest) ((pre ++ rest).length : Int) (pre.length : Int) = some (firstErr rest)
  | [], pre, k, h0, h1, h2 => by
    obtain ⟨k, rfl⟩ : ∃ j, k = j + 1 := ⟨k - 1, by omega⟩
    rw [transrule_Check.l0, if_neg (by simp)]
    rfl
  | x :: rest, pre, k, h0, h1, h2 => by
    obtain ⟨k, rfl⟩ : ∃ j, k = j + 1 := ⟨k - 1, by omega⟩
    have hp : pre.length < 1000000000 := by simp at h1; omega
    have ih := check_go rest (pre ++ [x]) k (fun y hy => h0 y (List.mem_cons_of_mem _ hy)) (by simpa using h1) (by simp at h2; omega)
    have ex : (pre ++ [x]) ++ rest = pre ++ x :: rest := by simp
    have el : ((pre ++ [x]).length : Int) = ((pre.length + 1 : Nat) : Int) := by simp
    rw [ex, el] at ih
    have hx := h0 x List.mem_cons_self
    rw [transrule_Check.l0, if_pos (by simp; omega), if_pos (by omega), if_pos (by simp; omega), rdU_mid, wrap_suc hp]
    unfold transrule_checkRule.f
    rw [if_pos hx]
    show (if oneS x = 0 then _ else _) = _
    rw [ih, firstErr]
    split <;> rfl
theorem check_ok (l : List Ru) (h : okRules l = true) : transrule_Check.f (l.length + 1) l = some (checkS l) := by
  unfold okRules at h
  rw [Bool.and_eq_true, decide_eq_true_eq, List.all_eq_true] at h
  unfold transrule_Check.f checkS
  by_cases hl : 200 < l.length
  · rw [if_pos (by omega), if_pos hl]
  · rw [if_neg (by omega), if_neg hl]
    exact check_go l [] (l.length + 1) h.2 (by simpa using by omega) (Nat.le_refl _)
/-- A value of the map stands for itself. -/
def RV : Value → Option (DataW Value × List MemPlace) := fun v => some (.held v, [])
/-- The rules whose Match begins with c. -/
def startsS (x : Ru) (c : Int) : Bool := hasS (x.f1.getD 0 z45) c
def beginS : List Ru → Nat → Int → List Int
  | [], _, _ => []
  | x :: l, i, c => if startsS x c then (i : Int) :: beginS l (i + 1) c else beginS l (i + 1) c
def nilD : DataW Value := .held (.slice none 0 0)
/-- What the map holds: at each key the row of the rules that begin with it. -/
def MachD (w : World) (g : Option Nat) (l : List Ru) (D : DataW Value) : Prop := ∀ c : Int, has D (.int .i64 c) = true → ∃ A cap, D.atKey (.int .i64 c) nilD = .held (.slice A (beginS l 0 c).length cap) ∧ (beginS l 0 c).length ≤ cap ∧ Kd.C (Kd.int .i64) w A (beginS l 0 c).length (beginS l 0 c) ∧ ∀ ad, A = some ad → 0 < (beginS l 0 c).length → some ad.block ≠ g
structure Mach (w : World) (g : Option Nat) (bm mb : Nat) (A : Option Addr) (cA : Nat) (l : List Ru) (n : Nat) : Prop where
  blk : w.heap[bm]? = some (.cells #[.slice A l.length cA, .map (some mb)] 76 (0, 0))
  map : ∃ D, w.ownsMap Try.prog 3 RV mb n D ∧ MachD w g l D
def MapAt (w : World) (mb : Nat) : Prop := ∃ es clock, w.heap[mb]? = some (.map es clock)
theorem ownsMap_at {w : World} {mb n : Nat} {D : DataW Value} (h : w.ownsMap Try.prog 3 RV mb n D) : MapAt w mb := by
  obtain ⟨es, clock, hb, _⟩ := h
  exact ⟨es, clock, hb⟩
theorem mach_own {w : World} {base n cap : Nat} {ok : Nat → Prop} {ad : Addr} {xs : List Int} (h : Kd.R (Kd.int .i64) 3 w base ok (.slice (some ad) n cap) xs) : (Value.slice (some ad) n cap).ownBlock = some ad.block := by
  obtain ⟨g, rfl⟩ := Kd.R_head h
  rfl
theorem mach_blk (ad : Addr) (k : Nat) : (ad.add k).block = ad.block := by
  unfold Addr.add
  split <;> rfl
theorem mach_grownC {w w' : World} {g : Option Nat} {A : Option Addr} {n : Nat} {xs : List Int} (h : Kd.C (Kd.int .i64) w A n xs) (hg : w.grownBy w' g) (hne : ∀ ad, A = some ad → 0 < n → some ad.block ≠ g) : Kd.C (Kd.int .i64) w' A n xs := by
  obtain ⟨h1, h2, h3⟩ := h
  refine ⟨h1, h2, fun h0 => ?_⟩
  obtain ⟨ad, e, hc⟩ := h3 h0
  refine ⟨ad, e, fun j p hj => ?_⟩
  obtain ⟨c, hl, hK, hcell⟩ := hc j p hj
  refine ⟨c, hl, hK, fun i u hu => ?_⟩
  have h4 := hcell i u hu
  rw [World.cell?_of_block (hg.block _ (World.block_lt_of_cell? w _ h4) (by rw [mach_blk]; exact hne ad e h0))]
  exact h4
/-- The block of a row that is not empty lies in the memory. -/
theorem mach_blockC {w : World} {A : Option Addr} {n : Nat} {xs : List Int} (h : Kd.C (Kd.int .i64) w A n xs) (ad : Addr) (e : A = some ad) (h0 : 0 < n) : ad.block < w.heap.size := by
  obtain ⟨h1, h2, h3⟩ := h
  obtain ⟨ad', e', hc⟩ := h3 h0
  cases e.symm.trans e'
  have hx : 0 < xs.length := by omega
  obtain ⟨c, hl, hK, hcell⟩ := hc 0 xs[0] (List.getElem?_eq_getElem hx)
  have hc0 : 0 < c.length := by rw [hl]; exact Nat.one_pos
  have h4 := World.block_lt_of_cell? w _ (hcell 0 c[0] (List.getElem?_eq_getElem hc0))
  rwa [mach_blk] at h4
/-- Cells stay where all blocks but the map stay. -/
theorem C_keep {w w' : World} {mb : Nat} (hm : MapAt w mb) (hk : ∀ k o, w.heap[k]? = some o → k ≠ mb → w'.heap[k]? = some o) {A : Option Addr} {n : Nat} {xs : List Int} (h : Kd.C (Kd.int .i64) w A n xs) : Kd.C (Kd.int .i64) w' A n xs := by
  obtain ⟨h1, h2, h3⟩ := h
  refine ⟨h1, h2, fun h0 => ?_⟩
  obtain ⟨ad, e, hc⟩ := h3 h0
  refine ⟨ad, e, fun j p hj => ?_⟩
  obtain ⟨c, hl, hK, hcell⟩ := hc j p hj
  refine ⟨c, hl, hK, fun i u hu => ?_⟩
  have h4 := hcell i u hu
  obtain ⟨es, clock, hmb⟩ := hm
  have h5 : w'.heap[(ad.add (j * (Kd.int .i64).sz + i)).block]? = w.heap[(ad.add (j * (Kd.int .i64).sz + i)).block]? := by
    cases ho : w.heap[(ad.add (j * (Kd.int .i64).sz + i)).block]? with
    | none => simp [World.cell?, ho] at h4
    | some o =>
      refine hk _ _ ho fun e => ?_
      rw [e, hmb] at ho
      cases ho
      simp [World.cell?, e, hmb] at h4
  unfold World.cell? at h4 ⊢
  rw [h5]
  exact h4
set_option maxHeartbeats 4000000 in
set_option maxRecDepth 100000 in
theorem open_calls (A0 : Option Addr) (c0 : Nat) (l0 : List Ru) (w : World) (hok : okRules l0 = true) (hr : Kd.C k41 w A0 l0.length l0) (hc : l0.length ≤ c0) :
    Calls Try.prog 42 #[.slice A0 l0.length c0] w fun e w' => ∃ (bm mb : Nat) (A : Option Addr) (cA : Nat), e = .returned (.pointer (some ⟨bm, 0, none⟩)) ∧ (∀ g, Mach w' g bm mb A cA (dataS l0) 0) ∧ Kd.C k41 w A (dataS l0).length (dataS l0) ∧ (dataS l0).length ≤ cA ∧ w.heap.size ≤ mb ∧ w.heap.size ≤ bm ∧ bm ≠ mb ∧ Below w.heap.size w w' := by
  have HR := Aside0.mk hr
  have HC := Aside0.mk hc
  have HCK := Aside0.mk (check_ok l0 hok)
  have hmm := @run_makeMap Try.prog
  clear hok hr hc
  by_cases h0 : checkS l0 = 0
  · have HD : Aside0 (dataS l0 = l0) := ⟨by unfold dataS; rw [if_pos h0]⟩
    rw [h0] at HCK
    clear h0
    go_enter Try.func42, Try.ntmps42
    go_wp2_with (go_at_call 26; (with_reducible refine (transrule_Check.calls (l0.length + 1) A0 c0 l0 0 _ HR.out HC.out HCK.out).mono ?_); rintro e w1 ⟨rfl, hb⟩; have HB := Aside0.mk hb; clear hb)
    go_ret
    have hbk : (((w1.alloc (.map #[] 0)).alloc (.cells #[.slice A0 (l0).length c0, .map (some w1.heap.size)] 76)).heap[w1.heap.size + 1]? = some (.cells #[.slice A0 (l0).length c0, .map (some w1.heap.size)] 76 (0, 0))) := by have := heap_alloc_new (w1.alloc (.map #[] 0)) (.cells #[.slice A0 (l0).length c0, .map (some w1.heap.size)] 76); rwa [World.size_alloc] at this
    rw [HD.out]
    exact ⟨w1.heap.size + 1, w1.heap.size, A0, c0, rfl, fun g => ⟨hbk, .map [], (World.ownsMap_made w1 _ _ _).alloc _, fun c h => by simp [has] at h⟩, HR.out, HC.out, HB.out.size, Nat.le_trans HB.out.size (Nat.le_succ _), by omega, below_alloc (below_alloc HB.out _) _⟩
  · have HD : Aside0 (dataS l0 = []) := ⟨by unfold dataS; rw [if_neg h0]⟩
    have hq : decide (checkS l0 = 0) = false := decide_eq_false h0
    have hq2 : (checkS l0 == 0) = false := by rw [beq_eq_false_iff_ne]; exact h0
    have hq3 : (checkS l0 != 0) = true := by rw [bne_iff_ne]; exact h0
    have hq4 : (!decide (checkS l0 = 0)) = true := by rw [decide_eq_false h0]; rfl
    generalize checkS l0 = q at *
    clear h0
    go_enter Try.func42, Try.ntmps42
    go_wp2_with (go_at_call 26; (with_reducible refine (transrule_Check.calls (l0.length + 1) A0 c0 l0 q _ HR.out HC.out HCK.out).mono ?_); rintro e w1 ⟨rfl, hb⟩; have HB := Aside0.mk hb; clear hb)
    go_ret
    have hbk : (((w1.alloc (.map #[] 0)).alloc (.cells #[.slice none (([] : List Ru)).length 0, .map (some w1.heap.size)] 76)).heap[w1.heap.size + 1]? = some (.cells #[.slice none (([] : List Ru)).length 0, .map (some w1.heap.size)] 76 (0, 0))) := by have := heap_alloc_new (w1.alloc (.map #[] 0)) (.cells #[.slice none (([] : List Ru)).length 0, .map (some w1.heap.size)] 76); rwa [World.size_alloc] at this
    rw [HD.out]
    exact ⟨w1.heap.size + 1, w1.heap.size, none, 0, rfl, fun g => ⟨hbk, .map [], (World.ownsMap_made w1 _ _ _).alloc _, fun c h => by simp [has] at h⟩, Kd.C_nil _ _, Nat.le_refl _, HB.out.size, Nat.le_trans HB.out.size (Nat.le_succ _), by omega, below_alloc (below_alloc HB.out _) _⟩
theorem beginS_snoc (c : Int) (x : Ru) : ∀ (l : List Ru) (i : Nat), beginS (l ++ [x]) i c = beginS l i c ++ (if startsS x c then [((i + l.length : Nat) : Int)] else [])
  | [], i => by simp [beginS]
  | y :: l, i => by
    have ih := beginS_snoc c x l (i + 1)
    have e : i + 1 + l.length = i + (y :: l).length := by simp; omega
    rw [e] at ih
    rw [List.cons_append, beginS, beginS, ih]
    split <;> simp
theorem beginS_length (c : Int) : ∀ (l : List Ru) (i : Nat), (beginS l i c).length ≤ l.length
  | [], _ => Nat.le_refl _
  | x :: l, i => by
    have := beginS_length c l (i + 1)
    rw [beginS]
    split <;> simp <;> omega
section
variable {P : Program} {ops : Array Oper} {rest : List Oper} {o : Oper} {a : Act} {Q : Exit → Act → World → Prop}
theorem wpList_look_ok {H : Type} (w : World) (hg : o.guard = none) (m x : Operand) (t : TypeId) (hop : o.op = Op.lookup t m x true)
    (k e : TypeId) (K : Keyed P k) (ht : P.underlying t = some (.map k e)) (R : Value → Option (DataW H × List MemPlace)) (z : Value) (hz : (zeroValue e).run P w = .ok z w) (zd : DataW H) (zp : List MemPlace) (hzd : R z = some (zd, zp)) (b n : Nat) (D : DataW H)
    (hm : a.eval m = .map (some b)) (hown : w.ownsMap P k R b n D) (key : Value) (kl : Lit) (hx : a.eval x = key) (hkey : keyOf P k key = some kl)
    (hK : ∀ v ps, R v = some (D.atKey kl zd, ps) → wpList P ops Q rest (a.put o.dst (.tuple #[v, .bool (Maps.has D kl)])) w) :
    wpList P ops Q (o :: rest) a w := by
  refine wpList_plain hg fun K' hK' => ?_
  obtain ⟨v, ps, hrun, hat⟩ := hown.look_ok K ht hz hzd hkey
  unfold Oper.wp
  simp [execOp, hop, hm, hx, hrun, Result.andThen]
  exact hK' _ _ (hK v ps hat)
end
theorem zero23 (w : World) : (zeroValue 31).run Try.prog w = .ok (.slice none 0 0) w := by kernel_rfl
set_option maxHeartbeats 4000000 in
set_option maxRecDepth 100000 in
theorem begin_calls (w0 w : World) (bm mb : Nat) (A : Option Addr) (cA : Nat) (l : List Ru) (n : Nat) (c : Int) (g : Option Nat) (hg0 : ∀ k, g = some k → k < w.heap.size) (hM : Mach w g bm mb A cA l n) (hb0 : Below w0.heap.size w0 w) (hmb : w0.heap.size ≤ mb) (hR : Kd.C k41 w0 A l.length l) (hc : l.length ≤ cA)
    (hl : l.length < 100000000) (hm1 : ∀ x ∈ l, 1 ≤ x.f1.length ∧ ∀ s ∈ x.f1, s.f0.length < 1000) (hn : n < 1000000000) (hwf : (Lit.int .i64 c).wf = true) :
    Calls Try.prog 66 #[.pointer (some ⟨bm, 0, none⟩), .int .i64 c] w fun e w' => ∃ A' cap, e = .returned (.slice A' (beginS l 0 c).length cap) ∧ (beginS l 0 c).length ≤ cap ∧ Kd.C (Kd.int .i64) w' A' (beginS l 0 c).length (beginS l 0 c) ∧ Mach w' g bm mb A cA l (n + 1) ∧ Below w0.heap.size w0 w' ∧ (∀ k o, w.heap[k]? = some o → k ≠ mb → w'.heap[k]? = some o) := by
  obtain ⟨hblk, D, hD, hMD⟩ := hM
  have hcl : w.cell? ⟨bm, 0, none⟩ = some (.slice A l.length cA) := (blk_cell hblk 0).trans rfl
  have hcm : w.cell? ⟨bm, 1, none⟩ = some (.map (some mb)) := (blk_cell hblk 1).trans rfl
  have HBLK := Aside0.mk hblk
  have HG0 := Aside0.mk hg0
  have HD := Aside0.mk hD
  have HMD := Aside0.mk hMD
  have HB0 := Aside0.mk hb0
  have HMB := Aside0.mk hmb
  have HR := Aside0.mk hR
  have HC := Aside0.mk hc
  have HL := Aside0.mk hl
  have HM1 := Aside0.mk hm1
  have HN := Aside0.mk hn
  have HKEY := Aside0.mk (keyOf_int_mk (P := Try.prog) Try.underlying3 hwf)
  clear hg0 hblk hD hMD hb0 hmb hR hc hl hm1 hn hwf
  cases hh : has D (.int .i64 c) with
  | true =>
    obtain ⟨A', cap, hat, hcap, hC, hAV⟩ := HMD.out c hh
    have HAT := Aside0.mk hat
    have HH := Aside0.mk hh
    have HCC := Aside0.mk hC
    have HCAP := Aside0.mk hcap
    clear hh hat hC hcap hAV
    generalize hbs : beginS l 0 c = bs at HCC HCAP HAT
    clear hbs
    go_enter Try.func66, Try.ntmps66
    go_wp2_with (at_lookup; refine wpList_look_ok _ rfl (.tmp 13) (.tmp 14) 74 rfl 3 31 (int_keyed Try.underlying3) Try.underlying74 RV _ (zero23 _) nilD [] rfl mb n D (by rfl) HD.out _ _ (by rfl) HKEY.out ?_; intro v ps hv; rw [HAT.out] at hv; have hv2 : (DataW.held v : DataW Value) = .held (.slice A' bs.length cap) := congrArg Prod.fst (Option.some.inj hv); injection hv2 with hv3; subst hv3; rw [HH.out]; clear hv)
    go_ret
    exact ⟨A', cap, rfl, HCAP.out, HCC.out, ⟨HBLK.out, D, HD.out.mono (Nat.le_succ n), HMD.out⟩, HB0.out, fun k o h _ => h⟩
  | false =>
    have HH := Aside0.mk hh
    have hz : D.atKey (.int .i64 c) nilD = nilD := atKey_of_not_has hh nilD
    have HZ := Aside0.mk hz
    clear hh hz
    go_enter Try.func66, Try.ntmps66
    go_wp2_with (at_lookup; refine wpList_look_ok _ rfl (.tmp 13) (.tmp 14) 74 rfl 3 31 (int_keyed Try.underlying3) Try.underlying74 RV _ (zero23 _) nilD [] rfl mb n D (by rfl) HD.out _ _ (by rfl) HKEY.out ?_; intro v ps hv; rw [HZ.out] at hv; have hv2 : (DataW.held v : DataW Value) = .held (.slice none 0 0) := congrArg Prod.fst (Option.some.inj hv); injection hv2 with hv3; subst hv3; rw [HH.out]; clear hv)
    go_loopw [5, 25] (fun lv i wr => ∃ k : Nat, i = .int .i64 k ∧ Aside0 (k ≤ l.length) ∧ Aside0 (Kd.R (Kd.int .i64) 3 wr w.heap.size (fun _ => True) lv (beginS (l.take k) 0 c)) ∧ Aside0 (Below w.heap.size w wr)) (fun _ i _ => l.length - (intOf i).toNat)
    case atStart => exact ⟨0, rfl, ⟨Nat.zero_le _⟩, ⟨Kd.R_nil _ _ _ _ _⟩, ⟨Below.refl _ _⟩⟩
    case round =>
      obtain ⟨k, rfl, HK, HO, HB⟩ := hrel
      by_cases hlt : k < l.length
      · have hRw := Kd.C_below HR.out (below_step HB0.out HB.out)
        obtain ⟨ad, B0, d0, B1, d1, B2, d2, B3, d3, e, x0, x1, x2, x3, y0, z0, y1, z1, y2, z2, y3, z3⟩ := at_T41 hRw (k : Int) (by omega) (by omega)
        cases e
        rw [Int.toNat_natCast] at x0 x1 x2 x3
        have hst : l.take (k + 1) = l.take k ++ [rd_T41 l (k : Int)] := by
          unfold rd_T41
          rw [Int.toNat_natCast, List.getD_eq_getElem?_getD, List.take_add_one, List.getElem?_eq_getElem hlt]
          rfl
        have hmem : rd_T41 l (k : Int) ∈ l := by unfold rd_T41; rw [Int.toNat_natCast, List.getD_eq_getElem?_getD, List.getElem?_eq_getElem hlt]; exact List.getElem_mem hlt
        have hsn := beginS_snoc c (rd_T41 l (k : Int)) (l.take k) 0
        rw [← hst, List.length_take, Nat.min_eq_left (Nat.le_of_lt hlt), Nat.zero_add] at hsn
        have HLEN : Aside0 ((beginS (l.take k) 0 c).length ≤ l.length) := ⟨Nat.le_trans (beginS_length c _ _) (List.length_take_le' _ _)⟩
        obtain ⟨hx1, hx2⟩ := HM1.out _ hmem
        clear hRw y0 z0 y2 z2 y3 z3 hst hmem
        have HSN := Aside0.mk hsn
        clear hsn
        generalize rd_T41 l (k : Int) = x at *
        obtain ⟨ad1, B4, d4, e1, hs0, hs1, hs2⟩ := at_T45 z1 0 (by omega) (by omega)
        cases e1
        have HS2 := Aside0.mk hs2
        have hmem1 : rd_T45 x.f1 0 ∈ x.f1 := by unfold rd_T45; rw [List.getD_eq_getElem?_getD, List.getElem?_eq_getElem (by omega : (0 : Int).toNat < x.f1.length)]; exact List.getElem_mem _
        have hF : cpset_Has.f (rd_T45 x.f1 0).f0 c = some (startsS x c) := by
          unfold cpset_Has.f
          rw [if_pos (by have := hx2 _ hmem1; omega)]
          rfl
        have HF := Aside0.mk hF
        clear z1 hs2 hmem1 hx2 hF
        have hp : (0 ≤ (k : Int)) = True := eq_true (by omega)
        have hp1 : ((0 : Int) < (x.f1.length : Int)) = True := eq_true (by omega)
        have hw : wrap64 ((k : Int) + 1) = (k : Int) + 1 := by have := HL.out; unfold wrap64; omega
        have hs00 : wr.cell? ad1 = some (.slice B4 (rd_T45 x.f1 0).f0.length d4) := by simpa [Addr.add] using hs0
        have hs0b := pw_cell_below (below_alloc (Below.refl _ wr) (.cells #[.slice B0 x.f0.length d0, .slice (some ad1) x.f1.length d1, .slice B2 x.f2.length d2, .slice B3 x.f3.length d3] 41)) hs00
        clear hs0 hs00
        generalize hb1 : startsS x c = b at HSN HF
        cases b with
        | true =>
          have HNX : Aside0 (beginS (l.take (k + 1)) 0 c = beginS (l.take k) 0 c ++ [(k : Int)]) := ⟨by rw [HSN.out]; rfl⟩
          go_wp2_with (first | (go_at_call 73; (with_reducible refine (cpset_Has.calls _ _ (rd_T45 x.f1 0).f0 c true _ ?s1 hs1 HF.out).mono ?_); (case s1 => exact Kd.C_alloc HS2.out _); rintro e w2 ⟨rfl, hb⟩; have n0_ := Aside0.mk (below_step (by repeat (first | (with_reducible first | exact HB.out | apply below_alloc | apply pw_below_drewN | apply below_drew1) | exact HB.out)) hb); have n1_ := Aside0.mk (Kd.R_below (by (with_reducible repeat (first | apply Kd.R_alloc | apply Kd.R_drewN | apply Kd.R_drew)); exact HO.out) hb); clear HB HO hb; have HB := n0_; have HO := n1_; clear n0_ n1_) | (at_builtin; refine Kd.R_append (Kd.int .i64) (w0 := w) w.heap.size rfl (.tmp 36) (.tmp 38) 31 3 (.int .i64 0) 8 rfl Try.underlying31 info3 rfl (by decide) (by omega) _ (beginS (l.take k) 0 c) (k : Int) [.int .i64 (k : Int)] (fun _ => True) (fun _ => False) rfl rfl ?aP (fun _ hk => hk.elim) ?aF ?aO ?aB ?aS ?aL ?_; (case aP => exact rfl); (case aB => exact (by repeat (first | (with_reducible first | exact HB.out | apply below_alloc | apply pw_below_drewN | apply below_drew1) | exact HB.out))); (case aF => exact (fun _ _ => trivial)); (case aO => exact (by (with_reducible repeat (first | apply Kd.R_alloc | apply Kd.R_drewN | apply Kd.R_drew)); exact HO.out)); (case aS => exact (below_size (by repeat (first | (with_reducible first | exact HB.out | apply below_alloc | apply pw_below_drewN | apply below_drew1) | exact HB.out)))); (case aL => have h1_ := HLEN.out; have h2_ := HL.out; omega); intro v3 w4 ho hb hg hat; have HB4 := Aside0.mk hb; have HO4 := Aside0.mk ho; clear ho hb hg hat))
          go_roundw
          case rel => exact ⟨k + 1, by rw [hw]; rfl, ⟨hlt⟩, ⟨by rw [HNX.out]; exact HO4.out⟩, HB4⟩
          case measure => rw [hw]; simp only [intOf]; omega
        | false =>
          have HNX : Aside0 (beginS (l.take (k + 1)) 0 c = beginS (l.take k) 0 c) := ⟨by rw [HSN.out]; exact List.append_nil _⟩
          go_wp2_with (go_at_call 73; (with_reducible refine (cpset_Has.calls _ _ (rd_T45 x.f1 0).f0 c false _ ?s1 hs1 HF.out).mono ?_); (case s1 => exact Kd.C_alloc HS2.out _); rintro e w2 ⟨rfl, hb⟩; have n0_ := Aside0.mk (below_step (by repeat (first | (with_reducible first | exact HB.out | apply below_alloc | apply pw_below_drewN | apply below_drew1) | exact HB.out)) hb); have n1_ := Aside0.mk (Kd.R_below (by (with_reducible repeat (first | apply Kd.R_alloc | apply Kd.R_drewN | apply Kd.R_drew)); exact HO.out) hb); clear HB HO hb; have HB := n0_; have HO := n1_; clear n0_ n1_)
          go_roundw
          case rel => exact ⟨k + 1, by rw [hw]; rfl, ⟨hlt⟩, ⟨by rw [HNX.out]; exact HO.out⟩, HB⟩
          case measure => rw [hw]; simp only [intOf]; omega
      · obtain rfl : k = l.length := by have := HK.out; omega
        rw [List.take_length] at HO
        obtain ⟨A', cap, ev⟩ := Kd.R_slice HO.out
        subst ev
        have HMW := Aside0.mk (HD.out.kept (grown_of_below HB.out none) (by simp))
        have hcm2 := (HB.out.cell (p := ⟨bm, 1, none⟩) (blk_lt HBLK.out)).trans hcm
        have HLR := Aside0.mk (Kd.R_reads' HO.out)
        have HAV : Aside0 (∀ ad, A' = some ad → 0 < (beginS l 0 c).length → some ad.block ≠ g) := ⟨fun ad e _ e2 => by
          subst e
          have h1 := HG0.out ad.block e2.symm
          have h2 := Kd.R_base HO.out ad.block (mach_own HO.out)
          omega⟩
        go_wp2_with (at_mapUpdate; refine wpList_mapUpdate_own _ rfl (.tmp 44) (.tmp 45) (.tmp 46) 74 rfl 3 31 (int_keyed Try.underlying3) Try.underlying74 RV mb n D (by rfl) HMW.out (by have := HN.out; unfold maxLen; omega) _ _ (.int .i64 c) (by rfl) (by rfl) HKEY.out (.held (.slice A' (beginS l 0 c).length cap)) [] rfl ?_; intro w5 hown hg; have HOW := Aside0.mk hown; have HG := Aside0.mk hg; clear hown hg)
        go_ret
        have hkp : ∀ k o, wr.heap[k]? = some o → k ≠ mb → w5.heap[k]? = some o := fun k o h hk => (HG.out.block k (blk_lt h) (fun e => hk (Option.some.inj e))).trans h
        have hkq : ∀ k o, w.heap[k]? = some o → k ≠ mb → w5.heap[k]? = some o := fun k o h hk => hkp k o (blk_below h HB.out) hk
        have hne : bm ≠ mb := by
          obtain ⟨es, clock, hmp⟩ := ownsMap_at HD.out
          intro e
          have := HBLK.out
          rw [e, hmp] at this
          cases this
        have hbw : Below w0.heap.size w0 w5 := (below_step HB0.out HB.out).grown HG.out (below_step HB0.out HB.out).size (fun k hk => by cases hk; exact HMB.out)
        have hCn := C_keep (ownsMap_at HMW.out) hkp HLR.out.2.2
        refine ⟨A', cap, rfl, HLR.out.2.1, hCn, ⟨hkq _ _ HBLK.out hne, _, HOW.out, fun c' h' => ?_⟩, hbw, hkq⟩
        by_cases hcc : c' = c
        · subst hcc
          exact ⟨A', cap, atKey_put_same HD.out.isMap (show WideAt.IsKeyLit (.int .i64 c') from trivial) _ _, HLR.out.2.1, hCn, HAV.out⟩
        · have hnk : (Lit.int .i64 c') ≠ .int .i64 c := fun e => hcc (by injection e)
          rw [has_put_other hnk] at h'
          obtain ⟨A2, cap2, e1, e2, e3, e4⟩ := HMD.out c' h'
          exact ⟨A2, cap2, by rw [atKey_put_other hnk]; exact e1, e2, C_keep (ownsMap_at HD.out) hkq e3, e4⟩
end Go.Proofs.Ytcpicopaobhlcaa.Q
end
