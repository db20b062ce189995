/- Lemmas, printed and written for this claim: part 11. -/
import Derived.WalkKit
import Derived.WalkSpells
import Derived.IntWalk
import Derived.Deep.RegionHeld3
import Derived.Deep.RegionLaw
import Derived.Test.YthnkmcfhpjmihaaG10
import Derived.Test.YthnkmcfhpjmihaaG2
import Derived.Test.YthnkmcfhpjmihaaG5
import Derived.Test.YthnkmcfhpjmihaaG3
section
namespace Go.Proofs.Ythnkmcfhpjmihaa.Q
open Go.RowKit Go.Proofs.YthnkmcfhpjmihaaW.PrintWords Go.Proofs.YthnkmcfhpjmihaaW.PrintLast Go.Proofs.YthnkmcfhpjmihaaW.PrintMore
set_option linter.unusedVariables false
theorem rowNe {w : World} {b : Nat} {cs : Array Value} {t : TypeId} {base : Nat} {ok : Nat → Prop} {v : Value} {xs : List Int} (h : w.heap[b]? = some (.cells cs t (0, 0))) (ht : t ≠ 3) (hr : Kd.R (Kd.int .i64) 3 w base ok v xs) : some b ≠ v.ownBlock := fun e => by
  obtain ⟨cells, hc⟩ := Kd.R_typed hr b e.symm
  rw [h] at hc
  injection hc with hc
  injection hc with _ hc2
  exact ht hc2
theorem within_cons (p : Rg) (l : List Rg) (a : Int) (n : Nat) : withinS (p :: l) a n = (decide (a ≤ p.f0) && decide (p.f0 ≤ p.f1) && decide (p.f1 ≤ (n : Int)) && withinS l p.f1 n) := rfl
theorem drop_rdG (l : List Rg) (k : Nat) (h : k < l.length) : l.drop k = rd_T33 l (k : Int) :: l.drop (k + 1) := by
  rw [List.drop_eq_getElem_cons h]
  unfold rd_T33
  rw [Int.toNat_natCast, List.getD_eq_getElem?_getD, List.getElem?_eq_getElem h]; rfl
theorem titleA_len {c : CaseS} (text : List Int) (p : Rg) (l : List Rg) (a lo hi : Nat) (h0 : p.f0 = (lo : Int)) (h1 : p.f1 = (hi : Int)) : titleA c text (p :: l) a = (text.take lo).drop a ++ titledS c text (hi - lo) lo false ++ titleA c text l hi := by
  rw [titleA, h0, h1, Int.toNat_natCast, Int.toNat_natCast]
set_option maxHeartbeats 16000000 in
set_option maxRecDepth 100000 in
theorem casemap_Title.calls (A0_0 : Option Addr) (c0_0 : Nat) (l0_0 : List Mp) (A0_1 : Option Addr) (c0_1 : Nat) (l0_1 : List Mp) (A0_2 : Option Addr) (c0_2 : Nat) (l0_2 : List Mp) (A0_3 : Option Addr) (c0_3 : Nat) (l0_3 : List Mp) (A0_4 : Option Addr) (c0_4 : Nat) (l0_4 : List Rg) (A0_5 : Option Addr) (c0_5 : Nat) (l0_5 : List Rg) (A1 : Option Addr) (c1 : Nat) (l1 : List Int) (A2 : Option Addr) (c2 : Nat) (l2 : List Rg) (r : List Int) (w : World) (hr0_0 : Kd.C k43 w A0_0 l0_0.length l0_0) (hc0_0 : l0_0.length ≤ c0_0) (hr0_1 : Kd.C k43 w A0_1 l0_1.length l0_1) (hc0_1 : l0_1.length ≤ c0_1) (hr0_2 : Kd.C k43 w A0_2 l0_2.length l0_2) (hc0_2 : l0_2.length ≤ c0_2) (hr0_3 : Kd.C k43 w A0_3 l0_3.length l0_3) (hc0_3 : l0_3.length ≤ c0_3) (hr0_4 : Kd.C k33 w A0_4 l0_4.length l0_4) (hc0_4 : l0_4.length ≤ c0_4) (hr0_5 : Kd.C k33 w A0_5 l0_5.length l0_5) (hc0_5 : l0_5.length ≤ c0_5) (hr1 : Kd.C (Kd.int .i64) w A1 l1.length l1) (hc1 : l1.length ≤ c1) (hr2 : Kd.C k33 w A2 l2.length l2) (hc2 : l2.length ≤ c2) (h : casemap_Title.f l0_0 l0_1 l0_2 l0_3 l0_4 l0_5 l1 l2 = some r) :
    Calls Try.prog 15 #[.agg #[.slice A0_0 l0_0.length c0_0, .slice A0_1 l0_1.length c0_1, .slice A0_2 l0_2.length c0_2, .slice A0_3 l0_3.length c0_3, .slice A0_4 l0_4.length c0_4, .slice A0_5 l0_5.length c0_5], .slice A1 l1.length c1, .slice A2 l2.length c2] w fun e w' => ∃ v0_ : Value, e = .returned (v0_) ∧ Kd.R (Kd.int .i64) 3 w' w.heap.size (fun _ => True) v0_ r ∧ Below w.heap.size w w' := by
  unfold casemap_Title.f at h
  by_cases hok : okC ⟨l0_0, l0_1, l0_2, l0_3, l0_4, l0_5⟩ = true ∧ okT l1 = true ∧ l2.length < 100000
  · rw [if_pos hok] at h
    injection h with h
    obtain ⟨hok, hot, hl2⟩ := hok
    have hlt : l1.length < 100000 := by unfold okT at hot; exact of_decide_eq_true hot
    obtain ⟨d1, d2, d3, d4, d5⟩ := caseData_ok hok
    have HTS := Aside0.mk (show r = if withinS l2 0 l1.length then titleA (caseData ⟨l0_0, l0_1, l0_2, l0_3, l0_4, l0_5⟩) l1 l2 0 else l1 from h.symm)
    have HBX := Aside0.mk (below_alloc (Below.refl w.heap.size w) (Obj.cells #[Value.slice A0_0 l0_0.length c0_0, Value.slice A0_1 l0_1.length c0_1, Value.slice A0_2 l0_2.length c0_2, Value.slice A0_3 l0_3.length c0_3, Value.slice A0_4 l0_4.length c0_4, Value.slice A0_5 l0_5.length c0_5] 27))
    have HOK := Aside0.mk hok
    have HRT := Aside0.mk hr1
    have HCT := Aside0.mk hc1
    have HRP := Aside0.mk hr2
    have HCP := Aside0.mk hc2
    have HLT := Aside0.mk hlt
    have HL2 := Aside0.mk hl2
    have HD := Aside0.mk (And.intro d1 (And.intro d2 (And.intro d3 (And.intro d4 d5))))
    have hu := Try.underlying27
    have HR0 := Aside0.mk hr0_0
    have HC0 := Aside0.mk hc0_0
    have HR1 := Aside0.mk hr0_1
    have HC1 := Aside0.mk hc0_1
    have HR2 := Aside0.mk hr0_2
    have HC2 := Aside0.mk hc0_2
    have HR3 := Aside0.mk hr0_3
    have HC3 := Aside0.mk hc0_3
    have HR4 := Aside0.mk hr0_4
    have HC4 := Aside0.mk hc0_4
    have HR5 := Aside0.mk hr0_5
    have HC5 := Aside0.mk hc0_5
    clear h hok hot hl2 hlt d1 d2 d3 d4 d5 hr1 hc1 hr2 hc2 hr0_0 hc0_0 hr0_1 hc0_1 hr0_2 hc0_2 hr0_3 hc0_3 hr0_4 hc0_4 hr0_5 hc0_5
    have HCLF : Aside0 (slices_Clone_int_int.f l1 = some l1) := ⟨by unfold slices_Clone_int_int.f; rw [if_pos (by have := HLT.out; omega)]⟩
    go_enter Try.func15, Try.ntmps15
    go_upto_region 2 with (go_at_call 30; (with_reducible refine (open_calls A0_0 c0_0 l0_0 A0_1 c0_1 l0_1 A0_2 c0_2 l0_2 A0_3 c0_3 l0_3 A0_4 c0_4 l0_4 A0_5 c0_5 l0_5 A1 c1 l1 _ (Kd.C_below HR0.out HBX.out) HC0.out (Kd.C_below HR1.out HBX.out) HC1.out (Kd.C_below HR2.out HBX.out) HC2.out (Kd.C_below HR3.out HBX.out) HC3.out (Kd.C_below HR4.out HBX.out) HC4.out (Kd.C_below HR5.out HBX.out) HC5.out (Kd.C_below HRT.out HBX.out) HCT.out HOK.out).mono ?_); rintro e w2 ⟨b, rfl, hm, hb⟩; have HM := Aside0.mk hm; have HB2 := Aside0.mk (below_step HBX.out hb); clear hm hb)
    generalize caseData ⟨l0_0, l0_1, l0_2, l0_3, l0_4, l0_5⟩ = d at *
    go_wp2
    go_loopw [8, 22] (fun av i wr => ∃ (k : Nat) (a : Int), av = .int .i64 a ∧ i = .int .i64 k ∧ Aside0 (k ≤ l2.length ∧ 0 ≤ a) ∧ Aside0 (withinS l2 0 l1.length = withinS (l2.drop k) a l1.length) ∧ Aside0 (Mpr wr b d l1) ∧ Aside0 (Below w.heap.size w wr)) (fun _ i _ => l2.length - (intOf i).toNat)
    case atStart => exact ⟨0, 0, rfl, rfl, ⟨Nat.zero_le _, Int.le_refl _⟩, ⟨rfl⟩, HM, HB2⟩
    case round =>
      clear HB2 HM
      obtain ⟨k, a, rfl, rfl, HK, HWI, HM, HB⟩ := hrel
      by_cases hlt : k < l2.length
      · have hwi := HWI.out
        obtain ⟨ad, e, x0, x1⟩ := at_T33 (Kd.C_below HRP.out HB.out) (k : Int) (by omega) (by omega)
        cases e
        rw [Int.toNat_natCast] at x0 x1
        have hp1 : (0 ≤ (k : Int)) = True := eq_true (by omega)
        have hp2 : ((k : Int) < (l2.length : Int)) = True := eq_true (by omega)
        have hdl : decide ((k : Int) < (l2.length : Int)) = true := decide_eq_true (by omega)
        have hw : wrap64 ((k : Int) + 1) = (k : Int) + 1 := by have := HL2.out; unfold wrap64; omega
        have hdr := drop_rdG l2 k hlt
        have HLK := Aside0.mk hlt
        generalize rd_T33 l2 (k : Int) = p at *
        rw [hdr, within_cons] at hwi
        by_cases g0 : p.f0 < a
        · have y0 : decide (p.f0 < a) = true := decide_eq_true g0
          have HF := Aside0.mk (show withinS l2 0 l1.length = false by rw [hwi]; rw [decide_eq_false (by omega)]; rfl)
          clear hwi hdr hlt
          go_wp2_with (first | (go_at_call 31; (with_reducible refine (slices_Clone_int_int.calls A1 c1 l1 l1 _ ?s1 HCT.out HCLF.out).mono ?_); (case s1 => exact Kd.C_below HRT.out (by repeat (first | (with_reducible first | exact HB.out | apply below_alloc | apply pw_below_drewN | apply below_drew1) | exact HB.out))); rintro e w3 ⟨v3, rfl, hv, hb⟩; have HV := Aside0.mk (Kd.R_lower hv (below_size (show Below w.heap.size w _ from (by repeat (first | (with_reducible first | exact HB.out | apply below_alloc | apply pw_below_drewN | apply below_drew1) | exact HB.out))))); have HB3 := Aside0.mk (below_step (show Below w.heap.size w _ from (by repeat (first | (with_reducible first | exact HB.out | apply below_alloc | apply pw_below_drewN | apply below_drew1) | exact HB.out))) hb); clear hv hb))
          go_ret
          rw [HTS.out, HF.out, if_neg (by decide)]
          exact ⟨v3, rfl, HV.out, HB3.out⟩
        · have y0 : decide (p.f0 < a) = false := decide_eq_false g0
          by_cases g1 : p.f1 < p.f0
          · have y1 : decide (p.f1 < p.f0) = true := decide_eq_true g1
            have HF := Aside0.mk (show withinS l2 0 l1.length = false by rw [hwi]; rw [decide_eq_false (by omega : ¬ p.f0 ≤ p.f1)]; simp)
            clear hwi hdr hlt
            go_wp2_with (first | (go_at_call 31; (with_reducible refine (slices_Clone_int_int.calls A1 c1 l1 l1 _ ?s1 HCT.out HCLF.out).mono ?_); (case s1 => exact Kd.C_below HRT.out (by repeat (first | (with_reducible first | exact HB.out | apply below_alloc | apply pw_below_drewN | apply below_drew1) | exact HB.out))); rintro e w3 ⟨v3, rfl, hv, hb⟩; have HV := Aside0.mk (Kd.R_lower hv (below_size (show Below w.heap.size w _ from (by repeat (first | (with_reducible first | exact HB.out | apply below_alloc | apply pw_below_drewN | apply below_drew1) | exact HB.out))))); have HB3 := Aside0.mk (below_step (show Below w.heap.size w _ from (by repeat (first | (with_reducible first | exact HB.out | apply below_alloc | apply pw_below_drewN | apply below_drew1) | exact HB.out))) hb); clear hv hb))
            go_ret
            rw [HTS.out, HF.out, if_neg (by decide)]
            exact ⟨v3, rfl, HV.out, HB3.out⟩
          · have y1 : decide (p.f1 < p.f0) = false := decide_eq_false g1
            by_cases g2 : (l1.length : Int) < p.f1
            · have y2 : decide (p.f1 > (l1.length : Int)) = true := decide_eq_true g2
              have HF := Aside0.mk (show withinS l2 0 l1.length = false by rw [hwi]; rw [decide_eq_false (by omega : ¬ p.f1 ≤ (l1.length : Int))]; simp)
              clear hwi hdr hlt
              go_wp2_with (first | (go_at_call 31; (with_reducible refine (slices_Clone_int_int.calls A1 c1 l1 l1 _ ?s1 HCT.out HCLF.out).mono ?_); (case s1 => exact Kd.C_below HRT.out (by repeat (first | (with_reducible first | exact HB.out | apply below_alloc | apply pw_below_drewN | apply below_drew1) | exact HB.out))); rintro e w3 ⟨v3, rfl, hv, hb⟩; have HV := Aside0.mk (Kd.R_lower hv (below_size (show Below w.heap.size w _ from (by repeat (first | (with_reducible first | exact HB.out | apply below_alloc | apply pw_below_drewN | apply below_drew1) | exact HB.out))))); have HB3 := Aside0.mk (below_step (show Below w.heap.size w _ from (by repeat (first | (with_reducible first | exact HB.out | apply below_alloc | apply pw_below_drewN | apply below_drew1) | exact HB.out))) hb); clear hv hb))
              go_ret
              rw [HTS.out, HF.out, if_neg (by decide)]
              exact ⟨v3, rfl, HV.out, HB3.out⟩
            · have y2 : decide (p.f1 > (l1.length : Int)) = false := decide_eq_false g2
              have HWN := Aside0.mk (show withinS l2 0 l1.length = withinS (l2.drop (k + 1)) p.f1 l1.length by rw [hwi, decide_eq_true (by omega), decide_eq_true (by omega), decide_eq_true (by omega)]; rfl)
              have HPOS := Aside0.mk (show 0 ≤ p.f1 by have := HK.out.2; omega)
              clear hwi hdr hlt g0 g1 g2
              go_wp2
              go_roundw
              case rel => exact ⟨k + 1, p.f1, rfl, by rw [hw]; rfl, ⟨HLK.out, HPOS.out⟩, HWN, ⟨HM.out.below (below_alloc (Below.refl _ _) _)⟩, ⟨below_alloc HB.out _⟩⟩
              case measure => rw [hw]; simp only [intOf]; have := HLK.out; omega
      · obtain rfl : k = l2.length := by have := HK.out; omega
        have hdl : decide ((l2.length : Int) < (l2.length : Int)) = false := decide_eq_false (by omega)
        have hwi := HWI.out
        rw [List.drop_length] at hwi
        have HW1 := Aside0.mk (show withinS l2 0 l1.length = true from hwi)
        clear hwi hlt HWI HK
        have HTA := Aside0.mk (show r = titleA d l1 l2 0 by rw [HTS.out, HW1.out, if_pos rfl])
        clear HTS
        go_wp2
        obtain ⟨WB, hWB⟩ : ∃ WB, WB = wr := ⟨_, rfl⟩
        rw [← hWB]
        rw [← hWB] at HM HB
        have HB0 := HB
        have HM0 := HM
        clear HB HM hWB
        have HBW := HB0
        clear HB0
        have HTY := Aside0.mk HM0.out
        go_loopw [8, 11, 51] (fun av ov i wr => ∃ (k a : Nat) (O : List Int), av = .int .i64 a ∧ i = .int .i64 k ∧ Aside0 (k ≤ l2.length ∧ a ≤ l1.length ∧ withinS (l2.drop k) (a : Int) l1.length = true) ∧ Aside0 (O ++ titleA d l1 (l2.drop k) a = r ∧ O.length ≤ 100000 * a) ∧ Aside0 (Kd.R (Kd.int .i64) 3 wr WB.heap.size (fun _ => True) ov O) ∧ Aside0 (Below WB.heap.size WB wr)) (fun _ _ i _ => l2.length - (intOf i).toNat)
        case atStart => exact ⟨0, 0, [], rfl, rfl, ⟨Nat.zero_le _, Nat.zero_le _, HW1.out⟩, ⟨HTA.out.symm, Nat.zero_le _⟩, ⟨Kd.R_nil _ _ _ _ _⟩, ⟨Below.refl _ _⟩⟩
        case round =>
          obtain ⟨k, a, O, rfl, rfl, HK, HEQ, HO, HB⟩ := hrel
          by_cases hlt : k < l2.length
          · rename World => W3
            have HBK := Aside0.mk (below_step HBW.out HB.out)
            obtain ⟨ad, e, x0, x1⟩ := at_T33 (Kd.C_below HRP.out HBK.out) (k : Int) (by omega) (by omega)
            cases e
            rw [Int.toNat_natCast] at x0 x1
            have hp1 : (0 ≤ (k : Int)) = True := eq_true (by omega)
            have hp2 : ((k : Int) < (l2.length : Int)) = True := eq_true (by omega)
            have hdl : decide ((k : Int) < (l2.length : Int)) = true := decide_eq_true (by omega)
            have hw : wrap64 ((k : Int) + 1) = (k : Int) + 1 := by have := HL2.out; unfold wrap64; omega
            have hdr := drop_rdG l2 k hlt
            have HLK := Aside0.mk hlt
            generalize rd_T33 l2 (k : Int) = p at *
            have hwk := HK.out.2.2
            rw [hdr, within_cons] at hwk
            simp only [Bool.and_eq_true, decide_eq_true_eq] at hwk
            obtain ⟨⟨⟨b1, b2⟩, b3⟩, b4⟩ := hwk
            obtain ⟨lo, hlo⟩ : ∃ lo : Nat, p.f0 = (lo : Int) := ⟨p.f0.toNat, by omega⟩
            obtain ⟨hi, hhi⟩ : ∃ hi : Nat, p.f1 = (hi : Int) := ⟨p.f1.toNat, by omega⟩
            have heq := HEQ.out.1
            rw [hdr, titleA_len l1 p (l2.drop (k + 1)) a lo hi hlo hhi] at heq
            rw [hlo] at x0 b1 b2
            rw [hhi] at x1 b2 b3 b4
            have HLH := Aside0.mk (And.intro (show a ≤ lo by omega) (And.intro (show lo ≤ hi by omega) (show hi ≤ l1.length by omega)))
            have HW4 := Aside0.mk b4
            have HEQ2 := Aside0.mk heq
            clear hlt hdr b1 b2 b3 b4 hlo hhi heq
            go_wp2
            obtain ⟨g, hg⟩ : ∃ g, g = W3.heap.size := ⟨_, rfl⟩
            have hgk := blk_new W3 (Obj.cells #[Value.int IntKind.i64 lo, Value.int IntKind.i64 hi] 33)
            rw [← hg] at hgk
            rw [← hg]
            have HGK := Aside0.mk hgk
            have HB1 := Aside0.mk (below_alloc HB.out (Obj.cells #[Value.int IntKind.i64 lo, Value.int IntKind.i64 hi] 33))
            have HO1 := Aside0.mk (Kd.R_alloc HO.out (Obj.cells #[Value.int IntKind.i64 lo, Value.int IntKind.i64 hi] 33))
            generalize W3.alloc (Obj.cells #[Value.int IntKind.i64 lo, Value.int IntKind.i64 hi] 33) = W1 at *
            clear hgk hg x0 x1
            go_loopw [14] (fun fv w4 => ∃ f : Nat, fv = .int .i64 f ∧ Aside0 (lo ≤ f ∧ f ≤ hi) ∧ Aside0 (firstN d l1 (hi - lo) lo = firstN d l1 (hi - f) f) ∧ Aside0 (Below W1.heap.size W1 w4)) (fun fv _ => hi - (intOf fv).toNat)
            case atStart => exact ⟨lo, rfl, ⟨Nat.le_refl _, HLH.out.2.1⟩, ⟨rfl⟩, ⟨Below.refl _ _⟩⟩
            case round =>
              obtain ⟨f, rfl, HF, HFN, HBF⟩ := hrel
              obtain ⟨Q0, n0, Q1, n1, Q2, n2, Q3, n3, Q4, n4, Q5, n5, Qt, nt, hA⟩ := HM0.out
              have HMA := Aside0.mk hA
              have c4 := pw_cell_below (below_step HB1.out HBF.out) hA.c4
              have g1 := pw_cell_below HBF.out ((blk_cell HGK.out 1).trans (show _ = some (Value.int IntKind.i64 (hi : Int)) from rfl))
              clear hA
              by_cases hfl : f < hi
              · have hca : ¬ c1 = a := by have h1 := HLH.out; have h2 := HF.out; have h3 := HCT.out; omega
                have hft : f < l1.length := by have := HLH.out; omega
                obtain ⟨adx, e, t1⟩ := Kd.at_int HRT.out (f : Int) (by omega) (by omega)
                cases e
                rw [Int.toNat_natCast] at t1
                have t0 := pw_cell_below (below_step HBW.out (below_step HB1.out HBF.out)) t1
                have hrd : rd l1 (f : Int) = l1.getD f 0 := by unfold rd; rw [Int.toNat_natCast]
                rw [hrd] at t0
                have z1 : decide ((f : Int) < (hi : Int)) = true := decide_eq_true (by omega)
                have z2 : decide (f < hi) = true := decide_eq_true hfl
                have z3 : (f < hi) = True := eq_true hfl
                have z4 : (0 ≤ (f : Int)) = True := eq_true (by omega)
                have z5 : ((f : Int) < (l1.length : Int)) = True := eq_true (by omega)
                have z6 : (f < l1.length) = True := eq_true hft
                have z7 : (0 : Int) ≤ (f : Int) := by omega
                have z8 : (f : Int) < (l1.length : Int) := by omega
                have hw5 : wrap64 ((f : Int) + 1) = (f : Int) + 1 := by have := HLT.out; unfold wrap64; omega
                have HFL := Aside0.mk hfl
                cases hh : hasL d.ca (l1.getD f 0) with
                | false =>
                  have HNX := Aside0.mk (HFN.out.trans (firstN_next d l1 f hi hfl hh))
                  have HHF := Aside0.mk (hasF d.ca (l1.getD f 0) HD.out.2.2.2.1)
                  rw [hh] at HHF
                  generalize l1.getD f 0 = x at *
                  clear hfl hft t1 hrd hh hca
                  go_wp2
                  go_region_held3 (fun w' => w'.cell? ⟨b, 4, none⟩ = some (.slice Q4 d.ca.length n4) ∧ w'.cell? (adx.add f) = some (.int .i64 x) ∧ w'.cell? ⟨g, 1, none⟩ = some (.int .i64 hi)) (first | go_keep | (go_split_ands; refine ⟨?_, ?_, ?_⟩; (refine pw_cell_below hb ?_; assumption); (refine pw_cell_below hb ?_; assumption); (refine pw_cell_below hb ?_; assumption)))
                    (first | (go_at_call 32; (with_reducible refine (cpset_Has.calls Q4 n4 d.ca x false _ ?s1 HMA.out.l4 HHF.out).mono ?_); (case s1 => exact Kd.C_below HMA.out.r4 (below_step HB1.out (by repeat (first | (with_reducible first | exact HBF.out | apply below_alloc | apply pw_below_drewN | apply below_drew1) | exact HBF.out)))); rintro e WR ⟨rfl, hb⟩; have HBR := Aside0.mk (below_step (show Below W1.heap.size W1 _ from (by repeat (first | (with_reducible first | exact HBF.out | apply below_alloc | apply pw_below_drewN | apply below_drew1) | exact HBF.out))) hb)))
                  clear hb
                  go_wp2
                  go_roundw
                  case rel => exact ⟨f + 1, by rw [hw5]; rfl, ⟨by have := HF.out; omega, HFL.out⟩, HNX, HBR⟩
                  case measure => rw [hw5]; simp only [intOf]; have := HFL.out; omega
                | true =>
                  have HFF := Aside0.mk (HFN.out.trans (firstN_hit d l1 f hi hfl hh))
                  have HHF := Aside0.mk (hasF d.ca (l1.getD f 0) HD.out.2.2.2.1)
                  rw [hh] at HHF
                  generalize hxx : l1.getD f 0 = x at *
                  clear hfl hft t1 hrd hh hxx
                  go_wp2
                  go_region_held3 (fun w' => w'.cell? ⟨b, 4, none⟩ = some (.slice Q4 d.ca.length n4) ∧ w'.cell? (adx.add f) = some (.int .i64 x) ∧ w'.cell? ⟨g, 1, none⟩ = some (.int .i64 hi)) (first | go_keep | (go_split_ands; refine ⟨?_, ?_, ?_⟩; (refine pw_cell_below hb ?_; assumption); (refine pw_cell_below hb ?_; assumption); (refine pw_cell_below hb ?_; assumption)))
                    (first | (go_at_call 32; (with_reducible refine (cpset_Has.calls Q4 n4 d.ca x true _ ?s1 HMA.out.l4 HHF.out).mono ?_); (case s1 => exact Kd.C_below HMA.out.r4 (below_step HB1.out (by repeat (first | (with_reducible first | exact HBF.out | apply below_alloc | apply pw_below_drewN | apply below_drew1) | exact HBF.out)))); rintro e WR ⟨rfl, hb⟩; have HBR := Aside0.mk (below_step (show Below W1.heap.size W1 _ from (by repeat (first | (with_reducible first | exact HBF.out | apply below_alloc | apply pw_below_drewN | apply below_drew1) | exact HBF.out))) hb)))
                  clear hb
                  clear c4 g1 t0
                  have HPT := Aside0.mk (title_part d l1 a lo hi HLH.out.1 HLH.out.2.1 HLH.out.2.2 f HFF.out)
                  have hbr1 := below_step HB1.out HBR.out
                  have hgb : WR.heap[g]? = some (Obj.cells #[Value.int IntKind.i64 lo, Value.int IntKind.i64 hi] 33 (0, 0)) := (HBR.out.block _ (blk_lt HGK.out)).trans HGK.out
                  have HGB := Aside0.mk hgb
                  have HG5 := Aside0.mk ((blk_cell hgb 1).trans (show _ = some (Value.int IntKind.i64 (hi : Int)) from rfl))
                  have hf1 := HF.out
                  have hl1 := HLH.out
                  have hsl : ((l1.take f).drop a).length = f - a := by rw [List.length_drop, List.length_take]; omega
                  have HSL := Aside0.mk hsl
                  have hseg := Kd.C_mid (lo := a) (hi := f) (Kd.C_below HRT.out (below_step HBW.out hbr1)) (by omega) (by omega) HCT.out
                  rw [hsl, show a * (Kd.int .i64).sz = a from Nat.mul_one _] at hseg
                  have hs1 : (0 ≤ (a : Int)) = True := eq_true (by omega)
                  have hs2 : ((a : Int) ≤ (f : Int)) = True := eq_true (by omega)
                  have hs3 : ((f : Int) ≤ (c1 : Int)) = True := eq_true (by have := HCT.out; omega)
                  have hs4 : (a ≤ f) = True := eq_true (by omega)
                  have hs5 : (f ≤ c1) = True := eq_true (by have := HCT.out; omega)
                  have hs6 : (0 ≤ (f : Int)) = True := eq_true (by omega)
                  rw [if_neg hca] at hseg
                  have hcF : (c1 = a) = False := eq_false hca
                  have HSEG := Aside0.mk hseg
                  have HSEG0 := HSEG
                  clear hbr1 hgb hf1 hl1 hsl hseg hca
                  go_upto_region 19 with (at_builtin; refine Kd.R_append_rows (Kd.int .i64) (w0 := WB) WB.heap.size rfl (.tmp 76) (.tmp 80) 28 3 (.int .i64 0) 8 rfl Try.underlying28 info3 rfl (by decide) (by omega) u11 (O) ((l1.take f).drop a) _ _ _ (fun _ => True) (fun _ => False) rfl rfl ?aO ?aR (fun _ _ h => h) (fun _ h => h.elim) ?aF ?aB ?aS ?aL ?_; (case aR => first | exact HSEG.out | exact HSEG0.out); (case aB => exact (below_step HB1.out HBR.out)); (case aF => exact (fun _ _ => trivial)); (case aO => exact (Kd.R_below HO1.out HBR.out)); (case aS => exact ((below_step HB1.out HBR.out)).size); (case aL => have h1_ := HEQ.out.2; have h2_ := HLT.out; have h3_ := HK.out.2.1; have h4_ := HSL.out; have h5_ := HF.out; have h6_ := HLH.out; omega); intro v6 w6 ho hb hg2 hat; have HO6 := Aside0.mk ho; have HB6 := Aside0.mk hb; have HGB6 := Aside0.mk ((hg2.block g (blk_lt HGB.out) (rowNe HGB.out (by decide) (Kd.R_below HO1.out HBR.out))).trans HGB.out); clear ho hb hg2 hat)
                  have g6 := (blk_cell HGB6.out 1).trans (show _ = some (Value.int IntKind.i64 (hi : Int)) from rfl)
                  go_wp2
                  clear g6
                  go_loopw [11, 15, 16] (fun ov fv i w7 => ∃ (j : Nat) (Q : List Int), i = .int .i64 j ∧ fv = (if j = f then Value.func (.func 33) #[.pointer (some ⟨b, 0, none⟩)] #[] else Value.func (.func 34) #[.pointer (some ⟨b, 0, none⟩)] #[]) ∧ Aside0 (f ≤ j ∧ j ≤ hi) ∧ Aside0 (Q ++ remN d l1 f hi j = (O ++ (l1.take f).drop a) ++ remN d l1 f hi f) ∧ Aside0 (Q.length ≤ 100000 * j) ∧ Aside0 (Kd.R (Kd.int .i64) 3 w7 WB.heap.size (fun _ => True) ov Q) ∧ Aside0 (w7.heap[g]? = some (Obj.cells #[Value.int IntKind.i64 lo, Value.int IntKind.i64 hi] 33 (0, 0))) ∧ Aside0 (Below WB.heap.size WB w7)) (fun _ _ i _ => hi - (intOf i).toNat)
                  case atStart => exact ⟨f, _, rfl, by rw [if_pos rfl], ⟨Nat.le_refl _, HF.out.2⟩, ⟨rfl⟩, ⟨by rw [List.length_append, HSL.out]; have h1_ := HEQ.out.2; have h2_ := HF.out; have h3_ := HLH.out; omega⟩, HO6, HGB6, HB6⟩
                  case round =>
                    obtain ⟨j, Q, rfl, rfl, HJ, HQ, HQL, HO7, HGB7, HB7⟩ := hrel
                    have g7 := (blk_cell HGB7.out 1).trans (show _ = some (Value.int IntKind.i64 (hi : Int)) from rfl)
                    by_cases hjl : j < hi
                    · have HJL := Aside0.mk hjl
                      have HJT := Aside0.mk (show j < l1.length by have := HLH.out; omega)
                      have y1 : decide ((j : Int) < (hi : Int)) = true := decide_eq_true (by omega)
                      have y2 : decide (j < hi) = true := decide_eq_true hjl
                      have y3 : (j < hi) = True := eq_true hjl
                      have hw6 : wrap64 ((j : Int) + 1) = (j : Int) + 1 := by have := HLT.out; have := HJT.out; unfold wrap64; omega
                      by_cases hjf : j = f
                      · have hnx := remN_first d l1 j hi hjl
                        rw [hjf, if_pos rfl]
                        rw [hjf] at hnx
                        have hpc : mapdS d.ti (l1.getD j 0) = mapdS d.ti (l1.getD f 0) := by rw [hjf]
                        have HWL := Aside0.mk (mapdS_len HD.out.2.2.1 (l1.getD f 0))
                        generalize mapdS d.ti (l1.getD f 0) = wl at *
                        have HPC := Aside0.mk hpc
                        have HNX := Aside0.mk hnx
                        have HJF := Aside0.mk hjf
                        clear hjl hjf hpc hnx
                        rw [← HJF.out]
                        go_wp2_with (first | (go_at_call 33; (with_reducible refine (title_calls b d l1 j _ (HM0.out.below HB7.out) HJT.out HD.out.2.2.1).mono ?_); rw [HPC.out]; rintro e w8 ⟨v8, rfl, hv, hb⟩; obtain ⟨A8, c8, rfl⟩ := Kd.R_slice hv; have HV8 := Aside0.mk hv; have HO8 := Aside0.mk (Kd.R_below HO7.out hb); have HB8 := Aside0.mk (below_step HB7.out hb); have HGB8 := Aside0.mk ((hb.block _ (blk_lt HGB7.out)).trans HGB7.out); clear hv hb) | (at_builtin; refine Kd.R_append_rows (Kd.int .i64) (w0 := WB) WB.heap.size rfl (.tmp 93) (.tmp 96) 28 3 (.int .i64 0) 8 rfl Try.underlying28 info3 rfl (by decide) (by omega) u11 (Q) (wl) _ _ _ (fun _ => True) (fun _ => False) rfl rfl ?aO ?aR (fun _ _ h => h) (fun _ h => h.elim) ?aF ?aB ?aS ?aL ?_; (case aR => exact (Kd.R_reads' HV8.out).2.2); (case aB => exact HB8.out); (case aF => exact (fun _ _ => trivial)); (case aO => exact HO8.out); (case aS => exact (HB8.out).size); (case aL => have h1_ := HQL.out; have h2_ := HWL.out; have h3_ := HLT.out; have h4_ := HJT.out; omega); intro v9 w9 ho hb hg2 hat; have HO9 := Aside0.mk ho; have HB9 := Aside0.mk hb; have HGB9 := Aside0.mk ((hg2.block g (blk_lt HGB8.out) (rowNe HGB8.out (by decide) HO8.out)).trans HGB8.out); clear ho hb hg2 hat))
                        go_roundw
                        case rel => exact ⟨j + 1, Q ++ wl, by rw [hw6]; rfl, by rw [if_neg (by have := HJF.out; omega)], ⟨by have := HJ.out; omega, HJL.out⟩, ⟨by have h1 := HQ.out; rw [HJF.out] at h1 ⊢; rw [← h1, HNX.out, List.append_assoc]⟩, ⟨by rw [List.length_append]; have h1_ := HQL.out; have h2_ := HWL.out; omega⟩, HO9, HGB9, HB9⟩
                        case measure => rw [hw6]; simp only [intOf]; have := HJL.out; omega
                      · have hnx := remN_next d l1 f hi j hjl (by have := HJ.out; omega)
                        rw [if_neg hjf]
                        have HWL := Aside0.mk (lowerS_len HD.out.1 l1 j)
                        obtain ⟨wl, hwl⟩ : ∃ wl, wl = lowerS d l1 j := ⟨_, rfl⟩
                        rw [← hwl] at hnx HWL
                        have HPC := Aside0.mk hwl.symm
                        have HNX := Aside0.mk hnx
                        have HJF := Aside0.mk hjf
                        clear hjl hjf hwl hnx
                        go_wp2_with (first | (go_at_call 34; (with_reducible refine (lower_calls b d l1 j _ (HM0.out.below HB7.out) HJT.out HD.out.1 (by have := HLT.out; omega) HD.out.2.2.2).mono ?_); rw [HPC.out]; rintro e w8 ⟨v8, rfl, hv, hb⟩; obtain ⟨A8, c8, rfl⟩ := Kd.R_slice hv; have HV8 := Aside0.mk hv; have HO8 := Aside0.mk (Kd.R_below HO7.out hb); have HB8 := Aside0.mk (below_step HB7.out hb); have HGB8 := Aside0.mk ((hb.block _ (blk_lt HGB7.out)).trans HGB7.out); clear hv hb) | (at_builtin; refine Kd.R_append_rows (Kd.int .i64) (w0 := WB) WB.heap.size rfl (.tmp 93) (.tmp 96) 28 3 (.int .i64 0) 8 rfl Try.underlying28 info3 rfl (by decide) (by omega) u11 (Q) (wl) _ _ _ (fun _ => True) (fun _ => False) rfl rfl ?aO ?aR (fun _ _ h => h) (fun _ h => h.elim) ?aF ?aB ?aS ?aL ?_; (case aR => exact (Kd.R_reads' HV8.out).2.2); (case aB => exact HB8.out); (case aF => exact (fun _ _ => trivial)); (case aO => exact HO8.out); (case aS => exact (HB8.out).size); (case aL => have h1_ := HQL.out; have h2_ := HWL.out; have h3_ := HLT.out; have h4_ := HJT.out; omega); intro v9 w9 ho hb hg2 hat; have HO9 := Aside0.mk ho; have HB9 := Aside0.mk hb; have HGB9 := Aside0.mk ((hg2.block g (blk_lt HGB8.out) (rowNe HGB8.out (by decide) HO8.out)).trans HGB8.out); clear ho hb hg2 hat))
                        go_roundw
                        case rel => exact ⟨j + 1, Q ++ wl, by rw [hw6]; rfl, by rw [if_neg (by have := HJ.out; omega)], ⟨by have := HJ.out; omega, HJL.out⟩, ⟨by rw [← HQ.out, HNX.out, List.append_assoc]⟩, ⟨by rw [List.length_append]; have h1_ := HQL.out; have h2_ := HWL.out; omega⟩, HO9, HGB9, HB9⟩
                        case measure => rw [hw6]; simp only [intOf]; have := HJL.out; omega
                    · have hje : j = hi := by have := HJ.out; omega
                      have y1 : decide ((j : Int) < (hi : Int)) = false := decide_eq_false (by omega)
                      have y2 : decide (j < hi) = false := decide_eq_false hjl
                      have y3 : (j < hi) = False := eq_false hjl
                      have HFIN := Aside0.mk (show Q ++ titleA d l1 (l2.drop (k + 1)) hi = r by
                        have h1 := HQ.out
                        rw [hje, remN_end, List.append_nil] at h1
                        rw [h1, ← HEQ2.out, HPT.out]
                        simp only [List.append_assoc])
                      have HQL2 := Aside0.mk (show Q.length ≤ 100000 * hi by rw [← hje]; exact HQL.out)
                      clear hjl hje
                      go_wp2
                      go_roundw
                      case rel => exact ⟨k + 1, hi, Q, rfl, by rw [hw]; rfl, ⟨HLK.out, HLH.out.2.2, HW4.out⟩, ⟨HFIN.out, HQL2.out⟩, HO7, HB7⟩
                      case measure => rw [hw]; simp only [intOf]; have := HLK.out; omega
              · have hfe : f = hi := by have := HF.out; omega
                have z1 : decide ((f : Int) < (hi : Int)) = false := decide_eq_false (by omega)
                have z2 : decide (f < hi) = false := decide_eq_false hfl
                have z3 : (f < hi) = False := eq_false hfl
                have HFF := Aside0.mk (show firstN d l1 (hi - lo) lo = f by rw [HFN.out, hfe, firstN_end])
                clear hfl hfe
                go_wp2
                go_quiet (fail)
                have HBR := Aside0.mk (pw_below_drewN HBF.out nq)
                generalize wr.drewN nq = WR at *
                clear c4 g1
                by_cases hca : c1 = a
                · have HPT := Aside0.mk (title_part d l1 a lo hi HLH.out.1 HLH.out.2.1 HLH.out.2.2 f HFF.out)
                  have hbr1 := below_step HB1.out HBR.out
                  have hgb : WR.heap[g]? = some (Obj.cells #[Value.int IntKind.i64 lo, Value.int IntKind.i64 hi] 33 (0, 0)) := (HBR.out.block _ (blk_lt HGK.out)).trans HGK.out
                  have HGB := Aside0.mk hgb
                  have HG5 := Aside0.mk ((blk_cell hgb 1).trans (show _ = some (Value.int IntKind.i64 (hi : Int)) from rfl))
                  have hf1 := HF.out
                  have hl1 := HLH.out
                  have hsl : ((l1.take f).drop a).length = f - a := by rw [List.length_drop, List.length_take]; omega
                  have HSL := Aside0.mk hsl
                  have hseg := Kd.C_mid (lo := a) (hi := f) (Kd.C_below HRT.out (below_step HBW.out hbr1)) (by omega) (by omega) HCT.out
                  rw [hsl, show a * (Kd.int .i64).sz = a from Nat.mul_one _] at hseg
                  have hs1 : (0 ≤ (a : Int)) = True := eq_true (by omega)
                  have hs2 : ((a : Int) ≤ (f : Int)) = True := eq_true (by omega)
                  have hs3 : ((f : Int) ≤ (c1 : Int)) = True := eq_true (by have := HCT.out; omega)
                  have hs4 : (a ≤ f) = True := eq_true (by omega)
                  have hs5 : (f ≤ c1) = True := eq_true (by have := HCT.out; omega)
                  have hs6 : (0 ≤ (f : Int)) = True := eq_true (by omega)
                  rw [if_pos hca] at hseg
                  have hcT : (c1 = a) = True := eq_true hca
                  have hc0 : c1 - a = 0 := by omega
                  have hfa : f - a = 0 := by have := HCT.out; omega
                  have HSEG := Aside0.mk hseg
                  rw [hfa] at hseg
                  have HSEG0 := Aside0.mk hseg
                  clear hbr1 hgb hf1 hl1 hsl hseg hca
                  go_upto_region 19 with (at_builtin; refine Kd.R_append_rows (Kd.int .i64) (w0 := WB) WB.heap.size rfl (.tmp 76) (.tmp 80) 28 3 (.int .i64 0) 8 rfl Try.underlying28 info3 rfl (by decide) (by omega) u11 (O) ((l1.take f).drop a) _ _ _ (fun _ => True) (fun _ => False) rfl rfl ?aO ?aR (fun _ _ h => h) (fun _ h => h.elim) ?aF ?aB ?aS ?aL ?_; (case aR => first | exact HSEG.out | exact HSEG0.out); (case aB => exact (below_step HB1.out HBR.out)); (case aF => exact (fun _ _ => trivial)); (case aO => exact (Kd.R_below HO1.out HBR.out)); (case aS => exact ((below_step HB1.out HBR.out)).size); (case aL => have h1_ := HEQ.out.2; have h2_ := HLT.out; have h3_ := HK.out.2.1; have h4_ := HSL.out; have h5_ := HF.out; have h6_ := HLH.out; omega); intro v6 w6 ho hb hg2 hat; have HO6 := Aside0.mk ho; have HB6 := Aside0.mk hb; have HGB6 := Aside0.mk ((hg2.block g (blk_lt HGB.out) (rowNe HGB.out (by decide) (Kd.R_below HO1.out HBR.out))).trans HGB.out); clear ho hb hg2 hat)
                  have g6 := (blk_cell HGB6.out 1).trans (show _ = some (Value.int IntKind.i64 (hi : Int)) from rfl)
                  go_wp2
                  clear g6
                  go_loopw [11, 15, 16] (fun ov fv i w7 => ∃ (j : Nat) (Q : List Int), i = .int .i64 j ∧ fv = (if j = f then Value.func (.func 33) #[.pointer (some ⟨b, 0, none⟩)] #[] else Value.func (.func 34) #[.pointer (some ⟨b, 0, none⟩)] #[]) ∧ Aside0 (f ≤ j ∧ j ≤ hi) ∧ Aside0 (Q ++ remN d l1 f hi j = (O ++ (l1.take f).drop a) ++ remN d l1 f hi f) ∧ Aside0 (Q.length ≤ 100000 * j) ∧ Aside0 (Kd.R (Kd.int .i64) 3 w7 WB.heap.size (fun _ => True) ov Q) ∧ Aside0 (w7.heap[g]? = some (Obj.cells #[Value.int IntKind.i64 lo, Value.int IntKind.i64 hi] 33 (0, 0))) ∧ Aside0 (Below WB.heap.size WB w7)) (fun _ _ i _ => hi - (intOf i).toNat)
                  case atStart => exact ⟨f, _, rfl, by rw [if_pos rfl], ⟨Nat.le_refl _, HF.out.2⟩, ⟨rfl⟩, ⟨by rw [List.length_append, HSL.out]; have h1_ := HEQ.out.2; have h2_ := HF.out; have h3_ := HLH.out; omega⟩, HO6, HGB6, HB6⟩
                  case round =>
                    obtain ⟨j, Q, rfl, rfl, HJ, HQ, HQL, HO7, HGB7, HB7⟩ := hrel
                    have g7 := (blk_cell HGB7.out 1).trans (show _ = some (Value.int IntKind.i64 (hi : Int)) from rfl)
                    by_cases hjl : j < hi
                    · have HJL := Aside0.mk hjl
                      have HJT := Aside0.mk (show j < l1.length by have := HLH.out; omega)
                      have y1 : decide ((j : Int) < (hi : Int)) = true := decide_eq_true (by omega)
                      have y2 : decide (j < hi) = true := decide_eq_true hjl
                      have y3 : (j < hi) = True := eq_true hjl
                      have hw6 : wrap64 ((j : Int) + 1) = (j : Int) + 1 := by have := HLT.out; have := HJT.out; unfold wrap64; omega
                      by_cases hjf : j = f
                      · have hnx := remN_first d l1 j hi hjl
                        rw [hjf, if_pos rfl]
                        rw [hjf] at hnx
                        have hpc : mapdS d.ti (l1.getD j 0) = mapdS d.ti (l1.getD f 0) := by rw [hjf]
                        have HWL := Aside0.mk (mapdS_len HD.out.2.2.1 (l1.getD f 0))
                        generalize mapdS d.ti (l1.getD f 0) = wl at *
                        have HPC := Aside0.mk hpc
                        have HNX := Aside0.mk hnx
                        have HJF := Aside0.mk hjf
                        clear hjl hjf hpc hnx
                        rw [← HJF.out]
                        go_wp2_with (first | (go_at_call 33; (with_reducible refine (title_calls b d l1 j _ (HM0.out.below HB7.out) HJT.out HD.out.2.2.1).mono ?_); rw [HPC.out]; rintro e w8 ⟨v8, rfl, hv, hb⟩; obtain ⟨A8, c8, rfl⟩ := Kd.R_slice hv; have HV8 := Aside0.mk hv; have HO8 := Aside0.mk (Kd.R_below HO7.out hb); have HB8 := Aside0.mk (below_step HB7.out hb); have HGB8 := Aside0.mk ((hb.block _ (blk_lt HGB7.out)).trans HGB7.out); clear hv hb) | (at_builtin; refine Kd.R_append_rows (Kd.int .i64) (w0 := WB) WB.heap.size rfl (.tmp 93) (.tmp 96) 28 3 (.int .i64 0) 8 rfl Try.underlying28 info3 rfl (by decide) (by omega) u11 (Q) (wl) _ _ _ (fun _ => True) (fun _ => False) rfl rfl ?aO ?aR (fun _ _ h => h) (fun _ h => h.elim) ?aF ?aB ?aS ?aL ?_; (case aR => exact (Kd.R_reads' HV8.out).2.2); (case aB => exact HB8.out); (case aF => exact (fun _ _ => trivial)); (case aO => exact HO8.out); (case aS => exact (HB8.out).size); (case aL => have h1_ := HQL.out; have h2_ := HWL.out; have h3_ := HLT.out; have h4_ := HJT.out; omega); intro v9 w9 ho hb hg2 hat; have HO9 := Aside0.mk ho; have HB9 := Aside0.mk hb; have HGB9 := Aside0.mk ((hg2.block g (blk_lt HGB8.out) (rowNe HGB8.out (by decide) HO8.out)).trans HGB8.out); clear ho hb hg2 hat))
                        go_roundw
                        case rel => exact ⟨j + 1, Q ++ wl, by rw [hw6]; rfl, by rw [if_neg (by have := HJF.out; omega)], ⟨by have := HJ.out; omega, HJL.out⟩, ⟨by have h1 := HQ.out; rw [HJF.out] at h1 ⊢; rw [← h1, HNX.out, List.append_assoc]⟩, ⟨by rw [List.length_append]; have h1_ := HQL.out; have h2_ := HWL.out; omega⟩, HO9, HGB9, HB9⟩
                        case measure => rw [hw6]; simp only [intOf]; have := HJL.out; omega
                      · have hnx := remN_next d l1 f hi j hjl (by have := HJ.out; omega)
                        rw [if_neg hjf]
                        have HWL := Aside0.mk (lowerS_len HD.out.1 l1 j)
                        obtain ⟨wl, hwl⟩ : ∃ wl, wl = lowerS d l1 j := ⟨_, rfl⟩
                        rw [← hwl] at hnx HWL
                        have HPC := Aside0.mk hwl.symm
                        have HNX := Aside0.mk hnx
                        have HJF := Aside0.mk hjf
                        clear hjl hjf hwl hnx
                        go_wp2_with (first | (go_at_call 34; (with_reducible refine (lower_calls b d l1 j _ (HM0.out.below HB7.out) HJT.out HD.out.1 (by have := HLT.out; omega) HD.out.2.2.2).mono ?_); rw [HPC.out]; rintro e w8 ⟨v8, rfl, hv, hb⟩; obtain ⟨A8, c8, rfl⟩ := Kd.R_slice hv; have HV8 := Aside0.mk hv; have HO8 := Aside0.mk (Kd.R_below HO7.out hb); have HB8 := Aside0.mk (below_step HB7.out hb); have HGB8 := Aside0.mk ((hb.block _ (blk_lt HGB7.out)).trans HGB7.out); clear hv hb) | (at_builtin; refine Kd.R_append_rows (Kd.int .i64) (w0 := WB) WB.heap.size rfl (.tmp 93) (.tmp 96) 28 3 (.int .i64 0) 8 rfl Try.underlying28 info3 rfl (by decide) (by omega) u11 (Q) (wl) _ _ _ (fun _ => True) (fun _ => False) rfl rfl ?aO ?aR (fun _ _ h => h) (fun _ h => h.elim) ?aF ?aB ?aS ?aL ?_; (case aR => exact (Kd.R_reads' HV8.out).2.2); (case aB => exact HB8.out); (case aF => exact (fun _ _ => trivial)); (case aO => exact HO8.out); (case aS => exact (HB8.out).size); (case aL => have h1_ := HQL.out; have h2_ := HWL.out; have h3_ := HLT.out; have h4_ := HJT.out; omega); intro v9 w9 ho hb hg2 hat; have HO9 := Aside0.mk ho; have HB9 := Aside0.mk hb; have HGB9 := Aside0.mk ((hg2.block g (blk_lt HGB8.out) (rowNe HGB8.out (by decide) HO8.out)).trans HGB8.out); clear ho hb hg2 hat))
                        go_roundw
                        case rel => exact ⟨j + 1, Q ++ wl, by rw [hw6]; rfl, by rw [if_neg (by have := HJ.out; omega)], ⟨by have := HJ.out; omega, HJL.out⟩, ⟨by rw [← HQ.out, HNX.out, List.append_assoc]⟩, ⟨by rw [List.length_append]; have h1_ := HQL.out; have h2_ := HWL.out; omega⟩, HO9, HGB9, HB9⟩
                        case measure => rw [hw6]; simp only [intOf]; have := HJL.out; omega
                    · have hje : j = hi := by have := HJ.out; omega
                      have y1 : decide ((j : Int) < (hi : Int)) = false := decide_eq_false (by omega)
                      have y2 : decide (j < hi) = false := decide_eq_false hjl
                      have y3 : (j < hi) = False := eq_false hjl
                      have HFIN := Aside0.mk (show Q ++ titleA d l1 (l2.drop (k + 1)) hi = r by
                        have h1 := HQ.out
                        rw [hje, remN_end, List.append_nil] at h1
                        rw [h1, ← HEQ2.out, HPT.out]
                        simp only [List.append_assoc])
                      have HQL2 := Aside0.mk (show Q.length ≤ 100000 * hi by rw [← hje]; exact HQL.out)
                      clear hjl hje
                      go_wp2
                      go_roundw
                      case rel => exact ⟨k + 1, hi, Q, rfl, by rw [hw]; rfl, ⟨HLK.out, HLH.out.2.2, HW4.out⟩, ⟨HFIN.out, HQL2.out⟩, HO7, HB7⟩
                      case measure => rw [hw]; simp only [intOf]; have := HLK.out; omega
                · have HPT := Aside0.mk (title_part d l1 a lo hi HLH.out.1 HLH.out.2.1 HLH.out.2.2 f HFF.out)
                  have hbr1 := below_step HB1.out HBR.out
                  have hgb : WR.heap[g]? = some (Obj.cells #[Value.int IntKind.i64 lo, Value.int IntKind.i64 hi] 33 (0, 0)) := (HBR.out.block _ (blk_lt HGK.out)).trans HGK.out
                  have HGB := Aside0.mk hgb
                  have HG5 := Aside0.mk ((blk_cell hgb 1).trans (show _ = some (Value.int IntKind.i64 (hi : Int)) from rfl))
                  have hf1 := HF.out
                  have hl1 := HLH.out
                  have hsl : ((l1.take f).drop a).length = f - a := by rw [List.length_drop, List.length_take]; omega
                  have HSL := Aside0.mk hsl
                  have hseg := Kd.C_mid (lo := a) (hi := f) (Kd.C_below HRT.out (below_step HBW.out hbr1)) (by omega) (by omega) HCT.out
                  rw [hsl, show a * (Kd.int .i64).sz = a from Nat.mul_one _] at hseg
                  have hs1 : (0 ≤ (a : Int)) = True := eq_true (by omega)
                  have hs2 : ((a : Int) ≤ (f : Int)) = True := eq_true (by omega)
                  have hs3 : ((f : Int) ≤ (c1 : Int)) = True := eq_true (by have := HCT.out; omega)
                  have hs4 : (a ≤ f) = True := eq_true (by omega)
                  have hs5 : (f ≤ c1) = True := eq_true (by have := HCT.out; omega)
                  have hs6 : (0 ≤ (f : Int)) = True := eq_true (by omega)
                  rw [if_neg hca] at hseg
                  have hcF : (c1 = a) = False := eq_false hca
                  have HSEG := Aside0.mk hseg
                  have HSEG0 := HSEG
                  clear hbr1 hgb hf1 hl1 hsl hseg hca
                  go_upto_region 19 with (at_builtin; refine Kd.R_append_rows (Kd.int .i64) (w0 := WB) WB.heap.size rfl (.tmp 76) (.tmp 80) 28 3 (.int .i64 0) 8 rfl Try.underlying28 info3 rfl (by decide) (by omega) u11 (O) ((l1.take f).drop a) _ _ _ (fun _ => True) (fun _ => False) rfl rfl ?aO ?aR (fun _ _ h => h) (fun _ h => h.elim) ?aF ?aB ?aS ?aL ?_; (case aR => first | exact HSEG.out | exact HSEG0.out); (case aB => exact (below_step HB1.out HBR.out)); (case aF => exact (fun _ _ => trivial)); (case aO => exact (Kd.R_below HO1.out HBR.out)); (case aS => exact ((below_step HB1.out HBR.out)).size); (case aL => have h1_ := HEQ.out.2; have h2_ := HLT.out; have h3_ := HK.out.2.1; have h4_ := HSL.out; have h5_ := HF.out; have h6_ := HLH.out; omega); intro v6 w6 ho hb hg2 hat; have HO6 := Aside0.mk ho; have HB6 := Aside0.mk hb; have HGB6 := Aside0.mk ((hg2.block g (blk_lt HGB.out) (rowNe HGB.out (by decide) (Kd.R_below HO1.out HBR.out))).trans HGB.out); clear ho hb hg2 hat)
                  have g6 := (blk_cell HGB6.out 1).trans (show _ = some (Value.int IntKind.i64 (hi : Int)) from rfl)
                  go_wp2
                  clear g6
                  go_loopw [11, 15, 16] (fun ov fv i w7 => ∃ (j : Nat) (Q : List Int), i = .int .i64 j ∧ fv = (if j = f then Value.func (.func 33) #[.pointer (some ⟨b, 0, none⟩)] #[] else Value.func (.func 34) #[.pointer (some ⟨b, 0, none⟩)] #[]) ∧ Aside0 (f ≤ j ∧ j ≤ hi) ∧ Aside0 (Q ++ remN d l1 f hi j = (O ++ (l1.take f).drop a) ++ remN d l1 f hi f) ∧ Aside0 (Q.length ≤ 100000 * j) ∧ Aside0 (Kd.R (Kd.int .i64) 3 w7 WB.heap.size (fun _ => True) ov Q) ∧ Aside0 (w7.heap[g]? = some (Obj.cells #[Value.int IntKind.i64 lo, Value.int IntKind.i64 hi] 33 (0, 0))) ∧ Aside0 (Below WB.heap.size WB w7)) (fun _ _ i _ => hi - (intOf i).toNat)
                  case atStart => exact ⟨f, _, rfl, by rw [if_pos rfl], ⟨Nat.le_refl _, HF.out.2⟩, ⟨rfl⟩, ⟨by rw [List.length_append, HSL.out]; have h1_ := HEQ.out.2; have h2_ := HF.out; have h3_ := HLH.out; omega⟩, HO6, HGB6, HB6⟩
                  case round =>
                    obtain ⟨j, Q, rfl, rfl, HJ, HQ, HQL, HO7, HGB7, HB7⟩ := hrel
                    have g7 := (blk_cell HGB7.out 1).trans (show _ = some (Value.int IntKind.i64 (hi : Int)) from rfl)
                    by_cases hjl : j < hi
                    · have HJL := Aside0.mk hjl
                      have HJT := Aside0.mk (show j < l1.length by have := HLH.out; omega)
                      have y1 : decide ((j : Int) < (hi : Int)) = true := decide_eq_true (by omega)
                      have y2 : decide (j < hi) = true := decide_eq_true hjl
                      have y3 : (j < hi) = True := eq_true hjl
                      have hw6 : wrap64 ((j : Int) + 1) = (j : Int) + 1 := by have := HLT.out; have := HJT.out; unfold wrap64; omega
                      by_cases hjf : j = f
                      · have hnx := remN_first d l1 j hi hjl
                        rw [hjf, if_pos rfl]
                        rw [hjf] at hnx
                        have hpc : mapdS d.ti (l1.getD j 0) = mapdS d.ti (l1.getD f 0) := by rw [hjf]
                        have HWL := Aside0.mk (mapdS_len HD.out.2.2.1 (l1.getD f 0))
                        generalize mapdS d.ti (l1.getD f 0) = wl at *
                        have HPC := Aside0.mk hpc
                        have HNX := Aside0.mk hnx
                        have HJF := Aside0.mk hjf
                        clear hjl hjf hpc hnx
                        rw [← HJF.out]
                        go_wp2_with (first | (go_at_call 33; (with_reducible refine (title_calls b d l1 j _ (HM0.out.below HB7.out) HJT.out HD.out.2.2.1).mono ?_); rw [HPC.out]; rintro e w8 ⟨v8, rfl, hv, hb⟩; obtain ⟨A8, c8, rfl⟩ := Kd.R_slice hv; have HV8 := Aside0.mk hv; have HO8 := Aside0.mk (Kd.R_below HO7.out hb); have HB8 := Aside0.mk (below_step HB7.out hb); have HGB8 := Aside0.mk ((hb.block _ (blk_lt HGB7.out)).trans HGB7.out); clear hv hb) | (at_builtin; refine Kd.R_append_rows (Kd.int .i64) (w0 := WB) WB.heap.size rfl (.tmp 93) (.tmp 96) 28 3 (.int .i64 0) 8 rfl Try.underlying28 info3 rfl (by decide) (by omega) u11 (Q) (wl) _ _ _ (fun _ => True) (fun _ => False) rfl rfl ?aO ?aR (fun _ _ h => h) (fun _ h => h.elim) ?aF ?aB ?aS ?aL ?_; (case aR => exact (Kd.R_reads' HV8.out).2.2); (case aB => exact HB8.out); (case aF => exact (fun _ _ => trivial)); (case aO => exact HO8.out); (case aS => exact (HB8.out).size); (case aL => have h1_ := HQL.out; have h2_ := HWL.out; have h3_ := HLT.out; have h4_ := HJT.out; omega); intro v9 w9 ho hb hg2 hat; have HO9 := Aside0.mk ho; have HB9 := Aside0.mk hb; have HGB9 := Aside0.mk ((hg2.block g (blk_lt HGB8.out) (rowNe HGB8.out (by decide) HO8.out)).trans HGB8.out); clear ho hb hg2 hat))
                        go_roundw
                        case rel => exact ⟨j + 1, Q ++ wl, by rw [hw6]; rfl, by rw [if_neg (by have := HJF.out; omega)], ⟨by have := HJ.out; omega, HJL.out⟩, ⟨by have h1 := HQ.out; rw [HJF.out] at h1 ⊢; rw [← h1, HNX.out, List.append_assoc]⟩, ⟨by rw [List.length_append]; have h1_ := HQL.out; have h2_ := HWL.out; omega⟩, HO9, HGB9, HB9⟩
                        case measure => rw [hw6]; simp only [intOf]; have := HJL.out; omega
                      · have hnx := remN_next d l1 f hi j hjl (by have := HJ.out; omega)
                        rw [if_neg hjf]
                        have HWL := Aside0.mk (lowerS_len HD.out.1 l1 j)
                        obtain ⟨wl, hwl⟩ : ∃ wl, wl = lowerS d l1 j := ⟨_, rfl⟩
                        rw [← hwl] at hnx HWL
                        have HPC := Aside0.mk hwl.symm
                        have HNX := Aside0.mk hnx
                        have HJF := Aside0.mk hjf
                        clear hjl hjf hwl hnx
                        go_wp2_with (first | (go_at_call 34; (with_reducible refine (lower_calls b d l1 j _ (HM0.out.below HB7.out) HJT.out HD.out.1 (by have := HLT.out; omega) HD.out.2.2.2).mono ?_); rw [HPC.out]; rintro e w8 ⟨v8, rfl, hv, hb⟩; obtain ⟨A8, c8, rfl⟩ := Kd.R_slice hv; have HV8 := Aside0.mk hv; have HO8 := Aside0.mk (Kd.R_below HO7.out hb); have HB8 := Aside0.mk (below_step HB7.out hb); have HGB8 := Aside0.mk ((hb.block _ (blk_lt HGB7.out)).trans HGB7.out); clear hv hb) | (at_builtin; refine Kd.R_append_rows (Kd.int .i64) (w0 := WB) WB.heap.size rfl (.tmp 93) (.tmp 96) 28 3 (.int .i64 0) 8 rfl Try.underlying28 info3 rfl (by decide) (by omega) u11 (Q) (wl) _ _ _ (fun _ => True) (fun _ => False) rfl rfl ?aO ?aR (fun _ _ h => h) (fun _ h => h.elim) ?aF ?aB ?aS ?aL ?_; (case aR => exact (Kd.R_reads' HV8.out).2.2); (case aB => exact HB8.out); (case aF => exact (fun _ _ => trivial)); (case aO => exact HO8.out); (case aS => exact (HB8.out).size); (case aL => have h1_ := HQL.out; have h2_ := HWL.out; have h3_ := HLT.out; have h4_ := HJT.out; omega); intro v9 w9 ho hb hg2 hat; have HO9 := Aside0.mk ho; have HB9 := Aside0.mk hb; have HGB9 := Aside0.mk ((hg2.block g (blk_lt HGB8.out) (rowNe HGB8.out (by decide) HO8.out)).trans HGB8.out); clear ho hb hg2 hat))
                        go_roundw
                        case rel => exact ⟨j + 1, Q ++ wl, by rw [hw6]; rfl, by rw [if_neg (by have := HJ.out; omega)], ⟨by have := HJ.out; omega, HJL.out⟩, ⟨by rw [← HQ.out, HNX.out, List.append_assoc]⟩, ⟨by rw [List.length_append]; have h1_ := HQL.out; have h2_ := HWL.out; omega⟩, HO9, HGB9, HB9⟩
                        case measure => rw [hw6]; simp only [intOf]; have := HJL.out; omega
                    · have hje : j = hi := by have := HJ.out; omega
                      have y1 : decide ((j : Int) < (hi : Int)) = false := decide_eq_false (by omega)
                      have y2 : decide (j < hi) = false := decide_eq_false hjl
                      have y3 : (j < hi) = False := eq_false hjl
                      have HFIN := Aside0.mk (show Q ++ titleA d l1 (l2.drop (k + 1)) hi = r by
                        have h1 := HQ.out
                        rw [hje, remN_end, List.append_nil] at h1
                        rw [h1, ← HEQ2.out, HPT.out]
                        simp only [List.append_assoc])
                      have HQL2 := Aside0.mk (show Q.length ≤ 100000 * hi by rw [← hje]; exact HQL.out)
                      clear hjl hje
                      go_wp2
                      go_roundw
                      case rel => exact ⟨k + 1, hi, Q, rfl, by rw [hw]; rfl, ⟨HLK.out, HLH.out.2.2, HW4.out⟩, ⟨HFIN.out, HQL2.out⟩, HO7, HB7⟩
                      case measure => rw [hw]; simp only [intOf]; have := HLK.out; omega
          · obtain rfl : k = l2.length := by have := HK.out; omega
            have hdl : decide ((l2.length : Int) < (l2.length : Int)) = false := decide_eq_false (by omega)
            have heq := HEQ.out.1
            rw [List.drop_length] at heq
            have HEQ3 := Aside0.mk (show O ++ l1.drop a = r from heq)
            have hsl : (l1.drop a).length = l1.length - a := List.length_drop
            have HSL := Aside0.mk hsl
            have hseg := Kd.C_drop (m := a) (Kd.C_below HRT.out (below_step HBW.out HB.out)) HK.out.2.1 HCT.out
            rw [hsl, show a * (Kd.int .i64).sz = a from Nat.mul_one _] at hseg
            have hs1 : (0 ≤ (a : Int)) = True := eq_true (by omega)
            have hs2 : ((a : Int) ≤ (l1.length : Int)) = True := eq_true (by have := HK.out.2.1; omega)
            have hs4 : (a ≤ l1.length) = True := eq_true HK.out.2.1
            by_cases hca : c1 = a
            · rw [if_pos hca] at hseg
              have hcT : (c1 = a) = True := eq_true hca
              have hc0 : c1 - a = 0 := by omega
              have hfa : l1.length - a = 0 := by have := HCT.out; omega
              have HSEG := Aside0.mk hseg
              rw [hfa] at hseg
              have HSEG0 := Aside0.mk hseg
              clear heq hlt hsl hseg hca
              go_wp2_with (first | (at_builtin; refine Kd.R_append_rows (Kd.int .i64) (w0 := WB) WB.heap.size rfl (.tmp 101) (.tmp 104) 28 3 (.int .i64 0) 8 rfl Try.underlying28 info3 rfl (by decide) (by omega) u11 (O) (l1.drop a) _ _ _ (fun _ => True) (fun _ => False) rfl rfl ?aO ?aR (fun _ _ h => h) (fun _ h => h.elim) ?aF ?aB ?aS ?aL ?_; (case aR => first | exact HSEG.out | exact HSEG0.out); (case aB => exact HB.out); (case aF => exact (fun _ _ => trivial)); (case aO => exact HO.out); (case aS => exact (HB.out).size); (case aL => have h1_ := HEQ.out.2; have h2_ := HLT.out; have h3_ := HK.out.2.1; omega); intro v9 w9 ho hb hg2 hat; rw [HEQ3.out] at ho; have HO9 := Aside0.mk ho; have HB9 := Aside0.mk hb; clear ho hb hg2 hat))
              go_ret
              exact ⟨v9, rfl, Kd.R_lower HO9.out HBW.out.size, below_step HBW.out HB9.out⟩
            · rw [if_neg hca] at hseg
              have hcF : (c1 = a) = False := eq_false hca
              have HSEG := Aside0.mk hseg
              have HSEG0 := HSEG
              clear heq hlt hsl hseg hca
              go_wp2_with (first | (at_builtin; refine Kd.R_append_rows (Kd.int .i64) (w0 := WB) WB.heap.size rfl (.tmp 101) (.tmp 104) 28 3 (.int .i64 0) 8 rfl Try.underlying28 info3 rfl (by decide) (by omega) u11 (O) (l1.drop a) _ _ _ (fun _ => True) (fun _ => False) rfl rfl ?aO ?aR (fun _ _ h => h) (fun _ h => h.elim) ?aF ?aB ?aS ?aL ?_; (case aR => first | exact HSEG.out | exact HSEG0.out); (case aB => exact HB.out); (case aF => exact (fun _ _ => trivial)); (case aO => exact HO.out); (case aS => exact (HB.out).size); (case aL => have h1_ := HEQ.out.2; have h2_ := HLT.out; have h3_ := HK.out.2.1; omega); intro v9 w9 ho hb hg2 hat; rw [HEQ3.out] at ho; have HO9 := Aside0.mk ho; have HB9 := Aside0.mk hb; clear ho hb hg2 hat))
              go_ret
              exact ⟨v9, rfl, Kd.R_lower HO9.out HBW.out.size, below_step HBW.out HB9.out⟩
  · rw [if_neg hok] at h; cases h
end Go.Proofs.Ythnkmcfhpjmihaa.Q
end
