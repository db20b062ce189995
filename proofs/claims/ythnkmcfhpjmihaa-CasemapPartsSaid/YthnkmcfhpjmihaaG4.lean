/- Lemmas, printed and written for this claim: part 4. -/
import Derived.WalkKit
import Derived.WalkSpells
import Derived.IntWalk
import Derived.Test.YthnkmcfhpjmihaaG3
import Derived.Test.YthnkmcfhpjmihaaG2
import Derived.Deep.RegionHeld3
import Derived.Deep.RegionLaw
section
namespace Go.Proofs.Ythnkmcfhpjmihaa.Q
open Go.RowKit Go.Proofs.YthnkmcfhpjmihaaW.PrintWords Go.Proofs.YthnkmcfhpjmihaaW.PrintLast Go.Proofs.YthnkmcfhpjmihaaW.PrintMore
set_option linter.unusedVariables false
/-- A row of four rows, as it was just built. -/
theorem C_four (W : World) (g : Nat) (hg : g = W.heap.size) (A0 : Option Addr) (c0 : Nat) (l0 : List Mp) (A1 : Option Addr) (c1 : Nat) (l1 : List Mp) (A2 : Option Addr) (c2 : Nat) (l2 : List Mp) (A3 : Option Addr) (c3 : Nat) (l3 : List Mp)
  (h0 : Kd.C k43 W A0 l0.length l0) (k0 : l0.length ≤ c0) (h1 : Kd.C k43 W A1 l1.length l1) (k1 : l1.length ≤ c1) (h2 : Kd.C k43 W A2 l2.length l2) (k2 : l2.length ≤ c2) (h3 : Kd.C k43 W A3 l3.length l3) (k3 : l3.length ≤ c3) :
  Kd.C (Kd.slice 43 k43) (W.alloc (.cells #[.slice A0 l0.length c0, .slice A1 l1.length c1, .slice A2 l2.length c2, .slice A3 l3.length c3] 22)) (some ⟨g, 0, none⟩) 4 [l0, l1, l2, l3] := by
 subst hg
 refine ⟨rfl, by omega, fun _ => ⟨_, rfl, fun j p hj => ?_⟩⟩
 have hb := bAl (Below.refl W.heap.size W) (.cells #[.slice A0 l0.length c0, .slice A1 l1.length c1, .slice A2 l2.length c2, .slice A3 l3.length c3] 22)
 have hcell := fun i => bkC (blk_new W (.cells #[.slice A0 l0.length c0, .slice A1 l1.length c1, .slice A2 l2.length c2, .slice A3 l3.length c3] 22)) i
 have key : ∀ (i : Nat) (A : Option Addr) (c : Nat) (l : List Mp), (#[Value.slice A0 l0.length c0, .slice A1 l1.length c1, .slice A2 l2.length c2, .slice A3 l3.length c3] : Array Value)[i]? = some (.slice A l.length c) → l.length ≤ c → Kd.C k43 W A l.length l → ∃ cs : List Value, cs.length = 1 ∧ (Kd.slice 43 k43).K (W.alloc (.cells #[.slice A0 l0.length c0, .slice A1 l1.length c1, .slice A2 l2.length c2, .slice A3 l3.length c3] 22)) l cs ∧ ∀ (i' : Nat) (u : Value), cs[i']? = some u → (W.alloc (.cells #[.slice A0 l0.length c0, .slice A1 l1.length c1, .slice A2 l2.length c2, .slice A3 l3.length c3] 22)).cell? ((⟨W.heap.size, 0, none⟩ : Addr).add (i * 1 + i')) = some u := by
  intro i A c l h hk hC
  refine ⟨[.slice A l.length c], rfl, ⟨A, c, rfl, hk, Kd.C_below hC hb⟩, fun i' u hu => ?_⟩
  cases i' with
  | zero =>
   simp only [List.getElem?_cons_zero, Option.some.injEq] at hu
   subst hu
   rw [Nat.mul_one, Nat.add_zero, add_plain, hcell]
   exact h
  | succ n => simp at hu
 rcases j with _ | _ | _ | _ | j
 ·simp only [List.getElem?_cons_zero, Option.some.injEq] at hj; subst hj; exact key 0 A0 c0 l0 rfl k0 h0
 ·simp only [List.getElem?_cons_succ, List.getElem?_cons_zero, Option.some.injEq] at hj; subst hj; exact key 1 A1 c1 l1 rfl k1 h1
 ·simp only [List.getElem?_cons_succ, List.getElem?_cons_zero, Option.some.injEq] at hj; subst hj; exact key 2 A2 c2 l2 rfl k2 h2
 ·simp only [List.getElem?_cons_succ, List.getElem?_cons_zero, Option.some.injEq] at hj; subst hj; exact key 3 A3 c3 l3 rfl k3 h3
 ·simp at hj
theorem okC_spec {c : CaseS} (h : okC c = true) : okM c.lo = true ∧ okM c.up = true ∧ okM c.ti = true ∧ okM c.fo = true ∧ c.ca.length < 1000000 ∧ c.ig.length < 1000000 := by
 unfold okC at h
 simp only [Bool.and_eq_true, decide_eq_true_eq] at h
 obtain ⟨⟨⟨⟨⟨h1, h2⟩, h3⟩, h4⟩, h5⟩, h6⟩ := h
 exact ⟨h1, h2, h3, h4, h5, h6⟩
/-- Tags that are not allowed, from list number i on. -/
def badN (i : Nat) (l : List Mp) : Bool := l.any (badTag (decide (i = 0)))
theorem rdL_mem (ls : List (List Mp)) (k : Nat) (h : k < ls.length) : rd_L5 ls (k : Int) ∈ ls ∧ ls[k]? = some (rd_L5 ls (k : Int)) := by
 have e : rd_L5 ls (k : Int) = ls[k] := by
  unfold rd_L5
  rw [Int.toNat_natCast, List.getD_eq_getElem?_getD, List.getElem?_eq_getElem h]; rfl
 rw [e]
 exact ⟨List.getElem_mem h, List.getElem?_eq_getElem h⟩
theorem firstE_all : ∀ ls : List (List Mp), (∀ l ∈ ls, checkM l = 0) → firstE ls = 0
 | [], _ => rfl
 | l :: ls, h => by
  rw [firstE, if_pos (h l List.mem_cons_self)]
  exact firstE_all ls (fun x hx => h x (List.mem_cons_of_mem _ hx))
theorem firstE_at : ∀ (ls : List (List Mp)) (k : Nat) (l : List Mp), (∀ x ∈ ls.take k, checkM x = 0) → ls[k]? = some l → checkM l ≠ 0 → firstE ls = checkM l
 | [], k, l, _, h, _ => by simp at h
 | x :: ls, 0, l, _, h, h2 => by
  simp only [List.getElem?_cons_zero, Option.some.injEq] at h
  subst h
  rw [firstE, if_neg h2]
 | x :: ls, k + 1, l, h1, h, h2 => by
  rw [firstE, if_pos (h1 x (by simp))]
  exact firstE_at ls k l (fun y hy => h1 y (by rw [List.take_succ_cons]; exact List.mem_cons_of_mem _ hy)) (by simpa using h) h2
theorem tagF_list : tagF.toList = ([102, 105, 110, 97, 108] : List UInt8) := by kernel_rfl
theorem chk_bad (c : CaseS) (k : Nat) (l : List Mp) (x : Mp) (hf : firstE [c.lo, c.up, c.ti, c.fo] = 0) (hl : l = rd_L5 [c.lo, c.up, c.ti, c.fo] (k : Int)) (hk : k < 4) (hx : x ∈ l) (hb : badTag (decide (k = 0)) x = true) : caseChk c = 6 := by
 have hany : badsS c = true := by
  have h1 : l.any (badTag (decide (k = 0))) = true := List.any_eq_true.2 ⟨x, hx, hb⟩
  subst hl
  unfold badsS
  rcases k with _ | _ | _ | _ | k
  ·have h2 : c.lo.any (badTag true) = true := h1
   simp [h2]
  ·have h2 : c.up.any (badTag false) = true := h1
   simp [h2]
  ·have h2 : c.ti.any (badTag false) = true := h1
   simp [h2]
  ·have h2 : c.fo.any (badTag false) = true := h1
   simp [h2]
  ·omega
 unfold caseChk
 rw [if_pos hf, hany]
 rfl
theorem chk_good (c : CaseS) (hf : firstE [c.lo, c.up, c.ti, c.fo] = 0) (h : ∀ j, j < 4 → badN j (rd_L5 [c.lo, c.up, c.ti, c.fo] (j : Int)) = false) : caseChk c = if validL c.ca && validL c.ig then 0 else 11 := by
 have hany : badsS c = false := by
  have h0 : c.lo.any (badTag true) = false := h 0 (by omega)
  have h1 : c.up.any (badTag false) = false := h 1 (by omega)
  have h2 : c.ti.any (badTag false) = false := h 2 (by omega)
  have h3 : c.fo.any (badTag false) = false := h 3 (by omega)
  unfold badsS
  rw [h0, h1, h2, h3]
  rfl
 unfold caseChk
 rw [if_pos hf, hany]
 rfl
set_option maxHeartbeats 8000000 in
set_option maxRecDepth 100000 in
theorem caseCheck_calls (A0_0 : Option Addr) (c0_0 : Nat) (l0_0 : List Mp) (A0_1 : Option Addr) (c0_1 : Nat) (l0_1 : List Mp) (A0_2 : Option Addr) (c0_2 : Nat) (l0_2 : List Mp) (A0_3 : Option Addr) (c0_3 : Nat) (l0_3 : List Mp) (A0_4 : Option Addr) (c0_4 : Nat) (l0_4 : List Rg) (A0_5 : Option Addr) (c0_5 : Nat) (l0_5 : List Rg) (w : World) (hr0_0 : Kd.C k43 w A0_0 l0_0.length l0_0) (hc0_0 : l0_0.length ≤ c0_0) (hr0_1 : Kd.C k43 w A0_1 l0_1.length l0_1) (hc0_1 : l0_1.length ≤ c0_1) (hr0_2 : Kd.C k43 w A0_2 l0_2.length l0_2) (hc0_2 : l0_2.length ≤ c0_2) (hr0_3 : Kd.C k43 w A0_3 l0_3.length l0_3) (hc0_3 : l0_3.length ≤ c0_3) (hr0_4 : Kd.C k33 w A0_4 l0_4.length l0_4) (hc0_4 : l0_4.length ≤ c0_4) (hr0_5 : Kd.C k33 w A0_5 l0_5.length l0_5) (hc0_5 : l0_5.length ≤ c0_5) (hok : okC ⟨l0_0, l0_1, l0_2, l0_3, l0_4, l0_5⟩ = true) :
  Calls Try.prog 21 #[.agg #[.slice A0_0 l0_0.length c0_0, .slice A0_1 l0_1.length c0_1, .slice A0_2 l0_2.length c0_2, .slice A0_3 l0_3.length c0_3, .slice A0_4 l0_4.length c0_4, .slice A0_5 l0_5.length c0_5]] w fun e w' => e = .returned (.int .i64 (caseChk ⟨l0_0, l0_1, l0_2, l0_3, l0_4, l0_5⟩)) ∧ Below w.heap.size w w' := by
 obtain ⟨ok0, ok1, ok2, ok3, ok4, ok5⟩ := okC_spec hok
 have hu := Try.underlying27
 have HR0 := aM hr0_0
 have HC0 := aM hc0_0
 have HOK0 := aM ok0
 have HR1 := aM hr0_1
 have HC1 := aM hc0_1
 have HOK1 := aM ok1
 have HR2 := aM hr0_2
 have HC2 := aM hc0_2
 have HOK2 := aM ok2
 have HR3 := aM hr0_3
 have HC3 := aM hc0_3
 have HOK3 := aM ok3
 have HR4 := aM hr0_4
 have HC4 := aM hc0_4
 have HOK4 := aM ok4
 have HR5 := aM hr0_5
 have HC5 := aM hc0_5
 have HOK5 := aM ok5
 clear hok hr0_0 hc0_0 ok0 hr0_1 hc0_1 ok1 hr0_2 hc0_2 ok2 hr0_3 hc0_3 ok3 hr0_4 hc0_4 ok4 hr0_5 hc0_5 ok5
 go_enter Try.func21, Try.ntmps21
 go_wp2
 have HU := aM hu
 obtain ⟨ls, hls⟩ : ∃ ls, ls = [l0_0, l0_1, l0_2, l0_3] := ⟨_, rfl⟩
 have HLS := aM hls
 have HOKL : Aside0 (∀ l ∈ ls, okM l = true) := ⟨fun l hl => by
  rw [hls] at hl
  simp only [List.mem_cons, List.not_mem_nil, or_false] at hl
  rcases hl with rfl | rfl | rfl | rfl
  ·exact HOK0.out
  ·exact HOK1.out
  ·exact HOK2.out
  ·exact HOK3.out⟩
 have HL4 : Aside0 (ls.length = 4) := ⟨by rw [hls]; rfl⟩
 have hbx := bAl (Below.refl w.heap.size w) (Obj.cells #[Value.slice A0_0 l0_0.length c0_0, Value.slice A0_1 l0_1.length c0_1, Value.slice A0_2 l0_2.length c0_2, Value.slice A0_3 l0_3.length c0_3, Value.slice A0_4 l0_4.length c0_4, Value.slice A0_5 l0_5.length c0_5] 27)
 have hrow := C_four (w.alloc (Obj.cells #[Value.slice A0_0 l0_0.length c0_0, Value.slice A0_1 l0_1.length c0_1, Value.slice A0_2 l0_2.length c0_2, Value.slice A0_3 l0_3.length c0_3, Value.slice A0_4 l0_4.length c0_4, Value.slice A0_5 l0_5.length c0_5] 27)) (w.heap.size + 1) (by rw [World.size_alloc]) A0_0 c0_0 l0_0 A0_1 c0_1 l0_1 A0_2 c0_2 l0_2 A0_3 c0_3 l0_3 (Kd.C_below HR0.out hbx) HC0.out (Kd.C_below HR1.out hbx) HC1.out (Kd.C_below HR2.out hbx) HC2.out (Kd.C_below HR3.out hbx) HC3.out
 rw [← hls] at hrow
 have hb2 := bAl hbx (Obj.cells #[Value.slice A0_0 l0_0.length c0_0, Value.slice A0_1 l0_1.length c0_1, Value.slice A0_2 l0_2.length c0_2, Value.slice A0_3 l0_3.length c0_3] 22)
 have k0 : ((w.alloc (Obj.cells #[Value.slice A0_0 l0_0.length c0_0, Value.slice A0_1 l0_1.length c0_1, Value.slice A0_2 l0_2.length c0_2, Value.slice A0_3 l0_3.length c0_3, Value.slice A0_4 l0_4.length c0_4, Value.slice A0_5 l0_5.length c0_5] 27)).alloc (Obj.cells #[Value.slice A0_0 l0_0.length c0_0, Value.slice A0_1 l0_1.length c0_1, Value.slice A0_2 l0_2.length c0_2, Value.slice A0_3 l0_3.length c0_3] 22)).heap[w.heap.size]? = some (Obj.cells #[Value.slice A0_0 l0_0.length c0_0, Value.slice A0_1 l0_1.length c0_1, Value.slice A0_2 l0_2.length c0_2, Value.slice A0_3 l0_3.length c0_3, Value.slice A0_4 l0_4.length c0_4, Value.slice A0_5 l0_5.length c0_5] 27 (0, 0)) := ((bAl (Below.refl (w.alloc (Obj.cells #[Value.slice A0_0 l0_0.length c0_0, Value.slice A0_1 l0_1.length c0_1, Value.slice A0_2 l0_2.length c0_2, Value.slice A0_3 l0_3.length c0_3, Value.slice A0_4 l0_4.length c0_4, Value.slice A0_5 l0_5.length c0_5] 27)).heap.size _) (Obj.cells #[Value.slice A0_0 l0_0.length c0_0, Value.slice A0_1 l0_1.length c0_1, Value.slice A0_2 l0_2.length c0_2, Value.slice A0_3 l0_3.length c0_3] 22)).block _ (by rw [World.size_alloc]; omega)).trans (blk_new w _)
 generalize (w.alloc (Obj.cells #[Value.slice A0_0 l0_0.length c0_0, Value.slice A0_1 l0_1.length c0_1, Value.slice A0_2 l0_2.length c0_2, Value.slice A0_3 l0_3.length c0_3, Value.slice A0_4 l0_4.length c0_4, Value.slice A0_5 l0_5.length c0_5] 27)).alloc (Obj.cells #[Value.slice A0_0 l0_0.length c0_0, Value.slice A0_1 l0_1.length c0_1, Value.slice A0_2 l0_2.length c0_2, Value.slice A0_3 l0_3.length c0_3] 22) = W0 at *
 have HROW := aM hrow
 have HBW := aM hb2
 have HK0 := aM k0
 clear hls hbx hrow hb2 k0 hu
 go_loopw [20] (fun i wr => ∃ k : Nat, i = .int .i64 k ∧ Aside0 (k ≤ 4) ∧ Aside0 (∀ l ∈ ls.take k, checkM l = 0) ∧ Aside0 (Below W0.heap.size W0 wr)) (fun i _ => 4 - (intOf i).toNat)
 case atStart => exact ⟨0, rfl, ⟨Nat.zero_le _⟩, ⟨fun x hx => by simp at hx⟩, ⟨Below.refl _ _⟩⟩
 case round =>
  obtain ⟨k, rfl, HK, HA, HB⟩ := hrel
  by_cases hlt : k < 4
  ·obtain ⟨ad, A, n, e, x0, z1, z2⟩ := at_L5 (Kd.C_below HROW.out HB.out) (k : Int) (by omega) (by omega)
   cases e
   rw [Int.toNat_natCast] at x0
   rw [add_plain] at x0
   have hp1 : (0 ≤ (k : Int)) = True := eq_true (by omega)
   have hp2 : ((k : Int) < 4) = True := eq_true (by omega)
   have hp3 : (k < 4) = True := eq_true hlt
   have hdl : decide ((k : Int) < 4) = true := dT (by omega)
   have hw : wrap64 ((k : Int) + 1) = (k : Int) + 1 := by unfold wrap64; omega
   obtain ⟨hm, hrd⟩ := rdL_mem ls k (by have := HL4.out; omega)
   obtain ⟨o1, o2⟩ := okM_spec (HOKL.out _ hm)
   have hst : ls.take (k + 1) = ls.take k ++ [rd_L5 ls (k : Int)] := by rw [List.take_add_one, hrd]; rfl
   have HMC := aM (mCheck_calls A n (rd_L5 ls (k : Int)) wr z2 (by omega) (fun x hx => by have := (o2 x hx).2; omega))
   have HFE := aM (firstE_at ls k (rd_L5 ls (k : Int)) HA.out hrd)
   have HST := aM hst
   have HLT := aM hlt
   clear hst hlt hrd hm z1 z2 o1 o2
   generalize rd_L5 ls (k : Int) = l at *
   by_cases h0 : checkM l = 0
   ·have HQ := aM h0
    rw [h0] at HMC
    clear h0
    go_wp2_with (go_at_call 43; (with_reducible refine HMC.out.mono ?_); rintro e w1 ⟨rfl, hb⟩; have HB1 := aM (bSp HB.out hb); clear hb)
    go_roundw
    case rel => exact ⟨k + 1, by rw [hw]; rfl, HLT, ⟨fun y hy => by rw [HST.out] at hy; exact (List.mem_append.1 hy).elim (HA.out y) (fun h => by rw [List.mem_singleton.1 h]; exact HQ.out)⟩, HB1⟩
    case measure => rw [hw]; simp only [intOf]; have := HLT.out; omega
   ·have HF := aM (HFE.out h0)
    have HNZ := aM h0
    generalize checkM l = u at *
    have y1 : (u != 0) = true := by simpa using h0
    have y2 : (u == 0) = false := by simpa using h0
    have y3 : decide (u = 0) = false := decide_eq_false h0
    clear h0 HFE
    go_wp2_with (go_at_call 43; (with_reducible refine HMC.out.mono ?_); rintro e w1 ⟨rfl, hb⟩; have HB1 := aM (bSp HB.out hb); clear hb)
    go_ret
    have hck : caseChk ⟨l0_0, l0_1, l0_2, l0_3, l0_4, l0_5⟩ = u := by
     unfold caseChk
     show (if firstE [l0_0, l0_1, l0_2, l0_3] = 0 then _ else firstE [l0_0, l0_1, l0_2, l0_3]) = u
     rw [← HLS.out, HF.out, if_neg HNZ.out]
    rw [hck]
    exact ⟨rfl, bSp HBW.out HB1.out⟩
  ·obtain rfl : k = 4 := by have := HK.out; omega
   have hdl : decide (((4 : Nat) : Int) < 4) = false := rfl
   have hall := HA.out
   rw [List.take_of_length_le (by rw [HL4.out]; omega)] at hall
   have HFE := aM (firstE_all ls hall)
   have HBW2 := aM (bSp HBW.out HB.out)
   have k1 := (HB.out.block _ (blk_lt HK0.out)).trans HK0.out
   have HK1 := aM k1
   clear hlt hall HA HK
   have a0 : wr.cell? ⟨w.heap.size, 0, none⟩ = some (.slice A0_0 l0_0.length c0_0) := (bkC HK1.out 0).trans rfl
   have a1 : wr.cell? ⟨w.heap.size, 1, none⟩ = some (.slice A0_1 l0_1.length c0_1) := (bkC HK1.out 1).trans rfl
   have a2 : wr.cell? ⟨w.heap.size, 2, none⟩ = some (.slice A0_2 l0_2.length c0_2) := (bkC HK1.out 2).trans rfl
   have a3 : wr.cell? ⟨w.heap.size, 3, none⟩ = some (.slice A0_3 l0_3.length c0_3) := (bkC HK1.out 3).trans rfl
   go_upto_region 9 with (fail)
   obtain ⟨g, hg⟩ : ∃ g, g = wr.heap.size := ⟨_, rfl⟩
   have hrow := C_four wr wr.heap.size rfl A0_0 c0_0 l0_0 A0_1 c0_1 l0_1 A0_2 c0_2 l0_2 A0_3 c0_3 l0_3 (Kd.C_below HR0.out HBW2.out) HC0.out (Kd.C_below HR1.out HBW2.out) HC1.out (Kd.C_below HR2.out HBW2.out) HC2.out (Kd.C_below HR3.out HBW2.out) HC3.out
   rw [← HLS.out] at hrow
   have HB2 := aM (bAl HBW2.out (Obj.cells #[Value.slice A0_0 l0_0.length c0_0, Value.slice A0_1 l0_1.length c0_1, Value.slice A0_2 l0_2.length c0_2, Value.slice A0_3 l0_3.length c0_3] 22))
   have HK2 := aM (((bAl (Below.refl wr.heap.size wr) (Obj.cells #[Value.slice A0_0 l0_0.length c0_0, Value.slice A0_1 l0_1.length c0_1, Value.slice A0_2 l0_2.length c0_2, Value.slice A0_3 l0_3.length c0_3] 22)).block _ (blk_lt HK1.out)).trans HK1.out)
   rw [← hg] at hrow
   rw [← hg]
   have HROW2 := aM hrow
   generalize wr.alloc (Obj.cells #[Value.slice A0_0 l0_0.length c0_0, Value.slice A0_1 l0_1.length c0_1, Value.slice A0_2 l0_2.length c0_2, Value.slice A0_3 l0_3.length c0_3] 22) = W2 at *
   clear hrow hg a0 a1 a2 a3 HK1 HB HBW2 hdl
   go_loopw [40] (fun i w3 => ∃ k : Nat, i = .int .i64 k ∧ Aside0 (k ≤ 4) ∧ Aside0 (∀ j, j < k → badN j (rd_L5 ls (j : Int)) = false) ∧ Aside0 (Below W2.heap.size W2 w3)) (fun i _ => 4 - (intOf i).toNat)
   case atStart => exact ⟨0, rfl, ⟨Nat.zero_le _⟩, ⟨fun j hj => by omega⟩, ⟨Below.refl _ _⟩⟩
   case round =>
    obtain ⟨k, rfl, HK, HA, HB⟩ := hrel
    by_cases hlt : k < 4
    ·rename World => W3
     obtain ⟨ad, A, n, e, x0, z1, z2⟩ := at_L5 (Kd.C_below HROW2.out HB.out) (k : Int) (by omega) (by omega)
     cases e
     rw [Int.toNat_natCast] at x0
     rw [add_plain] at x0
     have hp1 : (0 ≤ (k : Int)) = True := eq_true (by omega)
     have hp2 : ((k : Int) < 4) = True := eq_true (by omega)
     have hp3 : (k < 4) = True := eq_true hlt
     have hdl : decide ((k : Int) < 4) = true := dT (by omega)
     have hw : wrap64 ((k : Int) + 1) = (k : Int) + 1 := by unfold wrap64; omega
     obtain ⟨hm, hrd⟩ := rdL_mem ls k (by have := HL4.out; omega)
     obtain ⟨o1, o2⟩ := okM_spec (HOKL.out _ hm)
     have HLL := aM o1
     have HZ2 := aM z2
     have HLT := aM hlt
     obtain ⟨l, hl⟩ : ∃ l, l = rd_L5 ls (k : Int) := ⟨_, rfl⟩
     rw [← hl] at x0 HLL HZ2
     have HLE := aM hl
     obtain ⟨i0, hi0⟩ : ∃ i0, i0 = decide (k = 0) := ⟨_, rfl⟩
     have HI0 := aM hi0
     have hk0 : decide ((k : Int) > 0) = !i0 := by
      rw [hi0]
      by_cases h : k = 0
      ·simp [h]
      ·rw [dT (by omega : (k : Int) > 0), decide_eq_false h]; rfl
     have hk1 : decide (0 < k) = !i0 := by rw [← hk0]; simp
     clear hlt hrd hm z1 z2 o1 o2 hl hi0
     go_wp2
     go_loopw [47] (fun j w4 => ∃ m : Nat, j = .int .i64 m ∧ Aside0 (m ≤ l.length) ∧ Aside0 (∀ y ∈ l.take m, badTag i0 y = false) ∧ Aside0 (Below W3.heap.size W3 w4)) (fun j _ => l.length - (intOf j).toNat)
     case atStart => exact ⟨0, rfl, ⟨Nat.zero_le _⟩, ⟨fun x hx => by simp at hx⟩, ⟨Below.refl _ _⟩⟩
     case round =>
      obtain ⟨m, rfl, HKM, HAM, HBJ⟩ := hrel
      by_cases hlm : m < l.length
      ·obtain ⟨ad2, E1, g1, e2, y0, y1, y2, v1, v2⟩ := at_T43 (Kd.C_below HZ2.out HBJ.out) (m : Int) (by omega) (by omega)
       cases e2
       rw [Int.toNat_natCast] at y0 y1 y2
       have hm1 : (0 ≤ (m : Int)) = True := eq_true (by omega)
       have hm2 : ((m : Int) < (l.length : Int)) = True := eq_true (by omega)
       have hdm : decide ((m : Int) < (l.length : Int)) = true := dT (by omega)
       have hwm : wrap64 ((m : Int) + 1) = (m : Int) + 1 := by have := HLL.out; unfold wrap64; omega
       have hrd : l[m]? = some (rd_T43 l (m : Int)) := by unfold rd_T43; rw [Int.toNat_natCast, List.getD_eq_getElem?_getD, List.getElem?_eq_getElem hlm]; rfl
       have hst : l.take (m + 1) = l.take m ++ [rd_T43 l (m : Int)] := by rw [List.take_add_one, hrd]; rfl
       have HMEM : Aside0 (rd_T43 l (m : Int) ∈ l) := ⟨List.mem_of_getElem? hrd⟩
       have HSTM := aM hst
       have HLTM := aM hlm
       clear hst hlm hrd v1 v2
       generalize rd_T43 l (m : Int) = x at *
       by_cases h0 : x.f2.size = 0
       ·have b1 : (x.f2.toList == ([] : List UInt8)) = true := beq_iff_eq.mpr ((bytesEq_nil x.f2).2 h0)
        have b2 : (x.f2.toList != ([] : List UInt8)) = false := bne_eq_false_iff_eq.mpr ((bytesEq_nil x.f2).2 h0)
        have HQ := aM (show badTag i0 x = false by unfold badTag; rw [decide_eq_false (by simpa using h0)]; rfl)
        clear h0
        go_wp2
        go_roundw
        case rel => exact ⟨m + 1, by rw [hwm]; rfl, HLTM, ⟨fun y hy => by rw [HSTM.out] at hy; exact (List.mem_append.1 hy).elim (HAM.out y) (fun h => by rw [List.mem_singleton.1 h]; exact HQ.out)⟩, ⟨bAl HBJ.out _⟩⟩
        case measure => rw [hwm]; simp only [intOf]; have := HLTM.out; omega
       ·have b1 : (x.f2.toList == ([] : List UInt8)) = false := beq_eq_false_iff_ne.mpr (fun h => h0 ((bytesEq_nil x.f2).1 h))
        have b2 : (x.f2.toList != ([] : List UInt8)) = true := bne_iff_ne.mpr (fun h => h0 ((bytesEq_nil x.f2).1 h))
        have hbt : badTag i0 x = (!i0 || decide (x.f2 ≠ tagF)) := by unfold badTag; rw [dT h0]; rfl
        cases i0 with
        | false =>
         have HBT := aM hbt
         clear hbt h0
         simp only [Bool.not_false] at hk0 hk1
         have hk2 : (0 < k) = True := eq_true (oD hk1)
         go_wp2
         go_ret
         have hck := chk_bad ⟨l0_0, l0_1, l0_2, l0_3, l0_4, l0_5⟩ k l x (by rw [← HLS.out]; exact HFE.out) (by rw [← HLS.out]; exact HLE.out) HLT.out HMEM.out (by rw [← HI0.out, HBT.out]; rfl)
         rw [hck]
         exact ⟨rfl, bSp HB2.out (bSp HB.out (bAl HBJ.out _))⟩
        | true =>
         simp only [Bool.not_true] at hk0 hk1
         have hk2 : (0 < k) = False := eq_false (of_decide_eq_false hk1)
         by_cases hf : x.f2 = tagF
         ·have d1 : (x.f2.toList == ([102, 105, 110, 97, 108] : List UInt8)) = true := beq_iff_eq.mpr (by rw [hf]; exact tagF_list)
          have d2 : (x.f2.toList != ([102, 105, 110, 97, 108] : List UInt8)) = false := bne_eq_false_iff_eq.mpr (by rw [hf]; exact tagF_list)
          have HQ := aM (show badTag true x = false by rw [hbt, hf]; rfl)
          clear hbt h0 hf
          go_wp2
          go_roundw
          case rel => exact ⟨m + 1, by rw [hwm]; rfl, HLTM, ⟨fun y hy => by rw [HSTM.out] at hy; exact (List.mem_append.1 hy).elim (HAM.out y) (fun h => by rw [List.mem_singleton.1 h]; exact HQ.out)⟩, ⟨bAl HBJ.out _⟩⟩
          case measure => rw [hwm]; simp only [intOf]; have := HLTM.out; omega
         ·have d1 : (x.f2.toList == ([102, 105, 110, 97, 108] : List UInt8)) = false := beq_eq_false_iff_ne.mpr (fun h => hf ((bytesEq_iff _ _).1 (h.trans tagF_list.symm)))
          have d2 : (x.f2.toList != ([102, 105, 110, 97, 108] : List UInt8)) = true := bne_iff_ne.mpr (fun h => hf ((bytesEq_iff _ _).1 (h.trans tagF_list.symm)))
          have HBT := aM (show badTag true x = (!false || decide (x.f2 ≠ tagF)) by rw [hbt, dT hf]; rfl)
          clear hbt h0 hf
          go_wp2
          go_ret
          have hck := chk_bad ⟨l0_0, l0_1, l0_2, l0_3, l0_4, l0_5⟩ k l x (by rw [← HLS.out]; exact HFE.out) (by rw [← HLS.out]; exact HLE.out) HLT.out HMEM.out (by rw [← HI0.out, HBT.out]; rfl)
          rw [hck]
          exact ⟨rfl, bSp HB2.out (bSp HB.out (bAl HBJ.out _))⟩
      ·obtain rfl : m = l.length := by have := HKM.out; omega
       have hdm : decide ((l.length : Int) < (l.length : Int)) = false := decide_eq_false (by omega)
       have HNB : Aside0 (badN k l = false) := ⟨by
        have h := HAM.out
        rw [List.take_length] at h
        unfold badN
        rw [← HI0.out, List.any_eq_false]
        intro y hy
        rw [h y hy]; decide⟩
       clear hlm
       go_wp2
       go_roundw
       case rel => exact ⟨k + 1, by rw [hw]; rfl, HLT, ⟨fun j hj => by
        by_cases he : j = k
        ·subst he; rw [← HLE.out]; exact HNB.out
        ·exact HA.out j (by omega)⟩, ⟨bSp HB.out HBJ.out⟩⟩
       case measure => rw [hw]; simp only [intOf]; have := HLT.out; omega
    ·obtain rfl : k = 4 := by have := HK.out; omega
     have hdl : decide (((4 : Nat) : Int) < 4) = false := rfl
     rename World => W3
     have k2 := (HB.out.block _ (blk_lt HK2.out)).trans HK2.out
     have a4 : W3.cell? ⟨w.heap.size, 4, none⟩ = some (.slice A0_4 l0_4.length c0_4) := (bkC k2 4).trans rfl
     have a5 : W3.cell? ⟨w.heap.size, 5, none⟩ = some (.slice A0_5 l0_5.length c0_5) := (bkC k2 5).trans rfl
     have HB3 := aM (bSp HB2.out HB.out)
     have hgood := chk_good ⟨l0_0, l0_1, l0_2, l0_3, l0_4, l0_5⟩ (by rw [← HLS.out]; exact HFE.out) (by rw [← HLS.out]; exact HA.out)
     have hg2 : caseChk ⟨l0_0, l0_1, l0_2, l0_3, l0_4, l0_5⟩ = if validL l0_4 && validL l0_5 then 0 else 11 := hgood
     have HV4 := aM (fun (W : World) (h : Kd.C k33 W A0_4 l0_4.length l0_4) => cpset_Valid.calls (l0_4.length + 1) A0_4 c0_4 l0_4 (validL l0_4) W h HC4.out (valid_ok l0_4 (by have := HOK4.out; show l0_4.length < _; have h2 : l0_4.length < 1000000 := this; omega)))
     have HV5 := aM (fun (W : World) (h : Kd.C k33 W A0_5 l0_5.length l0_5) => cpset_Valid.calls (l0_5.length + 1) A0_5 c0_5 l0_5 (validL l0_5) W h HC5.out (valid_ok l0_5 (by have := HOK5.out; have h2 : l0_5.length < 1000000 := this; omega)))
     clear k2 hlt hgood
     cases hv4 : validL l0_4 with
     | false =>
      rw [hv4] at HV4
      have HG2 := aM (show caseChk ⟨l0_0, l0_1, l0_2, l0_3, l0_4, l0_5⟩ = 11 by rw [hg2, hv4]; rfl)
      clear hv4 hg2
      go_wp2_with (first | (go_at_call 44; (with_reducible refine (HV4.out _ (Kd.C_below HR4.out HB3.out)).mono ?_); rintro e w5 ⟨rfl, hb⟩; have a5 := pcb hb a5; have HB5 := aM (bSp HB3.out hb); clear hb))
      go_ret
      rw [HG2.out]
      exact ⟨rfl, HB5.out⟩
     | true =>
      rw [hv4] at HV4
      cases hv5 : validL l0_5 with
      | false =>
       rw [hv5] at HV5
       have HG2 := aM (show caseChk ⟨l0_0, l0_1, l0_2, l0_3, l0_4, l0_5⟩ = 11 by rw [hg2, hv4, hv5]; rfl)
       clear hv4 hv5 hg2
       go_wp2_with (first | (go_at_call 44; (with_reducible refine (HV4.out _ (Kd.C_below HR4.out HB3.out)).mono ?_); rintro e w5 ⟨rfl, hb⟩; have a5 := pcb hb a5; have HB5 := aM (bSp HB3.out hb); clear hb) | (go_at_call 44; (with_reducible refine (HV5.out _ (Kd.C_below HR5.out HB5.out)).mono ?_); rintro e w6 ⟨rfl, hb⟩; have HB6 := aM (bSp HB5.out hb); clear hb))
       go_ret
       rw [HG2.out]
       exact ⟨rfl, HB6.out⟩
      | true =>
       rw [hv5] at HV5
       have HG2 := aM (show caseChk ⟨l0_0, l0_1, l0_2, l0_3, l0_4, l0_5⟩ = 0 by rw [hg2, hv4, hv5]; rfl)
       clear hv4 hv5 hg2
       go_wp2_with (first | (go_at_call 44; (with_reducible refine (HV4.out _ (Kd.C_below HR4.out HB3.out)).mono ?_); rintro e w5 ⟨rfl, hb⟩; have a5 := pcb hb a5; have HB5 := aM (bSp HB3.out hb); clear hb) | (go_at_call 44; (with_reducible refine (HV5.out _ (Kd.C_below HR5.out HB5.out)).mono ?_); rintro e w6 ⟨rfl, hb⟩; have HB6 := aM (bSp HB5.out hb); clear hb))
       go_ret
       rw [HG2.out]
       exact ⟨rfl, HB6.out⟩
end Go.Proofs.Ythnkmcfhpjmihaa.Q
end
section
namespace Go.Proofs.Ythnkmcfhpjmihaa.Q
open Go.RowKit Go.Proofs.YthnkmcfhpjmihaaW.PrintWords Go.Proofs.YthnkmcfhpjmihaaW.PrintLast Go.Proofs.YthnkmcfhpjmihaaW.PrintMore
attribute [local go_sem] max2_int min2_int max_two min_two max_three min_three max_four min_four
set_option linter.unusedVariables false
set_option linter.unusedSimpArgs false
def r01_Valid.f (a0 : Int) : Option (Bool) := if a0 ≥ 0 then (some (decide (a0 ≤ 1114111))) else (some false)
def r11_codes.l0 : Nat → Int → Int → List Int → ByteArray → Option (Bool)
 | 0, _, _, _, _ => none
 | k + 1, x3, x183000, x183001, x183002 => if x3 < (x183001.length : Int) then (if 0 ≤ x3 then ((r01_Valid.f (rd x183001 x3)).bind fun t184 => (if t184 = true then (r11_codes.l0 k (wrap64 (x3 + 1)) x183000 x183001 x183002) else (some false))) else (none)) else ((r01_Valid.f x183000).bind fun t185 => (some t185))
def r11_codes.f (k : Nat) (a0_0 : Int) (l0_1 : List Int) (a0_2 : ByteArray) : Option (Bool) := r11_codes.l0 k 0 a0_0 l0_1 a0_2
attribute [local go_sem] max2_int min2_int max_two min_two max_three min_three max_four min_four
set_option linter.unusedVariables false
set_option linter.unusedSimpArgs false
def r11_Name.l0 : Nat → ByteArray → Int → Option (Bool)
 | 0, _, _ => none
 | k + 1, x0, x3 => if x3 < (x0.size : Int) then (if 0 ≤ x3 then (if (bt x0 x3) ≥ 65 then (if (bt x0 x3) ≤ 90 then (r11_Name.l0 k x0 (wrap64 (x3 + 1))) else (if (bt x0 x3) ≥ 97 then (if (bt x0 x3) ≤ 122 then (r11_Name.l0 k x0 (wrap64 (x3 + 1))) else (if (bt x0 x3) ≥ 48 then (if (bt x0 x3) ≤ 57 then (r11_Name.l0 k x0 (wrap64 (x3 + 1))) else (if ((bt x0 x3) = 95) then (r11_Name.l0 k x0 (wrap64 (x3 + 1))) else (some false))) else (if ((bt x0 x3) = 95) then (r11_Name.l0 k x0 (wrap64 (x3 + 1))) else (some false)))) else (if (bt x0 x3) ≥ 48 then (if (bt x0 x3) ≤ 57 then (r11_Name.l0 k x0 (wrap64 (x3 + 1))) else (if ((bt x0 x3) = 95) then (r11_Name.l0 k x0 (wrap64 (x3 + 1))) else (some false))) else (if ((bt x0 x3) = 95) then (r11_Name.l0 k x0 (wrap64 (x3 + 1))) else (some false))))) else (if (bt x0 x3) ≥ 97 then (if (bt x0 x3) ≤ 122 then (r11_Name.l0 k x0 (wrap64 (x3 + 1))) else (if (bt x0 x3) ≥ 48 then (if (bt x0 x3) ≤ 57 then (r11_Name.l0 k x0 (wrap64 (x3 + 1))) else (if ((bt x0 x3) = 95) then (r11_Name.l0 k x0 (wrap64 (x3 + 1))) else (some false))) else (if ((bt x0 x3) = 95) then (r11_Name.l0 k x0 (wrap64 (x3 + 1))) else (some false)))) else (if (bt x0 x3) ≥ 48 then (if (bt x0 x3) ≤ 57 then (r11_Name.l0 k x0 (wrap64 (x3 + 1))) else (if ((bt x0 x3) = 95) then (r11_Name.l0 k x0 (wrap64 (x3 + 1))) else (some false))) else (if ((bt x0 x3) = 95) then (r11_Name.l0 k x0 (wrap64 (x3 + 1))) else (some false))))) else (none)) else (if (x0.size : Int) ≥ 1 then (some (decide ((x0.size : Int) ≤ 32))) else (some false))
def r11_Name.f (k : Nat) (a0 : ByteArray) : Option (Bool) := r11_Name.l0 k a0 0
attribute [local go_sem] max2_int min2_int max_two min_two max_three min_three max_four min_four
set_option linter.unusedVariables false
set_option linter.unusedSimpArgs false
mutual
def r11_twice.l0 : Nat → List (S43) → Int → Option (Bool)
 | 0, _, _ => none
 | k + 1, x0, x3 => if x3 < (x0.length : Int) then (r11_twice.l1 k x0 x3 0) else (some false)
def r11_twice.l1 : Nat → List (S43) → Int → Int → Option (Bool)
 | 0, _, _, _ => none
 | k + 1, x0, x3, x4 => if x4 < x3 then (if 0 ≤ x3 then (if x3 < (x0.length : Int) then (if 0 ≤ x4 then (if x4 < (x0.length : Int) then (if ((rd_T43 x0 x3).f0) = ((rd_T43 x0 x4).f0) then (if ((rd_T43 x0 x3).f2).toList = ((rd_T43 x0 x4).f2).toList then (some true) else (r11_twice.l1 k x0 x3 (wrap64 (x4 + 1)))) else (r11_twice.l1 k x0 x3 (wrap64 (x4 + 1)))) else (none)) else (none)) else (none)) else (none)) else (r11_twice.l0 k x0 (wrap64 (x3 + 1)))
end
def r11_twice.f (k : Nat) (l0 : List (S43)) : Option (Bool) := r11_twice.l0 k l0 0
attribute [local go_sem] max2_int min2_int max_two min_two max_three min_three max_four min_four
set_option linter.unusedVariables false
set_option linter.unusedSimpArgs false
mutual
def r11_unsorted.l0 : Nat → List (S43) → Int → Option (Int)
 | 0, _, _ => none
 | k + 1, x0, x3 => if x3 < (x0.length : Int) then (if 0 ≤ x3 then ((r11_codes.f k ((rd_T43 x0 x3).f0) ((rd_T43 x0 x3).f1) ((rd_T43 x0 x3).f2)).bind fun t191 => (if t191 = true then (r11_unsorted.l0 k x0 (wrap64 (x3 + 1))) else (some 1))) else (none)) else (r11_unsorted.l1 k x0 0)
def r11_unsorted.l1 : Nat → List (S43) → Int → Option (Int)
 | 0, _, _ => none
 | k + 1, x0, x4 => if x4 < (x0.length : Int) then (if 0 ≤ x4 then (if (((rd_T43 x0 x4).f1).length : Int) > 64 then (some 2) else (r11_unsorted.l1 k x0 (wrap64 (x4 + 1)))) else (none)) else (r11_unsorted.l2 k x0 0)
def r11_unsorted.l2 : Nat → List (S43) → Int → Option (Int)
 | 0, _, _ => none
 | k + 1, x0, x5 => if x5 < (x0.length : Int) then (if 0 ≤ x5 then (if ((rd_T43 x0 x5).f2).toList = ([] : List UInt8) then (r11_unsorted.l2 k x0 (wrap64 (x5 + 1))) else ((r11_Name.f k ((rd_T43 x0 x5).f2)).bind fun t195 => (if t195 = true then (r11_unsorted.l2 k x0 (wrap64 (x5 + 1))) else (some 6)))) else (none)) else ((r11_twice.f k x0).bind fun t196 => (if t196 = true then (some 5) else (some 0)))
end
def r11_unsorted.f (k : Nat) (l0 : List (S43)) : Option (Int) := r11_unsorted.l0 k l0 0
attribute [local go_sem] max2_int min2_int max_two min_two max_three min_three max_four min_four
set_option linter.unusedVariables false
set_option linter.unusedSimpArgs false
def r11_before.f (a0_0 : Int) (l0_1 : List Int) (a0_2 : ByteArray) (a1_0 : Int) (l1_1 : List Int) (a1_2 : ByteArray) : Option (Bool) := if a0_0 < a1_0 then (some true) else (if a0_0 = a1_0 then (some (Op.bytesLess a0_2.toList a1_2.toList)) else (some false))
attribute [local go_sem] max2_int min2_int max_two min_two max_three min_three max_four min_four
set_option linter.unusedVariables false
set_option linter.unusedSimpArgs false
def r11_Check.l0 : Nat → List (S43) → Int → Option (Int)
 | 0, _, _ => none
 | k + 1, x0, x4 => if x4 < (x0.length : Int) then (if 0 ≤ (wrap64 (x4 - 1)) then (if (wrap64 (x4 - 1)) < (x0.length : Int) then (if 0 ≤ x4 then ((r11_before.f ((rd_T43 x0 (wrap64 (x4 - 1))).f0) ((rd_T43 x0 (wrap64 (x4 - 1))).f1) ((rd_T43 x0 (wrap64 (x4 - 1))).f2) ((rd_T43 x0 x4).f0) ((rd_T43 x0 x4).f1) ((rd_T43 x0 x4).f2)).bind fun t202 => (if t202 = true then (r11_Check.l0 k x0 (wrap64 (x4 + 1))) else (some 4))) else (none)) else (none)) else (none)) else (some 0)
def r11_Check.f (k : Nat) (l0 : List (S43)) : Option (Int) := (r11_unsorted.f k l0).bind fun t199 => (if t199 = 0 then (r11_Check.l0 k l0 1) else (some t199))
def r11_Check.T7 : Bool × List (List Nat × List Nat) := (true, [([], []), ([], []), ([1], [1]), ([0, 2], [0, 2]), ([3], [3]), ([], []), ([], []), ([5, 6], [5, 6]), ([7], [7]), ([4, 8], [4, 8]), ([9], [9])])
def r11_Check.B7 : List Nat := [0, 0, 2, 7, 15, 0, 0, 96, 224, 511, 1023]
attribute [local go_sem] max2_int min2_int max_two min_two max_three min_three max_four min_four
set_option linter.unusedVariables false
set_option linter.unusedSimpArgs false
attribute [local go_sem high] eqA33
def r37_tagged.l0 : Nat → List (S43) → ByteArray → Int → Option (Bool)
 | 0, _, _, _ => none
 | k + 1, x0, x1, x5 => if x5 < (x0.length : Int) then (if 0 ≤ x5 then (if ((rd_T43 x0 x5).f2).toList = ([] : List UInt8) then (r37_tagged.l0 k x0 x1 (wrap64 (x5 + 1))) else (if ((rd_T43 x0 x5).f2).toList = x1.toList then (r37_tagged.l0 k x0 x1 (wrap64 (x5 + 1))) else (some true))) else (none)) else (some false)
def r37_tagged.f (k : Nat) (l0 : List (S43)) (a1 : ByteArray) : Option (Bool) := r37_tagged.l0 k l0 a1 0
def r02_Same.l0 : Nat → Int → List (S33) → List (S33) → Option (Bool)
 | 0, _, _, _ => none
 | k + 1, x5, x206000, x207000 => if x5 < (x206000.length : Int) then (if 0 ≤ x5 then (if x5 < (x207000.length : Int) then (if (!(((rd_T33 x206000 x5).f0) == ((rd_T33 x207000 x5).f0)) || (!(((rd_T33 x206000 x5).f1) == ((rd_T33 x207000 x5).f1)))) = true then (some false) else (r02_Same.l0 k (wrap64 (x5 + 1)) x206000 x207000)) else (none)) else (none)) else (some true)
def r02_Same.f (k : Nat) (l0_0 : List (S33)) (l1_0 : List (S33)) : Option (Bool) := if (l0_0.length : Int) = (l1_0.length : Int) then (r02_Same.l0 k 0 l0_0 l1_0) else (some false)
attribute [local go_sem] max2_int min2_int max_two min_two max_three min_three max_four min_four
set_option linter.unusedVariables false
set_option linter.unusedSimpArgs false
mutual
def r02_place.l0 : Nat → List Int → Int → List Int → Bool → Int → Option (List Int)
 | 0, _, _, _, _, _ => none
 | k + 1, x0, x1, x5, x6, x7 => if x7 < (x0.length : Int) then (if x6 = true then (r02_place.j1 k x0 x1 x5 x6 x7 false) else (if 0 ≤ x7 then (r02_place.j1 k x0 x1 x5 x6 x7 (decide ((rd x0 x7) ≥ x1))) else (none))) else (if x6 = true then (some x5) else (if x5.length < 17592186044416 then (some (x5 ++ [x1])) else (none)))
def r02_place.j1 : Nat → List Int → Int → List Int → Bool → Int → Bool → Option (List Int)
 | 0, _, _, _, _, _, _ => none
 | k + 1, x0, x1, x5, x6, x7, x23 => if x23 = true then (if 0 ≤ x7 then (if x7 < (x0.length : Int) then (if (rd x0 x7) > x1 then (if x5.length < 17592186044416 then ((some (x5 ++ [x1] : List Int)).bind fun y218 => (if y218.length < 17592186044416 then (r02_place.l0 k x0 x1 (y218 ++ [rd x0 x7]) true (wrap64 (x7 + 1))) else (none))) else (none)) else (if x5.length < 17592186044416 then (r02_place.l0 k x0 x1 (x5 ++ [rd x0 x7]) true (wrap64 (x7 + 1))) else (none))) else (none)) else (none)) else (if 0 ≤ x7 then (if x7 < (x0.length : Int) then (if x5.length < 17592186044416 then (r02_place.l0 k x0 x1 (x5 ++ [rd x0 x7]) x6 (wrap64 (x7 + 1))) else (none)) else (none)) else (none))
end
def r02_place.f (k : Nat) (l0 : List Int) (a1 : Int) : Option (List Int) := r02_place.l0 k l0 a1 ([] : List Int) false 0
def r02_keeps.f (a0 : Int) (a1 : Bool) (a2 : Bool) : Option (Bool) := if a0 = 1 then (if a1 = true then (some true) else (some a2)) else (if a0 = 2 then (if a1 = true then (some a2) else (some false)) else (if a1 = true then (some (!a2)) else (some false)))
end Go.Proofs.Ythnkmcfhpjmihaa.Q
end
section
namespace Go.Proofs.Ythnkmcfhpjmihaa.Q
open Go.RowKit Go.Proofs.YthnkmcfhpjmihaaW.PrintWords Go.Proofs.YthnkmcfhpjmihaaW.PrintLast Go.Proofs.YthnkmcfhpjmihaaW.PrintMore
set_option linter.unusedVariables false
theorem rd_mid (pre : List Int) (x : Int) (rest : List Int) : rd (pre ++ x :: rest) (pre.length : Int) = x := by
 unfold rd
 rw [Int.toNat_natCast, List.getD_eq_getElem?_getD, List.getElem?_append_right (Nat.le_refl _), Nat.sub_self]
 rfl
def r02_Cuts.f (l0 : List Int) (l1_0 : List S33) : Option (List Int) := if l0.length + l1_0.length * 2 < 100000000 then some (CpM.cuts l0 (l1_0.map toP)) else none
abbrev kInt : Kd Int := Kd.int .i64
end Go.Proofs.Ythnkmcfhpjmihaa.Q
end
section
namespace Go.Proofs.Ythnkmcfhpjmihaa.Q
open Go.RowKit Go.Proofs.YthnkmcfhpjmihaaW.PrintWords Go.Proofs.YthnkmcfhpjmihaaW.PrintLast Go.Proofs.YthnkmcfhpjmihaaW.PrintMore
attribute [local go_sem] max2_int min2_int max_two min_two max_three min_three max_four min_four
set_option linter.unusedVariables false
set_option linter.unusedSimpArgs false
def r02_Has.l0 : Nat → Int → Int → List (S33) → Option (Bool)
 | 0, _, _, _ => none
 | k + 1, x1, x5, x210000 => if x5 < (x210000.length : Int) then ((r01_Valid.f x1).bind fun t210 => (if t210 = true then (if 0 ≤ x5 then (if ((rd_T33 x210000 x5).f0) ≤ x1 then (if x1 ≤ ((rd_T33 x210000 x5).f1) then (some true) else (r02_Has.l0 k x1 (wrap64 (x5 + 1)) x210000)) else (r02_Has.l0 k x1 (wrap64 (x5 + 1)) x210000)) else (none)) else (r02_Has.l0 k x1 (wrap64 (x5 + 1)) x210000))) else (some false)
def r02_Has.f (k : Nat) (l0_0 : List (S33)) (a1 : Int) : Option (Bool) := r02_Has.l0 k a1 0 l0_0
end Go.Proofs.Ythnkmcfhpjmihaa.Q
end
section
namespace Go.Proofs.Ythnkmcfhpjmihaa.Q
open Go.RowKit Go.Proofs.YthnkmcfhpjmihaaW.PrintWords Go.Proofs.YthnkmcfhpjmihaaW.PrintLast Go.Proofs.YthnkmcfhpjmihaaW.PrintMore
set_option linter.unusedVariables false
def keepsB (op : Int) (x y : Bool) : Bool := if op = 1 then x || y else if op = 2 then x && y else x && !y
def keepAB (l0 l1 : List Rg) (op : Int) (c : Int) : Bool := keepsB op (CpM.hasB (l0.map toP) c) (CpM.hasB (l1.map toP) c)
def cutsAB (l0 l1 : List Rg) : List Int := CpM.cuts (CpM.cuts [] (l0.map toP)) (l1.map toP)
def combS (l0 l1 : List Rg) (op : Int) : List (Int × Int) := CpM.runs (keepAB l0 l1 op) none (CpM.segs (cutsAB l0 l1))
def r02_combine.f (l0_0 : List S33) (l1_0 : List S33) (a2 : Int) : Option (List S33) := if l0_0.length + l1_0.length < 10000000 then some ((combS l0_0 l1_0 a2).map ofP) else none
def hiOf (rest : List Int) : Int := match rest with | [] => 1114111 | y :: _ => y - 1
end Go.Proofs.Ythnkmcfhpjmihaa.Q
end
section
namespace Go.Proofs.Ythnkmcfhpjmihaa.Q
open Go.RowKit Go.Proofs.YthnkmcfhpjmihaaW.PrintWords Go.Proofs.YthnkmcfhpjmihaaW.PrintLast Go.Proofs.YthnkmcfhpjmihaaW.PrintMore
attribute [local go_sem] max2_int min2_int max_two min_two max_three min_three max_four min_four
set_option linter.unusedVariables false
set_option linter.unusedSimpArgs false
def r02_Make.f (l0 : List (S33)) : Option ((List (S33))) := (r02_combine.f l0 ([] : List (S33)) 1).bind fun t234 => (some t234)
def r02_Valid.f (k : Nat) (l0_0 : List (S33)) : Option (Bool) := (r02_Make.f l0_0).bind fun t238 => ((r02_Same.f k l0_0 t238).bind fun t241 => (some t241))
attribute [local go_sem] max2_int min2_int max_two min_two max_three min_three max_four min_four
set_option linter.unusedVariables false
set_option linter.unusedSimpArgs false
mutual
def r37_Check.l0 : Nat → List (List (S43)) → Int → List (S43) → List (S43) → List (S43) → List (S43) → List (S33) → List (S33) → Option (Int)
 | 0, _, _, _, _, _, _, _, _ => none
 | k + 1, x3, x4, x243000, x243001, x243002, x243003, x243004, x243005 => if x4 < (x3.length : Int) then (if 0 ≤ x4 then ((r11_Check.f k (rd_L5 x3 x4)).bind fun t247 => (if t247 = 0 then (r37_Check.l0 k x3 (wrap64 (x4 + 1)) x243000 x243001 x243002 x243003 x243004 x243005) else (some t247))) else (none)) else ((r37_tagged.f k x243000 (⟨#[102, 105, 110, 97, 108]⟩ : ByteArray)).bind fun t248 => (if t248 = true then (r37_Check.j1 k true x243000 x243001 x243002 x243003 x243004 x243005) else ((r37_tagged.f k x243001 (⟨#[]⟩ : ByteArray)).bind fun t249 => (if t249 = true then (r37_Check.j1 k true x243000 x243001 x243002 x243003 x243004 x243005) else ((r37_tagged.f k x243002 (⟨#[]⟩ : ByteArray)).bind fun t250 => (if t250 = true then (r37_Check.j1 k true x243000 x243001 x243002 x243003 x243004 x243005) else ((r37_tagged.f k x243003 (⟨#[]⟩ : ByteArray)).bind fun t251 => (r37_Check.j1 k t251 x243000 x243001 x243002 x243003 x243004 x243005))))))))
def r37_Check.j1 : Nat → Bool → List (S43) → List (S43) → List (S43) → List (S43) → List (S33) → List (S33) → Option (Int)
 | 0, _, _, _, _, _, _, _ => none
 | k + 1, x46, x243000, x243001, x243002, x243003, x243004, x243005 => if x46 = true then (some 6) else ((r02_Valid.f k x243004).bind fun t252 => (if t252 = true then ((r02_Valid.f k x243005).bind fun t253 => (if t253 = true then (some 0) else (some 11))) else (some 11)))
end
def r37_Check.f (k : Nat) (l0_0 : List (S43)) (l0_1 : List (S43)) (l0_2 : List (S43)) (l0_3 : List (S43)) (l0_4 : List (S33)) (l0_5 : List (S33)) : Option (Int) := r37_Check.l0 k (([l0_0, l0_1, l0_2, l0_3] : List (List (S43)))) 0 l0_0 l0_1 l0_2 l0_3 l0_4 l0_5
end Go.Proofs.Ythnkmcfhpjmihaa.Q
end
section
namespace Go.Proofs.Ythnkmcfhpjmihaa.Q
open Go.RowKit Go.Proofs.YthnkmcfhpjmihaaW.PrintWords Go.Proofs.YthnkmcfhpjmihaaW.PrintLast Go.Proofs.YthnkmcfhpjmihaaW.PrintMore
set_option linter.unusedVariables false
def r37_Data.f (k : Nat) (l0_0 : List Mp) (l0_1 : List Mp) (l0_2 : List Mp) (l0_3 : List Mp) (l0_4 : List Rg) (l0_5 : List Rg) : Option (List Mp × List Mp × List Mp × List Mp × List Rg × List Rg) := (r37_Check.f k l0_0 l0_1 l0_2 l0_3 l0_4 l0_5).bind fun t => if t = 0 then some (l0_0, l0_1, l0_2, l0_3, l0_4, l0_5) else some ([], [], [], [], [], [])
def r11_valid.f (k : Nat) (l0 : List S43) : Option (List S43) := (r11_Check.f k l0).bind fun t => if t = 0 then some l0 else some []
end Go.Proofs.Ythnkmcfhpjmihaa.Q
end
section
namespace Go.Proofs.Ythnkmcfhpjmihaa.Q
open Go.RowKit Go.Proofs.YthnkmcfhpjmihaaW.PrintWords Go.Proofs.YthnkmcfhpjmihaaW.PrintLast Go.Proofs.YthnkmcfhpjmihaaW.PrintMore
attribute [local go_sem] max2_int min2_int max_two min_two max_three min_three max_four min_four
set_option linter.unusedVariables false
set_option linter.unusedSimpArgs false
mutual
def r11_Small.l0 : Nat → List (S43) → Int → Option (Bool)
 | 0, _, _ => none
 | k + 1, x0, x3 => if x3 < (x0.length : Int) then (r11_Small.j1 k x0 x3 (decide (x3 < 30))) else (r11_Small.j1 k x0 x3 false)
def r11_Small.j1 : Nat → List (S43) → Int → Bool → Option (Bool)
 | 0, _, _, _ => none
 | k + 1, x0, x3, x11 => if x11 = true then (if 0 ≤ x3 then (if x3 < (x0.length : Int) then (if (((rd_T43 x0 x3).f1).length : Int) > 65 then (some false) else (if (((rd_T43 x0 x3).f2).size : Int) > 40 then (some false) else (r11_Small.l0 k x0 (wrap64 (x3 + 1))))) else (none)) else (none)) else (some (decide ((x0.length : Int) ≤ 20)))
end
def r11_Small.f (k : Nat) (l0 : List (S43)) : Option (Bool) := r11_Small.l0 k l0 0
set_option maxHeartbeats 8000000 in
set_option maxRecDepth 100000 in
theorem r11_Small.calls (k : Nat) (A0 : Option Addr) (c0 : Nat) (l0 : List (S43)) (r : Bool) (w : World) (hr0 : Kd.C k43 w A0 l0.length l0) (hc0 : l0.length ≤ c0) (h : r11_Small.f k l0 = some r) :
  Calls Try.prog 41 #[.slice A0 l0.length c0] w fun e w' => e = .returned (.bool r) ∧ Drawn0 w w' := by
 have HR0 := aM hr0
 have HC0 := aM hc0
 clear hr0 hc0
 have H : (r11_Small.l0 k l0 0) = some r := h
 clear h
 have H' := aM H
 clear H
 go_enter Try.func41, Try.ntmps41
 go_wp2
 go_loopg [3] k (fun kq v3 w' => ∃ (x3_1 : Int), v3 = .int .i64 x3_1 ∧ Aside0 (r11_Small.l0 kq l0 x3_1 = some r) ∧ Aside0 (kq ≤ k) ∧ Drawn0 w w')
 case atStart => exact ⟨(0), (by first | rfl | (simp; done) | (simp [*]; done)), H', ⟨Nat.le_refl _⟩, by repeat (first | exact Drawn0.refl _ | apply Drawn0.step)⟩
 case round =>
  clear H'
  obtain ⟨x3_1, rfl, HA, HK1, ⟨m1, rfl⟩⟩ := hrel
  cases gk with
  | zero => exact absurd HA.out (by simp [r11_Small.l0])
  | succ k1 =>
   have H := HA.out
   clear HA
   simp only [r11_Small.l0] at H
   have HC2 := aM H
   clear H
   go_upto_region 2 with (fail)
   go_cut [11] (fun v11 wc => ∃ (kq : Nat) (x11_1 : Bool), v11 = .bool x11_1 ∧ Aside0 (r11_Small.j1 kq l0 x3_1 x11_1 = some r) ∧ Aside0 (kq ≤ k1) ∧ Drawn0 w wc)
   case first =>
    have H := HC2.out
    clear HC2
    by_cases c3 : x3_1 < (l0.length : Int)
    ·rw [if_pos c3] at H
     have c3b0 : decide (x3_1 < (l0.length : Int)) = true := dT c3
     clear c3
     (first | rw [c3b0] | (simp only [i64_w, i32_w]; rw [c3b0]) | skip)
     have H' := aM H
     clear H
     go_wp2
     go_meet
     case rel => exact ⟨_, (decide (x3_1 < 30)), (by first | rfl | (simp; done) | (simp [*]; done)), H', ⟨by have := HK1.out; first | omega | exact Nat.le_refl _⟩, by repeat (first | exact Drawn0.refl _ | apply Drawn0.step)⟩
    ·rw [if_neg c3] at H
     have c3b0 : decide (x3_1 < (l0.length : Int)) = false := decide_eq_false c3
     clear c3
     (first | rw [c3b0] | (simp only [i64_w, i32_w]; rw [c3b0]) | skip)
     have H' := aM H
     clear H
     go_wp2
     go_meet
     case rel => exact ⟨_, (false), (by first | rfl | (simp; done) | (simp [*]; done)), H', ⟨by have := HK1.out; first | omega | exact Nat.le_refl _⟩, by repeat (first | exact Drawn0.refl _ | apply Drawn0.step)⟩
   case rest =>
    clear HC2
    try clear p2
    try clear c3
    try clear c3b0
    obtain ⟨kq, x11_1, rfl, HA, HJ1, ⟨mc1, rfl⟩⟩ := hcut
    cases kq with
    | zero => exact absurd HA.out (by simp [r11_Small.j1])
    | succ kj1 =>
     have H := HA.out
     clear HA
     simp only [r11_Small.j1] at H
     by_cases c4 : x11_1 = true
     ·subst c4
      have H1 : (if 0 ≤ x3_1 then (if x3_1 < (l0.length : Int) then (if (((rd_T43 l0 x3_1).f1).length : Int) > 65 then (some false) else (if (((rd_T43 l0 x3_1).f2).size : Int) > 40 then (some false) else (r11_Small.l0 kj1 l0 (wrap64 (x3_1 + 1))))) else (none)) else (none)) = some r := by rw [if_pos rfl] at H; exact H
      clear H
      have H := H1
      clear H1
      by_cases c5 : 0 ≤ x3_1
      ·rw [if_pos c5] at H
       have c5b0 : decide (0 ≤ x3_1) = true := dT c5
       clear c5
       by_cases c6 : x3_1 < (l0.length : Int)
       ·rw [if_pos c6] at H
        have c6b0 : decide (x3_1 < (l0.length : Int)) = true := dT c6
        clear c6
        by_cases c7 : (((rd_T43 l0 x3_1).f1).length : Int) > 65
        ·rw [if_pos c7] at H
         have c7b0 : decide (65 < (((rd_T43 l0 x3_1).f1).length : Int)) = true := dT c7
         have c7b1 : decide (65 < ((rd_T43 l0 x3_1).f1).length) = true := dT (by omega)
         clear c7
         obtain rfl := Option.some.inj H
         have p101 : 0 ≤ (x3_1 : Int) := oD (by first | (with_reducible assumption) | assumption)
         have q101 : x3_1 < (l0.length : Int) := oD (by first | (with_reducible assumption) | assumption)
         obtain ⟨ad101, A101_1, c101_1, e101, hx101_0, hx101_1, hx101_2, hl101_1, hi101_1⟩ := at_T43 HR0.out x3_1 p101 q101
         cases e101
         have HR101_1 := aM hi101_1
         have HC101_1 := aM hl101_1
         clear hi101_1 hl101_1
         replace p101 := eq_true p101
         replace q101 := eq_true q101
         go_wp2
         go_ret
         exact ⟨by first | rfl | (simp; done) | (simp [*]; done), by repeat (first | exact Drawn0.refl _ | apply Drawn0.step)⟩
        ·rw [if_neg c7] at H
         have c7b0 : decide (65 < (((rd_T43 l0 x3_1).f1).length : Int)) = false := decide_eq_false c7
         have c7b1 : decide (65 < ((rd_T43 l0 x3_1).f1).length) = false := decide_eq_false (by omega)
         clear c7
         by_cases c8 : (((rd_T43 l0 x3_1).f2).size : Int) > 40
         ·rw [if_pos c8] at H
          have c8b0 : decide (40 < (((rd_T43 l0 x3_1).f2).size : Int)) = true := dT c8
          have c8b1 : decide (40 < ((rd_T43 l0 x3_1).f2).size) = true := dT (by omega)
          clear c8
          obtain rfl := Option.some.inj H
          have p101 : 0 ≤ (x3_1 : Int) := oD (by first | (with_reducible assumption) | assumption)
          have q101 : x3_1 < (l0.length : Int) := oD (by first | (with_reducible assumption) | assumption)
          obtain ⟨ad101, A101_1, c101_1, e101, hx101_0, hx101_1, hx101_2, hl101_1, hi101_1⟩ := at_T43 HR0.out x3_1 p101 q101
          cases e101
          have HR101_1 := aM hi101_1
          have HC101_1 := aM hl101_1
          clear hi101_1 hl101_1
          replace p101 := eq_true p101
          replace q101 := eq_true q101
          have p102 : 0 ≤ (x3_1 : Int) := oD (by first | (with_reducible assumption) | assumption)
          have q102 : x3_1 < (l0.length : Int) := oD (by first | (with_reducible assumption) | assumption)
          obtain ⟨ad102, A102_1, c102_1, e102, hx102_0, hx102_1, hx102_2, hl102_1, hi102_1⟩ := at_T43 HR0.out x3_1 p102 q102
          obtain rfl : ad101 = ad102 := (by injection e102)
          have HR102_1 := aM hi102_1
          have HC102_1 := aM hl102_1
          clear hi102_1 hl102_1
          replace p102 := eq_true p102
          replace q102 := eq_true q102
          have ea_ := Option.some.inj (hx101_1.symm.trans hx102_1)
          injection ea_ with ea_ en_ ec_
          subst ea_
          subst ec_
          clear en_
          go_wp2
          go_ret
          exact ⟨by first | rfl | (simp; done) | (simp [*]; done), by repeat (first | exact Drawn0.refl _ | apply Drawn0.step)⟩
         ·rw [if_neg c8] at H
          have c8b0 : decide (40 < (((rd_T43 l0 x3_1).f2).size : Int)) = false := decide_eq_false c8
          have c8b1 : decide (40 < ((rd_T43 l0 x3_1).f2).size) = false := decide_eq_false (by omega)
          clear c8
          have H' := aM H
          clear H
          have p101 : 0 ≤ (x3_1 : Int) := oD (by first | (with_reducible assumption) | assumption)
          have q101 : x3_1 < (l0.length : Int) := oD (by first | (with_reducible assumption) | assumption)
          obtain ⟨ad101, A101_1, c101_1, e101, hx101_0, hx101_1, hx101_2, hl101_1, hi101_1⟩ := at_T43 HR0.out x3_1 p101 q101
          cases e101
          have HR101_1 := aM hi101_1
          have HC101_1 := aM hl101_1
          clear hi101_1 hl101_1
          replace p101 := eq_true p101
          replace q101 := eq_true q101
          have p102 : 0 ≤ (x3_1 : Int) := oD (by first | (with_reducible assumption) | assumption)
          have q102 : x3_1 < (l0.length : Int) := oD (by first | (with_reducible assumption) | assumption)
          obtain ⟨ad102, A102_1, c102_1, e102, hx102_0, hx102_1, hx102_2, hl102_1, hi102_1⟩ := at_T43 HR0.out x3_1 p102 q102
          obtain rfl : ad101 = ad102 := (by injection e102)
          have HR102_1 := aM hi102_1
          have HC102_1 := aM hl102_1
          clear hi102_1 hl102_1
          replace p102 := eq_true p102
          replace q102 := eq_true q102
          have ea_ := Option.some.inj (hx101_1.symm.trans hx102_1)
          injection ea_ with ea_ en_ ec_
          subst ea_
          subst ec_
          clear en_
          go_wp2
          go_roundg kj1
          case measure => have := HK1.out; have := HJ1.out; omega
          case rel => exact ⟨(wrap64 (x3_1 + 1)), (by first | rfl | (simp; done) | (simp [*]; done)), H', ⟨by have := HK1.out; have := HJ1.out; omega⟩, by repeat (first | exact Drawn0.refl _ | apply Drawn0.step)⟩
       ·rw [if_neg c6] at H
        exact absurd H (by simp)
      ·rw [if_neg c5] at H
       exact absurd H (by simp)
     ·replace c4 := Bool.eq_false_iff.mpr c4
      subst c4
      have H1 : (some (decide ((l0.length : Int) ≤ 20))) = some r := by rw [if_neg (show ¬ (false = true) by decide)] at H; exact H
      clear H
      have H := H1
      clear H1
      obtain rfl := Option.some.inj H
      go_wp2
      go_ret
      exact ⟨by first | rfl | (simp; done) | (simp [*]; done), by repeat (first | exact Drawn0.refl _ | apply Drawn0.step)⟩
def r02_Small.f (l0_0 : List (S33)) : Option (Bool) := some (decide ((l0_0.length : Int) ≤ 12))
set_option maxHeartbeats 8000000 in
set_option maxRecDepth 100000 in
theorem r02_Small.calls (A0_0 : Option Addr) (c0_0 : Nat) (l0_0 : List (S33)) (r : Bool) (w : World) (hr0_0 : Kd.C k33 w A0_0 l0_0.length l0_0) (hc0_0 : l0_0.length ≤ c0_0) (h : r02_Small.f l0_0 = some r) :
  Calls Try.prog 42 #[.agg #[.slice A0_0 l0_0.length c0_0]] w fun e w' => e = .returned (.bool r) ∧ Below w.heap.size w w' := by
 have hu25 := Try.underlying25
 have HR0_0 := aM hr0_0
 have HC0_0 := aM hc0_0
 clear hr0_0 hc0_0
 have HB := aM (Below.refl w.heap.size w)
 have H : (some (decide ((l0_0.length : Int) ≤ 12))) = some r := h
 clear h
 obtain rfl := Option.some.inj H
 go_enter Try.func42, Try.ntmps42
 go_wp2_with (first | ((with_reducible refine gate_dst (N := 1) rfl ?_); refine box_event ?hg (N := 1) ?hd (cs := #[.slice A0_0 l0_0.length c0_0]) (t := 25) ?hr ?_; (case hd => rfl); (case hg => rfl); (case hr => first | (go_simp; done) | (go_simp; rfl)); intro gb103 hg w2 hbox hb; have n0_ := aM (bSp (by repeat (first | (with_reducible first | exact HB.out | apply bAl | apply pbN | apply bD1) | exact HB.out)) hb); have n1_ := aM (hbox); have n2_ := aM ((by rw [hg]; exact (bSz (by repeat (first | (with_reducible first | exact HB.out | apply bAl | apply pbN | apply bD1) | exact HB.out))) : w.heap.size ≤ gb103)); have n3_ := aM ((by rw [hg]; exact (bSz (by repeat (first | (with_reducible first | exact HB.out | apply bAl | apply pbN | apply bD1) | exact HB.out))) : w.heap.size ≤ gb103)); clear HB; have HB := n0_; have BK103 := n1_; have GW103 := n2_; have GE103 := n3_; clear n0_ n1_ n2_ n3_; clear hb hbox hg; have hcz3_0 : w2.cell? ⟨gb103, 0, none⟩ = some (.slice A0_0 l0_0.length c0_0) := (bkC BK103.out 0).trans rfl; have hfz3_0 := bkF BK103.out 0))
 go_ret
 exact ⟨by first | rfl | (simp [eN, eS] <;> rfl) | (simp [*, eN, eS] <;> rfl), by repeat (first | (with_reducible first | exact HB.out | apply bAl | apply pbN | apply bD1 | refine bSt ?_ GE103.out) | exact HB.out)⟩
def r37_Small.f (k : Nat) (l0_0 : List (S43)) (l0_1 : List (S43)) (l0_2 : List (S43)) (l0_3 : List (S43)) (l0_4 : List (S33)) (l0_5 : List (S33)) : Option (Bool) := (r11_Small.f k l0_0).bind fun t105 => (if t105 = true then ((r11_Small.f k l0_1).bind fun t106 => (if t106 = true then ((r11_Small.f k l0_2).bind fun t107 => (if t107 = true then ((r11_Small.f k l0_3).bind fun t108 => (if t108 = true then ((r02_Small.f l0_4).bind fun t109 => (if t109 = true then ((r02_Small.f l0_5).bind fun t110 => (some t110)) else (some false))) else (some false))) else (some false))) else (some false))) else (some false))
set_option maxHeartbeats 8000000 in
set_option maxRecDepth 100000 in
theorem r37_Small.calls (k : Nat) (A0_0 : Option Addr) (c0_0 : Nat) (l0_0 : List (S43)) (A0_1 : Option Addr) (c0_1 : Nat) (l0_1 : List (S43)) (A0_2 : Option Addr) (c0_2 : Nat) (l0_2 : List (S43)) (A0_3 : Option Addr) (c0_3 : Nat) (l0_3 : List (S43)) (A0_4 : Option Addr) (c0_4 : Nat) (l0_4 : List (S33)) (A0_5 : Option Addr) (c0_5 : Nat) (l0_5 : List (S33)) (r : Bool) (w : World) (hr0_0 : Kd.C k43 w A0_0 l0_0.length l0_0) (hc0_0 : l0_0.length ≤ c0_0) (hr0_1 : Kd.C k43 w A0_1 l0_1.length l0_1) (hc0_1 : l0_1.length ≤ c0_1) (hr0_2 : Kd.C k43 w A0_2 l0_2.length l0_2) (hc0_2 : l0_2.length ≤ c0_2) (hr0_3 : Kd.C k43 w A0_3 l0_3.length l0_3) (hc0_3 : l0_3.length ≤ c0_3) (hr0_4 : Kd.C k33 w A0_4 l0_4.length l0_4) (hc0_4 : l0_4.length ≤ c0_4) (hr0_5 : Kd.C k33 w A0_5 l0_5.length l0_5) (hc0_5 : l0_5.length ≤ c0_5) (h : r37_Small.f k l0_0 l0_1 l0_2 l0_3 l0_4 l0_5 = some r) :
  Calls Try.prog 20 #[.agg #[.slice A0_0 l0_0.length c0_0, .slice A0_1 l0_1.length c0_1, .slice A0_2 l0_2.length c0_2, .slice A0_3 l0_3.length c0_3, .slice A0_4 l0_4.length c0_4, .slice A0_5 l0_5.length c0_5]] w fun e w' => e = .returned (.bool r) ∧ Below w.heap.size w w' := by
 have hu27 := Try.underlying27
 have hu25 := Try.underlying25
 have HR0_0 := aM hr0_0
 have HC0_0 := aM hc0_0
 clear hr0_0 hc0_0
 have HR0_1 := aM hr0_1
 have HC0_1 := aM hc0_1
 clear hr0_1 hc0_1
 have HR0_2 := aM hr0_2
 have HC0_2 := aM hc0_2
 clear hr0_2 hc0_2
 have HR0_3 := aM hr0_3
 have HC0_3 := aM hc0_3
 clear hr0_3 hc0_3
 have HR0_4 := aM hr0_4
 have HC0_4 := aM hc0_4
 clear hr0_4 hc0_4
 have HR0_5 := aM hr0_5
 have HC0_5 := aM hc0_5
 clear hr0_5 hc0_5
 have HB := aM (Below.refl w.heap.size w)
 have H : ((r11_Small.f k l0_0).bind fun t105 => (if t105 = true then ((r11_Small.f k l0_1).bind fun t106 => (if t106 = true then ((r11_Small.f k l0_2).bind fun t107 => (if t107 = true then ((r11_Small.f k l0_3).bind fun t108 => (if t108 = true then ((r02_Small.f l0_4).bind fun t109 => (if t109 = true then ((r02_Small.f l0_5).bind fun t110 => (some t110)) else (some false))) else (some false))) else (some false))) else (some false))) else (some false))) = some r := h
 clear h
 replace H := Option.bind_eq_some_iff.mp H
 obtain ⟨t105, A20, H⟩ := H
 replace H : (if t105 = true then ((r11_Small.f k l0_1).bind fun t106 => (if t106 = true then ((r11_Small.f k l0_2).bind fun t107 => (if t107 = true then ((r11_Small.f k l0_3).bind fun t108 => (if t108 = true then ((r02_Small.f l0_4).bind fun t109 => (if t109 = true then ((r02_Small.f l0_5).bind fun t110 => (some t110)) else (some false))) else (some false))) else (some false))) else (some false))) else (some false)) = some r := H
 have A2 := aM A20
 clear A20
 by_cases c3 : t105 = true
 ·subst c3
  have H1 : ((r11_Small.f k l0_1).bind fun t106 => (if t106 = true then ((r11_Small.f k l0_2).bind fun t107 => (if t107 = true then ((r11_Small.f k l0_3).bind fun t108 => (if t108 = true then ((r02_Small.f l0_4).bind fun t109 => (if t109 = true then ((r02_Small.f l0_5).bind fun t110 => (some t110)) else (some false))) else (some false))) else (some false))) else (some false))) = some r := by rw [if_pos rfl] at H; exact H
  clear H
  have H := H1
  clear H1
  replace H := Option.bind_eq_some_iff.mp H
  obtain ⟨t106, A40, H⟩ := H
  replace H : (if t106 = true then ((r11_Small.f k l0_2).bind fun t107 => (if t107 = true then ((r11_Small.f k l0_3).bind fun t108 => (if t108 = true then ((r02_Small.f l0_4).bind fun t109 => (if t109 = true then ((r02_Small.f l0_5).bind fun t110 => (some t110)) else (some false))) else (some false))) else (some false))) else (some false)) = some r := H
  have A4 := aM A40
  clear A40
  by_cases c5 : t106 = true
  ·subst c5
   have H1 : ((r11_Small.f k l0_2).bind fun t107 => (if t107 = true then ((r11_Small.f k l0_3).bind fun t108 => (if t108 = true then ((r02_Small.f l0_4).bind fun t109 => (if t109 = true then ((r02_Small.f l0_5).bind fun t110 => (some t110)) else (some false))) else (some false))) else (some false))) = some r := by rw [if_pos rfl] at H; exact H
   clear H
   have H := H1
   clear H1
   replace H := Option.bind_eq_some_iff.mp H
   obtain ⟨t107, A60, H⟩ := H
   replace H : (if t107 = true then ((r11_Small.f k l0_3).bind fun t108 => (if t108 = true then ((r02_Small.f l0_4).bind fun t109 => (if t109 = true then ((r02_Small.f l0_5).bind fun t110 => (some t110)) else (some false))) else (some false))) else (some false)) = some r := H
   have A6 := aM A60
   clear A60
   by_cases c7 : t107 = true
   ·subst c7
    have H1 : ((r11_Small.f k l0_3).bind fun t108 => (if t108 = true then ((r02_Small.f l0_4).bind fun t109 => (if t109 = true then ((r02_Small.f l0_5).bind fun t110 => (some t110)) else (some false))) else (some false))) = some r := by rw [if_pos rfl] at H; exact H
    clear H
    have H := H1
    clear H1
    replace H := Option.bind_eq_some_iff.mp H
    obtain ⟨t108, A80, H⟩ := H
    replace H : (if t108 = true then ((r02_Small.f l0_4).bind fun t109 => (if t109 = true then ((r02_Small.f l0_5).bind fun t110 => (some t110)) else (some false))) else (some false)) = some r := H
    have A8 := aM A80
    clear A80
    by_cases c9 : t108 = true
    ·subst c9
     have H1 : ((r02_Small.f l0_4).bind fun t109 => (if t109 = true then ((r02_Small.f l0_5).bind fun t110 => (some t110)) else (some false))) = some r := by rw [if_pos rfl] at H; exact H
     clear H
     have H := H1
     clear H1
     replace H := Option.bind_eq_some_iff.mp H
     obtain ⟨t109, A100, H⟩ := H
     replace H : (if t109 = true then ((r02_Small.f l0_5).bind fun t110 => (some t110)) else (some false)) = some r := H
     have A10 := aM A100
     clear A100
     by_cases c11 : t109 = true
     ·subst c11
      have H1 : ((r02_Small.f l0_5).bind fun t110 => (some t110)) = some r := by rw [if_pos rfl] at H; exact H
      clear H
      have H := H1
      clear H1
      replace H := Option.bind_eq_some_iff.mp H
      obtain ⟨t110, A120, H⟩ := H
      replace H : (some t110) = some r := H
      have A12 := aM A120
      clear A120
      obtain rfl := Option.some.inj H
      go_enter Try.func20, Try.ntmps20
      go_wp2_with (first | ((with_reducible refine gate_dst (N := 1) rfl ?_); refine box_event ?hg (N := 1) ?hd (cs := #[.slice A0_0 l0_0.length c0_0, .slice A0_1 l0_1.length c0_1, .slice A0_2 l0_2.length c0_2, .slice A0_3 l0_3.length c0_3, .slice A0_4 l0_4.length c0_4, .slice A0_5 l0_5.length c0_5]) (t := 27) ?hr ?_; (case hd => rfl); (case hg => rfl); (case hr => first | (go_simp; done) | (go_simp; rfl)); intro gb104 hg w13 hbox hb; have n0_ := aM (bSp (by repeat (first | (with_reducible first | exact HB.out | apply bAl | apply pbN | apply bD1) | exact HB.out)) hb); have n1_ := aM (hbox); have n2_ := aM ((by rw [hg]; exact (bSz (by repeat (first | (with_reducible first | exact HB.out | apply bAl | apply pbN | apply bD1) | exact HB.out))) : w.heap.size ≤ gb104)); have n3_ := aM ((by rw [hg]; exact (bSz (by repeat (first | (with_reducible first | exact HB.out | apply bAl | apply pbN | apply bD1) | exact HB.out))) : w.heap.size ≤ gb104)); clear HB; have HB := n0_; have BK104 := n1_; have GW104 := n2_; have GE104 := n3_; clear n0_ n1_ n2_ n3_; clear hb hbox hg; have hcz14_0 : w13.cell? ⟨gb104, 0, none⟩ = some (.slice A0_0 l0_0.length c0_0) := (bkC BK104.out 0).trans rfl; have hcz14_1 : w13.cell? ⟨gb104, 1, none⟩ = some (.slice A0_1 l0_1.length c0_1) := (bkC BK104.out 1).trans rfl; have hcz14_2 : w13.cell? ⟨gb104, 2, none⟩ = some (.slice A0_2 l0_2.length c0_2) := (bkC BK104.out 2).trans rfl; have hcz14_3 : w13.cell? ⟨gb104, 3, none⟩ = some (.slice A0_3 l0_3.length c0_3) := (bkC BK104.out 3).trans rfl; have hcz14_4 : w13.cell? ⟨gb104, 4, none⟩ = some (.slice A0_4 l0_4.length c0_4) := (bkC BK104.out 4).trans rfl; have hcz14_5 : w13.cell? ⟨gb104, 5, none⟩ = some (.slice A0_5 l0_5.length c0_5) := (bkC BK104.out 5).trans rfl; have hfz14_0 := bkF BK104.out 0; have hfz14_1 := bkF BK104.out 1; have hfz14_2 := bkF BK104.out 2; have hfz14_3 := bkF BK104.out 3; have hfz14_4 := bkF BK104.out 4; have hfz14_5 := bkF BK104.out 5) | ((with_reducible refine gate_callee (f := 41) rfl ?_); refine goesL_ (some 5) rfl rfl Try.func41 (by kernel_rfl) rfl #[.slice A0_0 l0_0.length c0_0] rfl (by (try simp only [List.map_toArray, List.map_cons, List.map_nil]); first | done | rfl | (simp only [List.length_drop, List.length_take]; rfl)) ?_; (with_reducible refine (r11_Small.calls k _ _ l0_0 true _ ?side1 ?side2 A2.out).mono ?_); (case side1 => repeat (first | exact (Kd.C_below HR0_0.out HB.out) | (with_reducible refine Kd.C_alloc ?_ _) | (with_reducible refine Kd.C_drewN ?_ _) | (with_reducible refine Kd.C_drew ?_))); (case side2 => exact HC0_0.out); rintro e w' ⟨rfl, ⟨nd, rfl⟩⟩; refine ⟨_, rfl, ?_⟩) | (go_at_call 41; (with_reducible refine (r11_Small.calls k _ _ l0_1 true _ ?side1 ?side2 A4.out).mono ?_); (case side1 => repeat (first | exact (Kd.C_below HR0_1.out (by repeat (first | (with_reducible first | exact HB.out | apply bAl | apply pbN | apply bD1 | refine bSt ?_ GE104.out) | exact HB.out))) | (with_reducible refine Kd.C_alloc ?_ _) | (with_reducible refine Kd.C_drewN ?_ _) | (with_reducible refine Kd.C_drew ?_))); (case side2 => exact HC0_1.out); rintro e w' ⟨rfl, ⟨nd, rfl⟩⟩) | (go_at_call 41; (with_reducible refine (r11_Small.calls k _ _ l0_2 true _ ?side1 ?side2 A6.out).mono ?_); (case side1 => repeat (first | exact (Kd.C_below HR0_2.out (by repeat (first | (with_reducible first | exact HB.out | apply bAl | apply pbN | apply bD1 | refine bSt ?_ GE104.out) | exact HB.out))) | (with_reducible refine Kd.C_alloc ?_ _) | (with_reducible refine Kd.C_drewN ?_ _) | (with_reducible refine Kd.C_drew ?_))); (case side2 => exact HC0_2.out); rintro e w' ⟨rfl, ⟨nd, rfl⟩⟩) | (go_at_call 41; (with_reducible refine (r11_Small.calls k _ _ l0_3 true _ ?side1 ?side2 A8.out).mono ?_); (case side1 => repeat (first | exact (Kd.C_below HR0_3.out (by repeat (first | (with_reducible first | exact HB.out | apply bAl | apply pbN | apply bD1 | refine bSt ?_ GE104.out) | exact HB.out))) | (with_reducible refine Kd.C_alloc ?_ _) | (with_reducible refine Kd.C_drewN ?_ _) | (with_reducible refine Kd.C_drew ?_))); (case side2 => exact HC0_3.out); rintro e w' ⟨rfl, ⟨nd, rfl⟩⟩) | (go_at_call 42; (with_reducible refine (r02_Small.calls _ _ l0_4 true _ ?side1 ?side2 A10.out).mono ?_); (case side1 => repeat (first | exact (Kd.C_below HR0_4.out (by repeat (first | (with_reducible first | exact HB.out | apply bAl | apply pbN | apply bD1 | refine bSt ?_ GE104.out) | exact HB.out))) | (with_reducible refine Kd.C_alloc ?_ _) | (with_reducible refine Kd.C_drewN ?_ _) | (with_reducible refine Kd.C_drew ?_))); (case side2 => exact HC0_4.out); rintro e w15 ⟨rfl, hb⟩; have n0_ := aM (blk_below (g := gb104) (o := .cells #[.slice A0_0 l0_0.length c0_0, .slice A0_1 l0_1.length c0_1, .slice A0_2 l0_2.length c0_2, .slice A0_3 l0_3.length c0_3, .slice A0_4 l0_4.length c0_4, .slice A0_5 l0_5.length c0_5] 27 (0, 0)) (by (with_reducible repeat (first | refine bkN ?_ _ | refine bkD ?_ | refine bkA ?_ _)); exact BK104.out) hb); have n1_ := aM (bSp (by repeat (first | (with_reducible first | exact HB.out | apply bAl | apply pbN | apply bD1 | refine bSt ?_ GE104.out) | exact HB.out)) hb); clear BK104; clear HB; have BK104 := n0_; have HB := n1_; clear n0_ n1_; (try clear hb); (try clear hb2); (try clear hk); (try clear hi); have hcz16_0 : w15.cell? ⟨gb104, 0, none⟩ = some (.slice A0_0 l0_0.length c0_0) := (bkC BK104.out 0).trans rfl; have hcz16_1 : w15.cell? ⟨gb104, 1, none⟩ = some (.slice A0_1 l0_1.length c0_1) := (bkC BK104.out 1).trans rfl; have hcz16_2 : w15.cell? ⟨gb104, 2, none⟩ = some (.slice A0_2 l0_2.length c0_2) := (bkC BK104.out 2).trans rfl; have hcz16_3 : w15.cell? ⟨gb104, 3, none⟩ = some (.slice A0_3 l0_3.length c0_3) := (bkC BK104.out 3).trans rfl; have hcz16_4 : w15.cell? ⟨gb104, 4, none⟩ = some (.slice A0_4 l0_4.length c0_4) := (bkC BK104.out 4).trans rfl; have hcz16_5 : w15.cell? ⟨gb104, 5, none⟩ = some (.slice A0_5 l0_5.length c0_5) := (bkC BK104.out 5).trans rfl; have hfz16_0 := bkF BK104.out 0; have hfz16_1 := bkF BK104.out 1; have hfz16_2 := bkF BK104.out 2; have hfz16_3 := bkF BK104.out 3; have hfz16_4 := bkF BK104.out 4; have hfz16_5 := bkF BK104.out 5) | (go_at_call 42; (with_reducible refine (r02_Small.calls _ _ l0_5 t110 _ ?side1 ?side2 A12.out).mono ?_); (case side1 => repeat (first | exact (Kd.C_below HR0_5.out HB.out) | (with_reducible refine Kd.C_alloc ?_ _) | (with_reducible refine Kd.C_drewN ?_ _) | (with_reducible refine Kd.C_drew ?_))); (case side2 => exact HC0_5.out); rintro e w17 ⟨rfl, hb⟩; have n0_ := aM (blk_below (g := gb104) (o := .cells #[.slice A0_0 l0_0.length c0_0, .slice A0_1 l0_1.length c0_1, .slice A0_2 l0_2.length c0_2, .slice A0_3 l0_3.length c0_3, .slice A0_4 l0_4.length c0_4, .slice A0_5 l0_5.length c0_5] 27 (0, 0)) (by (with_reducible repeat (first | refine bkN ?_ _ | refine bkD ?_ | refine bkA ?_ _)); exact BK104.out) hb); have n1_ := aM (bSp (by repeat (first | (with_reducible first | exact HB.out | apply bAl | apply pbN | apply bD1 | refine bSt ?_ GE104.out) | exact HB.out)) hb); clear BK104; clear HB; have BK104 := n0_; have HB := n1_; clear n0_ n1_; (try clear hb); (try clear hb2); (try clear hk); (try clear hi)))
      go_ret
      exact ⟨by first | rfl | (simp [eN, eS] <;> rfl) | (simp [*, eN, eS] <;> rfl), by repeat (first | (with_reducible first | exact HB.out | apply bAl | apply pbN | apply bD1 | refine bSt ?_ GE104.out) | exact HB.out)⟩
     ·replace c11 := Bool.eq_false_iff.mpr c11
      subst c11
      have H1 : (some false) = some r := by rw [if_neg (show ¬ (false = true) by decide)] at H; exact H
      clear H
      have H := H1
      clear H1
      obtain rfl := Option.some.inj H
      go_enter Try.func20, Try.ntmps20
      go_wp2_with (first | ((with_reducible refine gate_dst (N := 1) rfl ?_); refine box_event ?hg (N := 1) ?hd (cs := #[.slice A0_0 l0_0.length c0_0, .slice A0_1 l0_1.length c0_1, .slice A0_2 l0_2.length c0_2, .slice A0_3 l0_3.length c0_3, .slice A0_4 l0_4.length c0_4, .slice A0_5 l0_5.length c0_5]) (t := 27) ?hr ?_; (case hd => rfl); (case hg => rfl); (case hr => first | (go_simp; done) | (go_simp; rfl)); intro gb104 hg w18 hbox hb; have n0_ := aM (bSp (by repeat (first | (with_reducible first | exact HB.out | apply bAl | apply pbN | apply bD1) | exact HB.out)) hb); have n1_ := aM (hbox); have n2_ := aM ((by rw [hg]; exact (bSz (by repeat (first | (with_reducible first | exact HB.out | apply bAl | apply pbN | apply bD1) | exact HB.out))) : w.heap.size ≤ gb104)); have n3_ := aM ((by rw [hg]; exact (bSz (by repeat (first | (with_reducible first | exact HB.out | apply bAl | apply pbN | apply bD1) | exact HB.out))) : w.heap.size ≤ gb104)); clear HB; have HB := n0_; have BK104 := n1_; have GW104 := n2_; have GE104 := n3_; clear n0_ n1_ n2_ n3_; clear hb hbox hg; have hcz19_0 : w18.cell? ⟨gb104, 0, none⟩ = some (.slice A0_0 l0_0.length c0_0) := (bkC BK104.out 0).trans rfl; have hcz19_1 : w18.cell? ⟨gb104, 1, none⟩ = some (.slice A0_1 l0_1.length c0_1) := (bkC BK104.out 1).trans rfl; have hcz19_2 : w18.cell? ⟨gb104, 2, none⟩ = some (.slice A0_2 l0_2.length c0_2) := (bkC BK104.out 2).trans rfl; have hcz19_3 : w18.cell? ⟨gb104, 3, none⟩ = some (.slice A0_3 l0_3.length c0_3) := (bkC BK104.out 3).trans rfl; have hcz19_4 : w18.cell? ⟨gb104, 4, none⟩ = some (.slice A0_4 l0_4.length c0_4) := (bkC BK104.out 4).trans rfl; have hcz19_5 : w18.cell? ⟨gb104, 5, none⟩ = some (.slice A0_5 l0_5.length c0_5) := (bkC BK104.out 5).trans rfl; have hfz19_0 := bkF BK104.out 0; have hfz19_1 := bkF BK104.out 1; have hfz19_2 := bkF BK104.out 2; have hfz19_3 := bkF BK104.out 3; have hfz19_4 := bkF BK104.out 4; have hfz19_5 := bkF BK104.out 5) | ((with_reducible refine gate_callee (f := 41) rfl ?_); refine goesL_ (some 5) rfl rfl Try.func41 (by kernel_rfl) rfl #[.slice A0_0 l0_0.length c0_0] rfl (by (try simp only [List.map_toArray, List.map_cons, List.map_nil]); first | done | rfl | (simp only [List.length_drop, List.length_take]; rfl)) ?_; (with_reducible refine (r11_Small.calls k _ _ l0_0 true _ ?side1 ?side2 A2.out).mono ?_); (case side1 => repeat (first | exact (Kd.C_below HR0_0.out HB.out) | (with_reducible refine Kd.C_alloc ?_ _) | (with_reducible refine Kd.C_drewN ?_ _) | (with_reducible refine Kd.C_drew ?_))); (case side2 => exact HC0_0.out); rintro e w' ⟨rfl, ⟨nd, rfl⟩⟩; refine ⟨_, rfl, ?_⟩) | (go_at_call 41; (with_reducible refine (r11_Small.calls k _ _ l0_1 true _ ?side1 ?side2 A4.out).mono ?_); (case side1 => repeat (first | exact (Kd.C_below HR0_1.out (by repeat (first | (with_reducible first | exact HB.out | apply bAl | apply pbN | apply bD1 | refine bSt ?_ GE104.out) | exact HB.out))) | (with_reducible refine Kd.C_alloc ?_ _) | (with_reducible refine Kd.C_drewN ?_ _) | (with_reducible refine Kd.C_drew ?_))); (case side2 => exact HC0_1.out); rintro e w' ⟨rfl, ⟨nd, rfl⟩⟩) | (go_at_call 41; (with_reducible refine (r11_Small.calls k _ _ l0_2 true _ ?side1 ?side2 A6.out).mono ?_); (case side1 => repeat (first | exact (Kd.C_below HR0_2.out (by repeat (first | (with_reducible first | exact HB.out | apply bAl | apply pbN | apply bD1 | refine bSt ?_ GE104.out) | exact HB.out))) | (with_reducible refine Kd.C_alloc ?_ _) | (with_reducible refine Kd.C_drewN ?_ _) | (with_reducible refine Kd.C_drew ?_))); (case side2 => exact HC0_2.out); rintro e w' ⟨rfl, ⟨nd, rfl⟩⟩) | (go_at_call 41; (with_reducible refine (r11_Small.calls k _ _ l0_3 true _ ?side1 ?side2 A8.out).mono ?_); (case side1 => repeat (first | exact (Kd.C_below HR0_3.out (by repeat (first | (with_reducible first | exact HB.out | apply bAl | apply pbN | apply bD1 | refine bSt ?_ GE104.out) | exact HB.out))) | (with_reducible refine Kd.C_alloc ?_ _) | (with_reducible refine Kd.C_drewN ?_ _) | (with_reducible refine Kd.C_drew ?_))); (case side2 => exact HC0_3.out); rintro e w' ⟨rfl, ⟨nd, rfl⟩⟩) | (go_at_call 42; (with_reducible refine (r02_Small.calls _ _ l0_4 false _ ?side1 ?side2 A10.out).mono ?_); (case side1 => repeat (first | exact (Kd.C_below HR0_4.out (by repeat (first | (with_reducible first | exact HB.out | apply bAl | apply pbN | apply bD1 | refine bSt ?_ GE104.out) | exact HB.out))) | (with_reducible refine Kd.C_alloc ?_ _) | (with_reducible refine Kd.C_drewN ?_ _) | (with_reducible refine Kd.C_drew ?_))); (case side2 => exact HC0_4.out); rintro e w20 ⟨rfl, hb⟩; have n0_ := aM (blk_below (g := gb104) (o := .cells #[.slice A0_0 l0_0.length c0_0, .slice A0_1 l0_1.length c0_1, .slice A0_2 l0_2.length c0_2, .slice A0_3 l0_3.length c0_3, .slice A0_4 l0_4.length c0_4, .slice A0_5 l0_5.length c0_5] 27 (0, 0)) (by (with_reducible repeat (first | refine bkN ?_ _ | refine bkD ?_ | refine bkA ?_ _)); exact BK104.out) hb); have n1_ := aM (bSp (by repeat (first | (with_reducible first | exact HB.out | apply bAl | apply pbN | apply bD1 | refine bSt ?_ GE104.out) | exact HB.out)) hb); clear BK104; clear HB; have BK104 := n0_; have HB := n1_; clear n0_ n1_; (try clear hb); (try clear hb2); (try clear hk); (try clear hi)))
      go_ret
      exact ⟨by first | rfl | (simp [eN, eS] <;> rfl) | (simp [*, eN, eS] <;> rfl), by repeat (first | (with_reducible first | exact HB.out | apply bAl | apply pbN | apply bD1 | refine bSt ?_ GE104.out) | exact HB.out)⟩
    ·replace c9 := Bool.eq_false_iff.mpr c9
     subst c9
     have H1 : (some false) = some r := by rw [if_neg (show ¬ (false = true) by decide)] at H; exact H
     clear H
     have H := H1
     clear H1
     obtain rfl := Option.some.inj H
     go_enter Try.func20, Try.ntmps20
     go_wp2_with (first | ((with_reducible refine gate_dst (N := 1) rfl ?_); refine box_event ?hg (N := 1) ?hd (cs := #[.slice A0_0 l0_0.length c0_0, .slice A0_1 l0_1.length c0_1, .slice A0_2 l0_2.length c0_2, .slice A0_3 l0_3.length c0_3, .slice A0_4 l0_4.length c0_4, .slice A0_5 l0_5.length c0_5]) (t := 27) ?hr ?_; (case hd => rfl); (case hg => rfl); (case hr => first | (go_simp; done) | (go_simp; rfl)); intro gb104 hg w21 hbox hb; have n0_ := aM (bSp (by repeat (first | (with_reducible first | exact HB.out | apply bAl | apply pbN | apply bD1) | exact HB.out)) hb); have n1_ := aM (hbox); have n2_ := aM ((by rw [hg]; exact (bSz (by repeat (first | (with_reducible first | exact HB.out | apply bAl | apply pbN | apply bD1) | exact HB.out))) : w.heap.size ≤ gb104)); have n3_ := aM ((by rw [hg]; exact (bSz (by repeat (first | (with_reducible first | exact HB.out | apply bAl | apply pbN | apply bD1) | exact HB.out))) : w.heap.size ≤ gb104)); clear HB; have HB := n0_; have BK104 := n1_; have GW104 := n2_; have GE104 := n3_; clear n0_ n1_ n2_ n3_; clear hb hbox hg; have hcz22_0 : w21.cell? ⟨gb104, 0, none⟩ = some (.slice A0_0 l0_0.length c0_0) := (bkC BK104.out 0).trans rfl; have hcz22_1 : w21.cell? ⟨gb104, 1, none⟩ = some (.slice A0_1 l0_1.length c0_1) := (bkC BK104.out 1).trans rfl; have hcz22_2 : w21.cell? ⟨gb104, 2, none⟩ = some (.slice A0_2 l0_2.length c0_2) := (bkC BK104.out 2).trans rfl; have hcz22_3 : w21.cell? ⟨gb104, 3, none⟩ = some (.slice A0_3 l0_3.length c0_3) := (bkC BK104.out 3).trans rfl; have hcz22_4 : w21.cell? ⟨gb104, 4, none⟩ = some (.slice A0_4 l0_4.length c0_4) := (bkC BK104.out 4).trans rfl; have hcz22_5 : w21.cell? ⟨gb104, 5, none⟩ = some (.slice A0_5 l0_5.length c0_5) := (bkC BK104.out 5).trans rfl; have hfz22_0 := bkF BK104.out 0; have hfz22_1 := bkF BK104.out 1; have hfz22_2 := bkF BK104.out 2; have hfz22_3 := bkF BK104.out 3; have hfz22_4 := bkF BK104.out 4; have hfz22_5 := bkF BK104.out 5) | ((with_reducible refine gate_callee (f := 41) rfl ?_); refine goesL_ (some 5) rfl rfl Try.func41 (by kernel_rfl) rfl #[.slice A0_0 l0_0.length c0_0] rfl (by (try simp only [List.map_toArray, List.map_cons, List.map_nil]); first | done | rfl | (simp only [List.length_drop, List.length_take]; rfl)) ?_; (with_reducible refine (r11_Small.calls k _ _ l0_0 true _ ?side1 ?side2 A2.out).mono ?_); (case side1 => repeat (first | exact (Kd.C_below HR0_0.out HB.out) | (with_reducible refine Kd.C_alloc ?_ _) | (with_reducible refine Kd.C_drewN ?_ _) | (with_reducible refine Kd.C_drew ?_))); (case side2 => exact HC0_0.out); rintro e w' ⟨rfl, ⟨nd, rfl⟩⟩; refine ⟨_, rfl, ?_⟩) | (go_at_call 41; (with_reducible refine (r11_Small.calls k _ _ l0_1 true _ ?side1 ?side2 A4.out).mono ?_); (case side1 => repeat (first | exact (Kd.C_below HR0_1.out (by repeat (first | (with_reducible first | exact HB.out | apply bAl | apply pbN | apply bD1 | refine bSt ?_ GE104.out) | exact HB.out))) | (with_reducible refine Kd.C_alloc ?_ _) | (with_reducible refine Kd.C_drewN ?_ _) | (with_reducible refine Kd.C_drew ?_))); (case side2 => exact HC0_1.out); rintro e w' ⟨rfl, ⟨nd, rfl⟩⟩) | (go_at_call 41; (with_reducible refine (r11_Small.calls k _ _ l0_2 true _ ?side1 ?side2 A6.out).mono ?_); (case side1 => repeat (first | exact (Kd.C_below HR0_2.out (by repeat (first | (with_reducible first | exact HB.out | apply bAl | apply pbN | apply bD1 | refine bSt ?_ GE104.out) | exact HB.out))) | (with_reducible refine Kd.C_alloc ?_ _) | (with_reducible refine Kd.C_drewN ?_ _) | (with_reducible refine Kd.C_drew ?_))); (case side2 => exact HC0_2.out); rintro e w' ⟨rfl, ⟨nd, rfl⟩⟩) | (go_at_call 41; (with_reducible refine (r11_Small.calls k _ _ l0_3 false _ ?side1 ?side2 A8.out).mono ?_); (case side1 => repeat (first | exact (Kd.C_below HR0_3.out (by repeat (first | (with_reducible first | exact HB.out | apply bAl | apply pbN | apply bD1 | refine bSt ?_ GE104.out) | exact HB.out))) | (with_reducible refine Kd.C_alloc ?_ _) | (with_reducible refine Kd.C_drewN ?_ _) | (with_reducible refine Kd.C_drew ?_))); (case side2 => exact HC0_3.out); rintro e w' ⟨rfl, ⟨nd, rfl⟩⟩))
     go_ret
     exact ⟨by first | rfl | (simp [eN, eS] <;> rfl) | (simp [*, eN, eS] <;> rfl), by repeat (first | (with_reducible first | exact HB.out | apply bAl | apply pbN | apply bD1 | refine bSt ?_ GE104.out) | exact HB.out)⟩
   ·replace c7 := Bool.eq_false_iff.mpr c7
    subst c7
    have H1 : (some false) = some r := by rw [if_neg (show ¬ (false = true) by decide)] at H; exact H
    clear H
    have H := H1
    clear H1
    obtain rfl := Option.some.inj H
    go_enter Try.func20, Try.ntmps20
    go_wp2_with (first | ((with_reducible refine gate_dst (N := 1) rfl ?_); refine box_event ?hg (N := 1) ?hd (cs := #[.slice A0_0 l0_0.length c0_0, .slice A0_1 l0_1.length c0_1, .slice A0_2 l0_2.length c0_2, .slice A0_3 l0_3.length c0_3, .slice A0_4 l0_4.length c0_4, .slice A0_5 l0_5.length c0_5]) (t := 27) ?hr ?_; (case hd => rfl); (case hg => rfl); (case hr => first | (go_simp; done) | (go_simp; rfl)); intro gb104 hg w23 hbox hb; have n0_ := aM (bSp (by repeat (first | (with_reducible first | exact HB.out | apply bAl | apply pbN | apply bD1) | exact HB.out)) hb); have n1_ := aM (hbox); have n2_ := aM ((by rw [hg]; exact (bSz (by repeat (first | (with_reducible first | exact HB.out | apply bAl | apply pbN | apply bD1) | exact HB.out))) : w.heap.size ≤ gb104)); have n3_ := aM ((by rw [hg]; exact (bSz (by repeat (first | (with_reducible first | exact HB.out | apply bAl | apply pbN | apply bD1) | exact HB.out))) : w.heap.size ≤ gb104)); clear HB; have HB := n0_; have BK104 := n1_; have GW104 := n2_; have GE104 := n3_; clear n0_ n1_ n2_ n3_; clear hb hbox hg; have hcz24_0 : w23.cell? ⟨gb104, 0, none⟩ = some (.slice A0_0 l0_0.length c0_0) := (bkC BK104.out 0).trans rfl; have hcz24_1 : w23.cell? ⟨gb104, 1, none⟩ = some (.slice A0_1 l0_1.length c0_1) := (bkC BK104.out 1).trans rfl; have hcz24_2 : w23.cell? ⟨gb104, 2, none⟩ = some (.slice A0_2 l0_2.length c0_2) := (bkC BK104.out 2).trans rfl; have hcz24_3 : w23.cell? ⟨gb104, 3, none⟩ = some (.slice A0_3 l0_3.length c0_3) := (bkC BK104.out 3).trans rfl; have hcz24_4 : w23.cell? ⟨gb104, 4, none⟩ = some (.slice A0_4 l0_4.length c0_4) := (bkC BK104.out 4).trans rfl; have hcz24_5 : w23.cell? ⟨gb104, 5, none⟩ = some (.slice A0_5 l0_5.length c0_5) := (bkC BK104.out 5).trans rfl; have hfz24_0 := bkF BK104.out 0; have hfz24_1 := bkF BK104.out 1; have hfz24_2 := bkF BK104.out 2; have hfz24_3 := bkF BK104.out 3; have hfz24_4 := bkF BK104.out 4; have hfz24_5 := bkF BK104.out 5) | ((with_reducible refine gate_callee (f := 41) rfl ?_); refine goesL_ (some 5) rfl rfl Try.func41 (by kernel_rfl) rfl #[.slice A0_0 l0_0.length c0_0] rfl (by (try simp only [List.map_toArray, List.map_cons, List.map_nil]); first | done | rfl | (simp only [List.length_drop, List.length_take]; rfl)) ?_; (with_reducible refine (r11_Small.calls k _ _ l0_0 true _ ?side1 ?side2 A2.out).mono ?_); (case side1 => repeat (first | exact (Kd.C_below HR0_0.out HB.out) | (with_reducible refine Kd.C_alloc ?_ _) | (with_reducible refine Kd.C_drewN ?_ _) | (with_reducible refine Kd.C_drew ?_))); (case side2 => exact HC0_0.out); rintro e w' ⟨rfl, ⟨nd, rfl⟩⟩; refine ⟨_, rfl, ?_⟩) | (go_at_call 41; (with_reducible refine (r11_Small.calls k _ _ l0_1 true _ ?side1 ?side2 A4.out).mono ?_); (case side1 => repeat (first | exact (Kd.C_below HR0_1.out (by repeat (first | (with_reducible first | exact HB.out | apply bAl | apply pbN | apply bD1 | refine bSt ?_ GE104.out) | exact HB.out))) | (with_reducible refine Kd.C_alloc ?_ _) | (with_reducible refine Kd.C_drewN ?_ _) | (with_reducible refine Kd.C_drew ?_))); (case side2 => exact HC0_1.out); rintro e w' ⟨rfl, ⟨nd, rfl⟩⟩) | (go_at_call 41; (with_reducible refine (r11_Small.calls k _ _ l0_2 false _ ?side1 ?side2 A6.out).mono ?_); (case side1 => repeat (first | exact (Kd.C_below HR0_2.out (by repeat (first | (with_reducible first | exact HB.out | apply bAl | apply pbN | apply bD1 | refine bSt ?_ GE104.out) | exact HB.out))) | (with_reducible refine Kd.C_alloc ?_ _) | (with_reducible refine Kd.C_drewN ?_ _) | (with_reducible refine Kd.C_drew ?_))); (case side2 => exact HC0_2.out); rintro e w' ⟨rfl, ⟨nd, rfl⟩⟩))
    go_ret
    exact ⟨by first | rfl | (simp [eN, eS] <;> rfl) | (simp [*, eN, eS] <;> rfl), by repeat (first | (with_reducible first | exact HB.out | apply bAl | apply pbN | apply bD1 | refine bSt ?_ GE104.out) | exact HB.out)⟩
  ·replace c5 := Bool.eq_false_iff.mpr c5
   subst c5
   have H1 : (some false) = some r := by rw [if_neg (show ¬ (false = true) by decide)] at H; exact H
   clear H
   have H := H1
   clear H1
   obtain rfl := Option.some.inj H
   go_enter Try.func20, Try.ntmps20
   go_wp2_with (first | ((with_reducible refine gate_dst (N := 1) rfl ?_); refine box_event ?hg (N := 1) ?hd (cs := #[.slice A0_0 l0_0.length c0_0, .slice A0_1 l0_1.length c0_1, .slice A0_2 l0_2.length c0_2, .slice A0_3 l0_3.length c0_3, .slice A0_4 l0_4.length c0_4, .slice A0_5 l0_5.length c0_5]) (t := 27) ?hr ?_; (case hd => rfl); (case hg => rfl); (case hr => first | (go_simp; done) | (go_simp; rfl)); intro gb104 hg w25 hbox hb; have n0_ := aM (bSp (by repeat (first | (with_reducible first | exact HB.out | apply bAl | apply pbN | apply bD1) | exact HB.out)) hb); have n1_ := aM (hbox); have n2_ := aM ((by rw [hg]; exact (bSz (by repeat (first | (with_reducible first | exact HB.out | apply bAl | apply pbN | apply bD1) | exact HB.out))) : w.heap.size ≤ gb104)); have n3_ := aM ((by rw [hg]; exact (bSz (by repeat (first | (with_reducible first | exact HB.out | apply bAl | apply pbN | apply bD1) | exact HB.out))) : w.heap.size ≤ gb104)); clear HB; have HB := n0_; have BK104 := n1_; have GW104 := n2_; have GE104 := n3_; clear n0_ n1_ n2_ n3_; clear hb hbox hg; have hcz26_0 : w25.cell? ⟨gb104, 0, none⟩ = some (.slice A0_0 l0_0.length c0_0) := (bkC BK104.out 0).trans rfl; have hcz26_1 : w25.cell? ⟨gb104, 1, none⟩ = some (.slice A0_1 l0_1.length c0_1) := (bkC BK104.out 1).trans rfl; have hcz26_2 : w25.cell? ⟨gb104, 2, none⟩ = some (.slice A0_2 l0_2.length c0_2) := (bkC BK104.out 2).trans rfl; have hcz26_3 : w25.cell? ⟨gb104, 3, none⟩ = some (.slice A0_3 l0_3.length c0_3) := (bkC BK104.out 3).trans rfl; have hcz26_4 : w25.cell? ⟨gb104, 4, none⟩ = some (.slice A0_4 l0_4.length c0_4) := (bkC BK104.out 4).trans rfl; have hcz26_5 : w25.cell? ⟨gb104, 5, none⟩ = some (.slice A0_5 l0_5.length c0_5) := (bkC BK104.out 5).trans rfl; have hfz26_0 := bkF BK104.out 0; have hfz26_1 := bkF BK104.out 1; have hfz26_2 := bkF BK104.out 2; have hfz26_3 := bkF BK104.out 3; have hfz26_4 := bkF BK104.out 4; have hfz26_5 := bkF BK104.out 5) | ((with_reducible refine gate_callee (f := 41) rfl ?_); refine goesL_ (some 5) rfl rfl Try.func41 (by kernel_rfl) rfl #[.slice A0_0 l0_0.length c0_0] rfl (by (try simp only [List.map_toArray, List.map_cons, List.map_nil]); first | done | rfl | (simp only [List.length_drop, List.length_take]; rfl)) ?_; (with_reducible refine (r11_Small.calls k _ _ l0_0 true _ ?side1 ?side2 A2.out).mono ?_); (case side1 => repeat (first | exact (Kd.C_below HR0_0.out HB.out) | (with_reducible refine Kd.C_alloc ?_ _) | (with_reducible refine Kd.C_drewN ?_ _) | (with_reducible refine Kd.C_drew ?_))); (case side2 => exact HC0_0.out); rintro e w' ⟨rfl, ⟨nd, rfl⟩⟩; refine ⟨_, rfl, ?_⟩) | (go_at_call 41; (with_reducible refine (r11_Small.calls k _ _ l0_1 false _ ?side1 ?side2 A4.out).mono ?_); (case side1 => repeat (first | exact (Kd.C_below HR0_1.out (by repeat (first | (with_reducible first | exact HB.out | apply bAl | apply pbN | apply bD1 | refine bSt ?_ GE104.out) | exact HB.out))) | (with_reducible refine Kd.C_alloc ?_ _) | (with_reducible refine Kd.C_drewN ?_ _) | (with_reducible refine Kd.C_drew ?_))); (case side2 => exact HC0_1.out); rintro e w' ⟨rfl, ⟨nd, rfl⟩⟩))
   go_ret
   exact ⟨by first | rfl | (simp [eN, eS] <;> rfl) | (simp [*, eN, eS] <;> rfl), by repeat (first | (with_reducible first | exact HB.out | apply bAl | apply pbN | apply bD1 | refine bSt ?_ GE104.out) | exact HB.out)⟩
 ·replace c3 := Bool.eq_false_iff.mpr c3
  subst c3
  have H1 : (some false) = some r := by rw [if_neg (show ¬ (false = true) by decide)] at H; exact H
  clear H
  have H := H1
  clear H1
  obtain rfl := Option.some.inj H
  go_enter Try.func20, Try.ntmps20
  go_wp2_with (first | ((with_reducible refine gate_dst (N := 1) rfl ?_); refine box_event ?hg (N := 1) ?hd (cs := #[.slice A0_0 l0_0.length c0_0, .slice A0_1 l0_1.length c0_1, .slice A0_2 l0_2.length c0_2, .slice A0_3 l0_3.length c0_3, .slice A0_4 l0_4.length c0_4, .slice A0_5 l0_5.length c0_5]) (t := 27) ?hr ?_; (case hd => rfl); (case hg => rfl); (case hr => first | (go_simp; done) | (go_simp; rfl)); intro gb104 hg w27 hbox hb; have n0_ := aM (bSp (by repeat (first | (with_reducible first | exact HB.out | apply bAl | apply pbN | apply bD1) | exact HB.out)) hb); have n1_ := aM (hbox); have n2_ := aM ((by rw [hg]; exact (bSz (by repeat (first | (with_reducible first | exact HB.out | apply bAl | apply pbN | apply bD1) | exact HB.out))) : w.heap.size ≤ gb104)); have n3_ := aM ((by rw [hg]; exact (bSz (by repeat (first | (with_reducible first | exact HB.out | apply bAl | apply pbN | apply bD1) | exact HB.out))) : w.heap.size ≤ gb104)); clear HB; have HB := n0_; have BK104 := n1_; have GW104 := n2_; have GE104 := n3_; clear n0_ n1_ n2_ n3_; clear hb hbox hg; have hcz28_0 : w27.cell? ⟨gb104, 0, none⟩ = some (.slice A0_0 l0_0.length c0_0) := (bkC BK104.out 0).trans rfl; have hcz28_1 : w27.cell? ⟨gb104, 1, none⟩ = some (.slice A0_1 l0_1.length c0_1) := (bkC BK104.out 1).trans rfl; have hcz28_2 : w27.cell? ⟨gb104, 2, none⟩ = some (.slice A0_2 l0_2.length c0_2) := (bkC BK104.out 2).trans rfl; have hcz28_3 : w27.cell? ⟨gb104, 3, none⟩ = some (.slice A0_3 l0_3.length c0_3) := (bkC BK104.out 3).trans rfl; have hcz28_4 : w27.cell? ⟨gb104, 4, none⟩ = some (.slice A0_4 l0_4.length c0_4) := (bkC BK104.out 4).trans rfl; have hcz28_5 : w27.cell? ⟨gb104, 5, none⟩ = some (.slice A0_5 l0_5.length c0_5) := (bkC BK104.out 5).trans rfl; have hfz28_0 := bkF BK104.out 0; have hfz28_1 := bkF BK104.out 1; have hfz28_2 := bkF BK104.out 2; have hfz28_3 := bkF BK104.out 3; have hfz28_4 := bkF BK104.out 4; have hfz28_5 := bkF BK104.out 5) | ((with_reducible refine gate_callee (f := 41) rfl ?_); refine goesL_ (some 5) rfl rfl Try.func41 (by kernel_rfl) rfl #[.slice A0_0 l0_0.length c0_0] rfl (by (try simp only [List.map_toArray, List.map_cons, List.map_nil]); first | done | rfl | (simp only [List.length_drop, List.length_take]; rfl)) ?_; (with_reducible refine (r11_Small.calls k _ _ l0_0 false _ ?side1 ?side2 A2.out).mono ?_); (case side1 => repeat (first | exact (Kd.C_below HR0_0.out HB.out) | (with_reducible refine Kd.C_alloc ?_ _) | (with_reducible refine Kd.C_drewN ?_ _) | (with_reducible refine Kd.C_drew ?_))); (case side2 => exact HC0_0.out); rintro e w' ⟨rfl, ⟨nd, rfl⟩⟩; refine ⟨_, rfl, ?_⟩))
  go_ret
  exact ⟨by first | rfl | (simp [eN, eS] <;> rfl) | (simp [*, eN, eS] <;> rfl), by repeat (first | (with_reducible first | exact HB.out | apply bAl | apply pbN | apply bD1 | refine bSt ?_ GE104.out) | exact HB.out)⟩
attribute [local go_sem] max2_int min2_int max_two min_two max_three min_three max_four min_four
set_option linter.unusedVariables false
set_option linter.unusedSimpArgs false
def w37_few.f (k : Nat) (l0_0 : List (S43)) (l0_1 : List (S43)) (l0_2 : List (S43)) (l0_3 : List (S43)) (l0_4 : List (S33)) (l0_5 : List (S33)) (l1 : List Int) : Option (Bool) := (r37_Small.f k l0_0 l0_1 l0_2 l0_3 l0_4 l0_5).bind fun t112 => (if t112 = true then (some (decide ((l1.length : Int) ≤ 40))) else (some false))
set_option maxHeartbeats 8000000 in
set_option maxRecDepth 100000 in
theorem w37_few.calls (k : Nat) (A0_0 : Option Addr) (c0_0 : Nat) (l0_0 : List (S43)) (A0_1 : Option Addr) (c0_1 : Nat) (l0_1 : List (S43)) (A0_2 : Option Addr) (c0_2 : Nat) (l0_2 : List (S43)) (A0_3 : Option Addr) (c0_3 : Nat) (l0_3 : List (S43)) (A0_4 : Option Addr) (c0_4 : Nat) (l0_4 : List (S33)) (A0_5 : Option Addr) (c0_5 : Nat) (l0_5 : List (S33)) (A1 : Option Addr) (c1 : Nat) (l1 : List Int) (r : Bool) (w : World) (hr0_0 : Kd.C k43 w A0_0 l0_0.length l0_0) (hc0_0 : l0_0.length ≤ c0_0) (hr0_1 : Kd.C k43 w A0_1 l0_1.length l0_1) (hc0_1 : l0_1.length ≤ c0_1) (hr0_2 : Kd.C k43 w A0_2 l0_2.length l0_2) (hc0_2 : l0_2.length ≤ c0_2) (hr0_3 : Kd.C k43 w A0_3 l0_3.length l0_3) (hc0_3 : l0_3.length ≤ c0_3) (hr0_4 : Kd.C k33 w A0_4 l0_4.length l0_4) (hc0_4 : l0_4.length ≤ c0_4) (hr0_5 : Kd.C k33 w A0_5 l0_5.length l0_5) (hc0_5 : l0_5.length ≤ c0_5) (hr1 : Kd.C (Kd.int .i64) w A1 l1.length l1) (hc1 : l1.length ≤ c1) (h : w37_few.f k l0_0 l0_1 l0_2 l0_3 l0_4 l0_5 l1 = some r) :
  Calls Try.prog 12 #[.agg #[.slice A0_0 l0_0.length c0_0, .slice A0_1 l0_1.length c0_1, .slice A0_2 l0_2.length c0_2, .slice A0_3 l0_3.length c0_3, .slice A0_4 l0_4.length c0_4, .slice A0_5 l0_5.length c0_5], .slice A1 l1.length c1] w fun e w' => e = .returned (.bool r) ∧ Below w.heap.size w w' := by
 have hu27 := Try.underlying27
 have HR0_0 := aM hr0_0
 have HC0_0 := aM hc0_0
 clear hr0_0 hc0_0
 have HR0_1 := aM hr0_1
 have HC0_1 := aM hc0_1
 clear hr0_1 hc0_1
 have HR0_2 := aM hr0_2
 have HC0_2 := aM hc0_2
 clear hr0_2 hc0_2
 have HR0_3 := aM hr0_3
 have HC0_3 := aM hc0_3
 clear hr0_3 hc0_3
 have HR0_4 := aM hr0_4
 have HC0_4 := aM hc0_4
 clear hr0_4 hc0_4
 have HR0_5 := aM hr0_5
 have HC0_5 := aM hc0_5
 clear hr0_5 hc0_5
 have HR1 := aM hr1
 have HC1 := aM hc1
 clear hr1 hc1
 have HB := aM (Below.refl w.heap.size w)
 have H : ((r37_Small.f k l0_0 l0_1 l0_2 l0_3 l0_4 l0_5).bind fun t112 => (if t112 = true then (some (decide ((l1.length : Int) ≤ 40))) else (some false))) = some r := h
 clear h
 replace H := Option.bind_eq_some_iff.mp H
 obtain ⟨t112, A30, H⟩ := H
 replace H : (if t112 = true then (some (decide ((l1.length : Int) ≤ 40))) else (some false)) = some r := H
 have A3 := aM A30
 clear A30
 by_cases c4 : t112 = true
 ·subst c4
  have H1 : (some (decide ((l1.length : Int) ≤ 40))) = some r := by rw [if_pos rfl] at H; exact H
  clear H
  have H := H1
  clear H1
  obtain rfl := Option.some.inj H
  go_enter Try.func12, Try.ntmps12
  go_wp2_with (first | ((with_reducible refine gate_dst (N := 2) rfl ?_); (try (refine gate_guard (by rfl) ?_; dsimp only)); refine box_event ?hg (N := 2) ?hd (cs := #[.slice A0_0 l0_0.length c0_0, .slice A0_1 l0_1.length c0_1, .slice A0_2 l0_2.length c0_2, .slice A0_3 l0_3.length c0_3, .slice A0_4 l0_4.length c0_4, .slice A0_5 l0_5.length c0_5]) (t := 27) ?hr ?_; (case hd => rfl); (case hg => rfl); (case hr => first | (go_simp; done) | (go_simp; rfl)); intro gb111 hg w5 hbox hb; have n0_ := aM (bSp (by repeat (first | (with_reducible first | exact HB.out | apply bAl | apply pbN | apply bD1) | exact HB.out)) hb); have n1_ := aM (hbox); have n2_ := aM ((by rw [hg]; exact (bSz (by repeat (first | (with_reducible first | exact HB.out | apply bAl | apply pbN | apply bD1) | exact HB.out))) : w.heap.size ≤ gb111)); have n3_ := aM ((by rw [hg]; exact (bSz (by repeat (first | (with_reducible first | exact HB.out | apply bAl | apply pbN | apply bD1) | exact HB.out))) : w.heap.size ≤ gb111)); clear HB; have HB := n0_; have BK111 := n1_; have GW111 := n2_; have GE111 := n3_; clear n0_ n1_ n2_ n3_; clear hb hbox hg; have hcz6_0 : w5.cell? ⟨gb111, 0, none⟩ = some (.slice A0_0 l0_0.length c0_0) := (bkC BK111.out 0).trans rfl; have hcz6_1 : w5.cell? ⟨gb111, 1, none⟩ = some (.slice A0_1 l0_1.length c0_1) := (bkC BK111.out 1).trans rfl; have hcz6_2 : w5.cell? ⟨gb111, 2, none⟩ = some (.slice A0_2 l0_2.length c0_2) := (bkC BK111.out 2).trans rfl; have hcz6_3 : w5.cell? ⟨gb111, 3, none⟩ = some (.slice A0_3 l0_3.length c0_3) := (bkC BK111.out 3).trans rfl; have hcz6_4 : w5.cell? ⟨gb111, 4, none⟩ = some (.slice A0_4 l0_4.length c0_4) := (bkC BK111.out 4).trans rfl; have hcz6_5 : w5.cell? ⟨gb111, 5, none⟩ = some (.slice A0_5 l0_5.length c0_5) := (bkC BK111.out 5).trans rfl; have hfz6_0 := bkF BK111.out 0; have hfz6_1 := bkF BK111.out 1; have hfz6_2 := bkF BK111.out 2; have hfz6_3 := bkF BK111.out 3; have hfz6_4 := bkF BK111.out 4; have hfz6_5 := bkF BK111.out 5) | ((with_reducible refine gate_callee (f := 20) rfl ?_); refine goesL_ (some 6) rfl rfl Try.func20 (by kernel_rfl) rfl #[.agg #[.slice A0_0 l0_0.length c0_0, .slice A0_1 l0_1.length c0_1, .slice A0_2 l0_2.length c0_2, .slice A0_3 l0_3.length c0_3, .slice A0_4 l0_4.length c0_4, .slice A0_5 l0_5.length c0_5]] rfl (by (try simp only [List.map_toArray, List.map_cons, List.map_nil]); first | done | rfl | (simp only [List.length_drop, List.length_take]; rfl)) ?_; (with_reducible refine (r37_Small.calls k _ _ l0_0 _ _ l0_1 _ _ l0_2 _ _ l0_3 _ _ l0_4 _ _ l0_5 true _ ?side1 ?side2 ?side3 ?side4 ?side5 ?side6 ?side7 ?side8 ?side9 ?side10 ?side11 ?side12 A3.out).mono ?_); (case side1 => repeat (first | exact (Kd.C_below HR0_0.out HB.out) | (with_reducible refine Kd.C_alloc ?_ _) | (with_reducible refine Kd.C_drewN ?_ _) | (with_reducible refine Kd.C_drew ?_))); (case side2 => exact HC0_0.out); (case side3 => repeat (first | exact (Kd.C_below HR0_1.out HB.out) | (with_reducible refine Kd.C_alloc ?_ _) | (with_reducible refine Kd.C_drewN ?_ _) | (with_reducible refine Kd.C_drew ?_))); (case side4 => exact HC0_1.out); (case side5 => repeat (first | exact (Kd.C_below HR0_2.out HB.out) | (with_reducible refine Kd.C_alloc ?_ _) | (with_reducible refine Kd.C_drewN ?_ _) | (with_reducible refine Kd.C_drew ?_))); (case side6 => exact HC0_2.out); (case side7 => repeat (first | exact (Kd.C_below HR0_3.out HB.out) | (with_reducible refine Kd.C_alloc ?_ _) | (with_reducible refine Kd.C_drewN ?_ _) | (with_reducible refine Kd.C_drew ?_))); (case side8 => exact HC0_3.out); (case side9 => repeat (first | exact (Kd.C_below HR0_4.out HB.out) | (with_reducible refine Kd.C_alloc ?_ _) | (with_reducible refine Kd.C_drewN ?_ _) | (with_reducible refine Kd.C_drew ?_))); (case side10 => exact HC0_4.out); (case side11 => repeat (first | exact (Kd.C_below HR0_5.out HB.out) | (with_reducible refine Kd.C_alloc ?_ _) | (with_reducible refine Kd.C_drewN ?_ _) | (with_reducible refine Kd.C_drew ?_))); (case side12 => exact HC0_5.out); rintro e w7 ⟨rfl, hb⟩; refine ⟨_, rfl, ?_⟩; have n0_ := aM (blk_below (g := gb111) (o := .cells #[.slice A0_0 l0_0.length c0_0, .slice A0_1 l0_1.length c0_1, .slice A0_2 l0_2.length c0_2, .slice A0_3 l0_3.length c0_3, .slice A0_4 l0_4.length c0_4, .slice A0_5 l0_5.length c0_5] 27 (0, 0)) (by (with_reducible repeat (first | refine bkN ?_ _ | refine bkD ?_ | refine bkA ?_ _)); exact BK111.out) hb); have n1_ := aM (bSp (by repeat (first | (with_reducible first | exact HB.out | apply bAl | apply pbN | apply bD1 | refine bSt ?_ GE111.out) | exact HB.out)) hb); clear BK111; clear HB; have BK111 := n0_; have HB := n1_; clear n0_ n1_; (try clear hb); (try clear hb2); (try clear hk); (try clear hi)))
  go_ret
  exact ⟨by first | rfl | (simp [eN, eS] <;> rfl) | (simp [*, eN, eS] <;> rfl), by repeat (first | (with_reducible first | exact HB.out | apply bAl | apply pbN | apply bD1 | refine bSt ?_ GE111.out) | exact HB.out)⟩
 ·replace c4 := Bool.eq_false_iff.mpr c4
  subst c4
  have H1 : (some false) = some r := by rw [if_neg (show ¬ (false = true) by decide)] at H; exact H
  clear H
  have H := H1
  clear H1
  obtain rfl := Option.some.inj H
  go_enter Try.func12, Try.ntmps12
  go_wp2_with (first | ((with_reducible refine gate_dst (N := 2) rfl ?_); (try (refine gate_guard (by rfl) ?_; dsimp only)); refine box_event ?hg (N := 2) ?hd (cs := #[.slice A0_0 l0_0.length c0_0, .slice A0_1 l0_1.length c0_1, .slice A0_2 l0_2.length c0_2, .slice A0_3 l0_3.length c0_3, .slice A0_4 l0_4.length c0_4, .slice A0_5 l0_5.length c0_5]) (t := 27) ?hr ?_; (case hd => rfl); (case hg => rfl); (case hr => first | (go_simp; done) | (go_simp; rfl)); intro gb111 hg w8 hbox hb; have n0_ := aM (bSp (by repeat (first | (with_reducible first | exact HB.out | apply bAl | apply pbN | apply bD1) | exact HB.out)) hb); have n1_ := aM (hbox); have n2_ := aM ((by rw [hg]; exact (bSz (by repeat (first | (with_reducible first | exact HB.out | apply bAl | apply pbN | apply bD1) | exact HB.out))) : w.heap.size ≤ gb111)); have n3_ := aM ((by rw [hg]; exact (bSz (by repeat (first | (with_reducible first | exact HB.out | apply bAl | apply pbN | apply bD1) | exact HB.out))) : w.heap.size ≤ gb111)); clear HB; have HB := n0_; have BK111 := n1_; have GW111 := n2_; have GE111 := n3_; clear n0_ n1_ n2_ n3_; clear hb hbox hg; have hcz9_0 : w8.cell? ⟨gb111, 0, none⟩ = some (.slice A0_0 l0_0.length c0_0) := (bkC BK111.out 0).trans rfl; have hcz9_1 : w8.cell? ⟨gb111, 1, none⟩ = some (.slice A0_1 l0_1.length c0_1) := (bkC BK111.out 1).trans rfl; have hcz9_2 : w8.cell? ⟨gb111, 2, none⟩ = some (.slice A0_2 l0_2.length c0_2) := (bkC BK111.out 2).trans rfl; have hcz9_3 : w8.cell? ⟨gb111, 3, none⟩ = some (.slice A0_3 l0_3.length c0_3) := (bkC BK111.out 3).trans rfl; have hcz9_4 : w8.cell? ⟨gb111, 4, none⟩ = some (.slice A0_4 l0_4.length c0_4) := (bkC BK111.out 4).trans rfl; have hcz9_5 : w8.cell? ⟨gb111, 5, none⟩ = some (.slice A0_5 l0_5.length c0_5) := (bkC BK111.out 5).trans rfl; have hfz9_0 := bkF BK111.out 0; have hfz9_1 := bkF BK111.out 1; have hfz9_2 := bkF BK111.out 2; have hfz9_3 := bkF BK111.out 3; have hfz9_4 := bkF BK111.out 4; have hfz9_5 := bkF BK111.out 5) | ((with_reducible refine gate_callee (f := 20) rfl ?_); refine goesL_ (some 6) rfl rfl Try.func20 (by kernel_rfl) rfl #[.agg #[.slice A0_0 l0_0.length c0_0, .slice A0_1 l0_1.length c0_1, .slice A0_2 l0_2.length c0_2, .slice A0_3 l0_3.length c0_3, .slice A0_4 l0_4.length c0_4, .slice A0_5 l0_5.length c0_5]] rfl (by (try simp only [List.map_toArray, List.map_cons, List.map_nil]); first | done | rfl | (simp only [List.length_drop, List.length_take]; rfl)) ?_; (with_reducible refine (r37_Small.calls k _ _ l0_0 _ _ l0_1 _ _ l0_2 _ _ l0_3 _ _ l0_4 _ _ l0_5 false _ ?side1 ?side2 ?side3 ?side4 ?side5 ?side6 ?side7 ?side8 ?side9 ?side10 ?side11 ?side12 A3.out).mono ?_); (case side1 => repeat (first | exact (Kd.C_below HR0_0.out HB.out) | (with_reducible refine Kd.C_alloc ?_ _) | (with_reducible refine Kd.C_drewN ?_ _) | (with_reducible refine Kd.C_drew ?_))); (case side2 => exact HC0_0.out); (case side3 => repeat (first | exact (Kd.C_below HR0_1.out HB.out) | (with_reducible refine Kd.C_alloc ?_ _) | (with_reducible refine Kd.C_drewN ?_ _) | (with_reducible refine Kd.C_drew ?_))); (case side4 => exact HC0_1.out); (case side5 => repeat (first | exact (Kd.C_below HR0_2.out HB.out) | (with_reducible refine Kd.C_alloc ?_ _) | (with_reducible refine Kd.C_drewN ?_ _) | (with_reducible refine Kd.C_drew ?_))); (case side6 => exact HC0_2.out); (case side7 => repeat (first | exact (Kd.C_below HR0_3.out HB.out) | (with_reducible refine Kd.C_alloc ?_ _) | (with_reducible refine Kd.C_drewN ?_ _) | (with_reducible refine Kd.C_drew ?_))); (case side8 => exact HC0_3.out); (case side9 => repeat (first | exact (Kd.C_below HR0_4.out HB.out) | (with_reducible refine Kd.C_alloc ?_ _) | (with_reducible refine Kd.C_drewN ?_ _) | (with_reducible refine Kd.C_drew ?_))); (case side10 => exact HC0_4.out); (case side11 => repeat (first | exact (Kd.C_below HR0_5.out HB.out) | (with_reducible refine Kd.C_alloc ?_ _) | (with_reducible refine Kd.C_drewN ?_ _) | (with_reducible refine Kd.C_drew ?_))); (case side12 => exact HC0_5.out); rintro e w10 ⟨rfl, hb⟩; refine ⟨_, rfl, ?_⟩; have n0_ := aM (blk_below (g := gb111) (o := .cells #[.slice A0_0 l0_0.length c0_0, .slice A0_1 l0_1.length c0_1, .slice A0_2 l0_2.length c0_2, .slice A0_3 l0_3.length c0_3, .slice A0_4 l0_4.length c0_4, .slice A0_5 l0_5.length c0_5] 27 (0, 0)) (by (with_reducible repeat (first | refine bkN ?_ _ | refine bkD ?_ | refine bkA ?_ _)); exact BK111.out) hb); have n1_ := aM (bSp (by repeat (first | (with_reducible first | exact HB.out | apply bAl | apply pbN | apply bD1 | refine bSt ?_ GE111.out) | exact HB.out)) hb); clear BK111; clear HB; have BK111 := n0_; have HB := n1_; clear n0_ n1_; (try clear hb); (try clear hb2); (try clear hk); (try clear hi)))
  go_ret
  exact ⟨by first | rfl | (simp [eN, eS] <;> rfl) | (simp [*, eN, eS] <;> rfl), by repeat (first | (with_reducible first | exact HB.out | apply bAl | apply pbN | apply bD1 | refine bSt ?_ GE111.out) | exact HB.out)⟩
def r37_Within.l0 : Nat → List (S33) → Int → Int → Int → Option (Bool)
 | 0, _, _, _, _ => none
 | k + 1, x0, x1, x5, x6 => if x6 < (x0.length : Int) then (if 0 ≤ x6 then (if ((rd_T33 x0 x6).f0) < x5 then (some false) else (if ((rd_T33 x0 x6).f1) < ((rd_T33 x0 x6).f0) then (some false) else (if ((rd_T33 x0 x6).f1) > x1 then (some false) else (r37_Within.l0 k x0 x1 ((rd_T33 x0 x6).f1) (wrap64 (x6 + 1)))))) else (none)) else (some true)
def r37_Within.f (k : Nat) (l0 : List (S33)) (a1 : Int) : Option (Bool) := r37_Within.l0 k l0 a1 0 0
set_option maxHeartbeats 8000000 in
set_option maxRecDepth 100000 in
theorem r37_Within.calls (k : Nat) (A0 : Option Addr) (c0 : Nat) (l0 : List (S33)) (a1 : Int) (r : Bool) (w : World) (hr0 : Kd.C k33 w A0 l0.length l0) (hc0 : l0.length ≤ c0) (h : r37_Within.f k l0 a1 = some r) :
  Calls Try.prog 13 #[.slice A0 l0.length c0, .int .i64 a1] w fun e w' => e = .returned (.bool r) ∧ Drawn0 w w' := by
 have HR0 := aM hr0
 have HC0 := aM hc0
 clear hr0 hc0
 have H : (r37_Within.l0 k l0 a1 0 0) = some r := h
 clear h
 have H' := aM H
 clear H
 go_enter Try.func13, Try.ntmps13
 go_wp2
 repeat (go_quiet (fail); try go_wp2)
 go_loopg [5, 6] k (fun kq v5 v6 w' => ∃ (x5_1 : Int) (x6_1 : Int), v5 = .int .i64 x5_1 ∧ v6 = .int .i64 x6_1 ∧ Aside0 (r37_Within.l0 kq l0 a1 x5_1 x6_1 = some r) ∧ Aside0 (kq ≤ k) ∧ Drawn0 w w')
 case atStart => exact ⟨(0), (0), (by first | rfl | (simp; done) | (simp [*]; done)), (by first | rfl | (simp; done) | (simp [*]; done)), H', ⟨Nat.le_refl _⟩, by repeat (first | exact Drawn0.refl _ | apply Drawn0.step)⟩
 case round =>
  clear H'
  try clear c1
  try clear p2
  obtain ⟨x5_1, x6_1, rfl, rfl, HA, HK1, ⟨m1, rfl⟩⟩ := hrel
  cases gk with
  | zero => exact absurd HA.out (by simp [r37_Within.l0])
  | succ k1 =>
   have H := HA.out
   clear HA
   simp only [r37_Within.l0] at H
   by_cases c3 : x6_1 < (l0.length : Int)
   ·rw [if_pos c3] at H
    have c3b0 : decide (x6_1 < (l0.length : Int)) = true := dT c3
    clear c3
    by_cases c4 : 0 ≤ x6_1
    ·rw [if_pos c4] at H
     have c4b0 : decide (0 ≤ x6_1) = true := dT c4
     clear c4
     by_cases c5 : ((rd_T33 l0 x6_1).f0) < x5_1
     ·rw [if_pos c5] at H
      have c5b0 : decide (((rd_T33 l0 x6_1).f0) < x5_1) = true := dT c5
      clear c5
      obtain rfl := Option.some.inj H
      have p113 : 0 ≤ (x6_1 : Int) := oD (by first | (with_reducible assumption) | assumption)
      have q113 : x6_1 < (l0.length : Int) := oD (by first | (with_reducible assumption) | assumption)
      obtain ⟨ad113, e113, hx113_0, hx113_1⟩ := at_T33 HR0.out x6_1 p113 q113
      cases e113
      replace p113 := eq_true p113
      replace q113 := eq_true q113
      go_wp2
      repeat (go_quiet (fail); try go_wp2)
      go_ret
      exact ⟨by first | rfl | (simp; done) | (simp [*]; done), by repeat (first | exact Drawn0.refl _ | apply Drawn0.step)⟩
     ·rw [if_neg c5] at H
      have c5b0 : decide (((rd_T33 l0 x6_1).f0) < x5_1) = false := decide_eq_false c5
      clear c5
      by_cases c6 : ((rd_T33 l0 x6_1).f1) < ((rd_T33 l0 x6_1).f0)
      ·rw [if_pos c6] at H
       have c6b0 : decide (((rd_T33 l0 x6_1).f1) < ((rd_T33 l0 x6_1).f0)) = true := dT c6
       clear c6
       obtain rfl := Option.some.inj H
       have p113 : 0 ≤ (x6_1 : Int) := oD (by first | (with_reducible assumption) | assumption)
       have q113 : x6_1 < (l0.length : Int) := oD (by first | (with_reducible assumption) | assumption)
       obtain ⟨ad113, e113, hx113_0, hx113_1⟩ := at_T33 HR0.out x6_1 p113 q113
       cases e113
       replace p113 := eq_true p113
       replace q113 := eq_true q113
       have p114 : 0 ≤ (x6_1 : Int) := oD (by first | (with_reducible assumption) | assumption)
       have q114 : x6_1 < (l0.length : Int) := oD (by first | (with_reducible assumption) | assumption)
       obtain ⟨ad114, e114, hx114_0, hx114_1⟩ := at_T33 HR0.out x6_1 p114 q114
       obtain rfl : ad113 = ad114 := (by injection e114)
       replace p114 := eq_true p114
       replace q114 := eq_true q114
       have p115 : 0 ≤ (x6_1 : Int) := oD (by first | (with_reducible assumption) | assumption)
       have q115 : x6_1 < (l0.length : Int) := oD (by first | (with_reducible assumption) | assumption)
       obtain ⟨ad115, e115, hx115_0, hx115_1⟩ := at_T33 HR0.out x6_1 p115 q115
       obtain rfl : ad113 = ad115 := (by injection e115)
       replace p115 := eq_true p115
       replace q115 := eq_true q115
       go_wp2
       repeat (go_quiet (fail); try go_wp2)
       go_ret
       exact ⟨by first | rfl | (simp; done) | (simp [*]; done), by repeat (first | exact Drawn0.refl _ | apply Drawn0.step)⟩
      ·rw [if_neg c6] at H
       have c6b0 : decide (((rd_T33 l0 x6_1).f1) < ((rd_T33 l0 x6_1).f0)) = false := decide_eq_false c6
       clear c6
       by_cases c7 : ((rd_T33 l0 x6_1).f1) > a1
       ·rw [if_pos c7] at H
        have c7b0 : decide (a1 < ((rd_T33 l0 x6_1).f1)) = true := dT c7
        clear c7
        obtain rfl := Option.some.inj H
        have p113 : 0 ≤ (x6_1 : Int) := oD (by first | (with_reducible assumption) | assumption)
        have q113 : x6_1 < (l0.length : Int) := oD (by first | (with_reducible assumption) | assumption)
        obtain ⟨ad113, e113, hx113_0, hx113_1⟩ := at_T33 HR0.out x6_1 p113 q113
        cases e113
        replace p113 := eq_true p113
        replace q113 := eq_true q113
        have p114 : 0 ≤ (x6_1 : Int) := oD (by first | (with_reducible assumption) | assumption)
        have q114 : x6_1 < (l0.length : Int) := oD (by first | (with_reducible assumption) | assumption)
        obtain ⟨ad114, e114, hx114_0, hx114_1⟩ := at_T33 HR0.out x6_1 p114 q114
        obtain rfl : ad113 = ad114 := (by injection e114)
        replace p114 := eq_true p114
        replace q114 := eq_true q114
        have p115 : 0 ≤ (x6_1 : Int) := oD (by first | (with_reducible assumption) | assumption)
        have q115 : x6_1 < (l0.length : Int) := oD (by first | (with_reducible assumption) | assumption)
        obtain ⟨ad115, e115, hx115_0, hx115_1⟩ := at_T33 HR0.out x6_1 p115 q115
        obtain rfl : ad113 = ad115 := (by injection e115)
        replace p115 := eq_true p115
        replace q115 := eq_true q115
        have p116 : 0 ≤ (x6_1 : Int) := oD (by first | (with_reducible assumption) | assumption)
        have q116 : x6_1 < (l0.length : Int) := oD (by first | (with_reducible assumption) | assumption)
        obtain ⟨ad116, e116, hx116_0, hx116_1⟩ := at_T33 HR0.out x6_1 p116 q116
        obtain rfl : ad113 = ad116 := (by injection e116)
        replace p116 := eq_true p116
        replace q116 := eq_true q116
        go_wp2
        repeat (go_quiet (fail); try go_wp2)
        go_ret
        exact ⟨by first | rfl | (simp; done) | (simp [*]; done), by repeat (first | exact Drawn0.refl _ | apply Drawn0.step)⟩
       ·rw [if_neg c7] at H
        have c7b0 : decide (a1 < ((rd_T33 l0 x6_1).f1)) = false := decide_eq_false c7
        clear c7
        have H' := aM H
        clear H
        have p113 : 0 ≤ (x6_1 : Int) := oD (by first | (with_reducible assumption) | assumption)
        have q113 : x6_1 < (l0.length : Int) := oD (by first | (with_reducible assumption) | assumption)
        obtain ⟨ad113, e113, hx113_0, hx113_1⟩ := at_T33 HR0.out x6_1 p113 q113
        cases e113
        replace p113 := eq_true p113
        replace q113 := eq_true q113
        have p114 : 0 ≤ (x6_1 : Int) := oD (by first | (with_reducible assumption) | assumption)
        have q114 : x6_1 < (l0.length : Int) := oD (by first | (with_reducible assumption) | assumption)
        obtain ⟨ad114, e114, hx114_0, hx114_1⟩ := at_T33 HR0.out x6_1 p114 q114
        obtain rfl : ad113 = ad114 := (by injection e114)
        replace p114 := eq_true p114
        replace q114 := eq_true q114
        have p115 : 0 ≤ (x6_1 : Int) := oD (by first | (with_reducible assumption) | assumption)
        have q115 : x6_1 < (l0.length : Int) := oD (by first | (with_reducible assumption) | assumption)
        obtain ⟨ad115, e115, hx115_0, hx115_1⟩ := at_T33 HR0.out x6_1 p115 q115
        obtain rfl : ad113 = ad115 := (by injection e115)
        replace p115 := eq_true p115
        replace q115 := eq_true q115
        have p116 : 0 ≤ (x6_1 : Int) := oD (by first | (with_reducible assumption) | assumption)
        have q116 : x6_1 < (l0.length : Int) := oD (by first | (with_reducible assumption) | assumption)
        obtain ⟨ad116, e116, hx116_0, hx116_1⟩ := at_T33 HR0.out x6_1 p116 q116
        obtain rfl : ad113 = ad116 := (by injection e116)
        replace p116 := eq_true p116
        replace q116 := eq_true q116
        have p117 : 0 ≤ (x6_1 : Int) := oD (by first | (with_reducible assumption) | assumption)
        have q117 : x6_1 < (l0.length : Int) := oD (by first | (with_reducible assumption) | assumption)
        obtain ⟨ad117, e117, hx117_0, hx117_1⟩ := at_T33 HR0.out x6_1 p117 q117
        obtain rfl : ad113 = ad117 := (by injection e117)
        replace p117 := eq_true p117
        replace q117 := eq_true q117
        go_wp2
        repeat (go_quiet (fail); try go_wp2)
        go_roundg k1
        case measure => have := HK1.out; omega
        case rel => exact ⟨((rd_T33 l0 x6_1).f1), (wrap64 (x6_1 + 1)), (by first | rfl | (simp; done) | (simp [*]; done)), (by first | rfl | (simp; done) | (simp [*]; done)), H', ⟨by have := HK1.out; omega⟩, by repeat (first | exact Drawn0.refl _ | apply Drawn0.step)⟩
    ·rw [if_neg c4] at H
     exact absurd H (by simp)
   ·rw [if_neg c3] at H
    have c3b0 : decide (x6_1 < (l0.length : Int)) = false := decide_eq_false c3
    clear c3
    obtain rfl := Option.some.inj H
    go_wp2
    repeat (go_quiet (fail); try go_wp2)
    go_ret
    exact ⟨by first | rfl | (simp; done) | (simp [*]; done), by repeat (first | exact Drawn0.refl _ | apply Drawn0.step)⟩
end Go.Proofs.Ythnkmcfhpjmihaa.Q
end
section
namespace Go.Proofs.Ythnkmcfhpjmihaa.Q
open Go.RowKit Go.Proofs.YthnkmcfhpjmihaaW.PrintWords Go.Proofs.YthnkmcfhpjmihaaW.PrintLast Go.Proofs.YthnkmcfhpjmihaaW.PrintMore
set_option linter.unusedVariables false
def plFewM (l : List Mp) : Prop := l.length ≤ 20 ∧ ∀ x ∈ l, x.f1.length ≤ 65 ∧ x.f2.size ≤ 40
def plFewC (c : CaseS) : Prop := plFewM c.lo ∧ plFewM c.up ∧ plFewM c.ti ∧ plFewM c.fo ∧ c.ca.length ≤ 12 ∧ c.ig.length ≤ 12
theorem rdM_mid (pre : List Mp) (x : Mp) (rest : List Mp) : rd_T43 (pre ++ x :: rest) (pre.length : Int) = x := by
 unfold rd_T43
 rw [Int.toNat_natCast, List.getD_eq_getElem?_getD, List.getElem?_append_right (Nat.le_refl _), Nat.sub_self]
 rfl
theorem plSmallM_go : ∀ (d : Nat) (rest pre : List Mp) (k : Nat), pre.length + d = 30 → 2 * d + 2 ≤ k →
  ∃ b, r11_Small.l0 k (pre ++ rest) (pre.length : Int) = some b ∧ (b = true → (pre ++ rest).length ≤ 20 ∧ ∀ s ∈ rest, s.f1.length ≤ 65 ∧ s.f2.size ≤ 40)
 | d, [], pre, k, h1, h2 => by
  obtain ⟨k, rfl⟩ : ∃ j, k = j + 2 := ⟨k - 2, by omega⟩
  rw [r11_Small.l0, if_neg (by simp), r11_Small.j1, if_neg (by decide)]
  refine ⟨_, rfl, fun h => ⟨?_, fun s hs => by cases hs⟩⟩
  have := oD h
  omega
 | 0, s :: rest, pre, k, h1, h2 => by
  obtain ⟨k, rfl⟩ : ∃ j, k = j + 2 := ⟨k - 2, by omega⟩
  rw [r11_Small.l0, if_pos (by simp; omega), decide_eq_false (by omega), r11_Small.j1, if_neg (by decide)]
  refine ⟨_, rfl, fun h => ?_⟩
  have := oD h
  simp at this
  omega
 | d + 1, s :: rest, pre, k, h1, h2 => by
  obtain ⟨k, rfl⟩ : ∃ j, k = j + 2 := ⟨k - 2, by omega⟩
  obtain ⟨b, ih, hb⟩ := plSmallM_go d rest (pre ++ [s]) k (by simp; omega) (by omega)
  have ex : (pre ++ [s]) ++ rest = pre ++ s :: rest := by simp
  have el : ((pre ++ [s]).length : Int) = ((pre.length + 1 : Nat) : Int) := by simp
  rw [ex, el] at ih
  rw [ex] at hb
  rw [r11_Small.l0, if_pos (by simp; omega), dT (by omega), r11_Small.j1, if_pos rfl, if_pos (by omega), if_pos (by simp; omega), rdM_mid, wrap_suc (by omega : pre.length < 1000000000), ih]
  by_cases hs : (s.f1.length : Int) > 65
  ·rw [if_pos hs]
   exact ⟨false, rfl, fun h => by cases h⟩
  ·rw [if_neg hs]
   by_cases ht : (s.f2.size : Int) > 40
   ·rw [if_pos ht]
    exact ⟨false, rfl, fun h => by cases h⟩
   ·rw [if_neg ht]
    exact ⟨b, rfl, fun h => ⟨(hb h).1, fun x hx => by
     rcases List.mem_cons.1 hx with rfl | hx
     ·exact ⟨by omega, by omega⟩
     ·exact (hb h).2 x hx⟩⟩
theorem plSmallM_ok (l : List Mp) (k : Nat) (hk : 62 ≤ k) : ∃ b, r11_Small.f k l = some b ∧ (b = true → plFewM l) := plSmallM_go 30 l [] k rfl (by omega)
theorem plSmall_ok (c : CaseS) (k : Nat) (hk : 62 ≤ k) : ∃ b, r37_Small.f k c.lo c.up c.ti c.fo c.ca c.ig = some b ∧ (b = true → plFewC c) := by
 obtain ⟨b0, e0, g0⟩ := plSmallM_ok c.lo k hk
 obtain ⟨b1, e1, g1⟩ := plSmallM_ok c.up k hk
 obtain ⟨b2, e2, g2⟩ := plSmallM_ok c.ti k hk
 obtain ⟨b3, e3, g3⟩ := plSmallM_ok c.fo k hk
 unfold r37_Small.f r02_Small.f
 rw [e0, e1, e2, e3]
 simp only [Option.bind_some]
 cases b0 with
 | false => exact ⟨false, rfl, fun h => by cases h⟩
 | true => cases b1 with
  | false => exact ⟨false, rfl, fun h => by cases h⟩
  | true => cases b2 with
   | false => exact ⟨false, rfl, fun h => by cases h⟩
   | true => cases b3 with
    | false => exact ⟨false, rfl, fun h => by cases h⟩
    | true =>
     simp only [if_true]
     by_cases h4 : (c.ca.length : Int) ≤ 12
     ·rw [dT h4, if_pos rfl]
      exact ⟨_, rfl, fun h => ⟨g0 rfl, g1 rfl, g2 rfl, g3 rfl, by omega, by have := oD h; omega⟩⟩
     ·rw [decide_eq_false h4, if_neg (by decide)]
      exact ⟨false, rfl, fun h => by cases h⟩
theorem plFew_ok (c : CaseS) (text : List Int) (k : Nat) (hk : 62 ≤ k) : ∃ b, w37_few.f k c.lo c.up c.ti c.fo c.ca c.ig text = some b ∧ (b = true → plFewC c ∧ text.length ≤ 40) := by
 obtain ⟨b, e, h⟩ := plSmall_ok c k hk
 unfold w37_few.f
 rw [e]
 cases b with
 | false => exact ⟨false, rfl, fun h => by cases h⟩
 | true => exact ⟨_, rfl, fun h2 => ⟨h rfl, by have := oD h2; omega⟩⟩
theorem plOkM {l : List Mp} (h : plFewM l) : okM l = true := by
 unfold okM
 rw [Bool.and_eq_true, decide_eq_true_eq, List.all_eq_true]
 refine ⟨by have := h.1; omega, fun x hx => ?_⟩
 have := h.2 x hx
 rw [dT (by omega), dT (by omega)]
 rfl
theorem plOkC {c : CaseS} (h : plFewC c) : okC c = true := by
 obtain ⟨h0, h1, h2, h3, h4, h5⟩ := h
 unfold okC
 rw [plOkM h0, plOkM h1, plOkM h2, plOkM h3, dT (by omega), dT (by omega)]
 rfl
def twR : List Mp → List Mp → Bool
 | _, [] => false
 | pre, x :: r => pre.any (fun y => sameK y x) || twR (pre ++ [x]) r
end Go.Proofs.Ythnkmcfhpjmihaa.Q
end
