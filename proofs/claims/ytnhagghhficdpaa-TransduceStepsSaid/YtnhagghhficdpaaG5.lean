/- Lemmas, printed and written for this claim: part 5. -/
import Derived.WalkKit
import Derived.Test.YtnhagghhficdpaaG2
import Derived.Test.YtnhagghhficdpaaG4
import Derived.IntWalk
section
namespace Go.Proofs.Ytnhagghhficdpaa.Q
open Go.RowKit Go.Proofs.YtnhagghhficdpaaW.PrintWords Go.Proofs.YtnhagghhficdpaaW.PrintLast Go.Proofs.YtnhagghhficdpaaW.PrintMore
set_option linter.unusedVariables false
theorem applyS_step (l : List Ru) (text : List Int) (n a : Nat) (h : a < text.length) (hn : 0 < n) : applyS l text n (a : Int) = writtenS l text (a : Int) (stepS l text (a : Int)).1 ++ applyS l text (n - 1) ((a : Int) + (stepS l text (a : Int)).2) := by
  obtain ⟨n, rfl⟩ : ∃ m, n = m + 1 := ⟨n - 1, by omega⟩
  rw [applyS, if_pos (by omega)]
  rfl
/-- More rounds than elements left change nothing. -/
theorem applyS_more (l : List Ru) (text : List Int) (h1 : ∀ x ∈ l, 1 ≤ x.f1.length) : ∀ (n a m : Nat), text.length ≤ a + n → n ≤ m → applyS l text n (a : Int) = applyS l text m (a : Int)
  | 0, a, m, h, hm => by
    cases m with
    | zero => rfl
    | succ m => rw [applyS, applyS, if_neg (by omega)]
  | n + 1, a, m, h, hm => by
    obtain ⟨m, rfl⟩ : ∃ q, m = q + 1 := ⟨m - 1, by omega⟩
    rw [applyS, applyS]
    by_cases ha : (a : Int) < text.length
    · rw [if_pos ha, if_pos ha]
      obtain ⟨s, hs, hs1, hs2, _⟩ := stepS_bounds l text a (by omega) h1
      rw [hs, show (a : Int) + (s : Int) = ((a + s : Nat) : Int) by omega, applyS_more l text h1 n (a + s) m (by omega) (by omega)]
    · rw [if_neg ha, if_neg ha]
set_option maxHeartbeats 4000000 in
set_option maxRecDepth 100000 in
theorem apply_calls (A0 : Option Addr) (c0 : Nat) (l0 : List Ru) (A1 : Option Addr) (c1 : Nat) (l1 : List Int) (w : World) (hok : okRules l0 = true) (htx : l1.length < 100000000 ∧ ∀ c ∈ l1, (Lit.int .i64 c).wf = true) (hr0 : Kd.C k34 w A0 l0.length l0) (hc0 : l0.length ≤ c0) (hr1 : Kd.C (Kd.int .i64) w A1 l1.length l1) (hc1 : l1.length ≤ c1)
    (hd : (dataS l0).length < 100000000 ∧ ∀ x ∈ dataS l0, 1 ≤ x.f1.length ∧ (∀ s ∈ x.f0, s.f0.length < 1000) ∧ (∀ s ∈ x.f1, s.f0.length < 1000) ∧ (∀ s ∈ x.f2, s.f0.length < 1000) ∧ x.f0.length < 100000000 ∧ x.f1.length < 100000000 ∧ x.f2.length < 100000000)
    (hd3 : ∀ x ∈ dataS l0, x.f3.length ≤ 16 ∧ ∀ p ∈ x.f3, p.f1 ≤ (x.f1.length : Int)) :
    Calls Try.prog 16 #[.slice A0 l0.length c0, .slice A1 l1.length c1] w fun e w' => ∃ v0_ : Value, e = .returned (v0_) ∧ Kd.R (Kd.int .i64) 3 w' w.heap.size (fun _ => True) v0_ (applyS (dataS l0) l1 l1.length 0) ∧ Below w.heap.size w w' := by
  have HOK := Aside0.mk hok
  have HTX := Aside0.mk htx
  have HDO := Aside0.mk hd
  have HD3 := Aside0.mk hd3
  have HR := Aside0.mk hr0
  have HC := Aside0.mk hc0
  have HT := Aside0.mk hr1
  have HC1 := Aside0.mk hc1
  clear hok htx hr0 hc0 hr1 hc1 hd hd3
  go_enter Try.func16, Try.ntmps16
  go_wp2_with (go_at_call 28; (with_reducible refine (open_calls A0 c0 l0 _ HOK.out HR.out HC.out).mono ?_); rintro e w1 ⟨bm, mb, A, cA, rfl, hM, hCR, hcA, hmb, hbm, hne, hb⟩; have HM := Aside0.mk hM; have HCR := Aside0.mk hCR; have HCA := Aside0.mk hcA; have HMB := Aside0.mk hmb; have HB := Aside0.mk hb; clear hM hCR hcA hmb hbm hne hb)
  go_loopw [6, 7] (fun ov i wr => ∃ (a : Nat) (out : List Int), i = .int .i64 a ∧ Aside0 (a ≤ l1.length) ∧ Aside0 (applyS (dataS l0) l1 l1.length 0 = out ++ applyS (dataS l0) l1 (l1.length - a) (a : Int) ∧ out.length ≤ 16 * a) ∧ Aside0 (Kd.R (Kd.int .i64) 3 wr w.heap.size (fun _ => True) ov out) ∧ Aside0 (Mach wr ov.ownBlock bm mb A cA (dataS l0) a) ∧ Aside0 (Below w.heap.size w wr)) (fun _ i _ => l1.length - (intOf i).toNat)
  case atStart => exact ⟨0, [], rfl, ⟨Nat.zero_le _⟩, ⟨rfl, Nat.zero_le _⟩, ⟨Kd.R_nil _ _ _ _ _⟩, ⟨HM.out _⟩, HB⟩
  case round =>
    obtain ⟨a, out, rfl, HK, HEQ, HO, HM2, HB2⟩ := hrel
    by_cases hlt : a < l1.length
    · obtain ⟨n, hs, hn1, hn2, hcase⟩ := stepS_bounds (dataS l0) l1 a hlt (fun x hx => (HDO.out.2 x hx).1)
      have hsc := step_calls w wr bm mb A cA (dataS l0) a A1 c1 l1 (a : Int) _ (Kd.R_lt HO.out) HM2.out HB2.out HMB.out HCR.out HCA.out HDO.out.1 HDO.out.2 (by have := HTX.out.1; omega) HT.out HC1.out HTX.out.1 HTX.out.2
      have hst := applyS_step (dataS l0) l1 (l1.length - a) a hlt (by omega)
      have hmo := applyS_more (dataS l0) l1 (fun x hx => (HDO.out.2 x hx).1) (l1.length - (a + n)) (a + n) (l1.length - a - 1) (by omega) (by omega)
      rw [hs, show (a : Int) + (n : Int) = ((a + n : Nat) : Int) by omega] at hst
      rw [← hmo] at hst
      rw [hs] at hsc
      obtain ⟨i, hi⟩ : ∃ i, i = (stepS (dataS l0) l1 (a : Int)).1 := ⟨_, rfl⟩
      rw [← hi] at hsc hst hcase
      have hwl := (resV_written (dataS l0) l1 a n i hn1 hn2 HD3.out hcase).2
      have HSC := Aside0.mk hsc
      have HST := Aside0.mk hst
      have HCS := Aside0.mk hcase
      have HWL := Aside0.mk hwl
      have HN := Aside0.mk (And.intro hn1 hn2)
      clear hsc hst hmo hcase hs hi hwl
      have hdlt : decide ((a : Int) < (l1.length : Int)) = true := decide_eq_true (by omega)
      go_upto_region 6 with (go_at_call 29; (with_reducible refine HSC.out.mono ?_); rintro e w2 ⟨rfl, hM3, hb3, hk3⟩; have HM3 := Aside0.mk hM3; have HB3 := Aside0.mk hb3; have HK3 := Aside0.mk hk3; clear hM3 hb3 hk3)
      have HOW : Aside0 (Kd.R (Kd.int .i64) 3 w2 w.heap.size (fun _ => True) _ out) := ⟨Kd.R_mono (Kd.R_move (Kd.R_tight rfl HO.out) (fun k hk => by
        obtain ⟨cells, hc⟩ := Kd.R_typed HO.out k hk.symm
        obtain ⟨D, hD, _⟩ := HM2.out.map
        obtain ⟨es, clock, hmp⟩ := ownsMap_at hD
        rw [hc]
        exact HK3.out k _ hc (fun e => by rw [e, hmp] at hc; cases hc))) (fun _ _ => trivial)⟩
      have HCV : Aside0 (Kd.C (Kd.int .i64) w2 (A1.map (·.add a)) n ((l1.take (a + n)).drop a)) := ⟨by
        have h := Kd.C_mid (lo := a) (hi := a + n) (Kd.C_below HT.out HB3.out) (by omega) hn2 HC1.out
        rw [cov_len _ _ _ hn2, if_neg (by have := HC1.out; omega)] at h
        rw [show a * (Kd.int .i64).sz = a from Nat.mul_one a] at h
        exact h⟩
      obtain ⟨ad, e, _⟩ := Kd.at_int HT.out (a : Int) (by omega) (by omega)
      cases e
      have hw : wrap64 ((a : Int) + (n : Int)) = (a : Int) + (n : Int) := by have := HTX.out.1; unfold wrap64; omega
      have hx1 : (c1 = a) = False := eq_false (by have := HC1.out; omega)
      have hx2 : (0 ≤ (a : Int) + (n : Int)) = True := eq_true (by omega)
      have hx3 : ((a : Int) + (n : Int) ≤ (c1 : Int)) = True := eq_true (by have := HC1.out; omega)
      have hx4 : ((a : Int) ≤ (a : Int) + (n : Int)) = True := eq_true (by omega)
      have hx5 : a + n - a = n := by omega
      have HRC := Aside0.mk (res_calls bm A cA (dataS l0) l1 a n i (some (ad.add a)) (c1 - a) _ w2 rfl ((blk_cell HM3.out.blk 0).trans rfl) (Kd.C_below HCR.out HB3.out) hn1 hn2 HD3.out HCS.out HCV.out HTX.out.1)
      clear hlt hn1 hn2
      generalize writtenS (dataS l0) l1 (a : Int) i = wl at *
      go_wp2_with (first | (go_at_call 32; (with_reducible refine HRC.out.mono ?_); rintro e w3 ⟨Ao, co, rfl, hC, hb⟩; have HCW := Aside0.mk hC; have HB4 := Aside0.mk hb; clear hC hb) | (at_builtin; refine Kd.R_append_rows (Kd.int .i64) (w0 := w) w.heap.size rfl (.tmp 23) (.tmp 32) 23 3 (.int .i64 0) 8 rfl Try.underlying23 info3 rfl (by decide) (by omega) u6 out wl _ _ _ (fun _ => True) (fun _ => False) rfl rfl ?aO ?aR (fun _ _ h => h) (fun _ h => h.elim) ?aF ?aB ?aS ?aL ?_; (case aR => exact HCW.out); (case aB => exact below_step HB3.out HB4.out); (case aF => exact (fun _ _ => trivial)); (case aO => exact Kd.R_below HOW.out HB4.out); (case aS => exact (below_step HB3.out HB4.out).size); (case aL => have h1_ := HEQ.out.2; have h2_ := HWL.out; have h3_ := HTX.out.1; have h4_ := HK.out; have h5_ := HN.out; omega); intro v3 w4 ho hb hg hat; have HO4 := Aside0.mk ho; have HB5 := Aside0.mk hb; have HG4 := Aside0.mk hg; have HAT := Aside0.mk hat; clear ho hb hg hat))
      go_roundw
      case rel => exact ⟨a + n, out ++ wl, by rw [hw]; rfl, ⟨HN.out.2⟩, ⟨by rw [HEQ.out.1, HST.out, List.append_assoc], by rw [List.length_append]; have := HEQ.out.2; have := HWL.out; omega⟩, HO4, ⟨((HM3.out.below HB4.out).grown HG4.out (Kd.R_typed (Kd.R_below HOW.out HB4.out)) HAT.out).mono (by have := HN.out; omega)⟩, HB5⟩
      case measure => rw [hw]; simp only [intOf]; have := HN.out; omega
    · obtain rfl : a = l1.length := by have := HK.out; omega
      have hfin : applyS (dataS l0) l1 l1.length 0 = out := by rw [HEQ.out.1, Nat.sub_self, applyS, List.append_nil]
      have HF := Aside0.mk hfin
      clear hfin
      have hdlt : decide ((l1.length : Int) < (l1.length : Int)) = false := decide_eq_false (by omega)
      go_wp2
      go_ret
      exact ⟨_, rfl, by rw [HF.out]; exact HO.out, HB2.out⟩
end Go.Proofs.Ytnhagghhficdpaa.Q
end
section
namespace Go.Proofs.Ytnhagghhficdpaa.Q
open Go.RowKit Go.Maps Go.Proofs.YtnhagghhficdpaaW.PrintWords Go.Proofs.YtnhagghhficdpaaW.PrintLast Go.Proofs.YtnhagghhficdpaaW.PrintMore
set_option linter.unusedVariables false
def okText (l : List Int) : Bool := decide (l.length < 100000000) && l.all fun c => (Lit.int .i64 c).wf
theorem firstErr_ok : ∀ l : List Ru, firstErr l = 0 → ∀ x ∈ l, oneS x = 0
  | [], _, x, h => by cases h
  | y :: l, h, x, hx => by
    rw [firstErr] at h
    split at h
    · rename_i h0
      rcases List.mem_cons.1 hx with rfl | hx
      · exact h0
      · exact firstErr_ok l h x hx
    · rename_i h0; exact absurd h h0
theorem oneS_ok (x : Ru) (h : oneS x = 0) : 1 ≤ x.f1.length ∧ x.f1.length ≤ 8 ∧ x.f0.length ≤ 8 ∧ x.f2.length ≤ 8 ∧ x.f3.length ≤ 16 := by
  unfold oneS at h
  split at h
  · cases h
  · omega
theorem data_ok (l : List Ru) (h : okRules l = true) : (dataS l).length < 100000000 ∧ ∀ x ∈ dataS l, 1 ≤ x.f1.length ∧ (∀ s ∈ x.f0, s.f0.length < 1000) ∧ (∀ s ∈ x.f1, s.f0.length < 1000) ∧ (∀ s ∈ x.f2, s.f0.length < 1000) ∧ x.f0.length < 100000000 ∧ x.f1.length < 100000000 ∧ x.f2.length < 100000000 := by
  unfold okRules at h
  rw [Bool.and_eq_true, decide_eq_true_eq, List.all_eq_true] at h
  unfold dataS
  split
  · rename_i hc
    refine ⟨h.1, fun x hx => ?_⟩
    have h1 : oneS x = 0 := by
      unfold checkS at hc
      split at hc
      · cases hc
      · exact firstErr_ok l hc x hx
    have h2 := oneS_ok x h1
    have h3 := h.2 x hx
    simp only [okRule, Bool.and_eq_true, List.all_eq_true, okSet, decide_eq_true_eq] at h3
    refine ⟨h2.1, fun s hs => ?_, fun s hs => ?_, fun s hs => ?_, by omega, by omega, by omega⟩
    · have := h3.2.1 s hs; omega
    · have := h3.2.2.1 s hs; omega
    · have := h3.2.2.2 s hs; omega
  · exact ⟨by simp, fun x hx => by cases hx⟩
theorem oneS_pieces (x : Ru) (h : oneS x = 0) : ∀ p ∈ x.f3, p.f1 ≤ (x.f1.length : Int) := by
  unfold oneS at h
  split at h
  · cases h
  · split at h
    · cases h
    · split at h
      · cases h
      · rename_i h3
        intro p hp
        have h4 : pieceBad x.f1.length p = false := by
          cases hb : pieceBad x.f1.length p with
          | false => rfl
          | true => exact absurd (List.any_eq_true.2 ⟨p, hp, hb⟩) h3
        unfold pieceBad at h4
        simp only [Bool.not_eq_false', Bool.or_eq_true, Bool.and_eq_true, decide_eq_true_eq] at h4
        omega
theorem data_one (l : List Ru) : ∀ x ∈ dataS l, oneS x = 0 := by
  unfold dataS
  split
  · rename_i hc
    intro x hx
    unfold checkS at hc
    split at hc
    · cases hc
    · exact firstErr_ok l hc x hx
  · intro x hx; cases hx
theorem data_ok3 (l : List Ru) : ∀ x ∈ dataS l, x.f3.length ≤ 16 ∧ ∀ p ∈ x.f3, p.f1 ≤ (x.f1.length : Int) := fun x hx => ⟨(oneS_ok x (data_one l x hx)).2.2.2.2, oneS_pieces x (data_one l x hx)⟩
def transduce_Step.f (l0 : List Ru) (l1 : List Int) (a2 : Int) : Option (Int × Int) := if okRules l0 = true ∧ okText l1 = true then some (stepS (dataS l0) l1 a2) else none
def transduce_Apply.f (l0 : List Ru) (l1 : List Int) : Option (List Int) := if okRules l0 = true ∧ okText l1 = true then some (applyS (dataS l0) l1 l1.length 0) else none
def transduce_Reach.f (l0 : List Ru) : Option (Int × Int) := if okRules l0 = true then some (reachS (dataS l0)) else none
set_option maxHeartbeats 4000000 in
set_option maxRecDepth 100000 in
theorem transduce_Step.calls (A0 : Option Addr) (c0 : Nat) (l0 : List (S34)) (A1 : Option Addr) (c1 : Nat) (l1 : List Int) (a2 : Int) (r1 : Int) (r2 : Int) (w : World) (hr0 : Kd.C k34 w A0 l0.length l0) (hc0 : l0.length ≤ c0) (hr1 : Kd.C (Kd.int .i64) w A1 l1.length l1) (hc1 : l1.length ≤ c1) (h : transduce_Step.f l0 l1 a2 = some (r1, r2)) :
    Calls Try.prog 13 #[.slice A0 l0.length c0, .slice A1 l1.length c1, .int .i64 a2] w fun e w' => e = .returned (.tuple #[.int .i64 r1, .int .i64 r2]) ∧ Below w.heap.size w w' := by
  have hn : (okRules l0 = true ∧ okText l1 = true) ∧ stepS (dataS l0) l1 a2 = (r1, r2) := by
    unfold transduce_Step.f at h
    split at h
    · rename_i hl; exact ⟨hl, Option.some.inj h⟩
    · cases h
  obtain ⟨⟨hok, htx⟩, hres⟩ := hn
  unfold okText at htx
  rw [Bool.and_eq_true, decide_eq_true_eq, List.all_eq_true] at htx
  have HOK := Aside0.mk hok
  have HTX := Aside0.mk htx
  have HDO := Aside0.mk (data_ok l0 hok)
  have HRES := Aside0.mk hres
  have HR := Aside0.mk hr0
  have HC := Aside0.mk hc0
  have HT := Aside0.mk hr1
  have HC1 := Aside0.mk hc1
  clear hok htx hres hr0 hc0 hr1 hc1 h
  go_enter Try.func13, Try.ntmps13
  go_wp2_with (first | (go_at_call 28; (with_reducible refine (open_calls A0 c0 l0 _ HOK.out HR.out HC.out).mono ?_); rintro e w1 ⟨bm, mb, A, cA, rfl, hM, hCR, hcA, hmb, hbm, hne, hb⟩; have HM := Aside0.mk hM; have HCR := Aside0.mk hCR; have HCA := Aside0.mk hcA; have HMB := Aside0.mk hmb; have HB := Aside0.mk hb; clear hM hCR hcA hmb hbm hne hb) | (go_at_call 29; (with_reducible refine (step_calls w w1 bm mb A cA (dataS l0) 0 A1 c1 l1 a2 none (fun _ h => by cases h) (HM.out none) HB.out HMB.out HCR.out HCA.out HDO.out.1 HDO.out.2 (by decide) HT.out HC1.out HTX.out.1 HTX.out.2).mono ?_); rintro e w2 ⟨rfl, hM2, hb2, hk2⟩; have HB2 := Aside0.mk hb2; clear hM2 hb2 hk2))
  go_ret2
  exact ⟨by rw [HRES.out]; rfl, HB2.out⟩
theorem transduce_Apply.calls (A0 : Option Addr) (c0 : Nat) (l0 : List (S34)) (A1 : Option Addr) (c1 : Nat) (l1 : List Int) (r : List Int) (w : World) (hr0 : Kd.C k34 w A0 l0.length l0) (hc0 : l0.length ≤ c0) (hr1 : Kd.C (Kd.int .i64) w A1 l1.length l1) (hc1 : l1.length ≤ c1) (h : transduce_Apply.f l0 l1 = some r) :
    Calls Try.prog 16 #[.slice A0 l0.length c0, .slice A1 l1.length c1] w fun e w' => ∃ v0_ : Value, e = .returned (v0_) ∧ Kd.R (Kd.int .i64) 3 w' w.heap.size (fun _ => True) v0_ r ∧ Below w.heap.size w w' := by
  have hn : (okRules l0 = true ∧ okText l1 = true) ∧ applyS (dataS l0) l1 l1.length 0 = r := by
    unfold transduce_Apply.f at h
    split at h
    · rename_i hl; exact ⟨hl, Option.some.inj h⟩
    · cases h
  obtain ⟨⟨hok, htx⟩, hres⟩ := hn
  unfold okText at htx
  rw [Bool.and_eq_true, decide_eq_true_eq, List.all_eq_true] at htx
  rw [← hres]
  exact apply_calls A0 c0 l0 A1 c1 l1 w hok htx hr0 hc0 hr1 hc1 (data_ok l0 hok) (data_ok3 l0)
attribute [local go_sem] max2_int max_two
end Go.Proofs.Ytnhagghhficdpaa.Q
end
