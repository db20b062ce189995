/- Lemmas, printed and written for this claim: part 6. -/
import Derived.WalkKit
import Derived.WalkSpells
import Derived.Deep.RegionHeld3
import Derived.Deep.RegionLaw
import Derived.Deep.LoopGhost
import Derived.IntWalk
import Derived.Maps.Range
import Derived.Test.YtcpicopaobhlcaaG5
import Derived.Test.YtcpicopaobhlcaaG2
import Derived.Defers
import Derived.LaidEqlPtr
import Derived.Test.YtcpicopaobhlcaaG3
import Derived.Test.YtcpicopaobhlcaaG4
section
namespace Go.Proofs.Ytcpicopaobhlcaa.Q
open Go.RowKit Go.Proofs.YtcpicopaobhlcaaW.PrintWords Go.Proofs.YtcpicopaobhlcaaW.PrintLast Go.Proofs.YtcpicopaobhlcaaW.PrintMore
set_option linter.unusedVariables false
theorem Strm.after {w w1 : World} {b : Nat} {ok : Nat → Prop} {t : List Int} {a : Nat} {l : List Ru} {be ah : Nat} {v v1 : Value} (h : Strm w b (fun k => ok k ∧ some k ≠ v.ownBlock) t a l be ah) (hg : w.grownBy w1 v.ownBlock) (hat : v1.ownBlock = v.ownBlock ∨ ∃ c, v1.ownBlock = some c ∧ w.heap.size ≤ c) (hb : some b ≠ v.ownBlock) : Strm w1 b (fun k => ok k ∧ some k ≠ v1.ownBlock) t a l be ah := by
  obtain ⟨At, ct, Al, cl, h1, h2, h3, h4, h5⟩ := h
  exact ⟨At, ct, Al, cl, blk_grown h1 hg hb, h2, Kd.F_after h3 hg hat, h4, Kd.F_after h5 hg hat⟩
/-- A row of whole numbers of the call's own is not the stream's block. -/
theorem Strm.notrow {w : World} {b : Nat} {ok ok' : Nat → Prop} {t : List Int} {a : Nat} {l : List Ru} {be ah : Nat} (h : Strm w b ok t a l be ah) {base : Nat} {v : Value} {xs : List Int} (hr : Kd.R (Kd.int .i64) 3 w base ok' v xs) : some b ≠ v.ownBlock := fun e => by
  obtain ⟨At, ct, Al, cl, h1, _⟩ := h
  obtain ⟨cells, hc⟩ := Kd.R_typed hr b e.symm
  rw [show w.heap[b]? = _ from h1] at hc
  injection hc with hc
  injection hc with _ hc2
  exact absurd hc2 (by decide)
theorem rowKeep {w w' : World} {b base : Nat} {ok : Nat → Prop} {v : Value} {xs : List Int} (hr : Kd.R (Kd.int .i64) 3 w base ok v xs) (hg : w.grownBy w' (some b)) (hb : some b ≠ v.ownBlock) : Kd.R (Kd.int .i64) 3 w' base (fun _ => True) v xs :=
  Kd.R_mono (Kd.R_step (Kd.R_tight rfl hr) (fun k hk hlt => hg.block k hlt (fun e => hb (by rw [← e, hk])))) (fun _ _ => trivial)
set_option maxHeartbeats 4000000 in
set_option maxRecDepth 100000 in
theorem sRun_calls (b : Nat) (ok : Nat → Prop) (t : List Int) (a : Nat) (l : List Ru) (be ah least : Nat) (w : World) (hS : Strm w b ok t a l be ah) (hok : ¬ ok b) (hnew : ∀ k, w.heap.size ≤ k → ok k) (ht : t.length < 10000000) (ha : a ≤ t.length) (htx : okText t = true)
    (hrl : okRules l = true) (hd : dataS l = l) (hsp : SpOk l be ah) (hl : 1 ≤ least) (hl2 : least < 1000000) (hbe : be < 1000000) :
    Calls Try.prog 31 #[.pointer (some ⟨b, 0, none⟩), .int .i64 least] w fun e w' => ∃ v, e = .returned v ∧ Kd.R (Kd.int .i64) 3 w' w.heap.size (fun _ => True) v (spRun l t least a).1 ∧ Strm w' b ok (t.drop ((spRun l t least a).2 - be)) ((spRun l t least a).2 - ((spRun l t least a).2 - be)) l be ah ∧ w.grownBy w' (some b) := by
  have HS := Aside0.mk hS
  have HOK := Aside0.mk hok
  have HNEW := Aside0.mk hnew
  have HTL := Aside0.mk ht
  have HA := Aside0.mk ha
  have HTX := Aside0.mk htx
  have HRL := Aside0.mk hrl
  have HD := Aside0.mk hd
  have HSP := Aside0.mk hsp
  have HLE := Aside0.mk (And.intro hl hl2)
  have HBE := Aside0.mk hbe
  clear hS hok hnew ht ha htx hrl hd hsp hl hl2 hbe
  go_enter Try.func31, Try.ntmps31
  go_upto_region 2 with (fail)
  go_loopg [5] (t.length + 1) (fun kq ov wr => ∃ (c : Nat) (out : List Int), Aside0 (c ≤ t.length ∧ t.length + 1 ≤ c + kq) ∧ Aside0 (spRun l t least a = (out ++ (spRun l t least c).1, (spRun l t least c).2) ∧ out.length ≤ 16 * c) ∧ Aside0 (Kd.R (Kd.int .i64) 3 wr w.heap.size (fun _ => True) ov out) ∧ Aside0 (Strm wr b (fun k => ok k ∧ some k ≠ ov.ownBlock) t c l be ah) ∧ Aside0 (w.grownBy wr (some b)))
  case atStart => exact ⟨a, [], ⟨HA.out, by omega⟩, ⟨by simp, Nat.zero_le _⟩, ⟨Kd.R_nil _ _ _ _ _⟩, ⟨HS.out.mono (fun k hk => ⟨hk, by simp [Value.ownBlock]⟩)⟩, ⟨World.grownBy.refl _ _⟩⟩
  case round =>
    obtain ⟨c, out, HK, HEQ, HO, HS2, HG⟩ := hrel
    have hnb := HS2.out.notrow HO.out
    obtain ⟨At, ct, Al, cl, hB, _⟩ := HS2.out
    have HBK := Aside0.mk hB
    have q3 := hB.c3
    clear hB
    by_cases hc : c + least ≤ t.length
    · cases gk with
      | zero => have := HK.out; have := HLE.out; omega
      | succ k1 =>
        have hcl : c < t.length := by have := HLE.out; omega
        obtain ⟨n, hs, hn1, hn2, hcase⟩ := stepS_bounds l t c hcl HSP.out.one
        have hst := spRun_step l t least HSP.out.one HLE.out.1 c n hc hs hn1
        have hwl : (writtenS l t (c : Int) (stepS l t (c : Int)).1).length ≤ 16 * n := (resV_written l t c n _ hn1 hn2 HSP.out.pcs hcase).2
        have hd1 : decide ((t.length : Int) - (c : Int) ≥ (least : Int)) = true := decide_eq_true (by omega)
        have hlt := Kd.R_lt HO.out
        have HSC := Aside0.mk (sStep_calls b (fun k => ok k ∧ some k ≠ u5.ownBlock) t c l be ah n)
        have HSCF := Aside0.mk (And.intro hcl (And.intro hs (And.intro hn1 (And.intro hn2 hcase))))
        have HST := Aside0.mk hst
        have HWL := Aside0.mk hwl
        have HN := Aside0.mk (And.intro hn1 hn2)
        have HNB := Aside0.mk hnb
        have HLT := Aside0.mk hlt
        clear hst hs hcase hwl hc hlt hnb hn1 hn2 hcl
        generalize writtenS l t (c : Int) (stepS l t (c : Int)).1 = wl at *
        go_wp2_with (first | (go_at_call 45; (with_reducible refine (sRest_calls b At t.length ct (c : Int) Al l.length cl be ah _ HBK.out (by have := HTL.out; omega) (by have := HTL.out; have := HN.out; omega)).mono ?_); rintro e w2 ⟨rfl, hb⟩; have HB2 := Aside0.mk hb; clear hb) | (go_at_call 46; (with_reducible refine (HSC.out _ (HS2.out.below HB2.out) (fun h => absurd h.1 HOK.out) (fun k hk => ⟨HNEW.out k (Nat.le_trans HG.out.size (Nat.le_trans HB2.out.size hk)), fun e => by have := HLT.out k e.symm; have := HB2.out.size; omega⟩) HTL.out HSCF.out.1 HTX.out HRL.out HD.out HSCF.out.2.1 HSCF.out.2.2.1 HSCF.out.2.2.2.1 HSP.out.pcs HSCF.out.2.2.2.2).mono ?_); rintro e w3 ⟨A3, c3, rfl, h3a, h3b, h3s, h3g⟩; have HF3 := Aside0.mk h3b; have HS3 := Aside0.mk h3s; have HG3 := Aside0.mk h3g; have HO3 := Aside0.mk (rowKeep (Kd.R_below HO.out HB2.out) h3g HNB.out); clear h3a h3b h3s h3g) | (at_builtin; refine Kd.R_append_rows (Kd.int .i64) (w0 := w3) w.heap.size rfl (.tmp 12) (.tmp 14) 31 3 (.int .i64 0) 8 rfl Try.underlying31 info3 rfl (by decide) (by omega) u5 out wl _ _ _ (fun _ => True) (fun _ => False) rfl rfl ?aO ?aR (fun _ _ h => h) (fun _ h => h.elim) ?aF ?aB ?aS ?aL ?_; (case aR => exact Kd.F_now HF3.out); (case aB => exact Below.refl _ _); (case aF => exact (fun _ _ => trivial)); (case aO => exact HO3.out); (case aS => exact Nat.le_trans HG.out.size (Nat.le_trans HB2.out.size HG3.out.size)); (case aL => have h1_ := HEQ.out.2; have h2_ := HWL.out; have h3_ := HTL.out; have h4_ := HK.out; have h5_ := HN.out; omega); intro v4 w4 ho hb hg hat; have HO4 := Aside0.mk ho; have HB4 := Aside0.mk hb; have HG4 := Aside0.mk hg; have HAT := Aside0.mk hat; clear ho hb hg hat))
        go_roundg k1
        case measure => omega
        case rel => exact ⟨c + n, out ++ wl, ⟨HN.out.2, by have := HK.out; have := HN.out; omega⟩, ⟨by rw [HEQ.out.1, HST.out, List.append_assoc], by rw [List.length_append]; have := HEQ.out.2; have := HWL.out; omega⟩, HO4, ⟨HS3.out.after HG4.out HAT.out HNB.out⟩, ⟨World.grownBy.andThen ((gbBelow HG.out HB2.out).trans HG3.out) HG4.out (fun k hk => .inl (Kd.R_base HO.out k hk))⟩⟩
    · have hst := spRun_stop l t least c (by omega)
      have hfin : spRun l t least a = (out, c) := by rw [HEQ.out.1, hst, List.append_nil]
      have hd1 : decide ((t.length : Int) - (c : Int) ≥ (least : Int)) = false := decide_eq_false (by omega)
      have HF := Aside0.mk hfin
      have HNB := Aside0.mk hnb
      clear hst hfin hc hnb
      go_wp2_with (go_at_call 45; (with_reducible refine (sRest_calls b At t.length ct (c : Int) Al l.length cl be ah _ HBK.out (by have := HTL.out; omega) (by have := HTL.out; have := HK.out; omega)).mono ?_); rintro e w2 ⟨rfl, hb⟩; have p3 := pw_cell_below hb q3; clear q3; have HB2 := Aside0.mk hb; clear hb)
      go_region_held3 (fun w' => w'.cell? ⟨b, 3, none⟩ = some (.int .i64 be)) (first | go_keep | (obtain ⟨_, _, _, _, hB5, _⟩ := hS5; exact hB5.c3))
        (first | (go_at_call 47; (with_reducible refine (sKeep_calls b (fun k => ok k ∧ some k ≠ u5.ownBlock) t c l be ah be _ (HS2.out.below ?s1) (fun h => absurd h.1 HOK.out) HK.out.1 (by have := HTL.out; omega) (by have := HBE.out; omega)).mono ?_); (case s1 => exact (by repeat (first | (with_reducible first | exact HB2.out | apply below_alloc | apply pw_below_drewN | apply below_drew1) | exact HB2.out))); rintro e w5 ⟨rfl, hS5, hg5⟩; have HB5 := Aside0.mk (show wr.grownBy _ (some b) from grown_of_below (by repeat (first | (with_reducible first | exact HB2.out | apply below_alloc | apply pw_below_drewN | apply below_drew1) | exact HB2.out)) _); have HS5 := Aside0.mk hS5; have HG5 := Aside0.mk hg5))
      clear hS5 hg5
      go_wp2
      go_ret
      rw [HF.out]
      exact ⟨u5, rfl, rowKeep (Kd.R_below HO.out (below_drew1 HB2.out)) HG5.out HNB.out, HS5.out.mono (fun k h => h.1), (gbBelow HG.out (below_drew1 HB2.out)).trans HG5.out⟩
end Go.Proofs.Ytcpicopaobhlcaa.Q
end
section
namespace Go.Proofs.Ytcpicopaobhlcaa.Q
open Go.RowKit Go.Proofs.YtcpicopaobhlcaaW.PrintWords Go.Proofs.YtcpicopaobhlcaaW.PrintLast Go.Proofs.YtcpicopaobhlcaaW.PrintMore
set_option linter.unusedVariables false
set_option maxHeartbeats 2000000 in
set_option maxRecDepth 100000 in
theorem sWrite_calls (b : Nat) (ok : Nat → Prop) (t : List Int) (a : Nat) (l : List Ru) (be ah : Nat) (A1 : Option Addr) (c1 : Nat) (text : List Int) (w : World) (hS : Strm w b ok t a l be ah) (hok : ¬ ok b) (hnew : ∀ k, w.heap.size ≤ k → ok k) (ht : t.length + text.length < 10000000) (ha : a ≤ t.length) (htx : okText (t ++ text) = true)
    (hrl : okRules l = true) (hd : dataS l = l) (hsp : SpOk l be ah) (hah : ah < 1000000) (hbe : be < 1000000) (hT : Kd.C (Kd.int .i64) w A1 text.length text) (hc1 : text.length ≤ c1) :
    Calls Try.prog 14 #[.pointer (some ⟨b, 0, none⟩), .slice A1 text.length c1] w fun e w' => ∃ v, e = .returned (.tuple #[v, .int .i64 0]) ∧ Kd.R (Kd.int .i64) 3 w' w.heap.size (fun _ => True) v (spWrite l be ah (t, a) text).1 ∧ Strm w' b ok (spWrite l be ah (t, a) text).2.1 (spWrite l be ah (t, a) text).2.2 l be ah ∧ w.grownBy w' (some b) := by
  have hpos := hsp.ahp
  have HS := Aside0.mk hS
  obtain ⟨At, ct, Al, cl, hB, _⟩ := hS
  have HBK := Aside0.mk hB
  clear hB
  have HOK := Aside0.mk hok
  have HNEW := Aside0.mk hnew
  have HTL := Aside0.mk ht
  have HA := Aside0.mk ha
  have HTX := Aside0.mk htx
  have HRL := Aside0.mk hrl
  have HD := Aside0.mk hd
  have HSP := Aside0.mk hsp
  have HAH := Aside0.mk hah
  have HBE := Aside0.mk hbe
  have HT := Aside0.mk hT
  have HC1 := Aside0.mk hc1
  have hdp : decide ((ah : Int) > 0) = true := decide_eq_true (by omega)
  have hdq : decide (0 < ah) = true := decide_eq_true hpos
  clear hok hnew ht ha htx hrl hd hsp hah hbe hT hc1 hpos
  go_enter Try.func14, Try.ntmps14
  go_wp2_with (first | (go_at_call 29; (with_reducible refine (sOpen_calls b At t.length ct (a : Int) Al l.length cl be ah _ HBK.out).mono ?_); rintro e w2 ⟨rfl, hb⟩; have HB2 := Aside0.mk hb; clear hb) | (go_at_call 30; (with_reducible refine (sAdd_calls b ok t a l be ah A1 c1 text _ (HS.out.below HB2.out) HOK.out (fun k hk => HNEW.out k (Nat.le_trans HB2.out.size hk)) (by have := HTL.out; omega) (Kd.C_below HT.out HB2.out) HC1.out).mono ?_); rintro e w3 ⟨rfl, hs3, hg3⟩; obtain ⟨A3, c3, A4, c4, hB3, _⟩ := id hs3; have p4 := hB3.c4; have HS3 := Aside0.mk hs3; have HG3 := Aside0.mk hg3; clear hs3 hg3 hB3) | (go_at_call 31; (with_reducible refine (sRun_calls b ok (t ++ text) a l be ah ah _ HS3.out HOK.out (fun k hk => HNEW.out k (Nat.le_trans HB2.out.size (Nat.le_trans HG3.out.size hk))) (by rw [List.length_append]; exact HTL.out) (by rw [List.length_append]; have := HA.out; omega) HTX.out HRL.out HD.out HSP.out HSP.out.ahp HAH.out HBE.out).mono ?_); rintro e w4 ⟨v4, rfl, hv4, hs4, hg4⟩; have HV4 := Aside0.mk hv4; have HS4 := Aside0.mk hs4; have HG4 := Aside0.mk hg4; clear hv4 hs4 hg4))
  go_ret2
  have hsz : w.heap.size ≤ w3.heap.size := Nat.le_trans HB2.out.size HG3.out.size
  exact ⟨v4, rfl, Kd.R_lower HV4.out hsz, HS4.out, (gbBelow (World.grownBy.refl _ _) HB2.out).trans (HG3.out.trans HG4.out)⟩
/-- A stream that is closed. -/
def StrmZ (w : World) (b : Nat) : Prop := StrmB w b none 0 0 0 none 0 0 0 0 ∨ ∃ At ct Al nl cl be, ∃ a : Int, ∃ nt, StrmB w b At nt ct a Al nl cl be 0
theorem StrmZ.any {w : World} {b : Nat} (h : StrmZ w b) : ∃ At ct Al nl cl be, ∃ a : Int, ∃ nt, StrmB w b At nt ct a Al nl cl be 0 := by
  rcases h with h | h
  · exact ⟨_, _, _, _, _, _, _, _, h⟩
  · exact h
theorem StrmZ.below {w w' : World} {b : Nat} (h : StrmZ w b) (hb : Below w.heap.size w w') : StrmZ w' b := by
  rcases h with h | ⟨_, _, _, _, _, _, _, _, h⟩
  · exact .inl (h.below hb)
  · exact .inr ⟨_, _, _, _, _, _, _, _, h.below hb⟩
set_option maxHeartbeats 2000000 in
theorem sWrite_closed (b : Nat) (v : Value) (w : World) (hS : StrmZ w b) :
    Calls Try.prog 14 #[.pointer (some ⟨b, 0, none⟩), v] w fun e w' => e = .returned (.tuple #[.slice none 0 0, .int .i64 15]) ∧ Below w.heap.size w w' := by
  obtain ⟨At, ct, Al, nl, cl, be, a, nt, hB⟩ := hS.any
  have HBK := Aside0.mk hB
  clear hB
  go_enter Try.func14, Try.ntmps14
  go_wp2_with (go_at_call 29; (with_reducible refine (sOpen_calls b At nt ct a Al nl cl be 0 _ HBK.out).mono ?_); rintro e w2 ⟨rfl, hb⟩; have HB2 := Aside0.mk hb; clear hb)
  go_ret2
  exact ⟨rfl, HB2.out⟩
end Go.Proofs.Ytcpicopaobhlcaa.Q
end
section
namespace Go.Proofs.Ytcpicopaobhlcaa.Q
open Go.RowKit Go.Proofs.YtcpicopaobhlcaaW.PrintWords Go.Proofs.YtcpicopaobhlcaaW.PrintLast Go.Proofs.YtcpicopaobhlcaaW.PrintMore
set_option linter.unusedVariables false
set_option maxHeartbeats 2000000 in
theorem sClose_deferred (b : Nat) (At : Option Addr) (nt ct : Nat) (a : Int) (Al : Option Addr) (nl cl : Nat) (be ah : Int) (u : FrameMode) (w : World) (hB : StrmB w b At nt ct a Al nl cl be ah) :
    CallsD Try.prog 32 #[.pointer (some ⟨b, 0, none⟩)] u w fun e u' w' => u' = u ∧ (e = .returned (.tuple #[]) ∧ StrmB w' b none 0 0 0 Al nl cl be 0 ∧ w.grownBy w' (some b)) := by
  have c0 := hB.c0
  have c1 := hB.c1
  have c4 := hB.c4
  have f0 := hB.fz 0
  have f1 := hB.fz 1
  have f4 := hB.fz 4
  have HBK := Aside0.mk hB
  clear hB
  have hu1 := Try.underlying51
  go_enter_d Try.func32, Try.ntmps32
  go_wp2
  go_end0
  exact ⟨rfl, ((HBK.out.set4 0).set0 none 0 0).set1 0, (gbSet _ _ _ _).trans ((gbSet _ _ _ _).trans (gbSet _ _ _ _))⟩
theorem sRun1_calls (b : Nat) (ok : Nat → Prop) (t : List Int) (a : Nat) (l : List Ru) (be ah : Nat) (w : World) (hS : Strm w b ok t a l be ah) (hok : ¬ ok b) (hnew : ∀ k, w.heap.size ≤ k → ok k) (ht : t.length < 10000000) (ha : a ≤ t.length) (htx : okText t = true)
    (hrl : okRules l = true) (hd : dataS l = l) (hsp : SpOk l be ah) (hbe : be < 1000000) :
    Calls Try.prog 31 #[.pointer (some ⟨b, 0, none⟩), .int .i64 1] w fun e w' => ∃ v, e = .returned v ∧ Kd.R (Kd.int .i64) 3 w' w.heap.size (fun _ => True) v (spRun l t 1 a).1 ∧ Strm w' b ok (t.drop ((spRun l t 1 a).2 - be)) ((spRun l t 1 a).2 - ((spRun l t 1 a).2 - be)) l be ah ∧ w.grownBy w' (some b) :=
  sRun_calls b ok t a l be ah 1 w hS hok hnew ht ha htx hrl hd hsp (Nat.le_refl _) (by decide) hbe
set_option maxHeartbeats 2000000 in
set_option maxRecDepth 100000 in
theorem sClose_calls (b : Nat) (ok : Nat → Prop) (t : List Int) (a : Nat) (l : List Ru) (be ah : Nat) (w : World) (hS : Strm w b ok t a l be ah) (hok : ¬ ok b) (hnew : ∀ k, w.heap.size ≤ k → ok k) (ht : t.length < 10000000) (ha : a ≤ t.length) (htx : okText t = true)
    (hrl : okRules l = true) (hd : dataS l = l) (hsp : SpOk l be ah) (hbe : be < 1000000) :
    Calls Try.prog 15 #[.pointer (some ⟨b, 0, none⟩)] w fun e w' => ∃ v, e = .returned (.tuple #[v, .int .i64 0]) ∧ Kd.R (Kd.int .i64) 3 w' w.heap.size (fun _ => True) v (spRun l t 1 a).1 ∧ StrmZ w' b ∧ w.grownBy w' (some b) := by
  have HS := Aside0.mk hS
  obtain ⟨At, ct, Al, cl, hB, _⟩ := hS
  have HBK := Aside0.mk hB
  have hdq : decide (0 < ah) = true := decide_eq_true hsp.ahp
  have HOK := Aside0.mk hok
  have HNEW := Aside0.mk hnew
  have HTL := Aside0.mk ht
  have HA := Aside0.mk ha
  have HTX := Aside0.mk htx
  have HRL := Aside0.mk hrl
  have HD := Aside0.mk hd
  have HSP := Aside0.mk hsp
  have HBE := Aside0.mk hbe
  clear hok hnew ht ha htx hrl hd hsp hbe hB
  go_enter_defers Try.func15, Try.ntmps15
  go_wp2_with (first | (go_at_call 29; (with_reducible refine (sOpen_calls b At t.length ct (a : Int) Al l.length cl be ah _ HBK.out).mono ?_); rintro e w2 ⟨rfl, hb⟩; have HB2 := Aside0.mk hb; clear hb) | (go_at_call 31; (with_reducible refine (sRun1_calls b ok t a l be ah _ (HS.out.below HB2.out) HOK.out (fun k hk => HNEW.out k (Nat.le_trans HB2.out.size hk)) HTL.out HA.out HTX.out HRL.out HD.out HSP.out HBE.out).mono ?_); rintro e w4 ⟨v4, rfl, hv4, hs4, hg4⟩; have HV4 := Aside0.mk hv4; have HS4 := Aside0.mk hs4; have HG4 := Aside0.mk hg4; clear hv4 hs4 hg4))
  obtain ⟨A5, c5, A6, c6, hB5, _⟩ := id HS4.out
  refine leaves_cons (f := 32) (args := #[.pointer (some ⟨b, 0, none⟩)]) (by simp) (by simp [go_sem]) ?_
  refine (sClose_deferred b _ _ _ _ _ _ _ _ _ .returning _ hB5).mono ?_
  rintro e u' w'' ⟨rfl, rfl, hz, hg⟩
  exact ⟨_, results_tmp2 rfl _ _ _, v4, rfl, rowKeep (Kd.R_lower HV4.out HB2.out.size) hg (HS4.out.notrow HV4.out), .inr ⟨_, _, _, _, _, _, _, _, hz⟩, (gbBelow (World.grownBy.refl _ _) HB2.out).trans (HG4.out.trans hg)⟩
end Go.Proofs.Ytcpicopaobhlcaa.Q
end
section
namespace Go.Proofs.Ytcpicopaobhlcaa.Q
open Go.RowKit Go.Proofs.YtcpicopaobhlcaaW.PrintWords Go.Proofs.YtcpicopaobhlcaaW.PrintLast Go.Proofs.YtcpicopaobhlcaaW.PrintMore
set_option linter.unusedVariables false
def spLenB (x : Ru) : Bool := decide (x.f0.length ≤ 20) && (decide (x.f1.length ≤ 20) && (decide (x.f2.length ≤ 20) && decide (x.f3.length ≤ 20)))
def spRuleB (x : Ru) : Bool := spLenB x && (x.f0 ++ x.f1 ++ x.f2).all okSet
def spSmallB (l : List Ru) : Bool := decide (l.length ≤ 220) && l.all spRuleB
theorem spSmall_few (l : List Ru) (h : spSmallB l = true) : plFewL l := by
  unfold spSmallB at h
  rw [Bool.and_eq_true, decide_eq_true_eq, List.all_eq_true] at h
  refine ⟨h.1, fun x hx => ?_⟩
  have h2 := h.2 x hx
  unfold spRuleB spLenB at h2
  simp only [Bool.and_eq_true, decide_eq_true_eq, List.all_append, List.all_eq_true, okSet] at h2
  obtain ⟨⟨a0, a1, a2, a3⟩, ⟨b0, b1⟩, b2⟩ := h2
  exact ⟨⟨a0, b0⟩, ⟨a1, b1⟩, ⟨a2, b2⟩, a3⟩
theorem spAll_false {l : List Ru} {x : Ru} (hx : x ∈ l) (h : spRuleB x = false) : spSmallB l = false := by
  unfold spSmallB
  rw [Bool.and_eq_false_iff]
  right
  rw [List.all_eq_false]
  exact ⟨x, hx, by rw [h]; decide⟩
theorem spOwnNew {v1 : Value} {n : Nat} (hat : v1.ownBlock = (.slice none 0 0 : Value).ownBlock ∨ ∃ b, v1.ownBlock = some b ∧ n ≤ b) : ∀ k, v1.ownBlock = some k → n ≤ k := by
  intro k hk
  rcases hat with h | ⟨b, h, hb⟩
  · rw [h] at hk; simp [Value.ownBlock] at hk
  · rw [h] at hk; injection hk with hk; omega
theorem spOwnStep {v1 v2 : Value} {n m : Nat} (h1 : ∀ k, v1.ownBlock = some k → n ≤ k) (hnm : n ≤ m) (hat : v2.ownBlock = v1.ownBlock ∨ ∃ b, v2.ownBlock = some b ∧ m ≤ b) : ∀ k, v2.ownBlock = some k → n ≤ k := by
  intro k hk
  rcases hat with h | ⟨b, h, hb⟩
  · rw [h] at hk; exact h1 k hk
  · rw [h] at hk; injection hk with hk; omega
theorem spKeepG {W w9 : World} {g i n : Nat} {v : Value} {u : Option Nat} (hg : W.grownBy w9 u) (hlt : ∀ k, u = some k → n ≤ k) (hn : g < n) (h : W.cell? ⟨g, i, none⟩ = some v) : w9.cell? ⟨g, i, none⟩ = some v :=
  (World.cell?_of_block (hg.block g (World.block_lt_of_cell? _ _ h) (fun e => by have := hlt _ e.symm; omega))).trans h
set_option maxHeartbeats 8000000 in
set_option maxRecDepth 100000 in
theorem sSmall_calls (A0 : Option Addr) (c0 : Nat) (l : List Ru) (w : World) (hr : Kd.C k41 w A0 l.length l) (hc : l.length ≤ c0) :
    Calls Try.prog 10 #[.slice A0 l.length c0] w fun e w' => e = .returned (.bool (spSmallB l)) ∧ Below w.heap.size w w' := by
  have HR := Aside0.mk hr
  have HC := Aside0.mk hc
  clear hr hc
  by_cases hl : (l.length : Int) > 220
  · have hd : decide ((l.length : Int) > 220) = true := decide_eq_true hl
    have hres : spSmallB l = false := by unfold spSmallB; rw [decide_eq_false (by omega)]; rfl
    rw [hres]
    clear hres hl
    go_enter Try.func10, Try.ntmps10
    go_wp2
    go_ret
    exact ⟨rfl, Below.refl _ _⟩
  · have hd : decide ((l.length : Int) > 220) = false := decide_eq_false hl
    have HL := Aside0.mk (show l.length ≤ 220 by omega)
    clear hl
    go_enter Try.func10, Try.ntmps10
    go_wp2
    go_loopw [3] (fun i wr => ∃ k : Nat, i = .int .i64 k ∧ Aside0 (k ≤ l.length) ∧ Aside0 (∀ x ∈ l.take k, spRuleB x = true) ∧ Aside0 (Below w.heap.size w wr)) (fun i _ => l.length - (intOf i).toNat)
    case atStart => exact ⟨0, rfl, ⟨Nat.zero_le _⟩, ⟨fun x hx => by simp at hx⟩, ⟨Below.refl _ _⟩⟩
    case round =>
      obtain ⟨k, rfl, HK, HOLD, HB⟩ := hrel
      by_cases hlt : k < l.length
      · obtain ⟨ad, B0, d0, B1, d1, B2, d2, B3, d3, e, x0, x1, x2, x3, y0, z0, y1, z1, y2, z2, y3, z3⟩ := at_T41 (Kd.C_below HR.out HB.out) (k : Int) (by omega) (by omega)
        cases e
        rw [Int.toNat_natCast] at x0 x1 x2 x3
        have hmem : rd_T41 l (k : Int) ∈ l := by unfold rd_T41; rw [Int.toNat_natCast, List.getD_eq_getElem?_getD, List.getElem?_eq_getElem hlt]; exact List.getElem_mem hlt
        have hst : l.take (k + 1) = l.take k ++ [rd_T41 l (k : Int)] := by
          unfold rd_T41
          rw [Int.toNat_natCast, List.getD_eq_getElem?_getD, List.take_add_one, List.getElem?_eq_getElem hlt]
          rfl
        have HST := Aside0.mk hst
        have HMEM := Aside0.mk hmem
        have Z0 := Aside0.mk z0
        have Z1 := Aside0.mk z1
        have Z2 := Aside0.mk z2
        clear hst hmem y0 z0 y1 z1 y2 z2 y3 z3
        generalize rd_T41 l (k : Int) = x at *
        have hp1 : (0 ≤ (k : Int)) = True := eq_true (by omega)
        have hp2 : ((k : Int) < (l.length : Int)) = True := eq_true (by omega)
        have hdl : decide ((k : Int) < (l.length : Int)) = true := decide_eq_true (by omega)
        have hw : wrap64 ((k : Int) + 1) = (k : Int) + 1 := by have := HL.out; unfold wrap64; omega
        have hbk := heap_alloc_new wr (.cells #[.slice B0 x.f0.length d0, .slice B1 x.f1.length d1, .slice B2 x.f2.length d2, .slice B3 x.f3.length d3] 41)
        have X0 : (wr.alloc (.cells #[.slice B0 x.f0.length d0, .slice B1 x.f1.length d1, .slice B2 x.f2.length d2, .slice B3 x.f3.length d3] 41)).cell? ⟨wr.heap.size, 0, none⟩ = some (.slice B0 x.f0.length d0) := (blk_cell hbk 0).trans rfl
        have X1 : (wr.alloc (.cells #[.slice B0 x.f0.length d0, .slice B1 x.f1.length d1, .slice B2 x.f2.length d2, .slice B3 x.f3.length d3] 41)).cell? ⟨wr.heap.size, 1, none⟩ = some (.slice B1 x.f1.length d1) := (blk_cell hbk 1).trans rfl
        have X2 : (wr.alloc (.cells #[.slice B0 x.f0.length d0, .slice B1 x.f1.length d1, .slice B2 x.f2.length d2, .slice B3 x.f3.length d3] 41)).cell? ⟨wr.heap.size, 2, none⟩ = some (.slice B2 x.f2.length d2) := (blk_cell hbk 2).trans rfl
        have X3 : (wr.alloc (.cells #[.slice B0 x.f0.length d0, .slice B1 x.f1.length d1, .slice B2 x.f2.length d2, .slice B3 x.f3.length d3] 41)).cell? ⟨wr.heap.size, 3, none⟩ = some (.slice B3 x.f3.length d3) := (blk_cell hbk 3).trans rfl
        have HWA := Aside0.mk (below_alloc (Below.refl wr.heap.size wr) (.cells #[.slice B0 x.f0.length d0, .slice B1 x.f1.length d1, .slice B2 x.f2.length d2, .slice B3 x.f3.length d3] 41))
        generalize hW : wr.alloc (.cells #[.slice B0 x.f0.length d0, .slice B1 x.f1.length d1, .slice B2 x.f2.length d2, .slice B3 x.f3.length d3] 41) = W at X0 X1 X2 X3 HWA
        clear hbk
        by_cases hlen : spLenB x = true
        · have hq := hlen
          unfold spLenB at hq
          simp only [Bool.and_eq_true, decide_eq_true_eq] at hq
          have e0 : decide ((x.f0.length : Int) > 20) = false := decide_eq_false (by omega)
          have e1 : decide ((x.f1.length : Int) > 20) = false := decide_eq_false (by omega)
          have e2 : decide ((x.f2.length : Int) > 20) = false := decide_eq_false (by omega)
          have e3 : decide ((x.f3.length : Int) > 20) = false := decide_eq_false (by omega)
          have HQ := Aside0.mk hq
          have HLT0 := Aside0.mk hlt
          have HLEN := Aside0.mk hlen
          clear hq hlen hlt
          go_upto_region 10 with (fail)
          have HB0 := Aside0.mk (Kd.C_F k45_heap (Kd.C_below Z0.out HWA.out))
          have HB1 := Aside0.mk (Kd.C_F k45_heap (Kd.C_below Z1.out HWA.out))
          have HB2 := Aside0.mk (Kd.C_F k45_heap (Kd.C_below Z2.out HWA.out))
          obtain ⟨al, hal⟩ : ∃ al, al = [] ++ x.f0 ++ x.f1 ++ x.f2 := ⟨_, rfl⟩
          have HALL := Aside0.mk hal
          clear hal
          have HN0 := Aside0.mk (Kd.N_nil k45 45 W W.heap.size (fun _ => True))
          go_upto_region 13 with (first | (at_builtin; refine Kd.N_append_rows k45 (w0 := W) W.heap.size rfl (.tmp 42) (.tmp 44) 38 45 (.agg #[.slice none 0 0]) 24 rfl Try.underlying38 spInfoS rfl (by decide) (by omega) (.slice none 0 0) [] x.f0 B0 _ _ (fun _ => True) (fun k_ => k_ < W.heap.size) rfl rfl HN0.out HB0.out (fun _ _ => ⟨trivial, by simp [Value.ownBlock]⟩) (fun _ _ => trivial) (Below.refl _ _) (Nat.le_refl _) (by have := HQ.out; simp; omega) ?_; intro v1 w1 ho hb hg hat; have HN1 := Aside0.mk ho; have HW1 := Aside0.mk hb; have HF1 := Aside0.mk (Kd.F_below HB1.out hb); have HF2 := Aside0.mk (Kd.F_below HB2.out hb); have HA1 := Aside0.mk (spOwnNew hat); have X1a := pw_cell_below hb X1; have X2a := pw_cell_below hb X2; clear X0 X1 X2 X3 ho hb hg hat) | (at_builtin; refine Kd.N_append_rows k45 (w0 := W) W.heap.size rfl (.tmp 46) (.tmp 48) 38 45 (.agg #[.slice none 0 0]) 24 rfl Try.underlying38 spInfoS rfl (by decide) (by omega) _ ([] ++ x.f0) x.f1 B1 _ _ (fun _ => True) (fun k_ => k_ < W.heap.size) rfl rfl HN1.out HF1.out (fun k_ hk => ⟨trivial, fun e => by have := HA1.out k_ e.symm; omega⟩) (fun _ _ => trivial) HW1.out HW1.out.size (by have := HQ.out; simp; omega) ?_; intro v2 w2 ho hb hg hat; have HN2 := Aside0.mk ho; have HW2 := Aside0.mk hb; have HG2 := Aside0.mk (Kd.F_grown HF2.out hg (fun k_ hk e => by have := HA1.out k_ e.symm; omega)); have HA2 := Aside0.mk (spOwnStep HA1.out HW1.out.size hat); have X2b := spKeepG hg HA1.out (show wr.heap.size < W.heap.size by rw [← hW, World.size_alloc]; omega) X2a; clear X1a X2a ho hb hg hat) | (at_builtin; refine Kd.N_append_rows k45 (w0 := W) W.heap.size rfl (.tmp 50) (.tmp 52) 38 45 (.agg #[.slice none 0 0]) 24 rfl Try.underlying38 spInfoS rfl (by decide) (by omega) _ ([] ++ x.f0 ++ x.f1) x.f2 B2 _ _ (fun _ => True) (fun k_ => k_ < W.heap.size) rfl rfl HN2.out HG2.out (fun k_ hk => ⟨trivial, fun e => by have := HA2.out k_ e.symm; omega⟩) (fun _ _ => trivial) HW2.out HW2.out.size (by have := HQ.out; simp; omega) ?_; intro v3 w3 ho hb hg hat; rw [← HALL.out] at ho; obtain ⟨A3, c3, rfl⟩ := Kd.N_slice ho; have HN3 := Aside0.mk ho; have HW3 := Aside0.mk hb; clear X2b ho hb hg hat))
          have HAC := Aside0.mk (Kd.N_reads' HN3.out)
          have HAL : Aside0 (al.length < 1000) := ⟨by have := HQ.out; rw [HALL.out]; simp only [List.length_append, List.length_nil]; omega⟩
          have HBW := Aside0.mk (below_step (below_step HB.out HWA.out) HW3.out)
          go_wp2
          go_loopw [6] (fun j wj => ∃ m : Nat, j = .int .i64 m ∧ Aside0 (m ≤ al.length) ∧ Aside0 (∀ s ∈ al.take m, okSet s = true) ∧ Aside0 (Below w3.heap.size w3 wj)) (fun j _ => al.length - (intOf j).toNat)
          case atStart => exact ⟨0, rfl, ⟨Nat.zero_le _⟩, ⟨fun x hx => by simp at hx⟩, ⟨Below.refl _ _⟩⟩
          case round =>
            obtain ⟨m, rfl, HKM, HOM, HBJ⟩ := hrel
            by_cases hlm : m < al.length
            · obtain ⟨ada, E0, h0, ea, p0, q0, r0⟩ := at_T45 (Kd.C_below HAC.out.2.2 HBJ.out) (m : Int) (by omega) (by omega)
              cases ea
              rw [Int.toNat_natCast] at p0
              have hmm : rd_T45 al (m : Int) ∈ al := by unfold rd_T45; rw [Int.toNat_natCast, List.getD_eq_getElem?_getD, List.getElem?_eq_getElem hlm]; exact List.getElem_mem hlm
              have hsm : al.take (m + 1) = al.take m ++ [rd_T45 al (m : Int)] := by
                unfold rd_T45
                rw [Int.toNat_natCast, List.getD_eq_getElem?_getD, List.take_add_one, List.getElem?_eq_getElem hlm]
                rfl
              have HSM := Aside0.mk hsm
              have HMM := Aside0.mk hmm
              clear hsm hmm q0 r0
              generalize rd_T45 al (m : Int) = y at *
              have hm1 : (0 ≤ (m : Int)) = True := eq_true (by omega)
              have hm2 : ((m : Int) < (al.length : Int)) = True := eq_true (by omega)
              have hdm : decide ((m : Int) < (al.length : Int)) = true := decide_eq_true (by omega)
              have hwm : wrap64 ((m : Int) + 1) = (m : Int) + 1 := by have := HAL.out; unfold wrap64; omega
              by_cases hy : (y.f0.length : Int) > 12
              · have hy1 : decide ((y.f0.length : Int) > 12) = true := decide_eq_true hy
                have hrl : spRuleB x = false := by
                  unfold spRuleB
                  rw [Bool.and_eq_false_iff]
                  right
                  rw [List.all_eq_false]
                  refine ⟨y, ?_, ?_⟩
                  · have := HMM.out
                    rw [HALL.out, List.nil_append] at this
                    exact this
                  · unfold okSet
                    rw [decide_eq_false (by omega)]
                    decide
                have HRES := Aside0.mk (spAll_false HMEM.out hrl)
                clear hy hrl hlm
                go_wp2
                go_ret
                exact ⟨by rw [HRES.out]; rfl, below_step HBW.out HBJ.out⟩
              · have hy1 : decide ((y.f0.length : Int) > 12) = false := decide_eq_false hy
                have HY := Aside0.mk (show okSet y = true by unfold okSet; rw [decide_eq_true (by omega)])
                have HLM := Aside0.mk hlm
                clear hy hlm
                go_wp2
                go_roundw
                case rel => exact ⟨m + 1, by rw [hwm]; rfl, ⟨HLM.out⟩, ⟨fun z hz => by
                  rw [HSM.out, List.mem_append, List.mem_singleton] at hz
                  rcases hz with hz | rfl
                  · exact HOM.out z hz
                  · exact HY.out⟩, HBJ⟩
                case measure => rw [hwm]; simp only [intOf]; have := HLM.out; omega
            · obtain rfl : m = al.length := by have := HKM.out; omega
              rw [List.take_length] at HOM
              have hdm : decide ((al.length : Int) < (al.length : Int)) = false := decide_eq_false (by omega)
              have HRX : Aside0 (spRuleB x = true) := ⟨by
                unfold spRuleB
                rw [HLEN.out, Bool.true_and, List.all_eq_true]
                intro z hz
                refine HOM.out z ?_
                rw [HALL.out, List.nil_append]
                exact hz⟩
              clear hlm
              go_wp2
              go_roundw
              case rel => exact ⟨k + 1, by rw [hw]; rfl, ⟨HLT0.out⟩, ⟨fun z hz => by
                rw [HST.out, List.mem_append, List.mem_singleton] at hz
                rcases hz with hz | rfl
                · exact HOLD.out z hz
                · exact HRX.out⟩, ⟨below_step HBW.out HBJ.out⟩⟩
              case measure => rw [hw]; simp only [intOf]; have := HLT0.out; omega
        · have hrl : spRuleB x = false := by
            unfold spRuleB
            rw [Bool.eq_false_iff.2 hlen]
            rfl
          have HRES := Aside0.mk (spAll_false HMEM.out hrl)
          unfold spLenB at hlen
          simp only [Bool.and_eq_true, decide_eq_true_eq] at hlen
          by_cases a0 : (x.f0.length : Int) > 20
          · have e0 : decide ((x.f0.length : Int) > 20) = true := decide_eq_true a0
            clear hlen a0 hlt
            go_wp2
            go_ret
            exact ⟨by rw [HRES.out]; rfl, below_step HB.out HWA.out⟩
          · have e0 : decide ((x.f0.length : Int) > 20) = false := decide_eq_false a0
            by_cases a1 : (x.f1.length : Int) > 20
            · have e1 : decide ((x.f1.length : Int) > 20) = true := decide_eq_true a1
              clear hlen a0 a1 hlt
              go_wp2
              go_ret
              exact ⟨by rw [HRES.out]; rfl, below_step HB.out HWA.out⟩
            · have e1 : decide ((x.f1.length : Int) > 20) = false := decide_eq_false a1
              by_cases a2 : (x.f2.length : Int) > 20
              · have e2 : decide ((x.f2.length : Int) > 20) = true := decide_eq_true a2
                clear hlen a0 a1 a2 hlt
                go_wp2
                go_ret
                exact ⟨by rw [HRES.out]; rfl, below_step HB.out HWA.out⟩
              · have e2 : decide ((x.f2.length : Int) > 20) = false := decide_eq_false a2
                have e3 : decide ((x.f3.length : Int) > 20) = true := decide_eq_true (by omega)
                clear hlen a0 a1 a2 hlt
                go_wp2
                go_ret
                exact ⟨by rw [HRES.out]; rfl, below_step HB.out HWA.out⟩
      · obtain rfl : k = l.length := by have := HK.out; omega
        rw [List.take_length] at HOLD
        have hres : spSmallB l = true := by unfold spSmallB; rw [decide_eq_true (by have := HL.out; omega), List.all_eq_true.2 HOLD.out]; rfl
        have HRES := Aside0.mk hres
        have hdl : decide ((l.length : Int) < (l.length : Int)) = false := decide_eq_false (by omega)
        clear hres
        go_wp2
        go_ret
        exact ⟨by rw [HRES.out]; rfl, HB.out⟩
end Go.Proofs.Ytcpicopaobhlcaa.Q
end
section
namespace Go.Proofs.Ytcpicopaobhlcaa.Q
open Go.RowKit Go.Proofs.YtcpicopaobhlcaaW.PrintWords Go.Proofs.YtcpicopaobhlcaaW.PrintLast Go.Proofs.YtcpicopaobhlcaaW.PrintMore
set_option linter.unusedVariables false
theorem belowGrown {w w1 w2 : World} {b : Nat} (h : Below w.heap.size w w1) (g : w1.grownBy w2 (some b)) (hb : w.heap.size ≤ b) : Below w.heap.size w w2 :=
  ⟨g.os.trans h.os, g.tape.trans h.tape, g.output.trans h.output, Nat.le_trans h.size g.size, fun k hk => (g.block k (Nat.lt_of_lt_of_le hk h.size) (fun e => by injection e with e; omega)).trans (h.block k hk)⟩
theorem rowOf {α : Type} {d : Kd α} {W : World} {g t : Nat} {cells : Array Value} {xs : List α} (hb : W.heap[g]? = some (.cells cells t (0, 0))) (hr : Reps (d.K W) d.sz xs cells.toList) (hl : xs.length ≤ 1000000) : Kd.C d W (some ⟨g, 0, none⟩) xs.length xs := by
  refine ⟨rfl, by omega, fun _ => ⟨_, rfl, fun j p hj => ?_⟩⟩
  have hk := hr.2 j p hj
  refine ⟨_, d.K_len hk, hk, fun i u hu => ?_⟩
  rw [List.getElem?_take] at hu
  split at hu
  · rw [List.getElem?_drop] at hu
    have h2 := blk_cell hb (j * d.sz + i)
    rw [← Array.getElem?_toList, hu] at h2
    have e : ((⟨g, 0, none⟩ : Addr).add (j * d.sz + i)) = ⟨g, j * d.sz + i, none⟩ := by
      unfold Addr.add
      split
      · rename_i h0; rw [h0]
      · simp
    rw [e]
    exact h2
  · cases hu
theorem spOne {w : World} {base : Nat} {ok : Nat → Prop} {v : Value} {c : Int} (h : Kd.R (Kd.int .i64) 3 w base ok v [c]) : ∃ A cc, v = .slice A 1 cc ∧ 1 ≤ cc ∧ Kd.C (Kd.int .i64) w A 1 [c] := by
  obtain ⟨A, cc, rfl⟩ := Kd.R_slice h
  exact ⟨A, cc, rfl, (Kd.R_reads' h).2.1, (Kd.R_reads' h).2.2⟩
theorem spNil {w : World} {base : Nat} {ok : Nat → Prop} {v : Value} (h : Kd.R (Kd.int .i64) 3 w base ok v []) : ∃ A cc, v = .slice A 0 cc := by
  obtain ⟨A, cc, rfl⟩ := Kd.R_slice h
  exact ⟨A, cc, rfl⟩
def spRules : List Ru := [⟨[], [⟨[⟨97, 97⟩]⟩, ⟨[⟨98, 98⟩]⟩], [], [⟨120, 0⟩]⟩]
theorem spRules_few : plFewL spRules := spSmall_few spRules (by kernel_rfl)
theorem spRules_check : checkS spRules = 0 := by kernel_rfl
theorem spRules_data : dataS spRules = spRules := by unfold dataS; rw [if_pos spRules_check]
theorem spRules_be : spBe spRules = 0 := by kernel_rfl
theorem spRules_ah : spAh spRules = 2 := by kernel_rfl
theorem spW_1 : spWrite spRules 0 2 ([], 0) [97] = ([], ([97], 0)) := by kernel_rfl
theorem spW_2 : spWrite spRules 0 2 ([97], 0) [99] = ([97], ([99], 0)) := by kernel_rfl
theorem spW_3 : (spRun spRules [99] 1 0).1 = [99] := by kernel_rfl
theorem awRow (w2 : World) (A1 : Option Addr) (c1 : Nat) (A2 : Option Addr) (c2 : Nat) (h1 : Kd.C k69 w2 A1 1 [⟨97, 97⟩]) (g1 : 1 ≤ c1) (h2 : Kd.C k69 w2 A2 1 [⟨98, 98⟩]) (g2 : 1 ≤ c2) :
    Kd.C k41 (((w2.alloc (.cells #[.slice A1 1 c1, .slice A2 1 c2] 45)).alloc (.cells #[.int .i64 120, .int .i64 0] 59)).alloc (.cells #[.slice none 0 0, .slice (some ⟨w2.heap.size, 0, none⟩) 2 2, .slice none 0 0, .slice (some ⟨w2.heap.size + 1, 0, none⟩) 1 1] 41)) (some ⟨w2.heap.size + 1 + 1, 0, none⟩) 1 spRules := by
  obtain ⟨W1, hW1⟩ : ∃ W1, W1 = w2.alloc (.cells #[.slice A1 1 c1, .slice A2 1 c2] 45) := ⟨_, rfl⟩
  obtain ⟨W2, hW2⟩ : ∃ W2, W2 = W1.alloc (.cells #[.int .i64 120, .int .i64 0] 59) := ⟨_, rfl⟩
  obtain ⟨W3, hW3⟩ : ∃ W3, W3 = W2.alloc (.cells #[.slice none 0 0, .slice (some ⟨w2.heap.size, 0, none⟩) 2 2, .slice none 0 0, .slice (some ⟨w2.heap.size + 1, 0, none⟩) 1 1] 41) := ⟨_, rfl⟩
  rw [← hW1, ← hW2, ← hW3]
  have s1 : W1.heap.size = w2.heap.size + 1 := by rw [hW1, World.size_alloc]
  have s2 : W2.heap.size = w2.heap.size + 1 + 1 := by rw [hW2, World.size_alloc, s1]
  have b1 : Below w2.heap.size w2 W1 := by rw [hW1]; exact below_alloc (Below.refl _ _) _
  have b2 : Below W1.heap.size W1 W2 := by rw [hW2]; exact below_alloc (Below.refl _ _) _
  have b3 : Below W2.heap.size W2 W3 := by rw [hW3]; exact below_alloc (Below.refl _ _) _
  have k1 : W1.heap[w2.heap.size]? = some (.cells #[.slice A1 1 c1, .slice A2 1 c2] 45 (0, 0)) := by rw [hW1]; exact heap_alloc_new _ _
  have k2 : W2.heap[w2.heap.size + 1]? = some (.cells #[.int .i64 120, .int .i64 0] 59 (0, 0)) := by rw [hW2, ← s1]; exact heap_alloc_new _ _
  have k3 : W3.heap[w2.heap.size + 1 + 1]? = some (.cells #[.slice none 0 0, .slice (some ⟨w2.heap.size, 0, none⟩) 2 2, .slice none 0 0, .slice (some ⟨w2.heap.size + 1, 0, none⟩) 1 1] 41 (0, 0)) := by rw [hW3, ← s2]; exact heap_alloc_new _ _
  have h1' := Kd.C_below (Kd.C_below (Kd.C_below h1 b1) b2) b3
  have h2' := Kd.C_below (Kd.C_below (Kd.C_below h2 b1) b2) b3
  have r1 : Kd.C k45 W3 (some ⟨w2.heap.size, 0, none⟩) 2 [⟨[⟨97, 97⟩]⟩, ⟨[⟨98, 98⟩]⟩] :=
    rowOf (blk_below (blk_below k1 b2) b3) (Reps.one (k45_mk W3 ⟨[⟨97, 97⟩]⟩ g1 h1') (Reps.one (k45_mk W3 ⟨[⟨98, 98⟩]⟩ g2 h2') (Reps.none _ _))) (by decide)
  have r2 : Kd.C k59 W3 (some ⟨w2.heap.size + 1, 0, none⟩) 1 [⟨120, 0⟩] :=
    rowOf (blk_below k2 b3) (Reps.c2 (k59_mk W3 ⟨120, 0⟩) (Reps.none _ _)) (by decide)
  exact rowOf k3 (Reps.c4 (k41_mk W3 ⟨[], [⟨[⟨97, 97⟩]⟩, ⟨[⟨98, 98⟩]⟩], [], [⟨120, 0⟩]⟩ (Nat.le_refl _) (Kd.C_nil _ _) (Nat.le_refl 2) r1 (Nat.le_refl _) (Kd.C_nil _ _) (Nat.le_refl 1) r2) (Reps.none _ _)) (by decide)
/-- New at the example's rules. -/
theorem awNew (A : Option Addr) (w : World) (hr : Kd.C k41 w A 1 spRules) :
    Calls Try.prog 13 #[.slice A 1 1] w fun e w' => ∃ b, e = .returned (.tuple #[.pointer (some ⟨b, 0, none⟩), .int .i64 0]) ∧ Strm w' b (fun k => w.heap.size ≤ k ∧ k ≠ b) [] 0 spRules 0 2 ∧ w.heap.size ≤ b ∧ Below w.heap.size w w' := by
  have h := sNew_calls A 1 spRules w spRules_few hr (Nat.le_refl _) spRules_check
  rw [spRules_be, spRules_ah] at h
  exact h
theorem awSp : SpOk spRules 0 2 := by
  have h := spOk spRules spRules_few spRules_data
  rwa [spRules_be, spRules_ah] at h
theorem awWrite (b : Nat) (ok : Nat → Prop) (t : List Int) (a : Nat) (c : Int) (A1 : Option Addr) (c1 : Nat) (out : List Int) (t2 : List Int) (a2 : Nat) (w : World) (hS : Strm w b ok t a spRules 0 2) (hok : ¬ ok b) (hnew : ∀ k, w.heap.size ≤ k → ok k) (ht : t.length < 1000) (ha : a ≤ t.length) (htx : okText (t ++ [c]) = true)
    (hT : Kd.C (Kd.int .i64) w A1 1 [c]) (hc1 : 1 ≤ c1) (he : spWrite spRules 0 2 (t, a) [c] = (out, (t2, a2))) :
    Calls Try.prog 14 #[.pointer (some ⟨b, 0, none⟩), .slice A1 1 c1] w fun e w' => ∃ v, e = .returned (.tuple #[v, .int .i64 0]) ∧ Kd.R (Kd.int .i64) 3 w' w.heap.size (fun _ => True) v out ∧ Strm w' b ok t2 a2 spRules 0 2 ∧ w.grownBy w' (some b) := by
  have h := sWrite_calls b ok t a spRules 0 2 A1 c1 [c] w hS hok hnew (by simp; omega) ha htx (plOkRules spRules_few) spRules_data awSp (by decide) (by decide) hT hc1
  rw [he] at h
  exact h
theorem awText (w : World) (c : Int) : Kd.C (Kd.int .i64) (w.alloc (.cells #[.int .i64 c] 3)) (some ⟨w.heap.size, 0, none⟩) 1 [c] :=
  rowOf (d := Kd.int .i64) (cells := #[.int .i64 c]) (heap_alloc_new w _) (Reps.one (R := (Kd.int .i64).K _) rfl (Reps.none _ _)) (Nat.le_of_ble_eq_true rfl)
theorem awWrite1 (b : Nat) (w : World) (hS : Strm w b (fun k => k ≠ b) [] 0 spRules 0 2) :
    Calls Try.prog 14 #[.pointer (some ⟨b, 0, none⟩), .slice (some ⟨w.heap.size, 0, none⟩) 1 1] (w.alloc (.cells #[.int .i64 97] 3)) fun e w' => (∃ A c, e = .returned (.tuple #[.slice A 0 c, .int .i64 0])) ∧ Strm w' b (fun k => k ≠ b) [97] 0 spRules 0 2 ∧ w.grownBy w' (some b) := by
  have hA : Below w.heap.size w (w.alloc (.cells #[.int .i64 97] 3)) := below_alloc (Below.refl _ _) _
  have hlt := hS.lt
  refine (awWrite b (fun k => k ≠ b) [] 0 97 (some ⟨w.heap.size, 0, none⟩) 1 [] [97] 0 _ (hS.below hA) (by simp) (fun k hk e => by rw [World.size_alloc] at hk; omega) (by decide) (by decide) (by kernel_rfl) (awText w 97) (Nat.le_refl _) spW_1).mono ?_
  rintro e w' ⟨v, rfl, hv, hs, hg⟩
  obtain ⟨A, c, rfl⟩ := spNil hv
  exact ⟨⟨A, c, rfl⟩, hs, (grown_of_below hA _).trans hg⟩
theorem awWrite2 (b : Nat) (w : World) (hS : Strm w b (fun k => k ≠ b) [97] 0 spRules 0 2) :
    Calls Try.prog 14 #[.pointer (some ⟨b, 0, none⟩), .slice (some ⟨w.heap.size, 0, none⟩) 1 1] (w.alloc (.cells #[.int .i64 99] 3)) fun e w' => (∃ A c, e = .returned (.tuple #[.slice A 1 c, .int .i64 0]) ∧ Kd.R (Kd.int .i64) 3 w' w.heap.size (fun _ => True) (.slice A 1 c) [97]) ∧ Strm w' b (fun k => k ≠ b) [99] 0 spRules 0 2 ∧ w.grownBy w' (some b) := by
  have hA : Below w.heap.size w (w.alloc (.cells #[.int .i64 99] 3)) := below_alloc (Below.refl _ _) _
  have hlt := hS.lt
  refine (awWrite b (fun k => k ≠ b) [97] 0 99 (some ⟨w.heap.size, 0, none⟩) 1 [97] [99] 0 _ (hS.below hA) (by simp) (fun k hk e => by rw [World.size_alloc] at hk; omega) (by decide) (by decide) (by kernel_rfl) (awText w 99) (Nat.le_refl _) spW_2).mono ?_
  rintro e w' ⟨v, rfl, hv, hs, hg⟩
  obtain ⟨A, c, rfl, _⟩ := spOne hv
  exact ⟨⟨A, c, rfl, Kd.R_lower hv hA.size⟩, hs, (grown_of_below hA _).trans hg⟩
theorem awClose (b : Nat) (w : World) (hS : Strm w b (fun k => k ≠ b) [99] 0 spRules 0 2) :
    Calls Try.prog 15 #[.pointer (some ⟨b, 0, none⟩)] w fun e w' => (∃ A c, e = .returned (.tuple #[.slice A 1 c, .int .i64 0]) ∧ Kd.R (Kd.int .i64) 3 w' w.heap.size (fun _ => True) (.slice A 1 c) [99]) ∧ StrmZ w' b ∧ w.grownBy w' (some b) := by
  have hlt := hS.lt
  refine (sClose_calls b (fun k => k ≠ b) [99] 0 spRules 0 2 w hS (by simp) (fun k hk e => by omega) (by decide) (by decide) (by kernel_rfl) (plOkRules spRules_few) spRules_data awSp (by decide)).mono ?_
  rintro e w' ⟨v, rfl, hv, hz, hg⟩
  rw [spW_3] at hv
  obtain ⟨A, c, rfl, _⟩ := spOne hv
  exact ⟨⟨A, c, rfl, hv⟩, hz, hg⟩
theorem awEq (A0 : Option Addr) (c0 : Nat) (A1 : Option Addr) (c1 : Nat) (c : Int) (w : World) (h0 : Kd.C (Kd.int .i64) w A0 1 [c]) (g0 : 1 ≤ c0) (h1 : Kd.C (Kd.int .i64) w A1 1 [c]) (g1 : 1 ≤ c1) :
    Calls Try.prog 16 #[.slice A0 1 c0, .slice A1 1 c1] w fun e w' => e = .returned (.bool true) ∧ Drawn0 w w' :=
  unicodetextref01_Equal.calls 10 A0 c0 [c] A1 c1 [c] true w h0 g0 h1 g1 (by rw [plEqual_ok _ _ _ (by simp) (by simp)]; simp)
set_option maxHeartbeats 8000000 in
set_option maxRecDepth 100000 in
theorem awake_calls (w : World) : Calls Try.prog 12 #[] w fun e w' => e = .returned (.bool true) ∧ Below w.heap.size w w' := by
  have hu1 := Try.underlying59
  have hu2 := Try.underlying41
  go_enter Try.func12, Try.ntmps12
  go_upto_region 2 with (first | (go_at_call 25; (with_reducible refine (unicodetextlaw52_one.calls 97 [⟨97, 97⟩] _ rfl).mono ?_); rintro e w1 ⟨v1, rfl, hv1, hb⟩; obtain ⟨A1, c1, rfl⟩ := Kd.R_slice hv1; have HV1 := Aside0.mk hv1; have HB1 := Aside0.mk hb; clear hv1 hb) | (go_at_call 25; (with_reducible refine (unicodetextlaw52_one.calls 98 [⟨98, 98⟩] _ rfl).mono ?_); rintro e w2 ⟨v2, rfl, hv2, hb⟩; obtain ⟨A2, c2, rfl⟩ := Kd.R_slice hv2; have HV2 := Aside0.mk hv2; have HV1b := Aside0.mk (Kd.R_below HV1.out hb); have HB2 := Aside0.mk (below_step HB1.out hb); clear hv2 hb) | (go_at_call 13; refine (awNew _ _ (awRow w2 A1 c1 A2 c2 (Kd.R_reads' HV1b.out).2.2 (Kd.R_reads' HV1b.out).2.1 (Kd.R_reads' HV2.out).2.2 (Kd.R_reads' HV2.out).2.1)).mono ?_; rintro e w3 ⟨b, rfl, hs3, hlb, hb⟩; have HS3 := Aside0.mk (hs3.mono (fun k hk => hk.2)); have HLB := Aside0.mk (show w.heap.size ≤ b by have := HB2.out.size; simp only [World.size_alloc] at hlb; omega); have HB3 := Aside0.mk (below_step (below_alloc (below_alloc (below_alloc HB2.out _) _) _) hb); clear hs3 hlb hb))
  have hlt := HS3.out.lt
  go_wp2_with (first | (go_at_call 14; (with_reducible refine (awWrite1 b _ HS3.out).mono ?_); rintro e w4 ⟨⟨A4, c4, rfl⟩, hs4, hg4⟩; have HS4 := Aside0.mk hs4; have HG4 := Aside0.mk hg4; clear hs4 hg4) | (go_at_call 14; (with_reducible refine (awWrite2 b _ HS4.out).mono ?_); rintro e w5 ⟨⟨A5, c5, rfl, hv5⟩, hs5, hg5⟩; have HV5 := Aside0.mk hv5; have HS5 := Aside0.mk hs5; have HG5 := Aside0.mk hg5; clear hs5 hg5 hv5) | (go_at_call 15; (with_reducible refine (awClose b _ HS5.out).mono ?_); rintro e w6 ⟨⟨A6, c6, rfl, hv6⟩, hz6, hg6⟩; have HV6 := Aside0.mk hv6; have HZ6 := Aside0.mk hz6; have HG6 := Aside0.mk hg6; clear hv6 hz6 hg6) | (go_at_call 14; (with_reducible refine (sWrite_closed b _ _ HZ6.out).mono ?_); rintro e w7 ⟨rfl, hb7⟩; have HR5 := Aside0.mk (Kd.R_below (rowKeep HV5.out HG6.out (HS5.out.notrow HV5.out)) hb7); have HR6 := Aside0.mk (Kd.R_below HV6.out hb7); have HB7 := Aside0.mk hb7; clear hb7) | (go_at_call 16; (with_reducible refine (awEq A5 c5 _ 1 97 _ (Kd.C_below (Kd.R_reads' HR5.out).2.2 (below_alloc (Below.refl _ _) _)) (Kd.R_reads' HR5.out).2.1 (awText w7 97) (Nat.le_refl _)).mono ?_); rintro e w8 ⟨rfl, hd8⟩; have HB8 := Aside0.mk (below_step (below_alloc (Below.refl w7.heap.size w7) _) hd8.below); clear hd8) | (go_at_call 16; (with_reducible refine (awEq A6 c6 _ 1 99 _ (Kd.C_below (Kd.R_reads' HR6.out).2.2 (below_alloc HB8.out _)) (Kd.R_reads' HR6.out).2.1 (awText w8 99) (Nat.le_refl _)).mono ?_); rintro e w9 ⟨rfl, hd9⟩; have HB9 := Aside0.mk (below_step (below_alloc (HB8.out) _) hd9.below); clear hd9))
  go_ret
  refine ⟨rfl, ?_⟩
  exact below_step (belowGrown (below_step (belowGrown (belowGrown (belowGrown HB3.out HG4.out HLB.out) HG5.out HLB.out) HG6.out HLB.out) HB7.out) (World.grownBy.refl _ _) HLB.out) HB9.out
end Go.Proofs.Ytcpicopaobhlcaa.Q
end
section
namespace Go.Proofs.Ytcpicopaobhlcaa.Q
open Go.RowKit Go.Proofs.YtcpicopaobhlcaaW.PrintWords Go.Proofs.YtcpicopaobhlcaaW.PrintLast Go.Proofs.YtcpicopaobhlcaaW.PrintMore
set_option linter.unusedVariables false
/-- A stream that was given T so far, with a elements done. -/
def SpSt (w : World) (b : Nat) (ok : Nat → Prop) (T : List Int) (a : Nat) (l : List Ru) : Prop :=
  ∃ s : List Int × Nat, SpRel (spBe l) T a s ∧ Strm w b ok s.1 s.2 l (spBe l) (spAh l) ∧ okText T = true ∧ T.length < 100000
theorem okText_drop {T : List Int} (d : Nat) (h : okText T = true) : okText (T.drop d) = true := by
  unfold okText at h ⊢
  simp only [Bool.and_eq_true, decide_eq_true_eq, List.all_eq_true, List.length_drop] at h ⊢
  exact ⟨by omega, fun x hx => h.2 x (List.mem_of_mem_drop hx)⟩
theorem okText_app {T U : List Int} (h : okText T = true) (hU : okText U = true) (hl : (T ++ U).length < 100000000) : okText (T ++ U) = true := by
  unfold okText at h hU ⊢
  simp only [Bool.and_eq_true, decide_eq_true_eq, List.all_eq_true] at h hU ⊢
  exact ⟨hl, fun x hx => (List.mem_append.1 hx).elim (h.2 x) (hU.2 x)⟩
theorem okText_wf {l : List Int} (h : wfT l) (hl : l.length < 100000000) : okText l = true := by
  unfold okText
  rw [decide_eq_true hl, Bool.true_and, List.all_eq_true]
  exact h.2
theorem spSmall_ah (l : List Ru) (hf : plFewL l) : spAh l < 1000000 ∧ spBe l < 1000000 ∧ 1 ≤ spAh l := by
  obtain ⟨⟨b1, b2⟩, ⟨f1, f2⟩, _⟩ := plReach_bounds l hf
  unfold spAh spBe
  omega
theorem SpSt.new {w w' : World} {b : Nat} {l : List Ru} (h : Strm w' b (fun k => w.heap.size ≤ k ∧ k ≠ b) [] 0 l (spBe l) (spAh l)) : SpSt w' b (fun k => w.heap.size ≤ k ∧ k ≠ b) [] 0 l :=
  ⟨([], 0), SpRel.start _, h, by kernel_rfl, by decide⟩
theorem SpSt.step {w w' : World} {b : Nat} {ok : Nat → Prop} {T : List Int} {a : Nat} {l : List Ru} (h : SpSt w b ok T a l) (hb : w'.heap[b]? = w.heap[b]?) (hk : ∀ k, ok k → k < w.heap.size → w'.heap[k]? = w.heap[k]?) : SpSt w' b ok T a l := by
  obtain ⟨s, h1, h2, h3⟩ := h
  exact ⟨s, h1, h2.step hb hk, h3⟩
theorem SpSt.below {w w' : World} {b : Nat} {ok : Nat → Prop} {T : List Int} {a : Nat} {l : List Ru} (h : SpSt w b ok T a l) (hb : Below w.heap.size w w') : SpSt w' b ok T a l := by
  obtain ⟨s, h1, h2, h3⟩ := h
  exact ⟨s, h1, h2.below hb, h3⟩
theorem SpSt.grown {w w' : World} {b : Nat} {ok : Nat → Prop} {T : List Int} {a : Nat} {l : List Ru} (h : SpSt w b ok T a l) {row : Option Nat} (hg : w.grownBy w' row) (hb : some b ≠ row) (hk : ∀ k, ok k → some k ≠ row) : SpSt w' b ok T a l := by
  obtain ⟨s, h1, h2, h3⟩ := h
  exact ⟨s, h1, h2.grown hg hb hk, h3⟩
theorem SpSt.mono {w : World} {b : Nat} {ok ok' : Nat → Prop} {T : List Int} {a : Nat} {l : List Ru} (h : SpSt w b ok T a l) (hk : ∀ k, ok k → ok' k) : SpSt w b ok' T a l := by
  obtain ⟨s, h1, h2, h3⟩ := h
  exact ⟨s, h1, h2.mono hk, h3⟩
theorem SpSt.after {w w1 : World} {b : Nat} {ok : Nat → Prop} {T : List Int} {a : Nat} {l : List Ru} {v v1 : Value} (h : SpSt w b (fun k => ok k ∧ some k ≠ v.ownBlock) T a l) (hg : w.grownBy w1 v.ownBlock) (hat : v1.ownBlock = v.ownBlock ∨ ∃ c, v1.ownBlock = some c ∧ w.heap.size ≤ c) (hb : some b ≠ v.ownBlock) : SpSt w1 b (fun k => ok k ∧ some k ≠ v1.ownBlock) T a l := by
  obtain ⟨s, h1, h2, h3⟩ := h
  exact ⟨s, h1, h2.after hg hat hb, h3⟩
theorem SpSt.notrow {w : World} {b : Nat} {ok ok' : Nat → Prop} {T : List Int} {a : Nat} {l : List Ru} (h : SpSt w b ok T a l) {base : Nat} {v : Value} {xs : List Int} (hr : Kd.R (Kd.int .i64) 3 w base ok' v xs) : some b ≠ v.ownBlock := by
  obtain ⟨s, h1, h2, h3⟩ := h
  exact h2.notrow hr
theorem SpSt.lt {w : World} {b : Nat} {ok : Nat → Prop} {T : List Int} {a : Nat} {l : List Ru} (h : SpSt w b ok T a l) : b < w.heap.size := by
  obtain ⟨s, h1, h2, h3⟩ := h
  exact h2.lt
theorem spNotB (b : Nat) : ¬ ((fun k : Nat => k ≠ b) b) := fun h => h rfl
theorem SpSt.newB {w : World} {b : Nat} {ok : Nat → Prop} {T : List Int} {a : Nat} {l : List Ru} (h : SpSt w b ok T a l) : ∀ k, w.heap.size ≤ k → (fun k : Nat => k ≠ b) k := fun k hk (e : k = b) => by have := h.lt; omega
theorem spStNew (A0 : Option Addr) (c0 : Nat) (l : List Ru) (w : World) (hf : plFewL l) (hr : Kd.C k41 w A0 l.length l) (hc : l.length ≤ c0) (hd : checkS l = 0) :
    Calls Try.prog 13 #[.slice A0 l.length c0] w fun e w' => ∃ b, e = .returned (.tuple #[.pointer (some ⟨b, 0, none⟩), .int .i64 0]) ∧ SpSt w' b (fun k => w.heap.size ≤ k ∧ k ≠ b) [] 0 l ∧ w.heap.size ≤ b ∧ Below w.heap.size w w' := by
  refine (sNew_calls A0 c0 l w hf hr hc hd).mono ?_
  rintro e w' ⟨b, rfl, hs, hlb, hb⟩
  exact ⟨b, rfl, SpSt.new hs, hlb, hb⟩
theorem spDataS {l : List Ru} (hd : checkS l = 0) : dataS l = l := by unfold dataS; rw [if_pos hd]
theorem spStWrite (b : Nat) (ok : Nat → Prop) (T : List Int) (a : Nat) (l : List Ru) (A1 : Option Addr) (c1 : Nat) (text : List Int) (w : World) (hf : plFewL l) (hd : checkS l = 0) (hS : SpSt w b ok T a l) (hok : ¬ ok b) (hnew : ∀ k, w.heap.size ≤ k → ok k) (htx : okText text = true) (hl : (T ++ text).length < 100000)
    (hT : Kd.C (Kd.int .i64) w A1 text.length text) (hc1 : text.length ≤ c1) :
    Calls Try.prog 14 #[.pointer (some ⟨b, 0, none⟩), .slice A1 text.length c1] w fun e w' => ∃ v, e = .returned (.tuple #[v, .int .i64 0]) ∧ Kd.R (Kd.int .i64) 3 w' w.heap.size (fun _ => True) v (spRun l (T ++ text) (spAh l) a).1 ∧ SpSt w' b ok (T ++ text) (spRun l (T ++ text) (spAh l) a).2 l ∧ w.grownBy w' (some b) := by
  obtain ⟨s, h1, h2, h3, h4⟩ := hS
  have hsp := spOk l hf (spDataS hd)
  obtain ⟨ha1, ha2, ha3⟩ := spSmall_ah l hf
  have hrel := h1.write hsp text
  have hall := okText_app h3 htx (by omega)
  have hb := h1
  obtain ⟨d, e1, e2, e3, e4, e5⟩ := hb
  have hlen : s.1.length + text.length < 10000000 := by rw [e1, List.length_drop]; simp only [List.length_append] at hl; omega
  refine (sWrite_calls b ok s.1 s.2 l (spBe l) (spAh l) A1 c1 text w h2 hok hnew hlen (by rw [e1, e2, List.length_drop]; omega) ?_ (plOkRules hf) (spDataS hd) hsp ha1 ha2 hT hc1).mono ?_
  · rw [e1]
    exact okText_app (okText_drop d h3) htx (by rw [e1] at hlen; rw [List.length_append]; omega)
  · rintro e w' ⟨v, rfl, hv, hs, hg⟩
    rw [show (s.1, s.2) = s from rfl, hrel.1] at hv
    exact ⟨v, rfl, hv, ⟨_, hrel.2, hs, hall, hl⟩, hg⟩
theorem spStClose (b : Nat) (ok : Nat → Prop) (T : List Int) (a : Nat) (l : List Ru) (w : World) (hf : plFewL l) (hd : checkS l = 0) (hS : SpSt w b ok T a l) (hok : ¬ ok b) (hnew : ∀ k, w.heap.size ≤ k → ok k) :
    Calls Try.prog 15 #[.pointer (some ⟨b, 0, none⟩)] w fun e w' => ∃ v, e = .returned (.tuple #[v, .int .i64 0]) ∧ Kd.R (Kd.int .i64) 3 w' w.heap.size (fun _ => True) v (spRun l T 1 a).1 ∧ StrmZ w' b ∧ w.grownBy w' (some b) := by
  obtain ⟨s, h1, h2, h3, h4⟩ := hS
  have hsp := spOk l hf (spDataS hd)
  obtain ⟨ha1, ha2, ha3⟩ := spSmall_ah l hf
  have hrel := h1.run hsp 1 (Nat.le_refl _) []
  rw [List.append_nil, List.append_nil] at hrel
  have hb := h1
  obtain ⟨d, e1, e2, e3, e4, e5⟩ := hb
  refine (sClose_calls b ok s.1 s.2 l (spBe l) (spAh l) w h2 hok hnew (by rw [e1, List.length_drop]; omega) (by rw [e1, e2, List.length_drop]; omega) (by rw [e1]; exact okText_drop d h3) (plOkRules hf) (spDataS hd) hsp ha2).mono ?_
  rintro e w' ⟨v, rfl, hv, hz, hg⟩
  rw [hrel] at hv
  exact ⟨v, rfl, hv, hz, hg⟩
def spFewB (l : List (List Int)) : Bool := decide (l.length ≤ 8) && l.all fun x => decide (x.length ≤ 30)
def wfTs (l : List (List Int)) : Prop := l.length ≤ maxLen ∧ ∀ x ∈ l, wfT x
end Go.Proofs.Ytcpicopaobhlcaa.Q
end
section
namespace Go.Proofs.Ytcpicopaobhlcaa.Q
open Go.RowKit Go.Proofs.YtcpicopaobhlcaaW.PrintWords Go.Proofs.YtcpicopaobhlcaaW.PrintLast Go.Proofs.YtcpicopaobhlcaaW.PrintMore
set_option linter.unusedVariables false
abbrev RI (w : World) (base : Nat) (v : Value) (xs : List Int) : Prop := Kd.R (Kd.int .i64) 3 w base (fun _ => True) v xs
def okB (b : Nat) (u7 u8 : Value) : Nat → Prop := fun k => k ≠ b ∧ some k ≠ u7.ownBlock ∧ some k ≠ u8.ownBlock
structure St2 (w wr : World) (b : Nat) (u7 u8 : Value) (I O : List Int) (T : List Int) (a : Nat) (l : List Ru) : Prop where
  h7 : RI wr w.heap.size u7 I
  h8 : RI wr w.heap.size u8 O
  far : ∀ k, u7.ownBlock = some k → u8.ownBlock ≠ some k
  str : SpSt wr b (okB b u7 u8) T a l
  low : w.heap.size ≤ b
  bel : Below w.heap.size w wr
theorem St2.start {w wr : World} {b : Nat} {T : List Int} {a : Nat} {l : List Ru} (h : SpSt wr b (fun k => k ≠ b) T a l) (hl : w.heap.size ≤ b) (hb : Below w.heap.size w wr) : St2 w wr b (.slice none 0 0) (.slice none 0 0) [] [] T a l :=
  ⟨Kd.R_nil _ _ _ _ _, Kd.R_nil _ _ _ _ _, fun k hk => by simp [Value.ownBlock] at hk, h.mono (fun k hk => ⟨hk, by simp [Value.ownBlock], by simp [Value.ownBlock]⟩), hl, hb⟩
theorem St2.below {w wr w2 : World} {b : Nat} {u7 u8 : Value} {I O T : List Int} {a : Nat} {l : List Ru} (h : St2 w wr b u7 u8 I O T a l) (hb : Below wr.heap.size wr w2) : St2 w w2 b u7 u8 I O T a l :=
  ⟨Kd.R_below h.h7 hb, Kd.R_below h.h8 hb, h.far, h.str.below hb, h.low, below_step h.bel hb⟩
theorem St2.new {w wr : World} {b : Nat} {u7 u8 : Value} {I O T : List Int} {a : Nat} {l : List Ru} (h : St2 w wr b u7 u8 I O T a l) : ∀ k, wr.heap.size ≤ k → okB b u7 u8 k := fun k hk =>
  ⟨fun e => by have := h.str.lt; omega, fun e => by have := Kd.R_lt h.h7 k e.symm; omega, fun e => by have := Kd.R_lt h.h8 k e.symm; omega⟩
theorem St2.write {w wr w2 : World} {b : Nat} {u7 u8 : Value} {I O T T2 : List Int} {a a2 : Nat} {l : List Ru} (h : St2 w wr b u7 u8 I O T a l) (hg : wr.grownBy w2 (some b)) (hs : SpSt w2 b (okB b u7 u8) T2 a2 l) : St2 w w2 b u7 u8 I O T2 a2 l :=
  ⟨rowKeep h.h7 hg (h.str.notrow h.h7), rowKeep h.h8 hg (h.str.notrow h.h8), h.far, hs, h.low, belowGrown h.bel hg h.low⟩
theorem rowApart {w w2 : World} {row : Option Nat} {base : Nat} {v : Value} {xs : List Int} (h : RI w base v xs) (hg : w.grownBy w2 row) (hne : row = none ∨ row ≠ v.ownBlock) : RI w2 base v xs := by
  rcases hne with rfl | hne
  · exact Kd.R_mono (Kd.R_step (Kd.R_tight rfl h) (fun k hk hlt => hg.block k hlt (by simp))) (fun _ _ => trivial)
  · exact Kd.R_grown1 h rfl hg hne
end Go.Proofs.Ytcpicopaobhlcaa.Q
end
section
namespace Go.Proofs.Ytcpicopaobhlcaa.Q
open Go.RowKit Go.Proofs.YtcpicopaobhlcaaW.PrintWords Go.Proofs.YtcpicopaobhlcaaW.PrintLast Go.Proofs.YtcpicopaobhlcaaW.PrintMore
attribute [local go_sem] max2_int min2_int max_two min_two max_three min_three max_four min_four   -- for this text's walks alone
set_option linter.unusedVariables false
set_option linter.unusedSimpArgs false
def unicodetextref51_Written.l0 : Nat → List (S41) → List Int → Int → Int → List Int → Int → Option (List Int)
  | 0, _, _, _, _, _, _ => none
  | k + 1, x0, x1, x2, x3, x9, x10 => if 0 ≤ x3 then (if x3 < (x0.length : Int) then (if x10 < (((rd_T41 x0 x3).f3).length : Int) then (if 0 ≤ x10 then (if ((rd_T59 ((rd_T41 x0 x3).f3) x10).f1) > 0 then (if 0 ≤ (wrap64 ((wrap64 (x2 + ((rd_T59 ((rd_T41 x0 x3).f3) x10).f1))) - 1)) then (if (wrap64 ((wrap64 (x2 + ((rd_T59 ((rd_T41 x0 x3).f3) x10).f1))) - 1)) < (x1.length : Int) then (if x9.length < 17592186044416 then (unicodetextref51_Written.l0 k x0 x1 x2 x3 (x9 ++ [rd x1 (wrap64 ((wrap64 (x2 + ((rd_T59 ((rd_T41 x0 x3).f3) x10).f1))) - 1))]) (wrap64 (x10 + 1))) else (none)) else (none)) else (none)) else (if x9.length < 17592186044416 then (unicodetextref51_Written.l0 k x0 x1 x2 x3 (x9 ++ [(rd_T59 ((rd_T41 x0 x3).f3) x10).f0]) (wrap64 (x10 + 1))) else (none))) else (none)) else (some x9)) else (none)) else (none)
def unicodetextref51_Written.f (k : Nat) (l0 : List (S41)) (l1 : List Int) (a2 : Int) (a3 : Int) : Option (List Int) := if a3 < 0 then (if 0 ≤ a2 then (if a2 < (l1.length : Int) then (some (([rd l1 a2] : List Int))) else (none)) else (none)) else (unicodetextref51_Written.l0 k l0 l1 a2 a3 ([] : List Int) 0)
end Go.Proofs.Ytcpicopaobhlcaa.Q
end
section
namespace Go.Proofs.Ytcpicopaobhlcaa.Q
open Go.RowKit Go.Proofs.YtcpicopaobhlcaaW.PrintWords Go.Proofs.YtcpicopaobhlcaaW.PrintLast Go.Proofs.YtcpicopaobhlcaaW.PrintMore
attribute [local go_sem] max2_int min2_int max_two min_two max_three min_three max_four min_four   -- for this text's walks alone
set_option linter.unusedVariables false
set_option linter.unusedSimpArgs false
def unicodetextref51_Apply.l0 : Nat → List Int → List (S41) → List Int → Int → Option (List Int)
  | 0, _, _, _, _ => none
  | k + 1, x1, x5, x6, x7 => if x7 < (x1.length : Int) then ((unicodetextref51_step.f k x5 x1 x7).bind fun bt238 => ((unicodetextref51_Written.f k x5 x1 x7 bt238.1).bind fun t240 => (if x6.length + t240.length < 17592186044416 then (unicodetextref51_Apply.l0 k x1 x5 (x6 ++ t240) (wrap64 (x7 + bt238.2))) else (none)))) else (some x6)
def unicodetextref51_Apply.f (k : Nat) (l0 : List (S41)) (l1 : List Int) : Option (List Int) := (unicodetextref51_Data.f k l0).bind fun t235 => (unicodetextref51_Apply.l0 k l1 t235 ([] : List Int) 0)
end Go.Proofs.Ytcpicopaobhlcaa.Q
end
section
namespace Go.Proofs.Ytcpicopaobhlcaa.Q
open Go.RowKit Go.Proofs.YtcpicopaobhlcaaW.PrintWords Go.Proofs.YtcpicopaobhlcaaW.PrintLast Go.Proofs.YtcpicopaobhlcaaW.PrintMore
set_option linter.unusedVariables false
def plNoHas (text : List Int) (s : St) : Prop := ∀ c ∈ text, hasS s c = false
theorem plNoStep (l : List Ru) (text : List Int) (h1 : ∀ x ∈ l, 1 ≤ x.f1.length) (hno : ∀ x ∈ l, ∀ s ∈ x.f1, plNoHas text s) (a : Nat) (h : a < text.length) : stepS l text (a : Int) = (-1, 1) := by
  unfold stepS
  rw [if_neg (by omega)]
  have hnone : l.findIdx? (fun x => appliesS x text (a : Int)) = none := by
    rw [List.findIdx?_eq_none_iff]
    intro x hx
    have hx1 := h1 x hx
    have hxn := hno x hx
    unfold appliesS coversS
    cases hf : x.f1 with
    | nil => rw [hf] at hx1; simp at hx1
    | cons s rest =>
      have hd : text.drop ((a : Int)).toNat = text.getD a 0 :: text.drop (a + 1) := by
        rw [Int.toNat_natCast, List.drop_eq_getElem_cons (by omega), List.getD_eq_getElem?_getD, List.getElem?_eq_getElem (by omega)]
        rfl
      have hfalse : insideS (s :: rest) (text.drop ((a : Int)).toNat) = false := by
        rw [hd, insideS, hxn s (by rw [hf]; exact List.mem_cons_self) _ (by rw [List.getD_eq_getElem?_getD, List.getElem?_eq_getElem (by omega : a < text.length)]; exact List.getElem_mem _)]
        rfl
      rw [hfalse]
      simp
  simp only [hnone]
end Go.Proofs.Ytcpicopaobhlcaa.Q
end
section
namespace Go.Proofs.Ytcpicopaobhlcaa.Q
open Go.RowKit Go.Proofs.YtcpicopaobhlcaaW.PrintWords Go.Proofs.YtcpicopaobhlcaaW.PrintLast Go.Proofs.YtcpicopaobhlcaaW.PrintMore
set_option linter.unusedVariables false
theorem plHas_ok (s : St) (c : Int) (h : s.f0.length ≤ 12) : unicodetextref02_Has.f 40 s.f0 c = some (hasS s c) := has_go s.f0 [] _ 40 (by simp; omega) (by omega)
theorem idle_parts (l : List Ru) (text : List Int) (be : Nat) (h1 : ∀ x ∈ l, 1 ≤ x.f1.length) (hno : ∀ x ∈ l, ∀ s ∈ x.f1, plNoHas text s) (ah : Nat) (hah : 1 ≤ ah) : (spRun l text ah 0).1 ++ (spRun l text 1 (spRun l text ah 0).2).1 = text := by
  have hn := fun a => plNoStep l text h1 hno a
  obtain ⟨p1, p2⟩ := spRun_idle l text ah h1 hah hn 0
  have e1 := spRun_end l text ah h1 hah 0 (Nat.zero_le _)
  obtain ⟨q1, q2⟩ := spRun_idle l text 1 h1 (Nat.le_refl _) hn (spRun l text ah 0).2
  have e2 := spRun_end l text 1 h1 (Nat.le_refl _) (spRun l text ah 0).2 e1.2.2
  rw [p1, q1, List.drop_zero, Nat.sub_zero]
  have h3 : (spRun l text 1 (spRun l text ah 0).2).2 = text.length := by omega
  rw [h3, show text.length - (spRun l text ah 0).2 = (text.drop (spRun l text ah 0).2).length from (List.length_drop).symm, List.take_length, List.take_append_drop]
set_option maxHeartbeats 8000000 in
set_option maxRecDepth 100000 in
theorem transstreamIdle_law (A0 : Option Addr) (c0 : Nat) (l0 : List Ru) (A1 : Option Addr) (c1 : Nat) (l1 : List Int) (w : World) (h0 : wfL l0) (h1 : wfT l1) (hr0 : Kd.C k41 w A0 l0.length l0) (hc0 : l0.length ≤ c0) (hr1 : Kd.C (Kd.int .i64) w A1 l1.length l1) (hc1 : l1.length ≤ c1) :
    Calls Try.prog 4 #[.slice A0 l0.length c0, .slice A1 l1.length c1] w fun e w' => e = .returned (.bool true) ∧ Below w.heap.size w w' := by
  have HR := Aside0.mk hr0
  have HC := Aside0.mk hc0
  have HT := Aside0.mk hr1
  have HC1 := Aside0.mk hc1
  have hsm := sSmall_calls A0 c0 l0
  clear hr0 hc0 hr1 hc1 h0
  cases hb0 : spSmallB l0 with
  | false =>
    rw [hb0] at hsm
    have HSM := Aside0.mk hsm
    clear hsm hb0 h1
    go_enter Try.func4, Try.ntmps4
    go_wp2_with (first | (go_at_call 10; (with_reducible refine (HSM.out _ HR.out HC.out).mono ?_); rintro e w1 ⟨rfl, hb⟩; have HB := Aside0.mk hb; clear hb) | (go_at_call 12; (with_reducible refine (awake_calls _).mono ?_); rintro e wz ⟨rfl, hb⟩; have HBA := Aside0.mk hb; clear hb))
    go_ret
    exact ⟨rfl, below_step HB.out HBA.out⟩
  | true =>
    rw [hb0] at hsm
    have HSM := Aside0.mk hsm
    have hf := spSmall_few l0 hb0
    clear hsm hb0
    by_cases hb1 : (60 : Int) < (l1.length : Int)
    · have hq1 : decide ((l1.length : Int) > 60) = true := decide_eq_true hb1
      clear hb1 hf h1
      go_enter Try.func4, Try.ntmps4
      go_wp2_with (first | (go_at_call 10; (with_reducible refine (HSM.out _ HR.out HC.out).mono ?_); rintro e w1 ⟨rfl, hb⟩; have HB := Aside0.mk hb; clear hb) | (go_at_call 12; (with_reducible refine (awake_calls _).mono ?_); rintro e wz ⟨rfl, hb⟩; have HBA := Aside0.mk hb; clear hb))
      go_ret
      exact ⟨rfl, below_step HB.out HBA.out⟩
    · have hq1 : decide ((l1.length : Int) > 60) = false := decide_eq_false hb1
      have HTX := Aside0.mk (show wfT l1 ∧ l1.length ≤ 60 from ⟨h1, by omega⟩)
      have HF := Aside0.mk hf
      clear hb1 hf h1
      by_cases hd : checkS l0 = 0
      · have HD := Aside0.mk hd
        clear hd
        go_enter Try.func4, Try.ntmps4
        go_wp2_with (first | (go_at_call 10; (with_reducible refine (HSM.out _ HR.out HC.out).mono ?_); rintro e w1 ⟨rfl, hb⟩; have HB := Aside0.mk hb; clear hb) | (go_at_call 13; (with_reducible refine (spStNew A0 c0 l0 _ HF.out (Kd.C_below HR.out HB.out) HC.out HD.out).mono ?_); rintro e w3 ⟨b, rfl, hs, hlb, hb⟩; have HS := Aside0.mk (hs.mono (fun k hk => hk.2)); have HLB := Aside0.mk (Nat.le_trans HB.out.size hlb); have HB3 := Aside0.mk (below_step HB.out hb); clear hb hs hlb) | (go_at_call 12; (with_reducible refine (awake_calls _).mono ?_); rintro e wz ⟨rfl, hb⟩; have HBA := Aside0.mk hb; clear hb))
        go_loopw [7] (fun i wr => ∃ k : Nat, i = .int .i64 k ∧ Aside0 (k ≤ l0.length) ∧ Aside0 (∀ x ∈ l0.take k, ∀ s ∈ x.f1, plNoHas l1 s) ∧ Aside0 (SpSt wr b (fun k => k ≠ b) [] 0 l0) ∧ Aside0 (Below w.heap.size w wr)) (fun i _ => l0.length - (intOf i).toNat)
        case atStart => exact ⟨0, rfl, ⟨Nat.zero_le _⟩, ⟨fun x hx => by simp at hx⟩, HS, HB3⟩
        case round =>
          obtain ⟨k, rfl, HK, HNO, HSR, HBR⟩ := hrel
          by_cases hlt : k < l0.length
          · rename World => W1
            obtain ⟨ad, B0, d0, B1, d1, B2, d2, B3, d3, e, x0, x1, x2, x3, y0, z0, y1, z1, y2, z2, y3, z3⟩ := at_T41 (Kd.C_below HR.out HBR.out) (k : Int) (by omega) (by omega)
            cases e
            rw [Int.toNat_natCast] at x1
            have hmem : rd_T41 l0 (k : Int) ∈ l0 := by unfold rd_T41; rw [Int.toNat_natCast, List.getD_eq_getElem?_getD, List.getElem?_eq_getElem hlt]; exact List.getElem_mem hlt
            have hst : l0.take (k + 1) = l0.take k ++ [rd_T41 l0 (k : Int)] := by
              unfold rd_T41
              rw [Int.toNat_natCast, List.getD_eq_getElem?_getD, List.take_add_one, List.getElem?_eq_getElem hlt]
              rfl
            have hfx := (HF.out.2 _ hmem).2.1
            have Z1 := Aside0.mk z1
            clear x0 x2 x3 y0 z0 y1 z1 y2 z2 y3 z3 hmem
            generalize rd_T41 l0 (k : Int) = x at *
            have HST := Aside0.mk hst
            have HFX := Aside0.mk hfx
            have X1 := Aside0.mk x1
            have hkb : l0.length ≤ 220 := HF.out.1
            have hp1 : (0 ≤ (k : Int)) = True := eq_true (by omega)
            have hp2 : ((k : Int) < (l0.length : Int)) = True := eq_true (by omega)
            have hdl : decide ((k : Int) < (l0.length : Int)) = true := decide_eq_true (by omega)
            have hw : wrap64 ((k : Int) + 1) = (k : Int) + 1 := by unfold wrap64; omega
            have HLT := Aside0.mk hlt
            clear hst hfx x1 hlt hkb
            go_wp2
            go_loopw [8] (fun j wj => ∃ m : Nat, j = .int .i64 m ∧ Aside0 (m ≤ x.f1.length) ∧ Aside0 (∀ s ∈ x.f1.take m, plNoHas l1 s) ∧ Aside0 (Below W1.heap.size W1 wj)) (fun j _ => x.f1.length - (intOf j).toNat)
            case atStart => exact ⟨0, rfl, ⟨Nat.zero_le _⟩, ⟨fun x hx => by simp at hx⟩, ⟨Below.refl _ _⟩⟩
            case round =>
              obtain ⟨m, rfl, HKM, HNM, HBJ⟩ := hrel
              have x1 := pw_cell_below HBJ.out X1.out
              by_cases hlm : m < x.f1.length
              · have hmem : rd_T45 x.f1 (m : Int) ∈ x.f1 := by unfold rd_T45; rw [Int.toNat_natCast, List.getD_eq_getElem?_getD, List.getElem?_eq_getElem hlm]; exact List.getElem_mem hlm
                have hsm : x.f1.take (m + 1) = x.f1.take m ++ [rd_T45 x.f1 (m : Int)] := by
                  unfold rd_T45
                  rw [Int.toNat_natCast, List.getD_eq_getElem?_getD, List.take_add_one, List.getElem?_eq_getElem hlm]
                  rfl
                obtain ⟨ads, E0, g0, e, p0, q0, r0⟩ := at_T45 Z1.out (m : Int) (by omega) (by omega)
                cases e
                rw [Int.toNat_natCast] at p0
                have hfy := HFX.out.2 _ hmem
                generalize rd_T45 x.f1 (m : Int) = y at *
                have HSM := Aside0.mk hsm
                have HFY := Aside0.mk hfy
                have P0 := Aside0.mk p0
                have Q0 := Aside0.mk q0
                have R0 := Aside0.mk r0
                have hxl : x.f1.length ≤ 20 := HFX.out.1
                have hm1 : (0 ≤ (m : Int)) = True := eq_true (by omega)
                have hm2 : ((m : Int) < (x.f1.length : Int)) = True := eq_true (by omega)
                have hdm : decide ((m : Int) < (x.f1.length : Int)) = true := decide_eq_true (by omega)
                have hwm : wrap64 ((m : Int) + 1) = (m : Int) + 1 := by unfold wrap64; omega
                have HLM := Aside0.mk hlm
                clear hmem hsm hfy p0 q0 r0 hxl hlm
                go_wp2
                clear x1
                go_loopw [9] (fun u wm => ∃ n : Nat, u = .int .i64 n ∧ Aside0 (n ≤ l1.length) ∧ Aside0 (∀ c ∈ l1.take n, hasS y c = false) ∧ Aside0 (Below W1.heap.size W1 wm)) (fun u _ => l1.length - (intOf u).toNat)
                case atStart => exact ⟨0, rfl, ⟨Nat.zero_le _⟩, ⟨fun x hx => by simp at hx⟩, HBJ⟩
                case round =>
                  obtain ⟨n, rfl, HKN, HNN, HBM⟩ := hrel
                  have x1 := pw_cell_below HBM.out X1.out
                  have p0 := pw_cell_below HBM.out P0.out
                  by_cases hln : n < l1.length
                  · obtain ⟨adt, et, t0⟩ := Kd.at_int (Kd.C_below HT.out (below_step HBR.out HBM.out)) (n : Int) (by omega) (by omega)
                    cases et
                    rw [Int.toNat_natCast] at t0
                    have hmem : rd l1 (n : Int) ∈ l1 := by unfold rd; rw [Int.toNat_natCast, List.getD_eq_getElem?_getD, List.getElem?_eq_getElem hln]; exact List.getElem_mem hln
                    have hsn : l1.take (n + 1) = l1.take n ++ [rd l1 (n : Int)] := by
                      unfold rd
                      rw [Int.toNat_natCast, List.getD_eq_getElem?_getD, List.take_add_one, List.getElem?_eq_getElem hln]
                      rfl
                    generalize rd l1 (n : Int) = c at *
                    obtain ⟨hv, hhv⟩ : ∃ hv, hv = hasS y c := ⟨_, rfl⟩
                    have HHQ := Aside0.mk (show unicodetextref02_Has.f 40 y.f0 c = some hv by rw [hhv]; exact plHas_ok y c HFY.out)
                    have HSN := Aside0.mk hsn
                    have HHV := Aside0.mk hhv
                    have hxt := HTX.out.2
                    have hn1 : (0 ≤ (n : Int)) = True := eq_true (by omega)
                    have hn2 : ((n : Int) < (l1.length : Int)) = True := eq_true (by omega)
                    have hdn : decide ((n : Int) < (l1.length : Int)) = true := decide_eq_true (by omega)
                    have hwn : wrap64 ((n : Int) + 1) = (n : Int) + 1 := by unfold wrap64; omega
                    have HLN := Aside0.mk hln
                    clear hmem hsn hhv hxt hln
                    cases hv with
                    | true =>
                      go_wp2
                      go_region_held3 (fun w' => w'.cell? ⟨(ad.add (k * 4)).block, (ad.add (k * 4)).off + 1, none⟩ = some (.slice (some ads) x.f1.length d1) ∧ w'.cell? (ads.add m) = some (.slice E0 y.f0.length g0) ∧ w'.cell? (adt.add n) = some (.int .i64 c)) (first | go_keep | (go_split_ands; refine ⟨?_, ?_, ?_⟩; (refine pw_cell_below hb ?_; assumption); (refine pw_cell_below hb ?_; assumption); (refine pw_cell_below hb ?_; assumption)))
                        (first | (go_at_call 18; (with_reducible refine (unicodetextref02_Has.calls 40 E0 g0 y.f0 c true _ ?s1 Q0.out HHQ.out).mono ?_); (case s1 => exact Kd.C_below R0.out (by repeat (first | (with_reducible first | exact HBM.out | apply below_alloc | apply pw_below_drewN | apply below_drew1) | exact HBM.out))); rintro e wh ⟨rfl, hb⟩; have HBH := Aside0.mk (below_step (by repeat (first | (with_reducible first | exact HBM.out | apply below_alloc | apply pw_below_drewN | apply below_drew1) | exact HBM.out)) hb)))
                      clear hb
                      go_wp2_with (go_at_call 12; (with_reducible refine (awake_calls _).mono ?_); rintro e wz ⟨rfl, hb⟩; have HBA := Aside0.mk hb; clear hb)
                      go_ret
                      exact ⟨rfl, below_step (below_step HBR.out HBH.out) HBA.out⟩
                    | false =>
                      go_wp2
                      go_region_held3 (fun w' => w'.cell? ⟨(ad.add (k * 4)).block, (ad.add (k * 4)).off + 1, none⟩ = some (.slice (some ads) x.f1.length d1) ∧ w'.cell? (ads.add m) = some (.slice E0 y.f0.length g0) ∧ w'.cell? (adt.add n) = some (.int .i64 c)) (first | go_keep | (go_split_ands; refine ⟨?_, ?_, ?_⟩; (refine pw_cell_below hb ?_; assumption); (refine pw_cell_below hb ?_; assumption); (refine pw_cell_below hb ?_; assumption)))
                        (first | (go_at_call 18; (with_reducible refine (unicodetextref02_Has.calls 40 E0 g0 y.f0 c false _ ?s1 Q0.out HHQ.out).mono ?_); (case s1 => exact Kd.C_below R0.out (by repeat (first | (with_reducible first | exact HBM.out | apply below_alloc | apply pw_below_drewN | apply below_drew1) | exact HBM.out))); rintro e wh ⟨rfl, hb⟩; have HBH := Aside0.mk (below_step (by repeat (first | (with_reducible first | exact HBM.out | apply below_alloc | apply pw_below_drewN | apply below_drew1) | exact HBM.out)) hb)))
                      clear hb
                      go_wp2
                      go_roundw
                      case rel => exact ⟨n + 1, by rw [hwn]; rfl, HLN, ⟨fun d hd => by rw [HSN.out] at hd; exact (List.mem_append.1 hd).elim (HNN.out d) (fun h => by rw [List.mem_singleton.1 h]; exact HHV.out.symm)⟩, HBH⟩
                      case measure => rw [hwn]; simp only [intOf]; have := HLN.out; omega
                  · obtain rfl : n = l1.length := by have := HKN.out; omega
                    have hdn : decide ((l1.length : Int) < (l1.length : Int)) = false := decide_eq_false (by omega)
                    have HNY : Aside0 (plNoHas l1 y) := ⟨by have h := HNN.out; rw [List.take_length] at h; exact h⟩
                    clear hln
                    go_wp2
                    go_roundw
                    case rel => exact ⟨m + 1, by rw [hwm]; rfl, HLM, ⟨fun d hd => by rw [HSM.out] at hd; exact (List.mem_append.1 hd).elim (HNM.out d) (fun h => by rw [List.mem_singleton.1 h]; exact HNY.out)⟩, HBM⟩
                    case measure => rw [hwm]; simp only [intOf]; have := HLM.out; omega
              · obtain rfl : m = x.f1.length := by have := HKM.out; omega
                have hdm : decide ((x.f1.length : Int) < (x.f1.length : Int)) = false := decide_eq_false (by omega)
                have HNX : Aside0 (∀ s ∈ x.f1, plNoHas l1 s) := ⟨by have h := HNM.out; rw [List.take_length] at h; exact h⟩
                clear hlm
                go_wp2
                go_roundw
                case rel => exact ⟨k + 1, by rw [hw]; rfl, HLT, ⟨fun d hd => by rw [HST.out] at hd; exact (List.mem_append.1 hd).elim (HNO.out d) (fun h => by rw [List.mem_singleton.1 h]; exact HNX.out)⟩, ⟨HSR.out.below HBJ.out⟩, ⟨below_step HBR.out HBJ.out⟩⟩
                case measure => rw [hw]; simp only [intOf]; have := HLT.out; omega
          · obtain rfl : k = l0.length := by have := HK.out; omega
            have hdl : decide ((l0.length : Int) < (l0.length : Int)) = false := decide_eq_false (by omega)
            have hsp := spOk l0 HF.out (spDataS HD.out)
            have hno := HNO.out
            rw [List.take_length] at hno
            have hx1 := HTX.out.2
            have hpt := idle_parts l0 l1 0 hsp.one hno (spAh l0) hsp.ahp
            have hwr := spStWrite b (fun k => k ≠ b) [] 0 l0 A1 c1 l1 wr HF.out HD.out HSR.out (spNotB b) HSR.out.newB (okText_wf HTX.out.1 (by omega)) (by simp; omega) (Kd.C_below HT.out HBR.out) HC1.out
            rw [List.nil_append] at hwr
            obtain ⟨wl, a2, hrun⟩ : ∃ wl a2, spRun l0 l1 (spAh l0) 0 = (wl, a2) := ⟨_, _, rfl⟩
            rw [hrun] at hwr hpt
            have HWR := Aside0.mk hwr
            have hcl := spStClose b (fun k => k ≠ b) l1 a2 l0
            obtain ⟨X, a3, hrun2⟩ : ∃ X a3, spRun l0 l1 1 a2 = (X, a3) := ⟨_, _, rfl⟩
            have hpt2 : wl ++ X = l1 := by have h := hpt; show wl ++ X = l1; rw [show (wl, a2).2 = a2 from rfl, hrun2] at h; exact h
            rw [hrun2] at hcl
            have HCL := Aside0.mk hcl
            have HXX := Aside0.mk hpt2
            have HLN := Aside0.mk (show wl.length ≤ 60 ∧ X.length ≤ 60 by rw [← hpt2, List.length_append] at hx1; omega)
            have HEQ := Aside0.mk (show unicodetextref01_Equal.f 100000 l1 l1 = some true by rw [plEqual_ok _ _ _ (by omega) (by omega)]; simp)
            clear hsp hno hx1 hpt hwr hrun hcl hrun2 hpt2 hlt
            go_wp2_with (first | (go_at_call 14; (with_reducible refine HWR.out.mono ?_); rintro e w5 ⟨v5, rfl, hv5, hs5, hg5⟩; obtain ⟨A5, c5, rfl⟩ := Kd.R_slice hv5; have HV5 := Aside0.mk hv5; have HS5 := Aside0.mk hs5; have HB5 := Aside0.mk (belowGrown HBR.out hg5 HLB.out); clear hv5 hs5 hg5) | (go_at_call 15; (with_reducible refine (HCL.out _ HF.out HD.out HS5.out (spNotB b) HS5.out.newB).mono ?_); rintro e w7 ⟨v7, rfl, hv7, hz7, hg7⟩; obtain ⟨A7, c7, rfl⟩ := Kd.R_slice hv7; have HV7 := Aside0.mk hv7; have HV5c := Aside0.mk (rowKeep HV5.out hg7 (HS5.out.notrow HV5.out)); have HB7 := Aside0.mk (belowGrown HB5.out hg7 HLB.out); clear hv7 hz7 hg7) | (at_builtin; go_loud (refine Kd.R_append_rows (Kd.int .i64) (w0 := w) w.heap.size rfl (.tmp 87) (.tmp 88) 31 3 (.int .i64 0) 8 rfl Try.underlying31 info3 rfl (by decide) (by omega) (.slice none 0 0) [] wl _ _ _ (fun _ => True) (fun _ => False) rfl rfl ?aO ?aR (fun _ _ h => h) (fun _ h => h.elim) ?aF ?aB ?aS ?aL ?_; (case aR => exact (Kd.R_reads' HV5c.out).2.2); (case aB => exact HB7.out); (case aF => exact (fun _ _ => trivial)); (case aO => exact Kd.R_nil _ _ _ _ _); (case aS => exact HB7.out.size); (case aL => have h1_ := HLN.out.1; simp only [List.length_nil]; omega); intro v8 w8 ho hb hg hat; have HV8 := Aside0.mk ho; have HV7c := Aside0.mk (rowApart HV7.out hg (.inl rfl)); have HB8 := Aside0.mk hb; clear ho hb hg hat)) | (at_builtin; go_loud (refine Kd.R_append_rows (Kd.int .i64) (w0 := w) w.heap.size rfl (.tmp 90) (.tmp 91) 31 3 (.int .i64 0) 8 rfl Try.underlying31 info3 rfl (by decide) (by omega) v8 ([] ++ wl) X _ _ _ (fun _ => True) (fun _ => False) rfl rfl ?aO ?aR (fun _ _ h => h) (fun _ h => h.elim) ?aF ?aB ?aS ?aL ?_; (case aR => exact (Kd.R_reads' HV7c.out).2.2); (case aB => exact HB8.out); (case aF => exact (fun _ _ => trivial)); (case aO => exact HV8.out); (case aS => exact HB8.out.size); (case aL => have h1_ := HLN.out.1; have h2_ := HLN.out.2; simp only [List.nil_append]; omega); intro v9 w9 ho hb hg hat; rw [List.nil_append, HXX.out] at ho; obtain ⟨A9, c9, rfl⟩ := Kd.R_slice ho; have HV9 := Aside0.mk ho; have HB9 := Aside0.mk hb; clear ho hb hg hat)) | (go_at_call 16; (with_reducible refine (unicodetextref01_Equal.calls 100000 A9 c9 l1 A1 c1 l1 true _ (Kd.R_reads' HV9.out).2.2 (Kd.R_reads' HV9.out).2.1 (Kd.C_below HT.out HB9.out) HC1.out HEQ.out).mono ?_); rintro e we ⟨rfl, hde⟩; have HBE := Aside0.mk (below_step HB9.out hde.below); clear hde) | (go_at_call 12; (with_reducible refine (awake_calls _).mono ?_); rintro e wz ⟨rfl, hb⟩; have HBA := Aside0.mk hb; clear hb))
            go_ret
            exact ⟨rfl, below_step HBE.out HBA.out⟩
      · have HD := Aside0.mk hd
        have hq : (checkS l0 = 0) = False := eq_false hd
        have hq2 : (checkS l0 == 0) = false := by simpa using hd
        have hq3 : decide (checkS l0 = 0) = false := decide_eq_false hd
        clear hd
        go_enter Try.func4, Try.ntmps4
        go_wp2_with (first | (go_at_call 10; (with_reducible refine (HSM.out _ HR.out HC.out).mono ?_); rintro e w1 ⟨rfl, hb⟩; have HB := Aside0.mk hb; clear hb) | (go_at_call 13; (with_reducible refine (sNew_bad A0 c0 l0 _ HF.out (Kd.C_below HR.out HB.out) HC.out HD.out).mono ?_); rintro e w3 ⟨rfl, hb⟩; have HB3 := Aside0.mk (below_step HB.out hb); clear hb) | (go_at_call 12; (with_reducible refine (awake_calls _).mono ?_); rintro e wz ⟨rfl, hb⟩; have HBA := Aside0.mk hb; clear hb))
        go_ret
        exact ⟨rfl, below_step HB3.out HBA.out⟩
end Go.Proofs.Ytcpicopaobhlcaa.Q
end
