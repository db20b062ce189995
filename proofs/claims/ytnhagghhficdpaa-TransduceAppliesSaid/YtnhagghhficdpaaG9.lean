/- Lemmas, printed and written for this claim: part 9. -/
import Derived.Test.YtnhagghhficdpaaG2
import Derived.Test.YtnhagghhficdpaaG8
import Derived.Test.YtnhagghhficdpaaG5
import Derived.Test.YtnhagghhficdpaaG7
import Derived.Test.YtnhagghhficdpaaG4
import Derived.WalkKit
import Derived.Test.YtnhagghhficdpaaG6
import Derived.Test.YtnhagghhficdpaaG3
section
namespace Go.Proofs.Ytnhagghhficdpaa.Q
open Go.RowKit Go.Proofs.YtnhagghhficdpaaW.PrintWords Go.Proofs.YtnhagghhficdpaaW.PrintLast Go.Proofs.YtnhagghhficdpaaW.PrintMore
attribute [local go_sem] max2_int min2_int max_two min_two max_three min_three max_four min_four   -- for this text's walks alone
set_option linter.unusedVariables false
set_option linter.unusedSimpArgs false
def unicodetextref51_Apply.l0 : Nat → List Int → List (S34) → List Int → Int → Option (List Int)
  | 0, _, _, _, _ => none
  | k + 1, x1, x5, x6, x7 => if x7 < (x1.length : Int) then ((unicodetextref51_step.f k x5 x1 x7).bind fun bt267 => ((unicodetextref51_Written.f k x5 x1 x7 bt267.1).bind fun t269 => (if x6.length + t269.length < 17592186044416 then (unicodetextref51_Apply.l0 k x1 x5 (x6 ++ t269) (wrap64 (x7 + bt267.2))) else (none)))) else (some x6)
def unicodetextref51_Apply.f (k : Nat) (l0 : List (S34)) (l1 : List Int) : Option (List Int) := (unicodetextref51_Data.f k l0).bind fun t264 => (unicodetextref51_Apply.l0 k l1 t264 ([] : List Int) 0)
set_option maxHeartbeats 8000000 in
set_option maxRecDepth 100000 in
theorem unicodetextref51_Apply.calls (k : Nat) (A0 : Option Addr) (c0 : Nat) (l0 : List (S34)) (A1 : Option Addr) (c1 : Nat) (l1 : List Int) (r : List Int) (w : World) (hr0 : Kd.C k34 w A0 l0.length l0) (hc0 : l0.length ≤ c0) (hr1 : Kd.C (Kd.int .i64) w A1 l1.length l1) (hc1 : l1.length ≤ c1) (h : unicodetextref51_Apply.f k l0 l1 = some r) :
    Calls Try.prog 17 #[.slice A0 l0.length c0, .slice A1 l1.length c1] w fun e w' => ∃ v0_ : Value, e = .returned (v0_) ∧ Kd.R (Kd.int .i64) 3 w' w.heap.size (fun _ => True) v0_ r ∧ Below w.heap.size w w' := by
  have HR0 := Aside0.mk hr0
  have HC0 := Aside0.mk hc0
  clear hr0 hc0
  have HR1 := Aside0.mk hr1
  have HC1 := Aside0.mk hc1
  clear hr1 hc1
  have HB := Aside0.mk (Below.refl w.heap.size w)
  have H : ((unicodetextref51_Data.f k l0).bind fun t264 => (unicodetextref51_Apply.l0 k l1 t264 ([] : List Int) 0)) = some r := h
  clear h
  replace H := Option.bind_eq_some_iff.mp H
  obtain ⟨t264, A30, H⟩ := H
  replace H : (unicodetextref51_Apply.l0 k l1 t264 ([] : List Int) 0) = some r := H
  have A3 := Aside0.mk A30
  clear A30
  have H' := Aside0.mk H
  clear H
  go_enter Try.func17, Try.ntmps17
  go_wp2_with (first | ((with_reducible refine gate_callee (f := 24) rfl ?_); refine goesL_ (some 11) rfl rfl Try.func24 (by kernel_rfl) rfl #[.slice A0 l0.length c0] rfl (by (try simp only [List.map_toArray, List.map_cons, List.map_nil]); first | done | rfl | (simp only [List.length_drop, List.length_take]; rfl)) ?_; (with_reducible refine (unicodetextref51_Data.calls k (fun k_ => k_ < w.heap.size) _ _ l0 t264 _ ?side1 A3.out).mono ?_); (case side1 => exact Kd.V_mk HC0.out (Kd.F_below (Kd.C_F k34_heap HR0.out) (by repeat (first | (with_reducible first | exact HB.out | apply below_alloc | apply pw_below_drewN | apply below_drew1) | exact HB.out)))); rintro e w4 ⟨v265, rfl, ho0, hb⟩; refine ⟨_, rfl, ?_⟩; have n0_ := Aside0.mk (Kd.V_lower (Kd.V_mono (ok' := fun k_ => True) ho0 (fun k_ hk_ => trivial)) (below_size (by repeat (first | (with_reducible first | exact HB.out | apply below_alloc | apply pw_below_drewN | apply below_drew1) | exact HB.out)))); have n1_ := Aside0.mk (below_step (by repeat (first | (with_reducible first | exact HB.out | apply below_alloc | apply pw_below_drewN | apply below_drew1) | exact HB.out)) hb); clear HB; have HO266 := n0_; have HB := n1_; clear n0_ n1_; (try clear hb); (try clear hb2); (try clear hk); (try clear hi); (try clear ho0)))
  go_loopg [6, 7] k (fun kq v6 v7 w' => ∃ (x6_1 : List Int) (x7_1 : Int), v7 = .int .i64 x7_1 ∧ Aside0 (unicodetextref51_Apply.l0 kq l1 t264 x6_1 x7_1 = some r) ∧ Aside0 (kq ≤ k) ∧ Aside0 (Kd.V k34 34 w' w.heap.size (fun k_ => some k_ ≠ (v6 : Value).ownBlock) v265 t264) ∧ Aside0 (Kd.R (Kd.int .i64) 3 w' w.heap.size (fun _ => True) v6 x6_1) ∧ Aside0 (Below w.heap.size w w'))
  case atStart => exact ⟨(([] : List Int)), (0), (by first | rfl | (simp; done) | (simp [*]; done)), H', ⟨Nat.le_refl _⟩, ⟨by (with_reducible repeat (first | apply Kd.V_alloc | apply Kd.V_drewN | apply Kd.V_drew)); exact Kd.V_mono HO266.out (fun _ hk => (by simp [Value.ownBlock]))⟩, ⟨by first | exact Kd.R_nil _ _ _ _ _ | exact Kd.N_nil _ _ _ _ _ | exact Kd.V_nil _ _ _ _ _ | exact Kd.Q_nil _ _ _ _ _ | exact Kd.S_nil _ _ _ _ _⟩, ⟨by repeat (first | (with_reducible first | exact HB.out | apply below_alloc | apply pw_below_drewN | apply below_drew1) | exact HB.out)⟩⟩
  case round =>
    clear H'
    try clear c1
    try clear c2
    try clear p2
    obtain ⟨x6_1, x7_1, rfl, HA, HK1, HO_5, HO_6, HB⟩ := hrel
    cases gk with
    | zero => exact absurd HA.out (by simp [unicodetextref51_Apply.l0])
    | succ k1 =>
      have H := HA.out
      clear HA
      simp only [unicodetextref51_Apply.l0] at H
      by_cases c5 : x7_1 < (l1.length : Int)
      · rw [if_pos c5] at H
        have c5b0 : decide (x7_1 < (l1.length : Int)) = true := decide_eq_true c5
        clear c5
        replace H := Option.bind_eq_some_iff.mp H
        obtain ⟨⟨t267, t268⟩, A60, H⟩ := H
        replace H : ((unicodetextref51_Written.f k1 t264 l1 x7_1 t267).bind fun t269 => (if x6_1.length + t269.length < 17592186044416 then (unicodetextref51_Apply.l0 k1 l1 t264 (x6_1 ++ t269) (wrap64 (x7_1 + t268))) else (none))) = some r := H
        have A6 := Aside0.mk A60
        clear A60
        replace H := Option.bind_eq_some_iff.mp H
        obtain ⟨t269, A70, H⟩ := H
        replace H : (if x6_1.length + t269.length < 17592186044416 then (unicodetextref51_Apply.l0 k1 l1 t264 (x6_1 ++ t269) (wrap64 (x7_1 + t268))) else (none)) = some r := H
        have A7 := Aside0.mk A70
        clear A70
        by_cases c8 : x6_1.length + t269.length < 17592186044416
        · rw [if_pos c8] at H
          have LMc8 := Aside0.mk c8
          clear c8
          obtain ⟨y272, hy272⟩ : ∃ y_ : List Int, y_ = (x6_1 ++ t269) := ⟨_, rfl⟩
          replace H : (unicodetextref51_Apply.l0 k1 l1 t264 y272 (wrap64 (x7_1 + t268))) = some r := by first | (rw [hy272]; with_reducible exact H) | (have H2_ := (Option.bind_some _ _).symm.trans H; rw [hy272]; with_reducible exact H2_) | (have H2_ := (Option.bind_some _ _).symm.trans H; with_reducible exact H2_) | with_reducible exact H | (rw [hy272]; exact H) | exact H
          have Ny272 := Aside0.mk hy272
          clear hy272
          have H' := Aside0.mk H
          clear H
          obtain ⟨Ao9, co9, eo9⟩ := Kd.V_slice HO_5.out
          subst eo9
          go_wp2_with (first | ((with_reducible refine gate_callee (f := 30) rfl ?_); refine goesL_ (some 20) rfl rfl Try.func30 (by kernel_rfl) rfl #[.slice Ao9 t264.length co9, .slice A1 l1.length c1, .int .i64 x7_1] rfl (by (try simp only [List.map_toArray, List.map_cons, List.map_nil]); first | done | rfl | (simp only [List.length_drop, List.length_take]; rfl)) ?_; (with_reducible refine (unicodetextref51_step.calls k1 _ _ t264 _ _ l1 x7_1 t267 t268 _ ?side1 ?side2 ?side3 ?side4 A6.out).mono ?_); (case side1 => repeat (first | exact (Kd.V_reads' HO_5.out).2.2 | (with_reducible refine Kd.C_alloc ?_ _) | (with_reducible refine Kd.C_drewN ?_ _) | (with_reducible refine Kd.C_drew ?_))); (case side2 => exact (Kd.V_reads' HO_5.out).2.1); (case side3 => repeat (first | exact (Kd.C_below HR1.out HB.out) | (with_reducible refine Kd.C_alloc ?_ _) | (with_reducible refine Kd.C_drewN ?_ _) | (with_reducible refine Kd.C_drew ?_))); (case side4 => exact HC1.out); rintro e w10 ⟨rfl, hb⟩; refine ⟨_, rfl, ?_⟩; have n0_ := Aside0.mk (Kd.V_below (by (with_reducible repeat (first | apply Kd.V_alloc | apply Kd.V_drewN | apply Kd.V_drew)); exact HO_5.out) hb); have n1_ := Aside0.mk (Kd.R_below (by (with_reducible repeat (first | apply Kd.R_alloc | apply Kd.R_drewN | apply Kd.R_drew)); exact HO_6.out) hb); have n2_ := Aside0.mk (below_step (by repeat (first | (with_reducible first | exact HB.out | apply below_alloc | apply pw_below_drewN | apply below_drew1) | exact HB.out)) hb); clear HO_5; clear HO_6; clear HB; have HO_5 := n0_; have HO_6 := n1_; have HB := n2_; clear n0_ n1_ n2_; (try clear hb); (try clear hb2); (try clear hk); (try clear hi)) | ((with_reducible refine gate_callee (f := 25) rfl ?_); refine goesL_ (some 28) rfl rfl Try.func25 (by kernel_rfl) rfl #[.slice Ao9 t264.length co9, .slice A1 l1.length c1, .int .i64 x7_1, .int .i64 t267] rfl (by (try simp only [List.map_toArray, List.map_cons, List.map_nil]); first | done | rfl | (simp only [List.length_drop, List.length_take]; rfl)) ?_; (with_reducible refine (unicodetextref51_Written.calls k1 _ _ t264 _ _ l1 x7_1 t267 t269 _ ?side1 ?side2 ?side3 ?side4 A7.out).mono ?_); (case side1 => repeat (first | exact (Kd.V_reads' HO_5.out).2.2 | (with_reducible refine Kd.C_alloc ?_ _) | (with_reducible refine Kd.C_drewN ?_ _) | (with_reducible refine Kd.C_drew ?_))); (case side2 => exact (Kd.V_reads' HO_5.out).2.1); (case side3 => repeat (first | exact (Kd.C_below HR1.out HB.out) | (with_reducible refine Kd.C_alloc ?_ _) | (with_reducible refine Kd.C_drewN ?_ _) | (with_reducible refine Kd.C_drew ?_))); (case side4 => exact HC1.out); rintro e w11 ⟨v270, rfl, ho0, hb⟩; refine ⟨_, rfl, ?_⟩; have n0_ := Aside0.mk (Kd.V_elder' (by (with_reducible repeat (first | apply Kd.V_alloc | apply Kd.V_drewN | apply Kd.V_drew)); exact HO_5.out) (Kd.R_base ho0) hb); have n1_ := Aside0.mk (Kd.R_elder' (by (with_reducible repeat (first | apply Kd.R_alloc | apply Kd.R_drewN | apply Kd.R_drew)); exact HO_6.out) (Kd.R_base ho0) hb); have n2_ := Aside0.mk (Kd.R_lower (Kd.R_new' ho0 (Kd.R_lt (by (with_reducible repeat (first | apply Kd.R_alloc | apply Kd.R_drewN | apply Kd.R_drew)); exact HO_6.out))) (below_size (by repeat (first | (with_reducible first | exact HB.out | apply below_alloc | apply pw_below_drewN | apply below_drew1) | exact HB.out)))); have n3_ := Aside0.mk (below_step (by repeat (first | (with_reducible first | exact HB.out | apply below_alloc | apply pw_below_drewN | apply below_drew1) | exact HB.out)) hb); clear HO_5; clear HO_6; clear HB; have HO_5 := n0_; have HO_6 := n1_; have HO271 := n2_; have HB := n3_; clear n0_ n1_ n2_ n3_; (try clear hb); (try clear hb2); (try clear hk); (try clear hi); (try clear ho0); obtain ⟨Ao13, co13, eo13⟩ := Kd.R_slice HO271.out; subst eo13) | ((with_reducible refine gate_builtin (b := .append) (xs := #[.tmp 23, .tmp 28]) rfl ?_); at_builtin; refine Kd.R_append_rows (Kd.int .i64) (w0 := w) w.heap.size rfl (.tmp 23) (.tmp 28) 23 3 (.int .i64 0) 8 rfl Try.underlying23 info3 rfl (by decide) (by omega) u6 x6_1 t269 _ _ _ (fun k_ => some k_ ≠ (.slice Ao13 t269.length co13 : Value).ownBlock) (fun _ => False) rfl rfl ?aO ?aR (fun _ _ h => h) (fun _ h => h.elim) ?aF ?aB ?aS ?aL ?_; (case aR => repeat (first | exact (Kd.R_reads' HO271.out).2.2 | (with_reducible refine Kd.C_alloc ?_ _) | (with_reducible refine Kd.C_drewN ?_ _) | (with_reducible refine Kd.C_drew ?_))); (case aB => exact (by repeat (first | (with_reducible first | exact HB.out | apply below_alloc | apply pw_below_drewN | apply below_drew1) | exact HB.out))); (case aF => exact (fun k_ hk => Kd.fresh' (Kd.R_lt (by (with_reducible repeat (first | apply Kd.R_alloc | apply Kd.R_drewN | apply Kd.R_drew)); exact HO271.out)) k_ hk)); (case aO => exact (by (with_reducible repeat (first | apply Kd.R_alloc | apply Kd.R_drewN | apply Kd.R_drew)); exact Kd.R_mono HO_6.out (fun _ hk => hk.2))); (case aS => exact (below_size (by repeat (first | (with_reducible first | exact HB.out | apply below_alloc | apply pw_below_drewN | apply below_drew1) | exact HB.out)))); (case aL => have := LMc8.out; omega); intro v273 w12 ho hb hg hat; rw [← Ny272.out] at ho; have n0_ := Aside0.mk (Kd.V_afterv (ok := (fun k_ => some k_ ≠ (.slice Ao13 t269.length co13 : Value).ownBlock)) (by (with_reducible repeat (first | apply Kd.V_alloc | apply Kd.V_drewN | apply Kd.V_drew)); exact Kd.V_mono HO_5.out (fun _ hk => ⟨hk.2, hk.1⟩)) hg hat); have n1_ := Aside0.mk (Kd.R_after (ok := (fun _ => True)) (by (with_reducible repeat (first | apply Kd.R_alloc | apply Kd.R_drewN | apply Kd.R_drew)); exact HO271.out) hg hat); have n2_ := Aside0.mk (hb); have n3_ := Aside0.mk (ho); clear HO_5; clear HO271; clear HB; clear HO_6; have HO_5 := n0_; have HO271 := n1_; have HB := n2_; have HO274 := n3_; clear n0_ n1_ n2_ n3_; clear ho hb hg hat))
          go_roundg k1
          case measure => have := HK1.out; omega
          case rel => exact ⟨(y272), (wrap64 (x7_1 + t268)), (by first | rfl | (simp; done) | (simp [*]; done)), H', ⟨by have := HK1.out; omega⟩, ⟨by (with_reducible repeat (first | apply Kd.V_alloc | apply Kd.V_drewN | apply Kd.V_drew)); exact Kd.V_mono HO_5.out (fun _ hk => hk.2)⟩, ⟨by (with_reducible repeat (first | apply Kd.R_alloc | apply Kd.R_drewN | apply Kd.R_drew)); exact Kd.R_mono HO274.out (fun _ hk => trivial)⟩, ⟨by repeat (first | (with_reducible first | exact HB.out | apply below_alloc | apply pw_below_drewN | apply below_drew1) | exact HB.out)⟩⟩
        · rw [if_neg c8] at H
          exact absurd H (by simp)
      · rw [if_neg c5] at H
        have c5b0 : decide (x7_1 < (l1.length : Int)) = false := decide_eq_false c5
        clear c5
        obtain rfl := Option.some.inj H
        go_wp2
        go_ret
        exact ⟨_, by first | rfl | (simp [errW_none, errW_some] <;> rfl) | (simp [*, errW_none, errW_some] <;> rfl), by (with_reducible repeat (first | apply Kd.R_alloc | apply Kd.R_drewN | apply Kd.R_drew)); exact HO_6.out, by repeat (first | (with_reducible first | exact HB.out | apply below_alloc | apply pw_below_drewN | apply below_drew1) | exact HB.out)⟩
def unicodetextlaw51_TransduceApplies.f (k : Nat) (l0 : List (S34)) (l1 : List Int) : Option (Bool) := (unicodetextlaw51_few.f k l0 l1).bind fun t275 => (if t275 = true then ((transduce_Apply.f l0 l1).bind fun t276 => ((unicodetextref51_Apply.f k l0 l1).bind fun t279 => ((unicodetextref01_Equal.f k t276 t279).bind fun t282 => (if t282 = true then ((unicodetextlaw51_alive.f k).bind fun t283 => (some t283)) else (some false))))) else ((unicodetextlaw51_alive.f k).bind fun t284 => (some t284)))
set_option maxHeartbeats 8000000 in
set_option maxRecDepth 100000 in
theorem unicodetextlaw51_TransduceApplies.calls (k : Nat) (A0 : Option Addr) (c0 : Nat) (l0 : List (S34)) (A1 : Option Addr) (c1 : Nat) (l1 : List Int) (r : Bool) (w : World) (hr0 : Kd.C k34 w A0 l0.length l0) (hc0 : l0.length ≤ c0) (hr1 : Kd.C (Kd.int .i64) w A1 l1.length l1) (hc1 : l1.length ≤ c1) (h : unicodetextlaw51_TransduceApplies.f k l0 l1 = some r) :
    Calls Try.prog 4 #[.slice A0 l0.length c0, .slice A1 l1.length c1] w fun e w' => e = .returned (.bool r) ∧ Below w.heap.size w w' := by
  have HR0 := Aside0.mk hr0
  have HC0 := Aside0.mk hc0
  clear hr0 hc0
  have HR1 := Aside0.mk hr1
  have HC1 := Aside0.mk hc1
  clear hr1 hc1
  have HB := Aside0.mk (Below.refl w.heap.size w)
  have H : ((unicodetextlaw51_few.f k l0 l1).bind fun t275 => (if t275 = true then ((transduce_Apply.f l0 l1).bind fun t276 => ((unicodetextref51_Apply.f k l0 l1).bind fun t279 => ((unicodetextref01_Equal.f k t276 t279).bind fun t282 => (if t282 = true then ((unicodetextlaw51_alive.f k).bind fun t283 => (some t283)) else (some false))))) else ((unicodetextlaw51_alive.f k).bind fun t284 => (some t284)))) = some r := h
  clear h
  replace H := Option.bind_eq_some_iff.mp H
  obtain ⟨t275, A30, H⟩ := H
  replace H : (if t275 = true then ((transduce_Apply.f l0 l1).bind fun t276 => ((unicodetextref51_Apply.f k l0 l1).bind fun t279 => ((unicodetextref01_Equal.f k t276 t279).bind fun t282 => (if t282 = true then ((unicodetextlaw51_alive.f k).bind fun t283 => (some t283)) else (some false))))) else ((unicodetextlaw51_alive.f k).bind fun t284 => (some t284))) = some r := H
  have A3 := Aside0.mk A30
  clear A30
  by_cases c4 : t275 = true
  · subst c4
    have H1 : ((transduce_Apply.f l0 l1).bind fun t276 => ((unicodetextref51_Apply.f k l0 l1).bind fun t279 => ((unicodetextref01_Equal.f k t276 t279).bind fun t282 => (if t282 = true then ((unicodetextlaw51_alive.f k).bind fun t283 => (some t283)) else (some false))))) = some r := by rw [if_pos rfl] at H; exact H
    clear H
    have H := H1
    clear H1
    replace H := Option.bind_eq_some_iff.mp H
    obtain ⟨t276, A50, H⟩ := H
    replace H : ((unicodetextref51_Apply.f k l0 l1).bind fun t279 => ((unicodetextref01_Equal.f k t276 t279).bind fun t282 => (if t282 = true then ((unicodetextlaw51_alive.f k).bind fun t283 => (some t283)) else (some false)))) = some r := H
    have A5 := Aside0.mk A50
    clear A50
    replace H := Option.bind_eq_some_iff.mp H
    obtain ⟨t279, A60, H⟩ := H
    replace H : ((unicodetextref01_Equal.f k t276 t279).bind fun t282 => (if t282 = true then ((unicodetextlaw51_alive.f k).bind fun t283 => (some t283)) else (some false))) = some r := H
    have A6 := Aside0.mk A60
    clear A60
    replace H := Option.bind_eq_some_iff.mp H
    obtain ⟨t282, A70, H⟩ := H
    replace H : (if t282 = true then ((unicodetextlaw51_alive.f k).bind fun t283 => (some t283)) else (some false)) = some r := H
    have A7 := Aside0.mk A70
    clear A70
    by_cases c8 : t282 = true
    · subst c8
      have H1 : ((unicodetextlaw51_alive.f k).bind fun t283 => (some t283)) = some r := by rw [if_pos rfl] at H; exact H
      clear H
      have H := H1
      clear H1
      replace H := Option.bind_eq_some_iff.mp H
      obtain ⟨t283, A90, H⟩ := H
      replace H : (some t283) = some r := H
      have A9 := Aside0.mk A90
      clear A90
      obtain rfl := Option.some.inj H
      go_enter Try.func4, Try.ntmps4
      go_wp2_with (first | ((with_reducible refine gate_callee (f := 11) rfl ?_); refine goesL_ (some 7) rfl rfl Try.func11 (by kernel_rfl) rfl #[.slice A0 l0.length c0, .slice A1 l1.length c1] rfl (by (try simp only [List.map_toArray, List.map_cons, List.map_nil]); first | done | rfl | (simp only [List.length_drop, List.length_take]; rfl)) ?_; (with_reducible refine (unicodetextlaw51_few.calls k _ _ l0 _ _ l1 true _ ?side1 ?side2 ?side3 ?side4 A3.out).mono ?_); (case side1 => repeat (first | exact HR0.out | (with_reducible refine Kd.C_alloc ?_ _) | (with_reducible refine Kd.C_drewN ?_ _) | (with_reducible refine Kd.C_drew ?_))); (case side2 => exact HC0.out); (case side3 => repeat (first | exact HR1.out | (with_reducible refine Kd.C_alloc ?_ _) | (with_reducible refine Kd.C_drewN ?_ _) | (with_reducible refine Kd.C_drew ?_))); (case side4 => exact HC1.out); rintro e w10 ⟨rfl, hb⟩; refine ⟨_, rfl, ?_⟩; have n0_ := Aside0.mk (below_step (by repeat (first | (with_reducible first | exact HB.out | apply below_alloc | apply pw_below_drewN | apply below_drew1) | exact HB.out)) hb); clear HB; have HB := n0_; clear n0_; (try clear hb); (try clear hb2); (try clear hk); (try clear hi)) | (go_at_call 16; (with_reducible refine (transduce_Apply.calls _ _ l0 _ _ l1 t276 _ ?side1 ?side2 ?side3 ?side4 A5.out).mono ?_); (case side1 => repeat (first | exact (Kd.C_below HR0.out HB.out) | (with_reducible refine Kd.C_alloc ?_ _) | (with_reducible refine Kd.C_drewN ?_ _) | (with_reducible refine Kd.C_drew ?_))); (case side2 => exact HC0.out); (case side3 => repeat (first | exact (Kd.C_below HR1.out HB.out) | (with_reducible refine Kd.C_alloc ?_ _) | (with_reducible refine Kd.C_drewN ?_ _) | (with_reducible refine Kd.C_drew ?_))); (case side4 => exact HC1.out); rintro e w11 ⟨v277, rfl, ho0, hb⟩; have n0_ := Aside0.mk (Kd.R_lower ho0 (below_size (by repeat (first | (with_reducible first | exact HB.out | apply below_alloc | apply pw_below_drewN | apply below_drew1) | exact HB.out)))); have n1_ := Aside0.mk (below_step (by repeat (first | (with_reducible first | exact HB.out | apply below_alloc | apply pw_below_drewN | apply below_drew1) | exact HB.out)) hb); clear HB; have HO278 := n0_; have HB := n1_; clear n0_ n1_; (try clear hb); (try clear hb2); (try clear hk); (try clear hi); (try clear ho0)) | (go_at_call 17; (with_reducible refine (unicodetextref51_Apply.calls k _ _ l0 _ _ l1 t279 _ ?side1 ?side2 ?side3 ?side4 A6.out).mono ?_); (case side1 => repeat (first | exact (Kd.C_below HR0.out HB.out) | (with_reducible refine Kd.C_alloc ?_ _) | (with_reducible refine Kd.C_drewN ?_ _) | (with_reducible refine Kd.C_drew ?_))); (case side2 => exact HC0.out); (case side3 => repeat (first | exact (Kd.C_below HR1.out HB.out) | (with_reducible refine Kd.C_alloc ?_ _) | (with_reducible refine Kd.C_drewN ?_ _) | (with_reducible refine Kd.C_drew ?_))); (case side4 => exact HC1.out); rintro e w12 ⟨v280, rfl, ho0, hb⟩; have n0_ := Aside0.mk (Kd.R_elder' (by (with_reducible repeat (first | apply Kd.R_alloc | apply Kd.R_drewN | apply Kd.R_drew)); exact HO278.out) (Kd.R_base ho0) hb); have n1_ := Aside0.mk (Kd.R_lower (Kd.R_new' ho0 (Kd.R_lt (by (with_reducible repeat (first | apply Kd.R_alloc | apply Kd.R_drewN | apply Kd.R_drew)); exact HO278.out))) (below_size (by repeat (first | (with_reducible first | exact HB.out | apply below_alloc | apply pw_below_drewN | apply below_drew1) | exact HB.out)))); have n2_ := Aside0.mk (below_step (by repeat (first | (with_reducible first | exact HB.out | apply below_alloc | apply pw_below_drewN | apply below_drew1) | exact HB.out)) hb); clear HO278; clear HB; have HO278 := n0_; have HO281 := n1_; have HB := n2_; clear n0_ n1_ n2_; (try clear hb); (try clear hb2); (try clear hk); (try clear hi); (try clear ho0); obtain ⟨Ao13, co13, eo13⟩ := Kd.R_slice HO278.out; subst eo13; obtain ⟨Ao14, co14, eo14⟩ := Kd.R_slice HO281.out; subst eo14) | (go_at_call 15; (with_reducible refine (unicodetextref01_Equal.calls k _ _ t276 _ _ t279 true _ ?side1 ?side2 ?side3 ?side4 A7.out).mono ?_); (case side1 => repeat (first | exact (Kd.R_reads' HO278.out).2.2 | (with_reducible refine Kd.C_alloc ?_ _) | (with_reducible refine Kd.C_drewN ?_ _) | (with_reducible refine Kd.C_drew ?_))); (case side2 => exact (Kd.R_reads' HO278.out).2.1); (case side3 => repeat (first | exact (Kd.R_reads' HO281.out).2.2 | (with_reducible refine Kd.C_alloc ?_ _) | (with_reducible refine Kd.C_drewN ?_ _) | (with_reducible refine Kd.C_drew ?_))); (case side4 => exact (Kd.R_reads' HO281.out).2.1); rintro e w' ⟨rfl, ⟨nd, rfl⟩⟩) | (go_at_call 12; (with_reducible refine (unicodetextlaw51_alive.calls k  t283 _ A9.out).mono ?_); rintro e w15 ⟨rfl, hb⟩; have n0_ := Aside0.mk (Kd.R_below (by (with_reducible repeat (first | apply Kd.R_alloc | apply Kd.R_drewN | apply Kd.R_drew)); exact HO278.out) hb); have n1_ := Aside0.mk (Kd.R_below (by (with_reducible repeat (first | apply Kd.R_alloc | apply Kd.R_drewN | apply Kd.R_drew)); exact HO281.out) hb); have n2_ := Aside0.mk (below_step (by repeat (first | (with_reducible first | exact HB.out | apply below_alloc | apply pw_below_drewN | apply below_drew1) | exact HB.out)) hb); clear HO278; clear HO281; clear HB; have HO278 := n0_; have HO281 := n1_; have HB := n2_; clear n0_ n1_ n2_; (try clear hb); (try clear hb2); (try clear hk); (try clear hi)))
      go_ret
      exact ⟨by first | rfl | (simp [errW_none, errW_some] <;> rfl) | (simp [*, errW_none, errW_some] <;> rfl), by repeat (first | (with_reducible first | exact HB.out | apply below_alloc | apply pw_below_drewN | apply below_drew1) | exact HB.out)⟩
    · replace c8 := Bool.eq_false_iff.mpr c8
      subst c8
      have H1 : (some false) = some r := by rw [if_neg (show ¬ (false = true) by decide)] at H; exact H
      clear H
      have H := H1
      clear H1
      obtain rfl := Option.some.inj H
      go_enter Try.func4, Try.ntmps4
      go_wp2_with (first | ((with_reducible refine gate_callee (f := 11) rfl ?_); refine goesL_ (some 7) rfl rfl Try.func11 (by kernel_rfl) rfl #[.slice A0 l0.length c0, .slice A1 l1.length c1] rfl (by (try simp only [List.map_toArray, List.map_cons, List.map_nil]); first | done | rfl | (simp only [List.length_drop, List.length_take]; rfl)) ?_; (with_reducible refine (unicodetextlaw51_few.calls k _ _ l0 _ _ l1 true _ ?side1 ?side2 ?side3 ?side4 A3.out).mono ?_); (case side1 => repeat (first | exact HR0.out | (with_reducible refine Kd.C_alloc ?_ _) | (with_reducible refine Kd.C_drewN ?_ _) | (with_reducible refine Kd.C_drew ?_))); (case side2 => exact HC0.out); (case side3 => repeat (first | exact HR1.out | (with_reducible refine Kd.C_alloc ?_ _) | (with_reducible refine Kd.C_drewN ?_ _) | (with_reducible refine Kd.C_drew ?_))); (case side4 => exact HC1.out); rintro e w16 ⟨rfl, hb⟩; refine ⟨_, rfl, ?_⟩; have n0_ := Aside0.mk (below_step (by repeat (first | (with_reducible first | exact HB.out | apply below_alloc | apply pw_below_drewN | apply below_drew1) | exact HB.out)) hb); clear HB; have HB := n0_; clear n0_; (try clear hb); (try clear hb2); (try clear hk); (try clear hi)) | (go_at_call 16; (with_reducible refine (transduce_Apply.calls _ _ l0 _ _ l1 t276 _ ?side1 ?side2 ?side3 ?side4 A5.out).mono ?_); (case side1 => repeat (first | exact (Kd.C_below HR0.out HB.out) | (with_reducible refine Kd.C_alloc ?_ _) | (with_reducible refine Kd.C_drewN ?_ _) | (with_reducible refine Kd.C_drew ?_))); (case side2 => exact HC0.out); (case side3 => repeat (first | exact (Kd.C_below HR1.out HB.out) | (with_reducible refine Kd.C_alloc ?_ _) | (with_reducible refine Kd.C_drewN ?_ _) | (with_reducible refine Kd.C_drew ?_))); (case side4 => exact HC1.out); rintro e w17 ⟨v277, rfl, ho0, hb⟩; have n0_ := Aside0.mk (Kd.R_lower ho0 (below_size (by repeat (first | (with_reducible first | exact HB.out | apply below_alloc | apply pw_below_drewN | apply below_drew1) | exact HB.out)))); have n1_ := Aside0.mk (below_step (by repeat (first | (with_reducible first | exact HB.out | apply below_alloc | apply pw_below_drewN | apply below_drew1) | exact HB.out)) hb); clear HB; have HO278 := n0_; have HB := n1_; clear n0_ n1_; (try clear hb); (try clear hb2); (try clear hk); (try clear hi); (try clear ho0)) | (go_at_call 17; (with_reducible refine (unicodetextref51_Apply.calls k _ _ l0 _ _ l1 t279 _ ?side1 ?side2 ?side3 ?side4 A6.out).mono ?_); (case side1 => repeat (first | exact (Kd.C_below HR0.out HB.out) | (with_reducible refine Kd.C_alloc ?_ _) | (with_reducible refine Kd.C_drewN ?_ _) | (with_reducible refine Kd.C_drew ?_))); (case side2 => exact HC0.out); (case side3 => repeat (first | exact (Kd.C_below HR1.out HB.out) | (with_reducible refine Kd.C_alloc ?_ _) | (with_reducible refine Kd.C_drewN ?_ _) | (with_reducible refine Kd.C_drew ?_))); (case side4 => exact HC1.out); rintro e w18 ⟨v280, rfl, ho0, hb⟩; have n0_ := Aside0.mk (Kd.R_elder' (by (with_reducible repeat (first | apply Kd.R_alloc | apply Kd.R_drewN | apply Kd.R_drew)); exact HO278.out) (Kd.R_base ho0) hb); have n1_ := Aside0.mk (Kd.R_lower (Kd.R_new' ho0 (Kd.R_lt (by (with_reducible repeat (first | apply Kd.R_alloc | apply Kd.R_drewN | apply Kd.R_drew)); exact HO278.out))) (below_size (by repeat (first | (with_reducible first | exact HB.out | apply below_alloc | apply pw_below_drewN | apply below_drew1) | exact HB.out)))); have n2_ := Aside0.mk (below_step (by repeat (first | (with_reducible first | exact HB.out | apply below_alloc | apply pw_below_drewN | apply below_drew1) | exact HB.out)) hb); clear HO278; clear HB; have HO278 := n0_; have HO281 := n1_; have HB := n2_; clear n0_ n1_ n2_; (try clear hb); (try clear hb2); (try clear hk); (try clear hi); (try clear ho0); obtain ⟨Ao19, co19, eo19⟩ := Kd.R_slice HO278.out; subst eo19; obtain ⟨Ao20, co20, eo20⟩ := Kd.R_slice HO281.out; subst eo20) | (go_at_call 15; (with_reducible refine (unicodetextref01_Equal.calls k _ _ t276 _ _ t279 false _ ?side1 ?side2 ?side3 ?side4 A7.out).mono ?_); (case side1 => repeat (first | exact (Kd.R_reads' HO278.out).2.2 | (with_reducible refine Kd.C_alloc ?_ _) | (with_reducible refine Kd.C_drewN ?_ _) | (with_reducible refine Kd.C_drew ?_))); (case side2 => exact (Kd.R_reads' HO278.out).2.1); (case side3 => repeat (first | exact (Kd.R_reads' HO281.out).2.2 | (with_reducible refine Kd.C_alloc ?_ _) | (with_reducible refine Kd.C_drewN ?_ _) | (with_reducible refine Kd.C_drew ?_))); (case side4 => exact (Kd.R_reads' HO281.out).2.1); rintro e w' ⟨rfl, ⟨nd, rfl⟩⟩))
      go_ret
      exact ⟨by first | rfl | (simp [errW_none, errW_some] <;> rfl) | (simp [*, errW_none, errW_some] <;> rfl), by repeat (first | (with_reducible first | exact HB.out | apply below_alloc | apply pw_below_drewN | apply below_drew1) | exact HB.out)⟩
  · replace c4 := Bool.eq_false_iff.mpr c4
    subst c4
    have H1 : ((unicodetextlaw51_alive.f k).bind fun t284 => (some t284)) = some r := by rw [if_neg (show ¬ (false = true) by decide)] at H; exact H
    clear H
    have H := H1
    clear H1
    replace H := Option.bind_eq_some_iff.mp H
    obtain ⟨t284, A210, H⟩ := H
    replace H : (some t284) = some r := H
    have A21 := Aside0.mk A210
    clear A210
    obtain rfl := Option.some.inj H
    go_enter Try.func4, Try.ntmps4
    go_wp2_with (first | ((with_reducible refine gate_callee (f := 11) rfl ?_); refine goesL_ (some 7) rfl rfl Try.func11 (by kernel_rfl) rfl #[.slice A0 l0.length c0, .slice A1 l1.length c1] rfl (by (try simp only [List.map_toArray, List.map_cons, List.map_nil]); first | done | rfl | (simp only [List.length_drop, List.length_take]; rfl)) ?_; (with_reducible refine (unicodetextlaw51_few.calls k _ _ l0 _ _ l1 false _ ?side1 ?side2 ?side3 ?side4 A3.out).mono ?_); (case side1 => repeat (first | exact HR0.out | (with_reducible refine Kd.C_alloc ?_ _) | (with_reducible refine Kd.C_drewN ?_ _) | (with_reducible refine Kd.C_drew ?_))); (case side2 => exact HC0.out); (case side3 => repeat (first | exact HR1.out | (with_reducible refine Kd.C_alloc ?_ _) | (with_reducible refine Kd.C_drewN ?_ _) | (with_reducible refine Kd.C_drew ?_))); (case side4 => exact HC1.out); rintro e w22 ⟨rfl, hb⟩; refine ⟨_, rfl, ?_⟩; have n0_ := Aside0.mk (below_step (by repeat (first | (with_reducible first | exact HB.out | apply below_alloc | apply pw_below_drewN | apply below_drew1) | exact HB.out)) hb); clear HB; have HB := n0_; clear n0_; (try clear hb); (try clear hb2); (try clear hk); (try clear hi)) | (go_at_call 12; (with_reducible refine (unicodetextlaw51_alive.calls k  t284 _ A21.out).mono ?_); rintro e w23 ⟨rfl, hb⟩; have n0_ := Aside0.mk (below_step (by repeat (first | (with_reducible first | exact HB.out | apply below_alloc | apply pw_below_drewN | apply below_drew1) | exact HB.out)) hb); clear HB; have HB := n0_; clear n0_; (try clear hb); (try clear hb2); (try clear hk); (try clear hi)))
    go_ret
    exact ⟨by first | rfl | (simp [errW_none, errW_some] <;> rfl) | (simp [*, errW_none, errW_some] <;> rfl), by repeat (first | (with_reducible first | exact HB.out | apply below_alloc | apply pw_below_drewN | apply below_drew1) | exact HB.out)⟩
end Go.Proofs.Ytnhagghhficdpaa.Q
end
section
namespace Go.Proofs.Ytnhagghhficdpaa.Q
open Go.RowKit Go.Proofs.YtnhagghhficdpaaW.PrintWords Go.Proofs.YtnhagghhficdpaaW.PrintLast Go.Proofs.YtnhagghhficdpaaW.PrintMore
set_option linter.unusedVariables false
def plFewS (l : List St) : Prop := l.length ≤ 10 ∧ ∀ s ∈ l, s.f0.length ≤ 12
def plFewU (x : Ru) : Prop := plFewS x.f0 ∧ plFewS x.f1 ∧ plFewS x.f2 ∧ x.f3.length ≤ 20
def plFewL (l : List Ru) : Prop := l.length ≤ 6 ∧ ∀ x ∈ l, plFewU x
theorem plRdP_mid (pre : List Pc) (x : Pc) (rest : List Pc) : rd_T51 (pre ++ x :: rest) (pre.length : Int) = x := by
  unfold rd_T51
  rw [Int.toNat_natCast, List.getD_eq_getElem?_getD, List.getElem?_append_right (Nat.le_refl _), Nat.sub_self]
  rfl
theorem plSame_go : ∀ (xs ys px py : List Rg) (k : Nat), px.length = py.length → xs.length = ys.length → (px ++ xs).length < 1000000000 → xs.length + 1 ≤ k →
    unicodetextref02_Same.l0 k (px.length : Int) (px ++ xs) (py ++ ys) = some (decide (xs.map toP = ys.map toP))
  | [], [], px, py, k, h1, h2, h3, h4 => by
    obtain ⟨k, rfl⟩ : ∃ j, k = j + 1 := ⟨k - 1, by omega⟩
    rw [unicodetextref02_Same.l0, if_neg (by simp)]
    rfl
  | x :: xs, y :: ys, px, py, k, h1, h2, h3, h4 => by
    obtain ⟨k, rfl⟩ : ∃ j, k = j + 1 := ⟨k - 1, by omega⟩
    have hp : px.length < 1000000000 := by simp at h3; omega
    have ih := plSame_go xs ys (px ++ [x]) (py ++ [y]) k (by simp [h1]) (by simpa using h2) (by simpa using h3) (by simp at h4; omega)
    have ex : (px ++ [x]) ++ xs = px ++ x :: xs := by simp
    have ey : (py ++ [y]) ++ ys = py ++ y :: ys := by simp
    have el : ((px ++ [x]).length : Int) = ((px.length + 1 : Nat) : Int) := by simp
    rw [ex, ey, el] at ih
    have e1 : rd_T59 (py ++ y :: ys) (px.length : Int) = y := by rw [h1]; exact rdG_mid _ _ _
    rw [unicodetextref02_Same.l0, if_pos (by simp; omega), if_pos (by omega), if_pos (by simp at h2 ⊢; omega), rdG_mid, e1, wrap_suc hp]
    rw [ih]
    by_cases ha : x.f0 = y.f0
    · by_cases hb : x.f1 = y.f1
      · rw [if_neg (by simp [ha, hb])]
        simp [toP, ha, hb]
      · rw [if_pos (by simp [hb])]
        simp [toP, hb]
    · rw [if_pos (by simp [ha])]
      simp [toP, ha]
  | [], _ :: _, _, _, _, _, h2, _, _ => by simp at h2
  | _ :: _, [], _, _, _, _, h2, _, _ => by simp at h2
theorem plComb_make (l : List Rg) : combS l [] 1 = CpM.make (l.map toP) := by
  rw [← CpM.rmake_eq]
  unfold combS CpM.rmake cutsAB
  congr 1
  funext c
  unfold keepAB keepsB CpM.hasB
  simp
theorem plValid_ok (s : St) (k : Nat) (h : s.f0.length ≤ 1000) (hk : s.f0.length + 1 ≤ k) : unicodetextref02_Valid.f k s.f0 = some (validS s) := by
  have hm : unicodetextref02_Make.f s.f0 = some (mkRS s.f0) := by
    unfold unicodetextref02_Make.f unicodetextref02_combine.f
    rw [if_pos (by simp; omega), plComb_make]
    rfl
  unfold unicodetextref02_Valid.f
  rw [hm]
  show (unicodetextref02_Same.f k s.f0 (mkRS s.f0)).bind _ = _
  unfold unicodetextref02_Same.f validS
  have e : (mkRS s.f0).map toP = CpM.make (s.f0.map toP) := toP_ofP _
  by_cases hl : s.f0.length = (mkRS s.f0).length
  · rw [if_pos (by omega)]
    have := plSame_go s.f0 (mkRS s.f0) [] [] k rfl hl (by simp; omega) hk
    rw [List.nil_append, List.nil_append, e] at this
    rw [show ((0 : Int)) = (([] : List Rg).length : Int) from rfl, this]
    rfl
  · rw [if_neg (by omega), decide_eq_false]
    · rfl
    · intro hh
      rw [← e] at hh
      exact hl (by simpa using congrArg List.length hh)
def plBad (s : St) : Bool := !validS s || decide (s.f0.length = 0)
theorem plRight_go : ∀ (rest pre : List St) (k : Nat), (∀ s ∈ rest, s.f0.length ≤ 12) → (pre ++ rest).length < 1000000000 → rest.length + 15 ≤ k →
    unicodetextref50_right.l0 k (pre ++ rest) (pre.length : Int) = some (!(rest.any plBad))
  | [], pre, k, h0, h1, h2 => by
    obtain ⟨k, rfl⟩ : ∃ j, k = j + 1 := ⟨k - 1, by omega⟩
    rw [unicodetextref50_right.l0, if_neg (by simp)]
    rfl
  | s :: rest, pre, k, h0, h1, h2 => by
    obtain ⟨k, rfl⟩ : ∃ j, k = j + 1 := ⟨k - 1, by omega⟩
    have hp : pre.length < 1000000000 := by simp at h1; omega
    have ih := plRight_go rest (pre ++ [s]) k (fun y hy => h0 y (List.mem_cons_of_mem _ hy)) (by simpa using h1) (by simp at h2; omega)
    have ex : (pre ++ [s]) ++ rest = pre ++ s :: rest := by simp
    have el : ((pre ++ [s]).length : Int) = ((pre.length + 1 : Nat) : Int) := by simp
    rw [ex, el] at ih
    have hs := h0 s List.mem_cons_self
    rw [unicodetextref50_right.l0, if_pos (by simp; omega), if_pos (by omega), rdS_mid, wrap_suc hp, ih, plValid_ok s k (by omega) (by simp at h2; omega), List.any_cons]
    show (if validS s = true then _ else _) = _
    unfold plBad
    cases hv : validS s with
    | false => rfl
    | true =>
      rw [if_pos rfl]
      by_cases hl : s.f0.length = 0
      · rw [if_pos (by omega), decide_eq_true hl]; rfl
      · rw [if_neg (by omega), decide_eq_false hl]; rfl
theorem plRight_ok (l : List St) (k : Nat) (h : plFewS l) (hk : 30 ≤ k) : unicodetextref50_right.f k l = some (!(l.any plBad)) :=
  plRight_go l [] k h.2 (by have := h.1; simp; omega) (by have := h.1; omega)
theorem plPieces_go (m0 m1 m2 : List St) (hm : m1.length < 1000000000) : ∀ (rest pre : List Pc) (k : Nat), (pre ++ rest).length < 1000000000 → rest.length + 1 ≤ k →
    unicodetextref50_one.l0 k (pre.length : Int) m0 m1 m2 (pre ++ rest) = some (if rest.any (pieceBad m1.length) then 1 else 0)
  | [], pre, k, h1, h2 => by
    obtain ⟨k, rfl⟩ : ∃ j, k = j + 1 := ⟨k - 1, by omega⟩
    rw [unicodetextref50_one.l0, if_neg (by simp)]
    rfl
  | p :: rest, pre, k, h1, h2 => by
    obtain ⟨k, rfl⟩ : ∃ j, k = j + 1 := ⟨k - 1, by omega⟩
    have hp : pre.length < 1000000000 := by simp at h1; omega
    have ih := plPieces_go m0 m1 m2 hm rest (pre ++ [p]) k (by simpa using h1) (by simp at h2; omega)
    have ex : (pre ++ [p]) ++ rest = pre ++ p :: rest := by simp
    have el : ((pre ++ [p]).length : Int) = ((pre.length + 1 : Nat) : Int) := by simp
    rw [ex, el] at ih
    rw [unicodetextref50_one.l0, if_pos (by simp; omega), if_pos (by omega), plRdP_mid, wrap_suc hp, ih, List.any_cons, valid_eq]
    generalize (rest.any (pieceBad m1.length)) = b
    have hd : ∀ P : Prop, [Decidable P] → (decide P = true) = P := fun P _ => by simp
    unfold pieceBad
    simp only [Option.bind_some, hd]
    by_cases h1 : p.f1 = 0
    · rw [if_pos h1]
      by_cases h0 : 0 ≤ p.f0 ∧ p.f0 ≤ 1114111
      · have e : (!((decide (p.f0 = 0) && (decide (1 ≤ p.f1) && decide (p.f1 ≤ (m1.length : Int)))) || (decide (p.f1 = 0) && (decide (0 ≤ p.f0) && decide (p.f0 ≤ 1114111))))) = false := by
          simp only [Bool.not_eq_false', Bool.or_eq_true, Bool.and_eq_true, decide_eq_true_eq]; right; exact ⟨h1, h0⟩
        rw [e, Bool.false_or]
        by_cases h00 : p.f0 = 0
        · rw [if_pos h00, if_neg (by omega), if_pos h0]
        · rw [if_neg h00, if_pos h0]
      · have e : (!((decide (p.f0 = 0) && (decide (1 ≤ p.f1) && decide (p.f1 ≤ (m1.length : Int)))) || (decide (p.f1 = 0) && (decide (0 ≤ p.f0) && decide (p.f0 ≤ 1114111))))) = true := by
          simp only [Bool.not_eq_true', Bool.or_eq_false_iff, Bool.and_eq_false_iff, decide_eq_false_iff_not]; omega
        rw [e, Bool.true_or, if_neg (by omega), if_neg h0]
        rfl
    · rw [if_neg h1]
      by_cases h00 : p.f0 = 0
      · rw [if_pos h00]
        by_cases h3 : p.f1 ≥ 1
        · rw [if_pos h3]
          by_cases h4 : p.f1 ≤ (m1.length : Int)
          · have e : (!((decide (p.f0 = 0) && (decide (1 ≤ p.f1) && decide (p.f1 ≤ (m1.length : Int)))) || (decide (p.f1 = 0) && (decide (0 ≤ p.f0) && decide (p.f0 ≤ 1114111))))) = false := by
              simp only [Bool.not_eq_false', Bool.or_eq_true, Bool.and_eq_true, decide_eq_true_eq]; left; exact ⟨h00, h3, h4⟩
            rw [e, Bool.false_or, if_pos h4]
          · have e : (!((decide (p.f0 = 0) && (decide (1 ≤ p.f1) && decide (p.f1 ≤ (m1.length : Int)))) || (decide (p.f1 = 0) && (decide (0 ≤ p.f0) && decide (p.f0 ≤ 1114111))))) = true := by
              simp only [Bool.not_eq_true', Bool.or_eq_false_iff, Bool.and_eq_false_iff, decide_eq_false_iff_not]; omega
            rw [e, Bool.true_or, if_neg h4]
            rfl
        · have e : (!((decide (p.f0 = 0) && (decide (1 ≤ p.f1) && decide (p.f1 ≤ (m1.length : Int)))) || (decide (p.f1 = 0) && (decide (0 ≤ p.f0) && decide (p.f0 ≤ 1114111))))) = true := by
            simp only [Bool.not_eq_true', Bool.or_eq_false_iff, Bool.and_eq_false_iff, decide_eq_false_iff_not]; omega
          rw [e, Bool.true_or, if_neg h3]
          rfl
      · have e : (!((decide (p.f0 = 0) && (decide (1 ≤ p.f1) && decide (p.f1 ≤ (m1.length : Int)))) || (decide (p.f1 = 0) && (decide (0 ≤ p.f0) && decide (p.f0 ≤ 1114111))))) = true := by
          simp only [Bool.not_eq_true', Bool.or_eq_false_iff, Bool.and_eq_false_iff, decide_eq_false_iff_not]; omega
        rw [e, Bool.true_or, if_neg h00]
        rfl
theorem plOne_ok (x : Ru) (k : Nat) (h : plFewU x) (hk : 33 ≤ k) : unicodetextref50_one.f k x.f0 x.f1 x.f2 x.f3 = some (oneS x) := by
  obtain ⟨h0, h1, h2, h3⟩ := h
  obtain ⟨k, rfl⟩ : ∃ j, k = j + 2 := ⟨k - 2, by omega⟩
  have hr0 := plRight_ok x.f0 (k + 1) h0 (by omega)
  have hr1 := plRight_ok x.f1 (k + 1) h1 (by omega)
  have hr2 := plRight_ok x.f2 (k + 1) h2 (by omega)
  have hp := plPieces_go x.f0 x.f1 x.f2 (by have := h1.1; omega) x.f3 [] k (by simp; omega) (by omega)
  have hj1 : ∀ b, unicodetextref50_one.j1 (k + 1) b x.f0 x.f1 x.f2 x.f3 = some (if b = true then 11 else if x.f3.any (pieceBad x.f1.length) then 1 else 0) := by
    intro b
    rw [unicodetextref50_one.j1]
    cases b with
    | true => rfl
    | false => rw [if_neg (by decide), if_neg (by decide)]; exact hp
  have hfin : unicodetextref50_one.j0 (k + 2) false x.f0 x.f1 x.f2 x.f3 = some (if (x.f0 ++ x.f1 ++ x.f2).any plBad then 11 else if x.f3.any (pieceBad x.f1.length) then 1 else 0) := by
    rw [unicodetextref50_one.j0, if_neg (by decide), hr0, hr1, hr2]
    simp only [Option.bind_some, hj1, List.any_append]
    cases x.f0.any plBad <;> cases x.f1.any plBad <;> cases x.f2.any plBad <;> rfl
  unfold unicodetextref50_one.f oneS
  have ht : unicodetextref50_one.j0 (k + 2) true x.f0 x.f1 x.f2 x.f3 = some 2 := by rw [unicodetextref50_one.j0, if_pos rfl]
  rw [ht]
  by_cases c1 : x.f1.length < 1
  · rw [if_pos (by omega), if_pos (by omega)]
  · rw [if_neg (by omega)]
    by_cases c2 : 8 < x.f1.length
    · rw [if_pos (by omega), if_pos (by omega)]
    · rw [if_neg (by omega)]
      by_cases c3 : 8 < x.f0.length
      · rw [if_pos (by omega), if_pos (by omega)]
      · rw [if_neg (by omega)]
        by_cases c4 : 8 < x.f2.length
        · rw [if_pos (by omega), if_pos (by omega)]
        · rw [if_neg (by omega)]
          by_cases c5 : 16 < x.f3.length
          · rw [decide_eq_true (by omega), ht, if_pos (by omega)]
          · rw [decide_eq_false (by omega), hfin, if_neg (show ¬ (x.f1.length < 1 ∨ 8 < x.f1.length ∨ 8 < x.f0.length ∨ 8 < x.f2.length ∨ 16 < x.f3.length) by omega)]
            rfl
theorem plCheck_go : ∀ (rest pre : List Ru) (k : Nat), (∀ x ∈ rest, plFewU x) → (pre ++ rest).length < 1000000000 → rest.length + 34 ≤ k →
    unicodetextref50_Check.l0 k (pre ++ rest) (pre.length : Int) = some (firstErr rest)
  | [], pre, k, h0, h1, h2 => by
    obtain ⟨k, rfl⟩ : ∃ j, k = j + 1 := ⟨k - 1, by omega⟩
    rw [unicodetextref50_Check.l0, if_neg (by simp)]
    rfl
  | x :: rest, pre, k, h0, h1, h2 => by
    obtain ⟨k, rfl⟩ : ∃ j, k = j + 1 := ⟨k - 1, by omega⟩
    have hp : pre.length < 1000000000 := by simp at h1; omega
    have ih := plCheck_go rest (pre ++ [x]) k (fun y hy => h0 y (List.mem_cons_of_mem _ hy)) (by simpa using h1) (by simp at h2; omega)
    have ex : (pre ++ [x]) ++ rest = pre ++ x :: rest := by simp
    have el : ((pre ++ [x]).length : Int) = ((pre.length + 1 : Nat) : Int) := by simp
    rw [ex, el] at ih
    rw [unicodetextref50_Check.l0, if_pos (by simp; omega), if_pos (by omega), rdU_mid, wrap_suc hp, plOne_ok x k (h0 x List.mem_cons_self) (by simp at h2; omega)]
    show (if oneS x = 0 then _ else _) = _
    rw [ih, firstErr]
    split <;> rfl
theorem plData_ok (l : List Ru) (k : Nat) (h : plFewL l) (hk : 42 ≤ k) : unicodetextref51_Data.f k l = some (dataS l) := by
  have hl := h.1
  have hc : unicodetextref50_Check.f k l = some (checkS l) := by
    unfold unicodetextref50_Check.f checkS
    rw [if_neg (by omega), if_neg (by omega)]
    exact plCheck_go l [] k h.2 (by simp; omega) (by omega)
  unfold unicodetextref51_Data.f dataS
  rw [hc]
  show (if checkS l = 0 then _ else _) = _
  split <;> rfl
theorem plData_few (l : List Ru) (h : plFewL l) : plFewL (dataS l) := by
  unfold dataS
  split
  · exact h
  · exact ⟨Nat.zero_le _, fun x hx => by cases hx⟩
end Go.Proofs.Ytnhagghhficdpaa.Q
end
section
namespace Go.Proofs.Ytnhagghhficdpaa.Q
open Go.RowKit Go.Proofs.YtnhagghhficdpaaW.PrintWords Go.Proofs.YtnhagghhficdpaaW.PrintLast Go.Proofs.YtnhagghhficdpaaW.PrintMore
set_option linter.unusedVariables false
theorem plSets_go : ∀ (d : Nat) (rest pre : List St) (k : Nat), pre.length + d = 20 → 2 * d + 2 ≤ k →
    ∃ b, unicodetextref50_sets.l0 k (pre ++ rest) (pre.length : Int) = some b ∧ (b = true → (pre ++ rest).length ≤ 10 ∧ ∀ s ∈ rest, s.f0.length ≤ 12)
  | d, [], pre, k, h1, h2 => by
    obtain ⟨k, rfl⟩ : ∃ j, k = j + 2 := ⟨k - 2, by omega⟩
    rw [unicodetextref50_sets.l0, if_neg (by simp), unicodetextref50_sets.j1, if_neg (by decide)]
    refine ⟨_, rfl, fun h => ⟨?_, fun s hs => by cases hs⟩⟩
    have := of_decide_eq_true h
    omega
  | 0, s :: rest, pre, k, h1, h2 => by
    obtain ⟨k, rfl⟩ : ∃ j, k = j + 2 := ⟨k - 2, by omega⟩
    rw [unicodetextref50_sets.l0, if_pos (by simp; omega), decide_eq_false (by omega), unicodetextref50_sets.j1, if_neg (by decide)]
    refine ⟨_, rfl, fun h => ?_⟩
    have := of_decide_eq_true h
    simp at this
    omega
  | d + 1, s :: rest, pre, k, h1, h2 => by
    obtain ⟨k, rfl⟩ : ∃ j, k = j + 2 := ⟨k - 2, by omega⟩
    obtain ⟨b, ih, hb⟩ := plSets_go d rest (pre ++ [s]) k (by simp; omega) (by omega)
    have ex : (pre ++ [s]) ++ rest = pre ++ s :: rest := by simp
    have el : ((pre ++ [s]).length : Int) = ((pre.length + 1 : Nat) : Int) := by simp
    rw [ex, el] at ih
    rw [ex] at hb
    rw [unicodetextref50_sets.l0, if_pos (by simp; omega), decide_eq_true (by omega), unicodetextref50_sets.j1, if_pos rfl, if_pos (by omega), if_pos (by simp; omega), rdS_mid, wrap_suc (by omega : pre.length < 1000000000), ih]
    show ∃ b_, (if decide ((s.f0.length : Int) ≤ 12) = true then _ else _) = _ ∧ _
    by_cases hs : s.f0.length ≤ 12
    · rw [decide_eq_true (by omega), if_pos rfl]
      exact ⟨b, rfl, fun h => ⟨(hb h).1, fun x hx => by
        rcases List.mem_cons.1 hx with rfl | hx
        · exact hs
        · exact (hb h).2 x hx⟩⟩
    · rw [decide_eq_false (by omega), if_neg (by decide)]
      exact ⟨false, rfl, fun h => by cases h⟩
theorem plSets_ok (l : List St) (k : Nat) (hk : 42 ≤ k) : ∃ b, unicodetextref50_sets.f k l = some b ∧ (b = true → plFewS l) := plSets_go 20 l [] k rfl (by omega)
theorem plSmall_go : ∀ (d : Nat) (rest pre : List Ru) (k : Nat), pre.length + d = 10 → 2 * d + 44 ≤ k →
    ∃ b, unicodetextref50_Small.l0 k (pre ++ rest) (pre.length : Int) = some b ∧ (b = true → (pre ++ rest).length ≤ 6 ∧ ∀ s ∈ rest, plFewU s)
  | d, [], pre, k, h1, h2 => by
    obtain ⟨k, rfl⟩ : ∃ j, k = j + 2 := ⟨k - 2, by omega⟩
    rw [unicodetextref50_Small.l0, if_neg (by simp), unicodetextref50_Small.j1, if_neg (by decide)]
    refine ⟨_, rfl, fun h => ⟨?_, fun s hs => by cases hs⟩⟩
    have := of_decide_eq_true h
    omega
  | 0, s :: rest, pre, k, h1, h2 => by
    obtain ⟨k, rfl⟩ : ∃ j, k = j + 2 := ⟨k - 2, by omega⟩
    rw [unicodetextref50_Small.l0, if_pos (by simp; omega), decide_eq_false (by omega), unicodetextref50_Small.j1, if_neg (by decide)]
    refine ⟨_, rfl, fun h => ?_⟩
    have := of_decide_eq_true h
    simp at this
    omega
  | d + 1, s :: rest, pre, k, h1, h2 => by
    obtain ⟨k, rfl⟩ : ∃ j, k = j + 2 := ⟨k - 2, by omega⟩
    obtain ⟨b, ih, hb⟩ := plSmall_go d rest (pre ++ [s]) k (by simp; omega) (by omega)
    have ex : (pre ++ [s]) ++ rest = pre ++ s :: rest := by simp
    have el : ((pre ++ [s]).length : Int) = ((pre.length + 1 : Nat) : Int) := by simp
    rw [ex, el] at ih
    rw [ex] at hb
    obtain ⟨b0, e0, g0⟩ := plSets_ok s.f0 k (by omega)
    obtain ⟨b1, e1, g1⟩ := plSets_ok s.f1 k (by omega)
    obtain ⟨b2, e2, g2⟩ := plSets_ok s.f2 k (by omega)
    rw [unicodetextref50_Small.l0, if_pos (by simp; omega), decide_eq_true (by omega), unicodetextref50_Small.j1, if_pos rfl, if_pos (by omega), if_pos (by simp; omega), rdU_mid, wrap_suc (by omega : pre.length < 1000000000), ih, e0, e1, e2]
    simp only [Option.bind_some]
    cases b0 with
    | false => exact ⟨false, rfl, fun h => by cases h⟩
    | true => cases b1 with
      | false => exact ⟨false, rfl, fun h => by cases h⟩
      | true => cases b2 with
        | false => exact ⟨false, rfl, fun h => by cases h⟩
        | true =>
          simp only [if_true]
          by_cases hs : (s.f3.length : Int) > 20
          · rw [if_pos hs]
            exact ⟨false, rfl, fun h => by cases h⟩
          · rw [if_neg hs]
            exact ⟨b, rfl, fun h => ⟨(hb h).1, fun x hx => by
              rcases List.mem_cons.1 hx with rfl | hx
              · exact ⟨g0 rfl, g1 rfl, g2 rfl, by omega⟩
              · exact (hb h).2 x hx⟩⟩
theorem plSmall_ok (l : List Ru) (k : Nat) (hk : 64 ≤ k) : ∃ b, unicodetextref50_Small.f k l = some b ∧ (b = true → plFewL l) := plSmall_go 10 l [] k rfl (by omega)
theorem plFew_ok (l : List Ru) (text : List Int) (k : Nat) (hk : 64 ≤ k) : ∃ b, unicodetextlaw51_few.f k l text = some b ∧ (b = true → plFewL l ∧ text.length ≤ 40) := by
  obtain ⟨b, e, h⟩ := plSmall_ok l k hk
  unfold unicodetextlaw51_few.f
  rw [e]
  cases b with
  | false => exact ⟨false, rfl, fun h => by cases h⟩
  | true => exact ⟨_, rfl, fun h2 => ⟨h rfl, by have := of_decide_eq_true h2; omega⟩⟩
theorem plOkSets {l : List St} (h : plFewS l) : l.all okSet = true := List.all_eq_true.2 fun s hs => decide_eq_true (h.2 s hs)
theorem plOkRules {l : List Ru} (h : plFewL l) : okRules l = true := by
  unfold okRules
  rw [Bool.and_eq_true, decide_eq_true_eq, List.all_eq_true]
  refine ⟨by have := h.1; omega, fun x hx => ?_⟩
  obtain ⟨h0, h1, h2, h3⟩ := h.2 x hx
  unfold okRule
  rw [plOkSets h0, plOkSets h1, plOkSets h2, decide_eq_true (by have := h0.1; omega), decide_eq_true (by have := h1.1; omega), decide_eq_true (by have := h2.1; omega), decide_eq_true (by omega)]
  rfl
theorem plInside_go (text : List Int) (a : Nat) (hT : text.length < 1000000000) : ∀ (rest pre : List St) (k : Nat), (∀ s ∈ rest, s.f0.length ≤ 12) → a + (pre ++ rest).length ≤ text.length → rest.length + 15 ≤ k →
    unicodetextref51_inside.l0 k (pre ++ rest) text (a : Int) (pre.length : Int) = some (insideS rest (text.drop (a + pre.length)))
  | [], pre, k, h0, h1, h2 => by
    obtain ⟨k, rfl⟩ : ∃ j, k = j + 1 := ⟨k - 1, by omega⟩
    rw [unicodetextref51_inside.l0, if_neg (by simp)]
    rfl
  | s :: rest, pre, k, h0, h1, h2 => by
    obtain ⟨k, rfl⟩ : ∃ j, k = j + 1 := ⟨k - 1, by omega⟩
    have hp : a + pre.length < text.length := by simp at h1; omega
    have ih := plInside_go text a hT rest (pre ++ [s]) k (fun y hy => h0 y (List.mem_cons_of_mem _ hy)) (by simpa using h1) (by simp at h2; omega)
    have ex : (pre ++ [s]) ++ rest = pre ++ s :: rest := by simp
    have el : ((pre ++ [s]).length : Int) = ((pre.length + 1 : Nat) : Int) := by simp
    have en : (pre ++ [s]).length = pre.length + 1 := by simp
    rw [ex, el, en] at ih
    have hw : wrap64 ((a : Int) + (pre.length : Int)) = ((a + pre.length : Nat) : Int) := by unfold wrap64; omega
    have h12 := h0 s List.mem_cons_self
    have hs : unicodetextref02_Has.f k s.f0 (rd text ((a + pre.length : Nat) : Int)) = some (hasS s (rd text ((a + pre.length : Nat) : Int))) :=
      has_go s.f0 [] _ k (by simp; omega) (by simp at h2; omega)
    rw [unicodetextref51_inside.l0, if_pos (by simp; omega), if_pos (by omega), rdS_mid, hw, if_pos (by omega), if_pos (by omega), hs, wrap_suc (by omega : pre.length < 1000000000), drop_rdI _ _ hp]
    show (if hasS s _ = true then _ else _) = _
    rw [ih, insideS]
    cases hasS s (rd text ((a + pre.length : Nat) : Int)) <;> rfl
theorem plInside_ok (sets : List St) (text : List Int) (i : Int) (k : Nat) (h : plFewS sets) (hT : text.length < 1000000000) (hi : -1000000000000 < i ∧ i < 1000000000000) (hk : 26 ≤ k) :
    unicodetextref51_inside.f k sets text i = some (coversS sets text i) := by
  have hS := h.1
  obtain ⟨k, rfl⟩ : ∃ j, k = j + 1 := ⟨k - 1, by omega⟩
  unfold unicodetextref51_inside.f coversS
  by_cases hn : i < 0
  · rw [if_pos hn, unicodetextref51_inside.j0, if_pos rfl, decide_eq_false (by omega)]
    rfl
  · have hw : wrap64 (i + (sets.length : Int)) = i + (sets.length : Int) := by unfold wrap64; omega
    rw [if_neg hn, hw, unicodetextref51_inside.j0, decide_eq_true (by omega : 0 ≤ i)]
    by_cases hl : i + (sets.length : Int) ≤ (text.length : Int)
    · rw [if_neg (by simp; omega), decide_eq_true hl]
      obtain ⟨a, rfl⟩ : ∃ a : Nat, i = (a : Int) := ⟨i.toNat, by omega⟩
      have := plInside_go text a hT sets [] k h.2 (by simpa using by omega) (by omega)
      rw [Int.toNat_natCast]
      exact this
    · rw [if_pos (by simp; omega), decide_eq_false hl]
      rfl
theorem plApplies_ok (x : Ru) (text : List Int) (i : Int) (k : Nat) (h : plFewU x) (hT : text.length < 1000000000) (hi : 0 ≤ i ∧ i < 1000000000) (hk : 26 ≤ k) :
    unicodetextref51_applies.f k x.f0 x.f1 x.f2 x.f3 text i = some (appliesS x text i) := by
  obtain ⟨h0, h1, h2, h3⟩ := h
  have l0 := h0.1
  have l1 := h1.1
  have l2 := h2.1
  have hw1 : wrap64 (i + (x.f1.length : Int)) = i + (x.f1.length : Int) := by unfold wrap64; omega
  have hw0 : wrap64 (i - (x.f0.length : Int)) = i - (x.f0.length : Int) := by unfold wrap64; omega
  unfold unicodetextref51_applies.f appliesS
  rw [hw1, hw0, plInside_ok x.f1 text i k h1 hT (by omega) hk, plInside_ok x.f2 text _ k h2 hT (by omega) hk, plInside_ok x.f0 text _ k h0 hT (by omega) hk]
  simp only [Option.bind_some]
  cases coversS x.f1 text i <;> cases coversS x.f2 text (i + (x.f1.length : Int)) <;> rfl
theorem plStep_go (text : List Int) (i : Int) (hT : text.length < 1000000000) (hi : 0 ≤ i ∧ i < 1000000000) : ∀ (rest pre : List Ru) (k : Nat), (∀ x ∈ rest, plFewU x) → (pre ++ rest).length < 1000000000 → rest.length + 27 ≤ k →
    unicodetextref51_step.l0 k (pre ++ rest) text i (pre.length : Int) = some (match rest.findIdx? (fun x => appliesS x text i) with | some j => (((pre.length + j : Nat) : Int), ((rest.getD j z34).f1.length : Int)) | none => (-1, 1))
  | [], pre, k, h0, h1, h2 => by
    obtain ⟨k, rfl⟩ : ∃ j, k = j + 1 := ⟨k - 1, by omega⟩
    rw [unicodetextref51_step.l0, if_neg (by simp)]
    rfl
  | x :: rest, pre, k, h0, h1, h2 => by
    obtain ⟨k, rfl⟩ : ∃ j, k = j + 1 := ⟨k - 1, by omega⟩
    have hp : pre.length < 1000000000 := by simp at h1; omega
    have ih := plStep_go text i hT hi rest (pre ++ [x]) k (fun y hy => h0 y (List.mem_cons_of_mem _ hy)) (by simpa using h1) (by simp at h2; omega)
    have ex : (pre ++ [x]) ++ rest = pre ++ x :: rest := by simp
    have el : ((pre ++ [x]).length : Int) = ((pre.length + 1 : Nat) : Int) := by simp
    have en : (pre ++ [x]).length = pre.length + 1 := by simp
    rw [ex, el, en] at ih
    rw [unicodetextref51_step.l0, if_pos (by simp; omega), if_pos (by omega), rdU_mid, wrap_suc hp, plApplies_ok x text i k (h0 x List.mem_cons_self) hT hi (by simp at h2; omega), List.findIdx?_cons]
    show (if appliesS x text i = true then _ else _) = _
    rw [ih]
    cases appliesS x text i with
    | true => rfl
    | false =>
      rw [if_neg (by decide)]
      cases rest.findIdx? (fun x => appliesS x text i) with
      | none => rfl
      | some j =>
        show some (((pre.length + 1 + j : Nat) : Int), _) = some (((pre.length + (j + 1) : Nat) : Int), _)
        rw [show pre.length + 1 + j = pre.length + (j + 1) by omega]
        rfl
theorem plStep_ok (l : List Ru) (text : List Int) (i : Int) (k : Nat) (h : plFewL l) (hT : text.length < 1000000000) (hk : 34 ≤ k) : unicodetextref51_step.f k l text i = some (stepS l text i) := by
  obtain ⟨k, rfl⟩ : ∃ j, k = j + 1 := ⟨k - 1, by omega⟩
  have hl := h.1
  unfold unicodetextref51_step.f stepS
  by_cases h0 : i < 0
  · rw [if_pos h0, if_pos (.inl h0), unicodetextref51_step.j0, if_pos rfl]
  · rw [if_neg h0]
    by_cases h1 : (text.length : Int) ≤ i
    · rw [decide_eq_true h1, if_pos (.inr h1), unicodetextref51_step.j0, if_pos rfl]
    · rw [decide_eq_false h1, if_neg (by omega), unicodetextref51_step.j0, if_neg (by decide)]
      have := plStep_go text i hT (by omega) l [] k h.2 (by simp; omega) (by omega)
      refine Eq.trans this ?_
      cases l.findIdx? (fun x => appliesS x text i) with
      | none => rfl
      | some j => show some (((0 + j : Nat) : Int), _) = _; rw [Nat.zero_add]
theorem plCmp_go : ∀ (xs ys px py : List Int) (k : Nat), px.length = py.length → (px ++ xs).length < 1000000000 → 2 * xs.length + 2 ≤ k →
    ∃ c, unicodetextref01_Compare.l0 k (px ++ xs) (py ++ ys) (px.length : Int) = some c ∧ (c = 0 ↔ xs = ys)
  | [], [], px, py, k, h1, h2, h3 => by
    obtain ⟨k, rfl⟩ : ∃ j, k = j + 2 := ⟨k - 2, by omega⟩
    rw [unicodetextref01_Compare.l0, if_neg (by simp), unicodetextref01_Compare.j1, if_neg (by decide), if_neg (by simp [h1]), if_neg (by simp [h1])]
    exact ⟨0, rfl, by simp⟩
  | [], y :: ys, px, py, k, h1, h2, h3 => by
    obtain ⟨k, rfl⟩ : ∃ j, k = j + 2 := ⟨k - 2, by omega⟩
    rw [unicodetextref01_Compare.l0, if_neg (by simp), unicodetextref01_Compare.j1, if_neg (by decide), if_pos (by simp [h1]; omega)]
    exact ⟨-1, rfl, by simp⟩
  | x :: xs, [], px, py, k, h1, h2, h3 => by
    obtain ⟨k, rfl⟩ : ∃ j, k = j + 2 := ⟨k - 2, by omega⟩
    rw [unicodetextref01_Compare.l0, if_pos (by simp; omega), decide_eq_false (by simp [h1]), unicodetextref01_Compare.j1, if_neg (by decide), if_neg (by simp [h1]; omega), if_pos (by simp [h1]; omega)]
    exact ⟨1, rfl, by simp⟩
  | x :: xs, y :: ys, px, py, k, h1, h2, h3 => by
    obtain ⟨k, rfl⟩ : ∃ j, k = j + 2 := ⟨k - 2, by omega⟩
    have hp : px.length < 1000000000 := by simp at h2; omega
    obtain ⟨c, ih, hc⟩ := plCmp_go xs ys (px ++ [x]) (py ++ [y]) k (by simp [h1]) (by simpa using h2) (by simp at h3; omega)
    have ex : (px ++ [x]) ++ xs = px ++ x :: xs := by simp
    have ey : (py ++ [y]) ++ ys = py ++ y :: ys := by simp
    have el : ((px ++ [x]).length : Int) = ((px.length + 1 : Nat) : Int) := by simp
    rw [ex, ey, el] at ih
    have e1 : rd (py ++ y :: ys) (px.length : Int) = y := by rw [h1]; exact rd_mid _ _ _
    rw [unicodetextref01_Compare.l0, if_pos (by simp; omega), decide_eq_true (by simp [h1]; omega), unicodetextref01_Compare.j1, if_pos rfl, if_pos (by omega), if_pos (by simp; omega), if_pos (by simp [h1]; omega), rd_mid, e1, wrap_suc hp, ih]
    by_cases a : x < y
    · rw [if_pos a]
      exact ⟨-1, rfl, ⟨fun h => absurd h (by decide), fun h => by injection h with h; omega⟩⟩
    · rw [if_neg a]
      by_cases b : x > y
      · rw [if_pos b]
        exact ⟨1, rfl, ⟨fun h => absurd h (by decide), fun h => by injection h with h; omega⟩⟩
      · rw [if_neg b]
        obtain rfl : x = y := by omega
        exact ⟨c, rfl, by rw [hc]; simp⟩
theorem plEqual_ok (a b : List Int) (k : Nat) (h : a.length < 1000000000) (hk : 2 * a.length + 2 ≤ k) : unicodetextref01_Equal.f k a b = some (decide (a = b)) := by
  obtain ⟨c, e, hc⟩ := plCmp_go a b [] [] k rfl (by simpa using h) hk
  unfold unicodetextref01_Equal.f unicodetextref01_Compare.f
  refine (congrArg (fun o => Option.bind o _) e).trans ?_
  show some (c == 0) = _
  congr 1
  rw [Bool.eq_iff_iff]
  simp [hc]
def plRules : List Ru := [⟨[], [⟨[⟨97, 97⟩]⟩, ⟨[⟨98, 98⟩]⟩], [], [⟨120, 0⟩]⟩, ⟨[], [⟨[⟨97, 97⟩]⟩], [], [⟨121, 0⟩]⟩]
theorem plAlive_step : transduce_Step.f plRules [97, 97, 98] 1 = some (0, 2) := by kernel_rfl
theorem plAlive_apply : transduce_Apply.f plRules [97, 97, 98] = some [121, 120] := by kernel_rfl
theorem plAlive_ok (k : Nat) (hk : 20 ≤ k) : unicodetextlaw51_alive.f k = some true := by
  obtain ⟨k, rfl⟩ : ∃ j, k = j + 20 := ⟨k - 20, by omega⟩
  show (transduce_Step.f plRules [97, 97, 98] 1).bind (fun bt166 => (transduce_Apply.f plRules [97, 97, 98]).bind fun t171 => (unicodetextref01_Equal.f (k + 20) t171 [121, 120]).bind fun t177 => if t177 = true then (if bt166.1 = 0 then (some (bt166.2 == 2)) else (some false)) else (some false)) = some true
  rw [plAlive_step, plAlive_apply]
  simp only [Option.bind_some]
  rw [plEqual_ok _ _ _ (by decide) (by simp)]
  rfl
end Go.Proofs.Ytnhagghhficdpaa.Q
end
section
namespace Go.Proofs.Ytnhagghhficdpaa.Q
open Go.RowKit Go.Proofs.YtnhagghhficdpaaW.PrintWords Go.Proofs.YtnhagghhficdpaaW.PrintLast Go.Proofs.YtnhagghhficdpaaW.PrintMore
attribute [local go_sem] max2_int min2_int max_two min_two max_three min_three max_four min_four   -- for this text's walks alone
set_option linter.unusedVariables false
set_option linter.unusedSimpArgs false
def unicodetextlaw51_TransduceSteps.f (k : Nat) (l0 : List (S34)) (l1 : List Int) (a2 : Int) : Option (Bool) := (unicodetextlaw51_few.f k l0 l1).bind fun t242 => (if t242 = true then ((transduce_Step.f l0 l1 a2).bind fun bt243 => ((unicodetextref51_Step.f k l0 l1 a2).bind fun bt245 => (if bt243.1 = bt245.1 then (if bt243.2 = bt245.2 then ((unicodetextlaw51_alive.f k).bind fun t247 => (some t247)) else (some false)) else (some false)))) else ((unicodetextlaw51_alive.f k).bind fun t248 => (some t248)))
end Go.Proofs.Ytnhagghhficdpaa.Q
end
section
namespace Go.Proofs.Ytnhagghhficdpaa.Q
open Go.RowKit Go.Proofs.YtnhagghhficdpaaW.PrintWords Go.Proofs.YtnhagghhficdpaaW.PrintLast Go.Proofs.YtnhagghhficdpaaW.PrintMore
set_option linter.unusedVariables false
theorem plOkText {l : List Int} (h : wfT l) (hl : l.length < 100000000) : okText l = true := by
  unfold okText
  rw [Bool.and_eq_true, decide_eq_true_eq, List.all_eq_true]
  exact ⟨hl, h.2⟩
end Go.Proofs.Ytnhagghhficdpaa.Q
end
section
namespace Go.Proofs.Ytnhagghhficdpaa.Q
open Go.RowKit Go.Proofs.YtnhagghhficdpaaW.PrintWords Go.Proofs.YtnhagghhficdpaaW.PrintLast Go.Proofs.YtnhagghhficdpaaW.PrintMore
attribute [local go_sem] max2_int min2_int max_two min_two max_three min_three max_four min_four   -- for this text's walks alone
set_option linter.unusedVariables false
set_option linter.unusedSimpArgs false
mutual
def unicodetextlaw51_TransduceKeeps.l0 : Nat → List (S34) → List Int → Int → Option (Bool)
  | 0, _, _, _ => none
  | k + 1, x0, x1, x5 => if x5 < (x0.length : Int) then (unicodetextlaw51_TransduceKeeps.l1 k x0 x1 x5 0) else ((transduce_Apply.f x0 x1).bind fun t287 => ((unicodetextref01_Equal.f k t287 x1).bind fun t290 => (if t290 = true then ((unicodetextlaw51_alive.f k).bind fun t291 => (some t291)) else (some false))))
def unicodetextlaw51_TransduceKeeps.l1 : Nat → List (S34) → List Int → Int → Int → Option (Bool)
  | 0, _, _, _, _ => none
  | k + 1, x0, x1, x5, x6 => if 0 ≤ x5 then (if x5 < (x0.length : Int) then (if x6 < (((rd_T34 x0 x5).f1).length : Int) then (unicodetextlaw51_TransduceKeeps.l2 k x0 x1 x5 x6 0) else (unicodetextlaw51_TransduceKeeps.l0 k x0 x1 (wrap64 (x5 + 1)))) else (none)) else (none)
def unicodetextlaw51_TransduceKeeps.l2 : Nat → List (S34) → List Int → Int → Int → Int → Option (Bool)
  | 0, _, _, _, _, _ => none
  | k + 1, x0, x1, x5, x6, x7 => if x7 < (x1.length : Int) then (if 0 ≤ x5 then (if x5 < (x0.length : Int) then (if 0 ≤ x6 then (if x6 < (((rd_T34 x0 x5).f1).length : Int) then (if 0 ≤ x7 then ((unicodetextref02_Has.f k ((rd_T38 ((rd_T34 x0 x5).f1) x6).f0) (rd x1 x7)).bind fun t296 => (if t296 = true then ((unicodetextlaw51_alive.f k).bind fun t297 => (some t297)) else (unicodetextlaw51_TransduceKeeps.l2 k x0 x1 x5 x6 (wrap64 (x7 + 1))))) else (none)) else (none)) else (none)) else (none)) else (none)) else (unicodetextlaw51_TransduceKeeps.l1 k x0 x1 x5 (wrap64 (x6 + 1)))
end
def unicodetextlaw51_TransduceKeeps.f (k : Nat) (l0 : List (S34)) (l1 : List Int) : Option (Bool) := (unicodetextlaw51_few.f k l0 l1).bind fun t285 => (if t285 = true then (unicodetextlaw51_TransduceKeeps.l0 k l0 l1 0) else ((unicodetextlaw51_alive.f k).bind fun t286 => (some t286)))
def unicodetextlaw51_TransduceKeeps.T12 : Bool × List (List Nat × List Nat) := (true, [([], []), ([], []), ([0, 1], [0, 1]), ([2], [2]), ([3], [3]), ([], []), ([4, 5], [4, 5]), ([6], [6]), ([], []), ([], []), ([8, 9], [8, 9]), ([10], [10]), ([7, 11], [7, 11])])
def unicodetextlaw51_TransduceKeeps.B12 : List Nat := [0, 0, 3, 7, 15, 0, 63, 127, 0, 0, 768, 1792, 4095]
end Go.Proofs.Ytnhagghhficdpaa.Q
end
section
namespace Go.Proofs.Ytnhagghhficdpaa.Q
open Go.RowKit Go.Proofs.YtnhagghhficdpaaW.PrintWords Go.Proofs.YtnhagghhficdpaaW.PrintLast Go.Proofs.YtnhagghhficdpaaW.PrintMore
set_option linter.unusedVariables false
theorem plApplyT (l : List Ru) (text : List Int) (h : plFewL l) (ht : okText text = true) : transduce_Apply.f l text = some (applyS (dataS l) text text.length 0) := by
  unfold transduce_Apply.f
  rw [if_pos ⟨plOkRules h, ht⟩]
theorem plWrit_go (l : List Ru) (text : List Int) (a : Nat) (j : Nat) (x : Ru) (hj : j < l.length) (hx : rd_T34 l (j : Int) = x) (hT : text.length < 1000000000) (ha : a < text.length) : ∀ (rest pre : List Pc) (out : List Int) (k : Nat), pre ++ rest = x.f3 → x.f3.length < 1000000 → out.length ≤ pre.length → (∀ p ∈ rest, (a : Int) + p.f1 ≤ (text.length : Int)) → rest.length + 1 ≤ k →
    unicodetextref51_Written.l0 k l text (a : Int) (j : Int) out (pre.length : Int) = some (out ++ rest.map fun p => if 0 < p.f1 then text.getD ((a : Int) + (p.f1 - 1)).toNat 0 else p.f0)
  | [], pre, out, k, h0, h1, h2, h3, h4 => by
    obtain ⟨k, rfl⟩ : ∃ j, k = j + 1 := ⟨k - 1, by omega⟩
    have hl : x.f3.length = pre.length := by rw [← h0]; simp
    rw [unicodetextref51_Written.l0, if_pos (by omega), if_pos (by omega), hx, if_neg (by omega)]
    simp
  | p :: rest, pre, out, k, h0, h1, h2, h3, h4 => by
    obtain ⟨k, rfl⟩ : ∃ j, k = j + 1 := ⟨k - 1, by omega⟩
    have hl : x.f3.length = pre.length + (rest.length + 1) := by rw [← h0]; simp
    have hp : pre.length < 1000000000 := by omega
    have hrd : rd_T51 x.f3 (pre.length : Int) = p := by rw [← h0]; exact plRdP_mid _ _ _
    have ih := fun v => plWrit_go l text a j x hj hx hT ha rest (pre ++ [p]) (out ++ [v]) k (by simpa using h0) h1 (by simp; omega) (fun q hq => h3 q (List.mem_cons_of_mem _ hq)) (by simp at h4; omega)
    have el : ((pre ++ [p]).length : Int) = ((pre.length + 1 : Nat) : Int) := by simp
    rw [el] at ih
    have hb := h3 p List.mem_cons_self
    rw [unicodetextref51_Written.l0, if_pos (by omega), if_pos (by omega), hx, if_pos (by omega), if_pos (by omega), hrd, wrap_suc hp]
    by_cases hc : 0 < p.f1
    · have hw : wrap64 (wrap64 ((a : Int) + p.f1) - 1) = (a : Int) + (p.f1 - 1) := by unfold wrap64; omega
      rw [if_pos hc, hw, if_pos (by omega), if_pos (by omega), if_pos (by omega), ih, List.map_cons, if_pos hc, List.append_assoc]
      rfl
    · rw [if_neg hc, if_pos (by omega), ih, List.map_cons, if_neg hc, List.append_assoc]
      rfl
theorem plWritten_ok (l : List Ru) (text : List Int) (a n : Nat) (i : Int) (k : Nat) (hn : 1 ≤ n) (ha : a + n ≤ text.length) (hT : text.length < 1000000000) (hl : ∀ x ∈ l, x.f3.length ≤ 16 ∧ ∀ p ∈ x.f3, p.f1 ≤ (x.f1.length : Int))
    (hc : i = -1 ∧ n = 1 ∨ ∃ j : Nat, i = (j : Int) ∧ j < l.length ∧ n = (l.getD j z34).f1.length) (hk : 20 ≤ k) : unicodetextref51_Written.f k l text (a : Int) i = some (writtenS l text (a : Int) i) := by
  unfold unicodetextref51_Written.f writtenS
  rcases hc with ⟨rfl, rfl⟩ | ⟨j, rfl, hj, hnj⟩
  · rw [if_pos (by decide), if_pos (by omega), if_pos (by omega), if_pos (by decide)]
    rfl
  · have hm : l.getD j z34 ∈ l := by
      rw [List.getD_eq_getElem?_getD, List.getElem?_eq_getElem hj]; exact List.getElem_mem hj
    have h2 := hl _ hm
    have e : rd_T34 l (j : Int) = l.getD j z34 := by
      unfold rd_T34
      rw [Int.toNat_natCast]
    rw [if_neg (by omega), if_neg (by omega), Int.toNat_natCast]
    exact plWrit_go l text a j (l.getD j z34) hj e hT (by omega) _ [] [] k rfl (by omega) (Nat.le_refl _) (fun p hp => by have := h2.2 p hp; omega) (by omega)
theorem plApply_go (l : List Ru) (text : List Int) (hf : plFewL l) (h1 : ∀ x ∈ l, 1 ≤ x.f1.length) (hl : ∀ x ∈ l, x.f3.length ≤ 16 ∧ ∀ p ∈ x.f3, p.f1 ≤ (x.f1.length : Int)) (hT : text.length < 1000000) : ∀ (m a : Nat) (out : List Int) (k : Nat), text.length - a ≤ m → a ≤ text.length → out.length ≤ 16 * a → m + 40 ≤ k →
    unicodetextref51_Apply.l0 k text l out (a : Int) = some (out ++ applyS l text (text.length - a) (a : Int))
  | m, a, out, k, h2, h3, h4, h5 => by
    obtain ⟨k, rfl⟩ : ∃ j, k = j + 1 := ⟨k - 1, by omega⟩
    rw [unicodetextref51_Apply.l0]
    by_cases ha : a < text.length
    · obtain ⟨n, hs, hn1, hn2, hcase⟩ := stepS_bounds l text a ha h1
      have hst := applyS_step l text (text.length - a) a ha (by omega)
      have hmo := applyS_more l text h1 (text.length - (a + n)) (a + n) (text.length - a - 1) (by omega) (by omega)
      rw [hs, show (a : Int) + (n : Int) = ((a + n : Nat) : Int) by omega, ← hmo] at hst
      have hwl := (resV_written l text a n (stepS l text (a : Int)).1 hn1 hn2 hl hcase).2
      have hw : wrap64 ((a : Int) + (n : Int)) = ((a + n : Nat) : Int) := by unfold wrap64; omega
      rw [if_pos (by omega), plStep_ok l text a k hf (by omega) (by omega)]
      simp only [Option.bind_some]
      rw [plWritten_ok l text a n (stepS l text (a : Int)).1 k hn1 hn2 (by omega) hl hcase (by omega)]
      simp only [Option.bind_some]
      rw [hs, hw, if_pos (by omega)]
      obtain ⟨m, rfl⟩ : ∃ j, m = j + 1 := ⟨m - 1, by omega⟩
      rw [plApply_go l text hf h1 hl hT m (a + n) _ k (by omega) hn2 (by rw [List.length_append]; omega) (by omega), hst, List.append_assoc]
    · obtain rfl : a = text.length := by omega
      rw [if_neg (by omega), Nat.sub_self, applyS, List.append_nil]
theorem plData1 (l : List Ru) : ∀ x ∈ dataS l, 1 ≤ x.f1.length := fun x hx => (oneS_ok x (data_one l x hx)).1
theorem plApply_ok (l : List Ru) (text : List Int) (k : Nat) (hf : plFewL l) (hT : text.length ≤ 40) (hk : 100 ≤ k) : unicodetextref51_Apply.f k l text = some (applyS (dataS l) text text.length 0) := by
  unfold unicodetextref51_Apply.f
  rw [plData_ok l k hf (by omega)]
  exact plApply_go (dataS l) text (plData_few l hf) (plData1 l) (data_ok3 l) (by omega) text.length 0 [] k (by omega) (by omega) (by simp) (by omega)
/-- What Apply writes is not long. -/
theorem plApplyS_len (l : List Ru) (text : List Int) (h1 : ∀ x ∈ l, 1 ≤ x.f1.length) (hl : ∀ x ∈ l, x.f3.length ≤ 16 ∧ ∀ p ∈ x.f3, p.f1 ≤ (x.f1.length : Int)) : ∀ (m a : Nat), text.length - a ≤ m → (applyS l text (text.length - a) (a : Int)).length ≤ 16 * (text.length - a)
  | m, a, h2 => by
    by_cases ha : a < text.length
    · obtain ⟨n, hs, hn1, hn2, hcase⟩ := stepS_bounds l text a ha h1
      have hst := applyS_step l text (text.length - a) a ha (by omega)
      have hmo := applyS_more l text h1 (text.length - (a + n)) (a + n) (text.length - a - 1) (by omega) (by omega)
      rw [hs, show (a : Int) + (n : Int) = ((a + n : Nat) : Int) by omega, ← hmo] at hst
      have hwl := (resV_written l text a n (stepS l text (a : Int)).1 hn1 hn2 hl hcase).2
      obtain ⟨m, rfl⟩ : ∃ j, m = j + 1 := ⟨m - 1, by omega⟩
      have ih := plApplyS_len l text h1 hl m (a + n) (by omega)
      rw [hst, List.length_append]
      omega
    · rw [show text.length - a = 0 by omega, applyS]
      simp
theorem transduceApplies_pure (l0 : List Ru) (l1 : List Int) (h0 : wfL l0) (h1 : wfT l1) : ∃ k, unicodetextlaw51_TransduceApplies.f k l0 l1 = some true := by
  refine ⟨2000, ?_⟩
  obtain ⟨b, e, hb⟩ := plFew_ok l0 l1 2000 (by decide)
  unfold unicodetextlaw51_TransduceApplies.f
  rw [e, plAlive_ok 2000 (by decide)]
  cases b with
  | false => rfl
  | true =>
    obtain ⟨hl, ht⟩ := hb rfl
    have hlen : (applyS (dataS l0) l1 l1.length 0).length ≤ 16 * l1.length := plApplyS_len (dataS l0) l1 (plData1 l0) (data_ok3 l0) l1.length 0 (by omega)
    simp only [Option.bind_some, if_true]
    rw [plApplyT l0 l1 hl (plOkText h1 (by omega)), plApply_ok l0 l1 2000 hl ht (by decide)]
    simp only [Option.bind_some]
    rw [plEqual_ok _ _ 2000 (by omega) (by omega)]
    simp
def plNoHas (text : List Int) (s : St) : Prop := ∀ c ∈ text, hasS s c = false
end Go.Proofs.Ytnhagghhficdpaa.Q
end
