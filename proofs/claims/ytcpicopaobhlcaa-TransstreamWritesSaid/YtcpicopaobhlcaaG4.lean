/- Lemmas, printed and written for this claim: part 4. -/
import Derived.Test.YtcpicopaobhlcaaG2
import Derived.Test.YtcpicopaobhlcaaG3
import Derived.IntWalk
import Derived.Deep.RegionHeld3
import Derived.Deep.RegionLaw
section
namespace Go.Proofs.Ytcpicopaobhlcaa.Q
open Go.RowKit Go.Proofs.YtcpicopaobhlcaaW.PrintWords Go.Proofs.YtcpicopaobhlcaaW.PrintLast Go.Proofs.YtcpicopaobhlcaaW.PrintMore
set_option linter.unusedVariables false
theorem rd_mid (pre : List Int) (x : Int) (rest : List Int) : rd (pre ++ x :: rest) (pre.length : Int) = x := by
  unfold rd
  rw [Int.toNat_natCast, List.getD_eq_getElem?_getD, List.getElem?_append_right (Nat.le_refl _), Nat.sub_self]
  rfl
theorem wrap_succ {n : Nat} (h : n < 1000000000) : wrap64 ((n : Int) + 1) = ((n + 1 : Nat) : Int) := by unfold wrap64; omega
theorem place_done : ∀ (rest pre out : List Int) (n : Int) (k : Nat), (pre ++ rest).length < 1000000000 → out.length ≤ pre.length + 1 →
    2 * rest.length + 1 ≤ k → unicodetextref02_place.l0 k (pre ++ rest) n out true (pre.length : Int) = some (out ++ rest)
  | [], pre, out, n, k, h1, h2, h3 => by
    obtain ⟨k, rfl⟩ : ∃ j, k = j + 1 := ⟨k - 1, by omega⟩
    rw [unicodetextref02_place.l0, List.append_nil, if_neg (by omega), if_pos rfl, List.append_nil]
  | x :: rest, pre, out, n, k, h1, h2, h3 => by
    obtain ⟨k, rfl⟩ : ∃ j, k = j + 2 := ⟨k - 2, by simp at h3; omega⟩
    have hp : pre.length < 1000000000 := by simp at h1; omega
    rw [unicodetextref02_place.l0, if_pos (by simp; omega), if_pos rfl, unicodetextref02_place.j1, if_neg (by decide), if_pos (by omega), if_pos (by simp; omega), if_pos (by omega), rd_mid, wrap_succ hp]
    have := place_done rest (pre ++ [x]) (out ++ [x]) n k (by simpa using h1) (by simp; omega) (by simp at h3; omega)
    rw [List.append_assoc, List.append_assoc, List.length_append, List.length_singleton] at this
    exact this
theorem place_open : ∀ (rest pre out : List Int) (n : Int) (k : Nat), (pre ++ rest).length < 1000000000 → out.length ≤ pre.length →
    2 * rest.length + 1 ≤ k → unicodetextref02_place.l0 k (pre ++ rest) n out false (pre.length : Int) = some (out ++ CpM.place n rest)
  | [], pre, out, n, k, h1, h2, h3 => by
    obtain ⟨k, rfl⟩ : ∃ j, k = j + 1 := ⟨k - 1, by omega⟩
    have hp : pre.length < 1000000000 := by simpa using h1
    rw [unicodetextref02_place.l0, List.append_nil, if_neg (by omega), if_neg (by decide), if_pos (by omega)]
    rfl
  | x :: rest, pre, out, n, k, h1, h2, h3 => by
    obtain ⟨k, rfl⟩ : ∃ j, k = j + 2 := ⟨k - 2, by simp at h3; omega⟩
    have hp : pre.length < 1000000000 := by simp at h1; omega
    rw [unicodetextref02_place.l0, if_pos (by simp; omega), if_neg (by decide), if_pos (by omega), rd_mid, unicodetextref02_place.j1, CpM.place]
    have e2 : pre ++ x :: rest = (pre ++ [x]) ++ rest := by simp
    have e3 : (((pre.length + 1 : Nat)) : Int) = ((pre ++ [x]).length : Int) := by simp
    by_cases hx : x ≥ n
    · rw [if_pos (decide_eq_true hx), if_pos (by omega), if_pos (by simp; omega), rd_mid, if_pos hx, wrap_succ hp]
      by_cases hg : x > n
      · rw [if_pos hg, if_pos hg, if_pos (by omega)]
        show (if (out ++ [n]).length < 17592186044416 then _ else _) = _
        rw [if_pos (by simp; omega), e3, e2, place_done rest (pre ++ [x]) _ n k (by simpa using h1) (by simp; omega) (by simp at h3; omega)]
        simp
      · rw [if_neg hg, if_neg hg, if_pos (by omega), e3, e2, place_done rest (pre ++ [x]) _ n k (by simpa using h1) (by simp; omega) (by simp at h3; omega)]
        simp
    · rw [if_neg (by simpa using hx), if_neg hx, if_pos (by omega), if_pos (by simp; omega), if_pos (by omega), rd_mid, wrap_succ hp, e3, e2,
        place_open rest (pre ++ [x]) _ n k (by simpa using h1) (by simp; omega) (by simp at h3; omega)]
      simp
theorem place_ok (l : List Int) (n : Int) (h : l.length < 1000000000) : unicodetextref02_place.f (2 * l.length + 1) l n = some (CpM.place n l) := by
  have := place_open l [] [] n (2 * l.length + 1) (by simpa using h) (Nat.le_refl _) (Nat.le_refl _)
  exact this
theorem valid_eq (c : Int) : unicodetextref01_Valid.f c = some (decide (0 ≤ c ∧ c ≤ 1114111)) := by
  unfold unicodetextref01_Valid.f
  split
  · rename_i h; simp only [ge_iff_le] at h; simp [h]
  · rename_i h; simp only [ge_iff_le] at h; simp [h]
theorem place_length (n : Int) : ∀ l : List Int, (CpM.place n l).length ≤ l.length + 1
  | [] => Nat.le_refl _
  | x :: l => by
    have := place_length n l
    unfold CpM.place
    split
    · split <;> simp
    · simp; omega
theorem cut1_length (l : List Int) (r : Int × Int) : (CpM.cut1 l r).length ≤ l.length + 2 := by
  unfold CpM.cut1
  have h1 := place_length r.1 l
  simp only
  split <;> split <;> first | omega | (rename_i h _; have := place_length (r.2 + 1) (CpM.place r.1 l); have := place_length (r.2 + 1) l; omega)
theorem foldCut_length : ∀ (a : List (Int × Int)) (l : List Int), (a.foldl CpM.cut1 l).length ≤ l.length + 2 * a.length
  | [], l => by simp
  | r :: a, l => by
    have := foldCut_length a (CpM.cut1 l r)
    have := cut1_length l r
    simp only [List.foldl_cons, List.length_cons]
    omega
def unicodetextref02_Cuts.f (l0 : List Int) (l1_0 : List S69) : Option (List Int) := if l0.length + l1_0.length * 2 < 100000000 then some (CpM.cuts l0 (l1_0.map toP)) else none
abbrev kInt : Kd Int := Kd.int .i64
set_option maxHeartbeats 4000000 in
set_option maxRecDepth 100000 in
theorem unicodetextref02_Cuts.calls (A0 : Option Addr) (c0 : Nat) (l0 : List Int) (A1_0 : Option Addr) (c1_0 : Nat) (l1_0 : List S69) (r : List Int) (w : World) (hr0 : Kd.C kInt w A0 l0.length l0) (hc0 : l0.length ≤ c0) (hr1_0 : Kd.C k69 w A1_0 l1_0.length l1_0) (hc1_0 : l1_0.length ≤ c1_0) (h : unicodetextref02_Cuts.f l0 l1_0 = some r) :
    Calls Try.prog 86 #[.slice A0 l0.length c0, .agg #[.slice A1_0 l1_0.length c1_0]] w fun e w' => ∃ v0_ : Value, e = .returned (v0_) ∧ Kd.R kInt 3 w' w.heap.size (fun _ => True) v0_ r ∧ Below w.heap.size w w' := by
  have hn : l0.length + l1_0.length * 2 < 100000000 ∧ CpM.cuts l0 (l1_0.map toP) = r := by
    unfold unicodetextref02_Cuts.f at h
    split at h
    · rename_i hl; exact ⟨hl, Option.some.inj h⟩
    · cases h
  have HN := Aside0.mk hn
  have HR := Aside0.mk hr0
  have HC := Aside0.mk hc0
  have HS := Aside0.mk hr1_0
  clear hn h hr0 hc0 hr1_0
  go_enter Try.func86, Try.ntmps86
  go_wp2
  go_loopw [0, 5] (fun v i wr => ∃ (k : Nat) (A : Option Addr) (c : Nat) (l : List Int), v = .slice A l.length c ∧ i = .int .i64 k ∧ Aside0 (k ≤ l1_0.length) ∧ Aside0 (l = ((l1_0.take k).map toP).foldl CpM.cut1 l0) ∧ Aside0 (Kd.C kInt wr A l.length l) ∧ Aside0 (l.length ≤ c) ∧ Aside0 (wr.heap[w.heap.size]? = some (.cells #[.slice A1_0 l1_0.length c1_0] 45 (0, 0))) ∧ Aside0 (Below w.heap.size w wr)) (fun _ i _ => l1_0.length - (intOf i).toNat)
  case atStart => exact ⟨0, A0, c0, l0, rfl, rfl, ⟨Nat.zero_le _⟩, ⟨rfl⟩, ⟨Kd.C_alloc HR.out _⟩, HC, ⟨heap_alloc_new w _⟩, ⟨below_alloc (Below.refl _ w) _⟩⟩
  case round =>
    obtain ⟨k, A, c, l, rfl, rfl, HK, HL, HO, HCC, BK, HB⟩ := hrel
    have hbc : wr.cell? ⟨w.heap.size, 0, none⟩ = some (.slice A1_0 l1_0.length c1_0) := (blk_cell BK.out 0).trans rfl
    by_cases hlt : k < l1_0.length
    · obtain ⟨ad, e, hx0, hx1⟩ := at_T69 HS.out (k : Int) (by omega) (by omega)
      cases e
      rw [Int.toNat_natCast] at hx0 hx1
      have hc0 := (HB.out.cell (World.block_lt_of_cell? w _ hx0)).trans hx0
      have hc1 := (HB.out.cell (World.block_lt_of_cell? w _ hx1)).trans hx1
      clear hx0 hx1
      have hst := Aside0.mk (rd_take hlt)
      generalize rd_T69 l1_0 (k : Int) = x at hc0 hc1 hst
      have hp : (0 ≤ (k : Int)) = True := eq_true (by omega)
      have hw : wrap64 ((k : Int) + 1) = (k : Int) + 1 := by have := HN.out.1; unfold wrap64; omega
      have hLL := foldCut_length ((l1_0.take k).map toP) l0
      rw [← HL.out, List.length_map, List.length_take] at hLL
      have hlen : l.length < 100000000 := by have := HN.out.1; omega
      have hnx : ((l1_0.take (k + 1)).map toP).foldl CpM.cut1 l0 = CpM.cut1 l (toP x) := by rw [hst.out, List.map_append, List.foldl_append, ← HL.out]; rfl
      have HNX := Aside0.mk hnx
      have HV := Aside0.mk (valid_eq x.f0)
      have HP1 := Aside0.mk (place_ok l x.f0 (by omega))
      have HP2 := Aside0.mk (place_ok l (x.f1 + 1) (by omega))
      have HP3 := Aside0.mk (place_ok (CpM.place x.f0 l) (x.f1 + 1) (by have := place_length x.f0 l; omega))
      clear hLL hnx
      by_cases hv : 0 ≤ x.f0 ∧ x.f0 ≤ 1114111
      · rw [decide_eq_true hv] at HV
        by_cases hh : 0 ≤ x.f1 ∧ x.f1 < 1114111
        · have HX := Aside0.mk (show CpM.cut1 l (toP x) = CpM.place (x.f1 + 1) (CpM.place x.f0 l) by unfold CpM.cut1 toP; simp only; rw [if_pos hv, if_pos hh])
          have hw1 : wrap64 (x.f1 + 1) = x.f1 + 1 := by unfold wrap64; omega
          obtain ⟨hh1, hh2⟩ := hh
          clear hv
          go_wp2
          go_quiet (fail)
          go_wp2_with (first | (go_at_call 37; refine (unicodetextref01_Valid.calls x.f0 true _ HV.out).mono ?_; rintro e w' ⟨rfl, ⟨nd, rfl⟩⟩) | (go_at_call 98; (with_reducible refine (unicodetextref02_place.calls (2 * (l).length + 1) _ _ (l) (x.f0) (CpM.place (x.f0) (l)) _ ?s1 HCC.out HP1.out).mono ?_); (case s1 => (with_reducible repeat (first | apply Kd.C_alloc | apply Kd.C_drewN | apply Kd.C_drew)); exact HO.out); rintro e w1 ⟨v1, rfl, ho, hb⟩; have n0_ := Aside0.mk (below_step (by repeat (first | (with_reducible first | exact HB.out | apply below_alloc | apply pw_below_drewN | apply below_drew1) | exact HB.out)) hb); have n1_ := Aside0.mk (blk_below (g := w.heap.size) (o := .cells #[.slice (some ad) l1_0.length c1_0] 45 (0, 0)) (by (with_reducible repeat (first | refine blk_drewN ?_ _ | refine blk_drew ?_ | refine blk_alloc ?_ _)); exact BK.out) hb); clear HB BK; have HB := n0_; have BK := n1_; clear n0_ n1_ hb; obtain ⟨yA, yc, ev⟩ := Kd.R_slice ho; subst ev; have yO := Aside0.mk (Kd.R_reads' ho).2.2; have yC := Aside0.mk (Kd.R_reads' ho).2.1; clear ho) | (go_at_call 98; (with_reducible refine (unicodetextref02_place.calls (2 * (CpM.place x.f0 l).length + 1) _ _ (CpM.place x.f0 l) (x.f1 + 1) (CpM.place (x.f1 + 1) (CpM.place x.f0 l)) _ ?s1 yC.out HP3.out).mono ?_); (case s1 => (with_reducible repeat (first | apply Kd.C_alloc | apply Kd.C_drewN | apply Kd.C_drew)); exact yO.out); rintro e w1 ⟨v1, rfl, ho, hb⟩; have n0_ := Aside0.mk (below_step (by repeat (first | (with_reducible first | exact HB.out | apply below_alloc | apply pw_below_drewN | apply below_drew1) | exact HB.out)) hb); have n1_ := Aside0.mk (blk_below (g := w.heap.size) (o := .cells #[.slice (some ad) l1_0.length c1_0] 45 (0, 0)) (by (with_reducible repeat (first | refine blk_drewN ?_ _ | refine blk_drew ?_ | refine blk_alloc ?_ _)); exact BK.out) hb); clear HB BK; have HB := n0_; have BK := n1_; clear n0_ n1_ hb; obtain ⟨zA, zc, ev⟩ := Kd.R_slice ho; subst ev; have zO := Aside0.mk (Kd.R_reads' ho).2.2; have zC := Aside0.mk (Kd.R_reads' ho).2.1; clear ho))
          go_roundw
          case rel => exact ⟨k + 1, zA, zc, CpM.place (x.f1 + 1) (CpM.place x.f0 l), rfl, by rw [hw]; rfl, ⟨hlt⟩, ⟨by rw [HNX.out, HX.out]⟩, zO, zC, BK, HB⟩
          case measure => rw [hw]; simp only [intOf]; omega
        · have HX := Aside0.mk (show CpM.cut1 l (toP x) = CpM.place x.f0 l by unfold CpM.cut1 toP; simp only; rw [if_pos hv, if_neg hh])
          clear hv
          by_cases hh1 : 0 ≤ x.f1
          · have hh2 : ¬ x.f1 < 1114111 := fun h => hh ⟨hh1, h⟩
            clear hh
            go_wp2
            go_quiet (fail)
            go_wp2_with (first | (go_at_call 37; refine (unicodetextref01_Valid.calls x.f0 true _ HV.out).mono ?_; rintro e w' ⟨rfl, ⟨nd, rfl⟩⟩) | (go_at_call 98; (with_reducible refine (unicodetextref02_place.calls (2 * (l).length + 1) _ _ (l) (x.f0) (CpM.place (x.f0) (l)) _ ?s1 HCC.out HP1.out).mono ?_); (case s1 => (with_reducible repeat (first | apply Kd.C_alloc | apply Kd.C_drewN | apply Kd.C_drew)); exact HO.out); rintro e w1 ⟨v1, rfl, ho, hb⟩; have n0_ := Aside0.mk (below_step (by repeat (first | (with_reducible first | exact HB.out | apply below_alloc | apply pw_below_drewN | apply below_drew1) | exact HB.out)) hb); have n1_ := Aside0.mk (blk_below (g := w.heap.size) (o := .cells #[.slice (some ad) l1_0.length c1_0] 45 (0, 0)) (by (with_reducible repeat (first | refine blk_drewN ?_ _ | refine blk_drew ?_ | refine blk_alloc ?_ _)); exact BK.out) hb); clear HB BK; have HB := n0_; have BK := n1_; clear n0_ n1_ hb; obtain ⟨yA, yc, ev⟩ := Kd.R_slice ho; subst ev; have yO := Aside0.mk (Kd.R_reads' ho).2.2; have yC := Aside0.mk (Kd.R_reads' ho).2.1; clear ho))
            go_roundw
            case rel => exact ⟨k + 1, yA, yc, CpM.place x.f0 l, rfl, by rw [hw]; rfl, ⟨hlt⟩, ⟨by rw [HNX.out, HX.out]⟩, yO, yC, BK, HB⟩
            case measure => rw [hw]; simp only [intOf]; omega
          · clear hh
            go_wp2
            go_quiet (fail)
            go_wp2_with (first | (go_at_call 37; refine (unicodetextref01_Valid.calls x.f0 true _ HV.out).mono ?_; rintro e w' ⟨rfl, ⟨nd, rfl⟩⟩) | (go_at_call 98; (with_reducible refine (unicodetextref02_place.calls (2 * (l).length + 1) _ _ (l) (x.f0) (CpM.place (x.f0) (l)) _ ?s1 HCC.out HP1.out).mono ?_); (case s1 => (with_reducible repeat (first | apply Kd.C_alloc | apply Kd.C_drewN | apply Kd.C_drew)); exact HO.out); rintro e w1 ⟨v1, rfl, ho, hb⟩; have n0_ := Aside0.mk (below_step (by repeat (first | (with_reducible first | exact HB.out | apply below_alloc | apply pw_below_drewN | apply below_drew1) | exact HB.out)) hb); have n1_ := Aside0.mk (blk_below (g := w.heap.size) (o := .cells #[.slice (some ad) l1_0.length c1_0] 45 (0, 0)) (by (with_reducible repeat (first | refine blk_drewN ?_ _ | refine blk_drew ?_ | refine blk_alloc ?_ _)); exact BK.out) hb); clear HB BK; have HB := n0_; have BK := n1_; clear n0_ n1_ hb; obtain ⟨yA, yc, ev⟩ := Kd.R_slice ho; subst ev; have yO := Aside0.mk (Kd.R_reads' ho).2.2; have yC := Aside0.mk (Kd.R_reads' ho).2.1; clear ho))
            go_roundw
            case rel => exact ⟨k + 1, yA, yc, CpM.place x.f0 l, rfl, by rw [hw]; rfl, ⟨hlt⟩, ⟨by rw [HNX.out, HX.out]⟩, yO, yC, BK, HB⟩
            case measure => rw [hw]; simp only [intOf]; omega
      · rw [decide_eq_false hv] at HV
        by_cases hh : 0 ≤ x.f1 ∧ x.f1 < 1114111
        · have HX := Aside0.mk (show CpM.cut1 l (toP x) = CpM.place (x.f1 + 1) l by unfold CpM.cut1 toP; simp only; rw [if_neg hv, if_pos hh])
          have hw1 : wrap64 (x.f1 + 1) = x.f1 + 1 := by unfold wrap64; omega
          obtain ⟨hh1, hh2⟩ := hh
          clear hv
          go_wp2
          go_quiet (fail)
          go_wp2_with (first | (go_at_call 37; refine (unicodetextref01_Valid.calls x.f0 false _ HV.out).mono ?_; rintro e w' ⟨rfl, ⟨nd, rfl⟩⟩) | (go_at_call 98; (with_reducible refine (unicodetextref02_place.calls (2 * (l).length + 1) _ _ (l) (x.f1 + 1) (CpM.place (x.f1 + 1) (l)) _ ?s1 HCC.out HP2.out).mono ?_); (case s1 => (with_reducible repeat (first | apply Kd.C_alloc | apply Kd.C_drewN | apply Kd.C_drew)); exact HO.out); rintro e w1 ⟨v1, rfl, ho, hb⟩; have n0_ := Aside0.mk (below_step (by repeat (first | (with_reducible first | exact HB.out | apply below_alloc | apply pw_below_drewN | apply below_drew1) | exact HB.out)) hb); have n1_ := Aside0.mk (blk_below (g := w.heap.size) (o := .cells #[.slice (some ad) l1_0.length c1_0] 45 (0, 0)) (by (with_reducible repeat (first | refine blk_drewN ?_ _ | refine blk_drew ?_ | refine blk_alloc ?_ _)); exact BK.out) hb); clear HB BK; have HB := n0_; have BK := n1_; clear n0_ n1_ hb; obtain ⟨yA, yc, ev⟩ := Kd.R_slice ho; subst ev; have yO := Aside0.mk (Kd.R_reads' ho).2.2; have yC := Aside0.mk (Kd.R_reads' ho).2.1; clear ho))
          go_roundw
          case rel => exact ⟨k + 1, yA, yc, CpM.place (x.f1 + 1) l, rfl, by rw [hw]; rfl, ⟨hlt⟩, ⟨by rw [HNX.out, HX.out]⟩, yO, yC, BK, HB⟩
          case measure => rw [hw]; simp only [intOf]; omega
        · have HX := Aside0.mk (show CpM.cut1 l (toP x) = l by unfold CpM.cut1 toP; simp only; rw [if_neg hv, if_neg hh])
          clear hv
          by_cases hh1 : 0 ≤ x.f1
          · have hh2 : ¬ x.f1 < 1114111 := fun h => hh ⟨hh1, h⟩
            clear hh
            go_wp2
            go_quiet (fail)
            go_wp2_with (first | (go_at_call 37; refine (unicodetextref01_Valid.calls x.f0 false _ HV.out).mono ?_; rintro e w' ⟨rfl, ⟨nd, rfl⟩⟩))
            go_roundw
            case rel => exact ⟨k + 1, A, c, l, rfl, by rw [hw]; rfl, ⟨hlt⟩, ⟨by rw [HNX.out, HX.out]⟩, ⟨by (with_reducible repeat (first | apply Kd.C_alloc | apply Kd.C_drewN | apply Kd.C_drew)); exact HO.out⟩, HCC, ⟨by (with_reducible repeat (first | refine blk_drewN ?_ _ | refine blk_drew ?_ | refine blk_alloc ?_ _)); exact BK.out⟩, ⟨by repeat (first | (with_reducible first | exact HB.out | apply below_alloc | apply pw_below_drewN | apply below_drew1) | exact HB.out)⟩⟩
            case measure => rw [hw]; simp only [intOf]; omega
          · clear hh
            go_wp2
            go_quiet (fail)
            go_wp2_with (first | (go_at_call 37; refine (unicodetextref01_Valid.calls x.f0 false _ HV.out).mono ?_; rintro e w' ⟨rfl, ⟨nd, rfl⟩⟩))
            go_roundw
            case rel => exact ⟨k + 1, A, c, l, rfl, by rw [hw]; rfl, ⟨hlt⟩, ⟨by rw [HNX.out, HX.out]⟩, ⟨by (with_reducible repeat (first | apply Kd.C_alloc | apply Kd.C_drewN | apply Kd.C_drew)); exact HO.out⟩, HCC, ⟨by (with_reducible repeat (first | refine blk_drewN ?_ _ | refine blk_drew ?_ | refine blk_alloc ?_ _)); exact BK.out⟩, ⟨by repeat (first | (with_reducible first | exact HB.out | apply below_alloc | apply pw_below_drewN | apply below_drew1) | exact HB.out)⟩⟩
            case measure => rw [hw]; simp only [intOf]; omega
    · obtain rfl : k = l1_0.length := by have := HK.out; omega
      rw [List.take_length] at HL
      have hLL := foldCut_length (l1_0.map toP) l0
      rw [← HL.out, List.length_map] at hLL
      have HP1 := Aside0.mk (place_ok l 0 (by have := HN.out.1; omega))
      have HF := Aside0.mk (show CpM.place 0 l = r by rw [← HN.out.2, HL.out]; rfl)
      clear hLL HL
      go_wp2_with (go_at_call 98; (with_reducible refine (unicodetextref02_place.calls (2 * l.length + 1) _ _ l 0 (CpM.place 0 l) _ ?s1 HCC.out HP1.out).mono ?_); (case s1 => (with_reducible repeat (first | apply Kd.C_alloc | apply Kd.C_drewN | apply Kd.C_drew)); exact HO.out); rintro e w1 ⟨v1, rfl, ho, hb⟩; have HOO := Aside0.mk ho; have HB1 := Aside0.mk hb; clear ho hb)
      go_ret
      exact ⟨v1, rfl, by rw [← HF.out]; exact Kd.R_lower HOO.out HB.out.size, below_step HB.out HB1.out⟩
end Go.Proofs.Ytcpicopaobhlcaa.Q
end
section
namespace Go.Proofs.Ytcpicopaobhlcaa.Q
open Go.RowKit Go.Proofs.YtcpicopaobhlcaaW.PrintWords Go.Proofs.YtcpicopaobhlcaaW.PrintLast Go.Proofs.YtcpicopaobhlcaaW.PrintMore
set_option linter.unusedVariables false
theorem rdR_mid (pre : List Rg) (x : Rg) (rest : List Rg) : rd_T69 (pre ++ x :: rest) (pre.length : Int) = x := by
  unfold rd_T69
  rw [Int.toNat_natCast, List.getD_eq_getElem?_getD, List.getElem?_append_right (Nat.le_refl _), Nat.sub_self]
  rfl
theorem hasB_cons (r : Int × Int) (l : List (Int × Int)) (c : Int) : CpM.hasB (r :: l) c = ((decide (0 ≤ c ∧ c ≤ 1114111) && (decide (r.1 ≤ c) && decide (c ≤ r.2))) || CpM.hasB l c) := by
  unfold CpM.hasB
  rw [List.any_cons, Bool.decide_and]
theorem has_go : ∀ (rest pre : List Rg) (c : Int) (k : Nat), (pre ++ rest).length < 1000000000 → rest.length + 1 ≤ k →
    unicodetextref02_Has.l0 k c (pre.length : Int) (pre ++ rest) = some (CpM.hasB (rest.map toP) c)
  | [], pre, c, k, h1, h2 => by
    obtain ⟨k, rfl⟩ : ∃ j, k = j + 1 := ⟨k - 1, by omega⟩
    rw [unicodetextref02_Has.l0, List.append_nil, if_neg (by omega)]
    rfl
  | x :: rest, pre, c, k, h1, h2 => by
    obtain ⟨k, rfl⟩ : ∃ j, k = j + 1 := ⟨k - 1, by omega⟩
    have hp : pre.length < 1000000000 := by simp at h1; omega
    have e2 : pre ++ x :: rest = (pre ++ [x]) ++ rest := by simp
    have e3 : (((pre.length + 1 : Nat)) : Int) = ((pre ++ [x]).length : Int) := by simp
    have ih := has_go rest (pre ++ [x]) c k (by simpa using h1) (by simp at h2; omega)
    rw [← e2, ← e3] at ih
    rw [unicodetextref02_Has.l0, if_pos (by simp; omega), valid_eq, rdR_mid, wrap_succ hp, ih, List.map_cons, hasB_cons]
    show (if decide (0 ≤ c ∧ c ≤ 1114111) = true then _ else _) = _
    by_cases hv : 0 ≤ c ∧ c ≤ 1114111
    · rw [decide_eq_true hv, if_pos rfl, if_pos (by omega)]
      unfold toP
      by_cases h3 : x.f0 ≤ c
      · by_cases h4 : c ≤ x.f1
        · simp [h3, h4]
        · simp [h3, h4]
      · simp [h3]
    · rw [decide_eq_false hv, if_neg (by decide)]
      rfl
theorem has_ok (l : List Rg) (c : Int) (h : l.length < 1000000000) : unicodetextref02_Has.f (l.length + 1) l c = some (CpM.hasB (l.map toP) c) :=
  has_go l [] c (l.length + 1) (by simpa using h) (Nat.le_refl _)
def keepsB (op : Int) (x y : Bool) : Bool := if op = 1 then x || y else if op = 2 then x && y else x && !y
theorem keeps_ok (op : Int) (x y : Bool) : unicodetextref02_keeps.f op x y = some (keepsB op x y) := by
  unfold unicodetextref02_keeps.f keepsB
  cases x <;> cases y <;> split <;> first | rfl | (split <;> rfl)
def keepAB (l0 l1 : List Rg) (op : Int) (c : Int) : Bool := keepsB op (CpM.hasB (l0.map toP) c) (CpM.hasB (l1.map toP) c)
def cutsAB (l0 l1 : List Rg) : List Int := CpM.cuts (CpM.cuts [] (l0.map toP)) (l1.map toP)
def combS (l0 l1 : List Rg) (op : Int) : List (Int × Int) := CpM.runs (keepAB l0 l1 op) none (CpM.segs (cutsAB l0 l1))
def unicodetextref02_combine.f (l0_0 : List S69) (l1_0 : List S69) (a2 : Int) : Option (List S69) := if l0_0.length + l1_0.length < 10000000 then some ((combS l0_0 l1_0 a2).map ofP) else none
theorem cuts_length (l : List Int) (a : List (Int × Int)) : (CpM.cuts l a).length ≤ l.length + 2 * a.length + 1 := by
  unfold CpM.cuts
  have := place_length 0 (a.foldl CpM.cut1 l)
  have := foldCut_length a l
  omega
def hiOf (rest : List Int) : Int := match rest with | [] => 1114111 | y :: _ => y - 1
theorem segs_cons (x : Int) (rest : List Int) : CpM.segs (x :: rest) = (x, hiOf rest) :: CpM.segs rest := by cases rest <;> rfl
theorem drop_rd (l : List Int) (k : Nat) (h : k < l.length) : l.drop k = rd l (k : Int) :: l.drop (k + 1) := by
  rw [List.drop_eq_getElem_cons h]
  unfold rd
  rw [Int.toNat_natCast, List.getD_eq_getElem?_getD, List.getElem?_eq_getElem h]
  rfl
theorem hiOf_last (l : List Int) (k : Nat) (h : ¬ k + 1 < l.length) : hiOf (l.drop (k + 1)) = 1114111 := by
  rw [List.drop_eq_nil_of_le (by omega)]; rfl
theorem hiOf_more (l : List Int) (k : Nat) (h : k + 1 < l.length) : hiOf (l.drop (k + 1)) = rd l ((k : Int) + 1) - 1 := by
  rw [drop_rd l (k + 1) h]; rfl
theorem cutsAB_in (l0 l1 : List Rg) : ∀ y ∈ cutsAB l0 l1, 0 ≤ y ∧ y ≤ 1114111 :=
  (CpM.cuts_ok _ _ (CpM.cuts_ok _ _ List.Pairwise.nil (fun y hy => by cases hy)).1 (CpM.cuts_ok _ _ List.Pairwise.nil (fun y hy => by cases hy)).2.1).2.1
set_option maxHeartbeats 8000000 in
set_option maxRecDepth 100000 in
theorem unicodetextref02_combine.calls (A0_0 : Option Addr) (c0_0 : Nat) (l0_0 : List S69) (A1_0 : Option Addr) (c1_0 : Nat) (l1_0 : List S69) (a2 : Int) (r : List S69) (w : World) (hr0_0 : Kd.C k69 w A0_0 l0_0.length l0_0) (hc0_0 : l0_0.length ≤ c0_0) (hr1_0 : Kd.C k69 w A1_0 l1_0.length l1_0) (hc1_0 : l1_0.length ≤ c1_0) (h : unicodetextref02_combine.f l0_0 l1_0 a2 = some r) :
    Calls Try.prog 74 #[.agg #[.slice A0_0 l0_0.length c0_0], .agg #[.slice A1_0 l1_0.length c1_0], .int .i64 a2] w fun e w' => ∃ v0_ : Value, e = .returned (.agg #[v0_]) ∧ Kd.R k69 69 w' w.heap.size (fun _ => True) v0_ r ∧ Below w.heap.size w w' := by
  have hn : l0_0.length + l1_0.length < 10000000 ∧ (combS l0_0 l1_0 a2).map ofP = r := by
    unfold unicodetextref02_combine.f at h
    split at h
    · rename_i hl; exact ⟨hl, Option.some.inj h⟩
    · cases h
  have HN := Aside0.mk hn
  have HRA := Aside0.mk hr0_0
  have HCA := Aside0.mk hc0_0
  have HRB := Aside0.mk hr1_0
  have HCB := Aside0.mk hc1_0
  have hcl := cuts_length [] (l0_0.map toP)
  have hcl2 := cuts_length (CpM.cuts [] (l0_0.map toP)) (l1_0.map toP)
  rw [List.length_map, List.length_nil] at hcl
  rw [List.length_map] at hcl2
  have HC1 : Aside0 (unicodetextref02_Cuts.f [] l0_0 = some (CpM.cuts [] (l0_0.map toP))) := ⟨by unfold unicodetextref02_Cuts.f; rw [if_pos (by simp; omega)]⟩
  have HC2 : Aside0 (unicodetextref02_Cuts.f (CpM.cuts [] (l0_0.map toP)) l1_0 = some (cutsAB l0_0 l1_0)) := ⟨by unfold unicodetextref02_Cuts.f; rw [if_pos (by omega)]; rfl⟩
  have HLC : Aside0 ((cutsAB l0_0 l1_0).length < 100000000) := ⟨by unfold cutsAB; omega⟩
  have HIN := Aside0.mk (cutsAB_in l0_0 l1_0)
  have HB := Aside0.mk (Below.refl w.heap.size w)
  clear hn h hr0_0 hc0_0 hr1_0 hc1_0 hcl hcl2
  generalize hq : cutsAB l0_0 l1_0 = cuts at HC2 HLC HIN
  have HQ := Aside0.mk hq
  clear hq
  have HBX := Aside0.mk (below_alloc (below_alloc (below_alloc (Below.refl w.heap.size w) (.cells #[.slice A0_0 l0_0.length c0_0] 45)) (.cells #[.slice A1_0 l1_0.length c1_0] 45)) (.cells #[.slice none 0 0] 45))
  have HCC1 : Aside0 (∀ W, Kd.C k69 W A0_0 l0_0.length l0_0 → Calls Try.prog 86 #[.slice none 0 0, .agg #[.slice A0_0 l0_0.length c0_0]] W fun e w' => ∃ v0_ : Value, e = .returned (v0_) ∧ Kd.R kInt 3 w' W.heap.size (fun _ => True) v0_ (CpM.cuts [] (l0_0.map toP)) ∧ Below W.heap.size W w') := ⟨fun W hW => unicodetextref02_Cuts.calls none 0 [] A0_0 c0_0 l0_0 _ W (Kd.C_nil _ _) (Nat.le_refl _) hW HCA.out HC1.out⟩
  go_enter Try.func74, Try.ntmps74
  have s0 : (((w.alloc (.cells #[.slice A0_0 l0_0.length c0_0] 45)).alloc (.cells #[.slice A1_0 l1_0.length c1_0] 45)).alloc (.cells #[.slice none 0 0] 45)).cell? ⟨w.heap.size, 0, none⟩ = some (.slice A0_0 l0_0.length c0_0) := cell_alloc_sl _ (cell_alloc_sl _ (cell_new_sl _ _ _))
  have s1 : (((w.alloc (.cells #[.slice A0_0 l0_0.length c0_0] 45)).alloc (.cells #[.slice A1_0 l1_0.length c1_0] 45)).alloc (.cells #[.slice none 0 0] 45)).cell? ⟨w.heap.size + 1, 0, none⟩ = some (.slice A1_0 l1_0.length c1_0) := by have := cell_new_sl (w.alloc (.cells #[.slice A0_0 l0_0.length c0_0] 45)) (.slice A1_0 l1_0.length c1_0) 45; rw [World.size_alloc] at this; exact cell_alloc_sl _ this
  go_wp2
  go_region_held3 (fun w' => w'.cell? ⟨w.heap.size, 0, none⟩ = some (.slice A0_0 l0_0.length c0_0) ∧ w'.cell? ⟨w.heap.size + 1, 0, none⟩ = some (.slice A1_0 l1_0.length c1_0)) (first | go_keep | (go_split_ands; constructor; (refine pw_cell_below hb ?_; assumption); (refine pw_cell_below hb ?_; assumption)))
    (first | (go_at_call 86; (with_reducible refine (HCC1.out _ ?s1).mono ?_); (case s1 => exact Kd.C_below HRA.out (below_drew1 HBX.out)); rintro e w1 ⟨v1, rfl, ho, hb⟩; have HO1 := Aside0.mk ho; have HB1 := Aside0.mk (below_step (below_drew1 HBX.out) hb); have HD1 := Aside0.mk hb; obtain ⟨Ay, cy, ev⟩ := Kd.R_slice ho; subst ev; clear ho) | (go_at_call 86; (with_reducible refine (unicodetextref02_Cuts.calls _ _ (CpM.cuts [] (l0_0.map toP)) A1_0 c1_0 l1_0 cuts _ (Kd.R_reads' HO1.out).2.2 (Kd.R_reads' HO1.out).2.1 ?s2 HCB.out HC2.out).mono ?_); (case s2 => exact Kd.C_below HRB.out HB1.out); rintro e w2 ⟨v2, rfl, ho, hb⟩; have HO2 := Aside0.mk ho; have HB2 := Aside0.mk hb; have HD2 := Aside0.mk hb; obtain ⟨Az, cz, ev⟩ := Kd.R_slice ho; subst ev; clear ho))
  have HRA2 := Aside0.mk (Kd.C_below HRA.out (below_step HB1.out HB2.out))
  have HRB2 := Aside0.mk (Kd.C_below HRB.out (below_step HB1.out HB2.out))
  have hbw := below_step HB1.out HB2.out
  have hxx : (((w.alloc (.cells #[.slice A0_0 l0_0.length c0_0] 45)).alloc (.cells #[.slice A1_0 l1_0.length c1_0] 45)).alloc (.cells #[.slice none 0 0] 45)).heap[w.heap.size + 1 + 1]? = some (.cells #[.slice none 0 0] 45 (0, 0)) := by have := heap_alloc_new ((w.alloc (.cells #[.slice A0_0 l0_0.length c0_0] 45)).alloc (.cells #[.slice A1_0 l1_0.length c1_0] 45)) (.cells #[.slice none 0 0] 45); rw [World.size_alloc, World.size_alloc] at this; exact this
  have BR := Aside0.mk (blk_below (blk_below (blk_drew hxx) HD1.out) HD2.out)
  have HBW := Aside0.mk hbw
  have S0 : Aside0 (w2.cell? ⟨w.heap.size, 0, none⟩ = some (.slice A0_0 l0_0.length c0_0)) := ⟨by go_split_ands; assumption⟩
  have S1 : Aside0 (w2.cell? ⟨w.heap.size + 1, 0, none⟩ = some (.slice A1_0 l1_0.length c1_0)) := ⟨by go_split_ands; assumption⟩
  have HLB := Aside0.mk (World.block_lt_of_cell? w2 _ S1.out)
  have HCU := Aside0.mk (Kd.R_reads' HO2.out).2.2
  clear hxx hbw s0 s1 HB HBX HCC1 HB1 HD1 HD2 HO1 HRA HRB HC1 HC2
  try clear hHeld
  try clear hb
  try clear hb
  go_wp2
  go_loopw [9, 10] (fun ov i wr => ∃ (k : Nat) (v : Value) (dn : List Rg) (cur : Option Rg), ov = .bool cur.isSome ∧ i = .int .i64 k ∧ Aside0 (k ≤ cuts.length) ∧ Aside0 ((dn ++ cur.toList).length ≤ k) ∧ Aside0 (combS l0_0 l1_0 a2 = dn.map toP ++ CpM.runs (keepAB l0_0 l1_0 a2) (cur.map toP) (CpM.segs (cuts.drop k))) ∧ Aside0 (Kd.R kRg 69 wr w2.heap.size (fun _ => True) v (dn ++ cur.toList)) ∧ Aside0 (wr.heap[w2.heap.size]? = some (.cells #[v] 45 (0, 0))) ∧ Aside0 (Below w2.heap.size w2 wr)) (fun _ i _ => cuts.length - (intOf i).toNat)
  case atStart => exact ⟨0, .slice none 0 0, [], none, rfl, rfl, ⟨Nat.zero_le _⟩, ⟨Nat.le_refl _⟩, ⟨by rw [← HQ.out]; rfl⟩, ⟨Kd.R_nil _ _ _ _ _⟩, ⟨heap_alloc_new w2 _⟩, ⟨below_alloc (Below.refl _ w2) _⟩⟩
  case round =>
    obtain ⟨k, v, dn, cur, rfl, rfl, HK, HKL, HS, HO, BO, HB⟩ := hrel
    by_cases hlt : k < cuts.length
    · have hx : rd cuts (k : Int) ∈ cuts := by unfold rd; rw [Int.toNat_natCast, List.getD_eq_getElem?_getD, List.getElem?_eq_getElem hlt]; exact List.getElem_mem hlt
      have hxr := HIN.out _ hx
      obtain ⟨ad, e, hx0⟩ := Kd.at_int HCU.out (k : Int) (by omega) (by omega)
      cases e
      rw [Int.toNat_natCast] at hx0
      have hc0 := (HB.out.cell (World.block_lt_of_cell? w2 _ hx0)).trans hx0
      have HX0 := Aside0.mk hx0
      clear hx0 hx
      have hs0 := (HB.out.cell (p := ⟨w.heap.size, 0, none⟩) (World.block_lt_of_cell? w2 _ S0.out)).trans S0.out
      have hs1 := (HB.out.cell (p := ⟨w.heap.size + 1, 0, none⟩) (World.block_lt_of_cell? w2 _ S1.out)).trans S1.out
      have hp : (0 ≤ (k : Int)) = True := eq_true (by omega)
      have hp2 : ((k : Int) < (cuts.length : Int)) = True := eq_true (by omega)
      have hw : wrap64 ((k : Int) + 1) = (k : Int) + 1 := by have := HLC.out; unfold wrap64; omega
      have hdr := drop_rd cuts k hlt
      have HSEG : Aside0 (CpM.segs (cuts.drop k) = (rd cuts (k : Int), hiOf (cuts.drop (k + 1))) :: CpM.segs (cuts.drop (k + 1))) := ⟨by rw [hdr, segs_cons]⟩
      clear hdr
      have hdlt : decide ((k : Int) < (cuts.length : Int)) = true := decide_eq_true (by omega)
      go_upto_if 27 with (fail)
      go_cut [11] (fun v11 wc => v11 = .int .i64 (hiOf (cuts.drop (k + 1))) ∧ wc = wr)
      case first =>
        by_cases hl2 : k + 1 < cuts.length
        · have HHI := Aside0.mk (hiOf_more cuts k hl2)
          have hy : rd cuts ((k : Int) + 1) ∈ cuts := by unfold rd; rw [show ((k : Int) + 1).toNat = k + 1 by omega, List.getD_eq_getElem?_getD, List.getElem?_eq_getElem hl2]; exact List.getElem_mem hl2
          have hyr := HIN.out _ hy
          obtain ⟨ad2, e2, hx2⟩ := Kd.at_int HCU.out ((k : Int) + 1) (by omega) (by omega)
          cases e2
          have hc2 := (HB.out.cell (World.block_lt_of_cell? w2 _ hx2)).trans hx2
          rw [show ((k : Int) + 1).toNat = k + 1 by omega, Addr.add, if_neg (by omega)] at hc2
          have hwy : wrap64 (rd cuts ((k : Int) + 1) - 1) = rd cuts ((k : Int) + 1) - 1 := by unfold wrap64; omega
          have hl3 : (k : Int) + 1 < (cuts.length : Int) := by omega
          have hp3 : (0 ≤ (k : Int) + 1) = True := eq_true (by omega)
          have hp4 : ((k : Int) + 1 < (cuts.length : Int)) = True := eq_true (by omega)
          have hd4 : decide ((k : Int) + 1 < (cuts.length : Int)) = true := decide_eq_true hl3
          have HP3 := Aside0.mk hp3
          have HP4 := Aside0.mk hp4
          clear hy hx2 hyr hl3 hp3 hp4 hl2
          generalize rd cuts ((k : Int) + 1) = y at *
          rw [hd4]
          go_upto_region 9 with (fail)
          have hp3 := HP3.out
          have hp4 := HP4.out
          go_wp2
          go_meet
          case rel => exact ⟨by rw [HHI.out, hwy], rfl⟩
        · have HHI := Aside0.mk (hiOf_last cuts k hl2)
          have hl3 : ¬ (k : Int) + 1 < (cuts.length : Int) := by omega
          have hd4 : decide ((k : Int) + 1 < (cuts.length : Int)) = false := decide_eq_false hl3
          clear hl3 hl2
          rw [hd4]
          go_wp2
          go_meet
          case rel => exact ⟨by rw [HHI.out], rfl⟩
      case rest =>
        obtain ⟨rfl, rfl⟩ := hcut
        have HA := Aside0.mk (has_ok l0_0 (rd cuts (k : Int)) (by have := HN.out.1; omega))
        have HBB := Aside0.mk (has_ok l1_0 (rd cuts (k : Int)) (by have := HN.out.1; omega))
        generalize hkx : keepAB l0_0 l1_0 a2 (rd cuts (k : Int)) = kx
        have HKX := Aside0.mk hkx
        have HKP : Aside0 (unicodetextref02_keeps.f a2 (CpM.hasB (l0_0.map toP) (rd cuts (k : Int))) (CpM.hasB (l1_0.map toP) (rd cuts (k : Int))) = some kx) := ⟨by rw [keeps_ok]; exact congrArg some hkx⟩
        clear hkx
        generalize hhi : hiOf (cuts.drop (k + 1)) = hi at HSEG ⊢
        generalize rd cuts (k : Int) = x at *
        generalize CpM.hasB (l0_0.map toP) x = ha at HA HKP
        generalize CpM.hasB (l1_0.map toP) x = hb' at HBB HKP
        clear hhi hw
        go_wp2
        go_region_held3 (fun w' => w'.cell? ⟨w.heap.size, 0, none⟩ = some (.slice A0_0 l0_0.length c0_0) ∧ w'.cell? ⟨w.heap.size + 1, 0, none⟩ = some (.slice A1_0 l1_0.length c1_0) ∧ w'.cell? (ad.add k) = some (.int .i64 x)) (first | go_keep | (go_split_ands; refine ⟨?_, ?_, ?_⟩; (refine pw_cell_below hb ?_; assumption); (refine pw_cell_below hb ?_; assumption); (refine pw_cell_below hb ?_; assumption)))
          (first | (go_at_call 18; (with_reducible refine (unicodetextref02_Has.calls ((l0_0).length + 1) A0_0 c0_0 l0_0 x _ _ ?s1 HCA.out HA.out).mono ?_); (case s1 => exact Kd.C_below HRA2.out (by repeat (first | (with_reducible first | exact HB.out | apply below_alloc | apply pw_below_drewN | apply below_drew1) | exact HB.out))); rintro e w1 ⟨rfl, hb⟩; have n0_ := Aside0.mk (below_step (by repeat (first | (with_reducible first | exact HB.out | apply below_alloc | apply pw_below_drewN | apply below_drew1) | exact HB.out)) hb); have n4_ := Aside0.mk (blk_below (by (with_reducible repeat (first | refine blk_drewN ?_ _ | refine blk_drew ?_ | refine blk_alloc ?_ _)); exact BO.out) hb); have n6_ := Aside0.mk (Kd.R_below (by (with_reducible repeat (first | apply Kd.R_alloc | apply Kd.R_drewN | apply Kd.R_drew)); exact HO.out) hb); clear HB BO HO; have HB := n0_; have BO := n4_; have HO := n6_; clear n0_ n4_ n6_) | (go_at_call 18; (with_reducible refine (unicodetextref02_Has.calls ((l1_0).length + 1) A1_0 c1_0 l1_0 x _ _ ?s2 HCB.out HBB.out).mono ?_); (case s2 => exact Kd.C_below HRB2.out (by repeat (first | (with_reducible first | exact HB.out | apply below_alloc | apply pw_below_drewN | apply below_drew1) | exact HB.out))); rintro e w1 ⟨rfl, hb⟩; have n0_ := Aside0.mk (below_step (by repeat (first | (with_reducible first | exact HB.out | apply below_alloc | apply pw_below_drewN | apply below_drew1) | exact HB.out)) hb); have n4_ := Aside0.mk (blk_below (by (with_reducible repeat (first | refine blk_drewN ?_ _ | refine blk_drew ?_ | refine blk_alloc ?_ _)); exact BO.out) hb); have n6_ := Aside0.mk (Kd.R_below (by (with_reducible repeat (first | apply Kd.R_alloc | apply Kd.R_drewN | apply Kd.R_drew)); exact HO.out) hb); clear HB BO HO; have HB := n0_; have BO := n4_; have HO := n6_; clear n0_ n4_ n6_) | (go_at_call 87; (with_reducible refine (unicodetextref02_keeps.calls a2 _ _ kx _ HKP.out).mono ?_); rintro e w1 ⟨rfl, ⟨nd, rfl⟩⟩))
        have n0_ := Aside0.mk (pw_below_drewN HB.out nd)
        have n1_ := Aside0.mk (blk_drewN BO.out nd)
        have n2_ := Aside0.mk (Kd.R_drewN HO.out nd)
        clear HB BO HO
        generalize w1.drewN nd = W at n0_ n1_ n2_ ⊢
        have HB := n0_
        have BO := n1_
        have HO := n2_
        clear n0_ n1_ n2_
        have hc0 := (HB.out.cell (World.block_lt_of_cell? w2 _ HX0.out)).trans HX0.out
        have hw : wrap64 ((k : Int) + 1) = (k : Int) + 1 := by have := HLC.out; unfold wrap64; omega
        have hvc := (blk_cell BO.out 0).trans rfl
        have hvf := blk_frozen BO.out 0
        obtain ⟨Av, cv, ev⟩ := Kd.R_slice HO.out
        subst ev
        cases kx with
        | false => cases cur with
          | none =>
            have HX : Aside0 (combS l0_0 l1_0 a2 = dn.map toP ++ CpM.runs (keepAB l0_0 l1_0 a2) none (CpM.segs (cuts.drop (k + 1)))) := ⟨by rw [HS.out, HSEG.out]; show _ ++ CpM.runs _ none _ = _; rw [CpM.runs, HKX.out, if_neg (by decide)]⟩
            go_wp2
            go_roundw
            case rel => exact ⟨k + 1, _, dn, none, rfl, by rw [hw]; rfl, ⟨hlt⟩, ⟨Nat.le_succ_of_le HKL.out⟩, HX, HO, BO, HB⟩
            case measure => rw [hw]; simp only [intOf]; omega
          | some q =>
            have HX : Aside0 (combS l0_0 l1_0 a2 = (dn ++ [q]).map toP ++ CpM.runs (keepAB l0_0 l1_0 a2) none (CpM.segs (cuts.drop (k + 1)))) := ⟨by rw [HS.out, HSEG.out]; show _ ++ CpM.runs _ (some (toP q)) _ = _; rw [CpM.runs, HKX.out, if_neg (by decide), List.map_append, List.append_assoc]; rfl⟩
            go_wp2
            go_roundw
            case rel => exact ⟨k + 1, _, dn ++ [q], none, rfl, by rw [hw]; rfl, ⟨hlt⟩, ⟨by have := HKL.out; simp at this ⊢; omega⟩, HX, ⟨by have := HO.out; simpa using this⟩, ⟨by have := BO.out; simpa using this⟩, HB⟩
            case measure => rw [hw]; simp only [intOf]; omega
        | true => cases cur with
          | none =>
            have HX : Aside0 (combS l0_0 l1_0 a2 = dn.map toP ++ CpM.runs (keepAB l0_0 l1_0 a2) (some (toP ⟨x, hi⟩)) (CpM.segs (cuts.drop (k + 1)))) := ⟨by rw [HS.out, HSEG.out]; show _ ++ CpM.runs _ none _ = _; rw [CpM.runs, HKX.out, if_pos rfl]; rfl⟩
            have hnn : dn ++ (none : Option Rg).toList = dn := List.append_nil dn
            rw [hnn] at HO BO HKL hvc
            clear hnn
            have hvc4 : (W.alloc (.cells #[.int .i64 x, .int .i64 hi] 69)).cell? ⟨w2.heap.size, 0, none⟩ = some (.slice Av dn.length cv) := pw_cell_below (below_alloc (Below.refl _ W) _) hvc
            go_wp2
            go_region_law ((refine Kd.R_append_step kRg (w0 := w2) w2.heap.size (by rfl) (.tmp 67) (.tmp 74) 43 69 (.agg #[.int .i64 0, .int .i64 0]) 16 (by rfl) Try.underlying43 info69 rfl (by decide) (by omega) _ dn ⟨x, hi⟩ [.int .i64 x, .int .i64 hi] (fun _ => True) (fun _ => False) (by rfl) (by first | (go_simp; done) | (go_simp; rfl)) (k69_mkM _ _ _ ⟨x, hi⟩) (fun _ h => h.elim) (fun _ _ => trivial) (Kd.R_drew HO.out) (below_drew1 HB.out) (by have := HB.out.size; simp; omega) (by have h1_ := HKL.out; have h2_ := HLC.out; omega) ?_; intro v1 w3 ho hb3 hg hat; obtain ⟨Av3, cv3, ev3⟩ := Kd.R_slice ho; subst ev3; have HO1 := Aside0.mk ho; have HB3 := Aside0.mk hb3; have BO1 := Aside0.mk (blk_grown (blk_drew BO.out) hg (Kd.R_ne (Kd.R_drew HO.out) (blk_drew BO.out) (by decide))); have hbc3 := (blk_cell BO1.out 0).trans rfl; have hbf3 := blk_frozen BO1.out 0; clear ho hb3 hg hat))
            all_goals go_wp2
            all_goals (go_roundw; (case rel => exact ⟨k + 1, .slice Av3 (dn.length + 1) cv3, dn, some ⟨x, hi⟩, rfl, by rw [hw]; rfl, ⟨hlt⟩, ⟨by have := HKL.out; simp only [Option.toList_some, List.length_append, List.length_singleton]; omega⟩, HX, ⟨by have h1_ := Kd.R_set HO1.out BO1.out (by decide) 0 (.slice Av3 (dn.length + 1) cv3); rw [List.length_append, List.length_singleton] at h1_; exact h1_⟩, ⟨blk_put BO1.out 0 _ rfl⟩, ⟨HB3.out.setCell (Nat.le_refl _) _⟩⟩); (case measure => rw [hw]; simp only [intOf]; omega))
          | some q =>
            have HX : Aside0 (combS l0_0 l1_0 a2 = dn.map toP ++ CpM.runs (keepAB l0_0 l1_0 a2) (some (toP ⟨q.f0, hi⟩)) (CpM.segs (cuts.drop (k + 1)))) := ⟨by rw [HS.out, HSEG.out]; show _ ++ CpM.runs _ (some (toP q)) _ = _; rw [CpM.runs, HKX.out, if_pos rfl]; rfl⟩
            have hmm : dn ++ (some q).toList = dn ++ [q] := rfl
            rw [hmm] at HO BO HKL hvc
            clear hmm
            have hmi : (dn ++ [q])[dn.length]? = some q := by simp
            obtain ⟨_, _, ⟨_, hz⟩ | ⟨g, co, cu, hv, hbg, _⟩⟩ := R_own_iff.1 HO.out
            · simp at hz
            cases hv
            have hcs := R_cells HO.out hmi
            obtain ⟨hq0, hq1, hqf⟩ := hcs
            have HG := Aside0.mk hbg
            have HMI := Aside0.mk hmi
            have hlen3 : (dn ++ [q]).length = dn.length + 1 := by simp
            obtain ⟨n, hn⟩ : ∃ n, (dn ++ [q]).length = n := ⟨_, rfl⟩
            obtain ⟨J, hJ⟩ : ∃ J : Int, (dn.length : Int) = J := ⟨_, rfl⟩
            have hJn : J.toNat = dn.length := by omega
            rw [← hJn] at hq0 hq1 hqf
            rw [hn] at HO BO HKL hvc
            have hb1 : (0 ≤ J) = True := eq_true (by omega)
            have hb2 : (J < (n : Int)) = True := eq_true (by omega)
            have hw2 : wrap64 ((n : Int) - 1) = J := by have h_ := HKL.out; have h2_ := HLC.out; unfold wrap64; omega
            have hw4 : IntKind.i64.wrap ((n : Int) - 1) = J := by have h_ := HKL.out; have h2_ := HLC.out; rw [IntWalk.i64_in _ (by omega)]; omega
            have HJ := Aside0.mk hJn
            have HNN := Aside0.mk hn
            clear hmi hbg hlen3 hn hJ hJn
            have hdc := Aside0.mk (Kd.R_ne HO.out BO.out (by decide))
            go_wp2
            go_roundw
            case rel =>
              have h1 := R_set_hi (y := hi) HO.out HMI.out
              have e : (dn ++ [q]).set dn.length ⟨q.f0, hi⟩ = dn ++ [⟨q.f0, hi⟩] := by simp
              rw [e] at h1
              rw [HJ.out]
              refine ⟨k + 1, _, dn, some ⟨q.f0, hi⟩, rfl, by rw [hw]; rfl, ⟨hlt⟩, ⟨?_⟩, HX, ⟨h1⟩, ⟨?_⟩, ⟨HB.out.setCell HG.out _⟩⟩
              · have := HKL.out; have := HNN.out; simp only [Option.toList_some, List.length_append, List.length_singleton] at *; omega
              · exact blk_far BO.out (by have := hdc.out; simpa [Value.ownBlock] using this) _
            case measure => rw [hw]; simp only [intOf]; omega
    · obtain rfl : k = cuts.length := by have := HK.out; omega
      have hbc := (blk_cell BO.out 0).trans rfl
      have hbr := blk_below BR.out HB.out
      have hbrc : wr.cell? ⟨w.heap.size + 1 + 1, 0, none⟩ = some (.slice none 0 0) := (blk_cell hbr 0).trans rfl
      have hbrf := blk_frozen hbr 0
      have HBR := Aside0.mk hbr
      have hfin : dn ++ cur.toList = r := by
        have h1 := HS.out
        rw [List.drop_length] at h1
        have h2 : CpM.runs (keepAB l0_0 l1_0 a2) (cur.map toP) (CpM.segs []) = cur.toList.map toP := by cases cur <;> rfl
        rw [h2, ← List.map_append] at h1
        rw [← HN.out.2, h1, ofP_toP]
      have HF := Aside0.mk hfin
      clear hfin hbr
      clear HS HKL
      generalize dn ++ cur.toList = out at *
      obtain ⟨Av, cv, ev⟩ := Kd.R_slice HO.out
      subst ev
      go_wp2
      refine bodyPost_ret (results_cell_row rfl _ _ (w.heap.size + 1 + 1) 45 #[.slice Av out.length cv] (0, 0) _ rfl (blk_put (cs := #[.slice none 0 0]) HBR.out 0 _ rfl) Try.underlying45 rfl (by kernel_rfl)) rfl ?_
      refine ⟨_, rfl, ?_, ?_⟩
      · rw [← HF.out]
        exact Kd.R_lower (Kd.R_set HO.out HBR.out (by decide) 0 _) HBW.out.size
      · exact (below_step HBW.out HB.out).setCell (by show w.heap.size ≤ w.heap.size + 1 + 1; omega) _
end Go.Proofs.Ytcpicopaobhlcaa.Q
end
section
namespace Go.Proofs.Ytcpicopaobhlcaa.Q
open Go.RowKit Go.Proofs.YtcpicopaobhlcaaW.PrintWords Go.Proofs.YtcpicopaobhlcaaW.PrintLast Go.Proofs.YtcpicopaobhlcaaW.PrintMore
attribute [local go_sem] max2_int min2_int max_two min_two max_three min_three max_four min_four   -- for this text's walks alone
set_option linter.unusedVariables false
set_option linter.unusedSimpArgs false
def unicodetextref02_Make.f (l0 : List (S69)) : Option ((List (S69))) := (unicodetextref02_combine.f l0 ([] : List (S69)) 1).bind fun t176 => (some t176)
set_option maxHeartbeats 8000000 in
set_option maxRecDepth 100000 in
theorem unicodetextref02_Make.calls (A0 : Option Addr) (c0 : Nat) (l0 : List (S69)) (r : List (S69)) (w : World) (hr0 : Kd.C k69 w A0 l0.length l0) (hc0 : l0.length ≤ c0) (h : unicodetextref02_Make.f l0 = some r) :
    Calls Try.prog 69 #[.slice A0 l0.length c0] w fun e w' => ∃ v0_ : Value, e = .returned (.agg #[v0_]) ∧ Kd.R k69 69 w' w.heap.size (fun _ => True) v0_ r ∧ Below w.heap.size w w' := by
  have hu45 := Try.underlying45
  have HR0 := Aside0.mk hr0
  have HC0 := Aside0.mk hc0
  clear hr0 hc0
  have HB := Aside0.mk (Below.refl w.heap.size w)
  have H : ((unicodetextref02_combine.f l0 ([] : List (S69)) 1).bind fun t176 => (some t176)) = some r := h
  clear h
  replace H := Option.bind_eq_some_iff.mp H
  obtain ⟨t176, A20, H⟩ := H
  replace H : (some t176) = some r := H
  have A2 := Aside0.mk A20
  clear A20
  obtain rfl := Option.some.inj H
  go_enter Try.func69, Try.ntmps69
  go_wp2_with (first | ((with_reducible refine gate_dst (N := 2) rfl ?_); refine box_event ?hg (N := 2) ?hd (cs := #[.slice none 0 0]) (t := 45) ?hr ?_; (case hd => rfl); (case hg => rfl); (case hr => first | (go_simp; done) | (go_simp; rfl)); intro gb175 hg w3 hbox hb; have n0_ := Aside0.mk (below_step (by repeat (first | (with_reducible first | exact HB.out | apply below_alloc | apply pw_below_drewN | apply below_drew1) | exact HB.out)) hb); have n1_ := Aside0.mk (hbox); have n2_ := Aside0.mk ((by rw [hg]; exact (below_size (by repeat (first | (with_reducible first | exact HB.out | apply below_alloc | apply pw_below_drewN | apply below_drew1) | exact HB.out))) : w.heap.size ≤ gb175)); have n3_ := Aside0.mk ((by rw [hg]; exact (below_size (by repeat (first | (with_reducible first | exact HB.out | apply below_alloc | apply pw_below_drewN | apply below_drew1) | exact HB.out))) : w.heap.size ≤ gb175)); clear HB; have HB := n0_; have BK175 := n1_; have GW175 := n2_; have GE175 := n3_; clear n0_ n1_ n2_ n3_; clear hb hbox hg) | ((with_reducible refine gate_callee (f := 74) rfl ?_); refine goesL_ (some 6) rfl rfl Try.func74 (by kernel_rfl) rfl #[.agg #[.slice A0 l0.length c0], .agg #[.slice none 0 0], .int .i64 1] rfl (by (try simp only [List.map_toArray, List.map_cons, List.map_nil]); first | done | rfl | (simp only [List.length_drop, List.length_take]; rfl)) ?_; (refine (unicodetextref02_combine.calls _ _ l0 _ _ ([] : List (S69)) 1 t176 _ ?side1 ?side2 ?side3 ?side4 A2.out).mono ?_); (case side1 => repeat (first | exact (Kd.C_below HR0.out HB.out) | (with_reducible refine Kd.C_alloc ?_ _) | (with_reducible refine Kd.C_drewN ?_ _) | (with_reducible refine Kd.C_drew ?_))); (case side2 => exact HC0.out); (case side3 => exact Kd.C_nil _ _); (case side4 => exact Nat.le_refl _); rintro e w4 ⟨v177, rfl, ho0, hb⟩; refine ⟨_, rfl, ?_⟩; have n0_ := Aside0.mk (Kd.R_lower ho0 (below_size (by repeat (first | (with_reducible first | exact HB.out | apply below_alloc | apply pw_below_drewN | apply below_drew1 | refine below_set ?_ GE175.out) | exact HB.out)))); have n1_ := Aside0.mk (blk_below (g := gb175) (o := .cells #[.slice none 0 0] 45 (0, 0)) (by (with_reducible repeat (first | refine blk_drewN ?_ _ | refine blk_drew ?_ | refine blk_alloc ?_ _)); exact BK175.out) hb); have n2_ := Aside0.mk (below_step (by repeat (first | (with_reducible first | exact HB.out | apply below_alloc | apply pw_below_drewN | apply below_drew1 | refine below_set ?_ GE175.out) | exact HB.out)) hb); clear BK175; clear HB; have HO178 := n0_; have BK175 := n1_; have HB := n2_; clear n0_ n1_ n2_; (try clear hb); (try clear hb2); (try clear hk); (try clear hi); (try clear ho0); obtain ⟨Ao5, co5, eo5⟩ := Kd.R_slice HO178.out; subst eo5; have hcz6_0 : w4.cell? ⟨gb175, 0, none⟩ = some (.slice none 0 0) := (blk_cell BK175.out 0).trans rfl; have hfz6_0 := blk_frozen BK175.out 0))
  refine bodyPost_ret (results_cell_row rfl _ _ gb175 45 #[.slice Ao5 t176.length co5] (0, 0) _ rfl (by (with_reducible repeat (first | refine blk_drewN ?_ _ | refine blk_drew ?_ | refine blk_alloc ?_ _)); refine blk_put (cs := #[.slice none 0 0]) ?_ 0 _ rfl; (with_reducible repeat (first | refine blk_drewN ?_ _ | refine blk_drew ?_ | refine blk_alloc ?_ _)); exact BK175.out) Try.underlying45 rfl (by kernel_rfl)) rfl ?_
  exact ⟨_, by first | rfl | (simp [errW_none, errW_some] <;> rfl) | (simp [*, errW_none, errW_some] <;> rfl), by (with_reducible repeat (first | apply Kd.R_alloc | apply Kd.R_drewN | apply Kd.R_drew)); exact Kd.R_mono (Kd.R_far (p := ⟨gb175, 0, none⟩) (Kd.R_types HO178.out BK175.out (by decide)) (fun _ hk => hk.2) (.slice Ao5 t176.length co5)) (fun _ hk => trivial), by repeat (first | (with_reducible first | exact HB.out | apply below_alloc | apply pw_below_drewN | apply below_drew1 | refine below_set ?_ GE175.out) | exact HB.out)⟩
def unicodetextref02_Valid.f (k : Nat) (l0_0 : List (S69)) : Option (Bool) := (unicodetextref02_Make.f l0_0).bind fun t180 => ((unicodetextref02_Same.f k l0_0 t180).bind fun t183 => (some t183))
set_option maxHeartbeats 8000000 in
set_option maxRecDepth 100000 in
theorem unicodetextref02_Valid.calls (k : Nat) (A0_0 : Option Addr) (c0_0 : Nat) (l0_0 : List (S69)) (r : Bool) (w : World) (hr0_0 : Kd.C k69 w A0_0 l0_0.length l0_0) (hc0_0 : l0_0.length ≤ c0_0) (h : unicodetextref02_Valid.f k l0_0 = some r) :
    Calls Try.prog 61 #[.agg #[.slice A0_0 l0_0.length c0_0]] w fun e w' => e = .returned (.bool r) ∧ Below w.heap.size w w' := by
  have hu45 := Try.underlying45
  have HR0_0 := Aside0.mk hr0_0
  have HC0_0 := Aside0.mk hc0_0
  clear hr0_0 hc0_0
  have HB := Aside0.mk (Below.refl w.heap.size w)
  have H : ((unicodetextref02_Make.f l0_0).bind fun t180 => ((unicodetextref02_Same.f k l0_0 t180).bind fun t183 => (some t183))) = some r := h
  clear h
  replace H := Option.bind_eq_some_iff.mp H
  obtain ⟨t180, A20, H⟩ := H
  replace H : ((unicodetextref02_Same.f k l0_0 t180).bind fun t183 => (some t183)) = some r := H
  have A2 := Aside0.mk A20
  clear A20
  replace H := Option.bind_eq_some_iff.mp H
  obtain ⟨t183, A30, H⟩ := H
  replace H : (some t183) = some r := H
  have A3 := Aside0.mk A30
  clear A30
  obtain rfl := Option.some.inj H
  go_enter Try.func61, Try.ntmps61
  try go_wp2_with (first | ((with_reducible refine gate_dst (N := 1) rfl ?_); refine box_event ?hg (N := 1) ?hd (cs := #[.slice A0_0 l0_0.length c0_0]) (t := 45) ?hr ?_; (case hd => rfl); (case hg => rfl); (case hr => first | (go_simp; done) | (go_simp; rfl)); intro gb179 hg w4 hbox hb; have n0_ := Aside0.mk (below_step (by repeat (first | (with_reducible first | exact HB.out | apply below_alloc | apply pw_below_drewN | apply below_drew1) | exact HB.out)) hb); have n1_ := Aside0.mk (hbox); have n2_ := Aside0.mk ((by rw [hg]; exact (below_size (by repeat (first | (with_reducible first | exact HB.out | apply below_alloc | apply pw_below_drewN | apply below_drew1) | exact HB.out))) : w.heap.size ≤ gb179)); have n3_ := Aside0.mk ((by rw [hg]; exact (below_size (by repeat (first | (with_reducible first | exact HB.out | apply below_alloc | apply pw_below_drewN | apply below_drew1) | exact HB.out))) : w.heap.size ≤ gb179)); clear HB; have HB := n0_; have BK179 := n1_; have GW179 := n2_; have GE179 := n3_; clear n0_ n1_ n2_ n3_; clear hb hbox hg))
  have n0_ := Aside0.mk (blk_drew BK179.out)
  have n1_ := Aside0.mk (below_drew1 HB.out)
  clear BK179
  clear HB
  have BK179 := n0_
  have HB := n1_
  clear n0_ n1_
  refine start_ (n := 6) (S := fun w' => w'.cell? ⟨gb179, 0, none⟩ = some (.slice A0_0 l0_0.length c0_0)) (ds := []) #[false, false, false, false, false, false] (by kernel_rfl) rfl rfl ((blk_cell BK179.out 0).trans rfl) (fun hHeld => ?_)
  generalize w4.drew = w5 at BK179 HB hHeld ⊢
  refine pure_ (i := 1) (N := some 4) (v := ?_) (a' := ?_) #[false, true, false, false, false, false] rfl rfl (by kernel_rfl) (fun _ _ _ h => h) (Or.inl ⟨by rfl, ?_⟩) ?_ ?_
  rotate_left
  · intro w'
    go_simp
    with_reducible rfl
  rotate_left
  · simp only [Act.put, List.setIfInBounds_toArray, List.set_cons_zero, List.set_cons_succ, i64_w, i32_w]
    rfl
  refine take_ (i := 0) (N := some 3) (v := ?_) (a' := ?_) #[true, true, false, false, false, false] rfl rfl (by kernel_rfl) (fun _ _ _ h => h) (Or.inl ⟨by rfl, ?_⟩) hHeld ?_ ?_
  rotate_left
  · intro w' s0
    go_simp
    with_reducible rfl
  rotate_left
  · simp only [Act.put, List.setIfInBounds_toArray, List.set_cons_zero, List.set_cons_succ, i64_w, i32_w]
    rfl
  refine take_ (i := 2) (N := some 5) (v := ?_) (a' := ?_) #[true, true, true, false, false, false] rfl rfl (by kernel_rfl) (fun _ _ _ h => h) (Or.inl ⟨by rfl, ?_⟩) hHeld ?_ ?_
  rotate_left
  · intro w' s0
    go_simp
    with_reducible rfl
  rotate_left
  · simp only [Act.put, List.setIfInBounds_toArray, List.set_cons_zero, List.set_cons_succ, i64_w, i32_w]
    rfl
  refine one_ (i := 3) (N := some 6) #[true, true, true, true, false, false] rfl rfl (by kernel_rfl) (by decide) (fun K hK => ?_)
  refine goes_ Try.func69 (by kernel_rfl) rfl #[.slice A0_0 l0_0.length c0_0] (by rfl) rfl rfl (by (try simp only [List.map_toArray, List.map_cons, List.map_nil]); first | done | rfl | (simp only [List.length_drop, List.length_take]; rfl)) ?_
  with_reducible refine (unicodetextref02_Make.calls _ _ l0_0 t180 _ ?side1 ?side2 A2.out).mono ?_
  (case side1 => repeat (first | exact (Kd.C_below HR0_0.out HB.out) | (with_reducible refine Kd.C_alloc ?_ _) | (with_reducible refine Kd.C_drewN ?_ _) | (with_reducible refine Kd.C_drew ?_)))
  (case side2 => exact HC0_0.out)
  rintro e w6 ⟨v181, rfl, ho0, hb⟩
  refine ⟨_, rfl, ?_⟩
  have n0_ := Aside0.mk (Kd.R_lower ho0 (below_size (by repeat (first | (with_reducible first | exact HB.out | apply below_alloc | apply pw_below_drewN | apply below_drew1 | refine below_set ?_ GE179.out) | exact HB.out))))
  have n1_ := Aside0.mk (blk_below (g := gb179) (o := .cells #[.slice A0_0 l0_0.length c0_0] 45 (0, 0)) (by (with_reducible repeat (first | refine blk_drewN ?_ _ | refine blk_drew ?_ | refine blk_alloc ?_ _)); exact BK179.out) hb)
  have n2_ := Aside0.mk (below_step (by repeat (first | (with_reducible first | exact HB.out | apply below_alloc | apply pw_below_drewN | apply below_drew1 | refine below_set ?_ GE179.out) | exact HB.out)) hb)
  clear BK179
  clear HB
  have HO182 := n0_
  have BK179 := n1_
  have HB := n2_
  clear n0_ n1_ n2_
  (try clear hb)
  (try clear hb2)
  (try clear hk)
  (try clear hi)
  (try clear ho0)
  obtain ⟨Ao7, co7, eo7⟩ := Kd.R_slice HO182.out
  (first | subst eo7 | (injection eo7 with f1_ f2_ f3_; have f4_ := f1_.symm; have f5_ := f3_.symm; clear f1_ f2_ f3_; subst f4_; subst f5_))
  refine hK.out _ _ ((blk_cell BK179.out 0).trans rfl) (fun hHeld => ?_)
  clear hK K
  refine norm_ (a' := ?_) ?_ ?_
  rotate_left
  · show Act.put _ (some 6) _ = _
    simp only [Act.put, List.setIfInBounds_toArray, List.set_cons_zero, List.set_cons_succ, i64_w, i32_w]
    rfl
  refine one_ (i := 4) (N := some 7) #[true, true, true, true, true, false] rfl rfl (by kernel_rfl) (by decide) (fun K hK => ?_)
  refine goes_ Try.func68 (by kernel_rfl) rfl #[.agg #[.slice A0_0 l0_0.length c0_0], .agg #[.slice Ao7 t180.length co7]] (by rfl) rfl rfl (by (try simp only [List.map_toArray, List.map_cons, List.map_nil]); first | done | rfl | (simp only [List.length_drop, List.length_take]; rfl)) ?_
  with_reducible refine (unicodetextref02_Same.calls k _ _ l0_0 _ _ t180 t183 _ ?side1 ?side2 ?side3 ?side4 A3.out).mono ?_
  (case side1 => repeat (first | exact (Kd.C_below HR0_0.out HB.out) | (with_reducible refine Kd.C_alloc ?_ _) | (with_reducible refine Kd.C_drewN ?_ _) | (with_reducible refine Kd.C_drew ?_)))
  (case side2 => exact HC0_0.out)
  (case side3 => repeat (first | exact (Kd.R_reads' HO182.out).2.2 | (with_reducible refine Kd.C_alloc ?_ _) | (with_reducible refine Kd.C_drewN ?_ _) | (with_reducible refine Kd.C_drew ?_)))
  (case side4 => exact (Kd.R_reads' HO182.out).2.1)
  rintro e w8 ⟨rfl, hb⟩
  refine ⟨_, rfl, ?_⟩
  have n0_ := Aside0.mk (Kd.R_below (by (with_reducible repeat (first | apply Kd.R_alloc | apply Kd.R_drewN | apply Kd.R_drew)); exact HO182.out) hb)
  have n1_ := Aside0.mk (blk_below (g := gb179) (o := .cells #[.slice A0_0 l0_0.length c0_0] 45 (0, 0)) (by (with_reducible repeat (first | refine blk_drewN ?_ _ | refine blk_drew ?_ | refine blk_alloc ?_ _)); exact BK179.out) hb)
  have n2_ := Aside0.mk (below_step (by repeat (first | (with_reducible first | exact HB.out | apply below_alloc | apply pw_below_drewN | apply below_drew1 | refine below_set ?_ GE179.out) | exact HB.out)) hb)
  clear HO182
  clear BK179
  clear HB
  have HO182 := n0_
  have BK179 := n1_
  have HB := n2_
  clear n0_ n1_ n2_
  (try clear hb)
  (try clear hb2)
  (try clear hk)
  (try clear hi)
  refine hK.out _ _ ((blk_cell BK179.out 0).trans rfl) (fun hHeld => ?_)
  clear hK K
  refine norm_ (a' := ?_) ?_ ?_
  rotate_left
  · show Act.put _ (some 7) _ = _
    simp only [Act.put, List.setIfInBounds_toArray, List.set_cons_zero, List.set_cons_succ, i64_w, i32_w]
    rfl
  refine pure_ (i := 5) (N := some 2) (v := ?_) (a' := ?_) #[true, true, true, true, true, true] rfl rfl (by kernel_rfl) (fun _ _ _ h => h) (Or.inl ⟨by rfl, ?_⟩) ?_ ?_
  rotate_left
  · intro w'
    go_simp
    with_reducible rfl
  rotate_left
  · simp only [Act.put, List.setIfInBounds_toArray, List.set_cons_zero, List.set_cons_succ, i64_w, i32_w]
    rfl
  refine done_ (by kernel_rfl) ?_
  try go_wp2
  go_ret
  exact ⟨by first | rfl | (simp [errW_none, errW_some] <;> rfl) | (simp [*, errW_none, errW_some] <;> rfl), by repeat (first | (with_reducible first | exact HB.out | apply below_alloc | apply pw_below_drewN | apply below_drew1 | refine below_set ?_ GE179.out) | exact HB.out)⟩
def unicodetextref50_right.l0 : Nat → List (S45) → Int → Option (Bool)
  | 0, _, _ => none
  | k + 1, x0, x3 => if x3 < (x0.length : Int) then (if 0 ≤ x3 then ((unicodetextref02_Valid.f k ((rd_T45 x0 x3).f0)).bind fun t185 => (if t185 = true then (if (((rd_T45 x0 x3).f0).length : Int) = 0 then (some false) else (unicodetextref50_right.l0 k x0 (wrap64 (x3 + 1)))) else (some false))) else (none)) else (some true)
def unicodetextref50_right.f (k : Nat) (l0 : List (S45)) : Option (Bool) := unicodetextref50_right.l0 k l0 0
set_option maxHeartbeats 8000000 in
set_option maxRecDepth 100000 in
theorem unicodetextref50_right.calls (k : Nat) (A0 : Option Addr) (c0 : Nat) (l0 : List (S45)) (r : Bool) (w : World) (hr0 : Kd.C k45 w A0 l0.length l0) (hc0 : l0.length ≤ c0) (h : unicodetextref50_right.f k l0 = some r) :
    Calls Try.prog 57 #[.slice A0 l0.length c0] w fun e w' => e = .returned (.bool r) ∧ Below w.heap.size w w' := by
  have hu45 := Try.underlying45
  have HR0 := Aside0.mk hr0
  have HC0 := Aside0.mk hc0
  clear hr0 hc0
  have HB := Aside0.mk (Below.refl w.heap.size w)
  have H : (unicodetextref50_right.l0 k l0 0) = some r := h
  clear h
  have H' := Aside0.mk H
  clear H
  go_enter Try.func57, Try.ntmps57
  go_wp2
  go_loopg [3] k (fun kq v3 w' => ∃ (x3_1 : Int), v3 = .int .i64 x3_1 ∧ Aside0 (unicodetextref50_right.l0 kq l0 x3_1 = some r) ∧ Aside0 (kq ≤ k) ∧ Aside0 (Below w.heap.size w w'))
  case atStart => exact ⟨(0), (by first | rfl | (simp; done) | (simp [*]; done)), H', ⟨Nat.le_refl _⟩, ⟨by repeat (first | (with_reducible first | exact HB.out | apply below_alloc | apply pw_below_drewN | apply below_drew1) | exact HB.out)⟩⟩
  case round =>
    clear H'
    obtain ⟨x3_1, rfl, HA, HK1, HB⟩ := hrel
    cases gk with
    | zero => exact absurd HA.out (by simp [unicodetextref50_right.l0])
    | succ k1 =>
      have H := HA.out
      clear HA
      simp only [unicodetextref50_right.l0] at H
      by_cases c2 : x3_1 < (l0.length : Int)
      · rw [if_pos c2] at H
        have c2b0 : decide (x3_1 < (l0.length : Int)) = true := decide_eq_true c2
        clear c2
        by_cases c3 : 0 ≤ x3_1
        · rw [if_pos c3] at H
          have c3b0 : decide (0 ≤ x3_1) = true := decide_eq_true c3
          clear c3
          replace H := Option.bind_eq_some_iff.mp H
          obtain ⟨t185, A40, H⟩ := H
          replace H : (if t185 = true then (if (((rd_T45 l0 x3_1).f0).length : Int) = 0 then (some false) else (unicodetextref50_right.l0 k1 l0 (wrap64 (x3_1 + 1)))) else (some false)) = some r := H
          have A4 := Aside0.mk A40
          clear A40
          by_cases c5 : t185 = true
          · subst c5
            have H1 : (if (((rd_T45 l0 x3_1).f0).length : Int) = 0 then (some false) else (unicodetextref50_right.l0 k1 l0 (wrap64 (x3_1 + 1)))) = some r := by rw [if_pos rfl] at H; exact H
            clear H
            have H := H1
            clear H1
            by_cases c6 : (((rd_T45 l0 x3_1).f0).length : Int) = 0
            · rw [if_pos c6] at H
              have c6b0 : ((((rd_T45 l0 x3_1).f0).length : Int) == 0) = true := beq_iff_eq.mpr c6
              have c6b1 : ((((rd_T45 l0 x3_1).f0).length : Int) != 0) = false := bne_eq_false_iff_eq.mpr c6
              clear c6
              obtain rfl := Option.some.inj H
              have p184 : 0 ≤ (x3_1 : Int) := of_decide_eq_true (by first | (with_reducible assumption) | assumption)
              have q184 : x3_1 < (l0.length : Int) := of_decide_eq_true (by first | (with_reducible assumption) | assumption)
              obtain ⟨ad184, A184_0, c184_0, e184, hx184_0, hl184_0, hi184_0⟩ := at_T45 HR0.out x3_1 p184 q184
              cases e184
              replace hx184_0 := (HB.out.cell (World.block_lt_of_cell? w _ hx184_0)).trans hx184_0
              have HR184_0 := Aside0.mk hi184_0
              have HC184_0 := Aside0.mk hl184_0
              clear hi184_0 hl184_0
              replace p184 := eq_true p184
              replace q184 := eq_true q184
              go_wp2_with (first | ((with_reducible refine gate_callee (f := 61) rfl ?_); refine goesL_ (some 14) rfl rfl Try.func61 (by kernel_rfl) rfl #[.agg #[.slice A184_0 ((rd_T45 l0 x3_1).f0).length c184_0]] rfl (by (try simp only [List.map_toArray, List.map_cons, List.map_nil]); first | done | rfl | (simp only [List.length_drop, List.length_take]; rfl)) ?_; (with_reducible refine (unicodetextref02_Valid.calls k1 _ _ ((rd_T45 l0 x3_1).f0) true _ ?side1 ?side2 A4.out).mono ?_); (case side1 => repeat (first | exact (Kd.C_below HR184_0.out HB.out) | (with_reducible refine Kd.C_alloc ?_ _) | (with_reducible refine Kd.C_drewN ?_ _) | (with_reducible refine Kd.C_drew ?_))); (case side2 => exact HC184_0.out); rintro e w7 ⟨rfl, hb⟩; refine ⟨_, rfl, ?_⟩; have n0_ := Aside0.mk (below_step (by repeat (first | (with_reducible first | exact HB.out | apply below_alloc | apply pw_below_drewN | apply below_drew1) | exact HB.out)) hb); clear HB; have HB := n0_; clear n0_; (try clear hb); (try clear hb2); (try clear hk); (try clear hi); have p186 : 0 ≤ (x3_1 : Int) := of_decide_eq_true (by first | (with_reducible assumption) | assumption); have q186 : x3_1 < (l0.length : Int) := of_decide_eq_true (by first | (with_reducible assumption) | assumption); obtain ⟨ad186, A186_0, c186_0, e186, hx186_0, hl186_0, hi186_0⟩ := at_T45 HR0.out x3_1 p186 q186; obtain rfl : ad184 = ad186 := (by injection e186); replace hx186_0 := (HB.out.cell (World.block_lt_of_cell? w _ hx186_0)).trans hx186_0; have HR186_0 := Aside0.mk hi186_0; have HC186_0 := Aside0.mk hl186_0; clear hi186_0 hl186_0; replace p186 := eq_true p186; replace q186 := eq_true q186))
              go_ret
              exact ⟨by first | rfl | (simp [errW_none, errW_some] <;> rfl) | (simp [*, errW_none, errW_some] <;> rfl), by repeat (first | (with_reducible first | exact HB.out | apply below_alloc | apply pw_below_drewN | apply below_drew1) | exact HB.out)⟩
            · rw [if_neg c6] at H
              have c6b0 : ((((rd_T45 l0 x3_1).f0).length : Int) == 0) = false := beq_eq_false_iff_ne.mpr c6
              have c6b1 : ((((rd_T45 l0 x3_1).f0).length : Int) != 0) = true := bne_iff_ne.mpr c6
              have c6b2 : ¬ (((rd_T45 l0 x3_1).f0) = []) := fun h_ => c6 (by rw [h_]; rfl)
              have H' := Aside0.mk H
              clear H
              have p184 : 0 ≤ (x3_1 : Int) := of_decide_eq_true (by first | (with_reducible assumption) | assumption)
              have q184 : x3_1 < (l0.length : Int) := of_decide_eq_true (by first | (with_reducible assumption) | assumption)
              obtain ⟨ad184, A184_0, c184_0, e184, hx184_0, hl184_0, hi184_0⟩ := at_T45 HR0.out x3_1 p184 q184
              cases e184
              replace hx184_0 := (HB.out.cell (World.block_lt_of_cell? w _ hx184_0)).trans hx184_0
              have HR184_0 := Aside0.mk hi184_0
              have HC184_0 := Aside0.mk hl184_0
              clear hi184_0 hl184_0
              replace p184 := eq_true p184
              replace q184 := eq_true q184
              go_wp2_with (first | ((with_reducible refine gate_callee (f := 61) rfl ?_); refine goesL_ (some 14) rfl rfl Try.func61 (by kernel_rfl) rfl #[.agg #[.slice A184_0 ((rd_T45 l0 x3_1).f0).length c184_0]] rfl (by (try simp only [List.map_toArray, List.map_cons, List.map_nil]); first | done | rfl | (simp only [List.length_drop, List.length_take]; rfl)) ?_; (with_reducible refine (unicodetextref02_Valid.calls k1 _ _ ((rd_T45 l0 x3_1).f0) true _ ?side1 ?side2 A4.out).mono ?_); (case side1 => repeat (first | exact (Kd.C_below HR184_0.out HB.out) | (with_reducible refine Kd.C_alloc ?_ _) | (with_reducible refine Kd.C_drewN ?_ _) | (with_reducible refine Kd.C_drew ?_))); (case side2 => exact HC184_0.out); rintro e w8 ⟨rfl, hb⟩; refine ⟨_, rfl, ?_⟩; have n0_ := Aside0.mk (below_step (by repeat (first | (with_reducible first | exact HB.out | apply below_alloc | apply pw_below_drewN | apply below_drew1) | exact HB.out)) hb); clear HB; have HB := n0_; clear n0_; (try clear hb); (try clear hb2); (try clear hk); (try clear hi); have p186 : 0 ≤ (x3_1 : Int) := of_decide_eq_true (by first | (with_reducible assumption) | assumption); have q186 : x3_1 < (l0.length : Int) := of_decide_eq_true (by first | (with_reducible assumption) | assumption); obtain ⟨ad186, A186_0, c186_0, e186, hx186_0, hl186_0, hi186_0⟩ := at_T45 HR0.out x3_1 p186 q186; obtain rfl : ad184 = ad186 := (by injection e186); replace hx186_0 := (HB.out.cell (World.block_lt_of_cell? w _ hx186_0)).trans hx186_0; have HR186_0 := Aside0.mk hi186_0; have HC186_0 := Aside0.mk hl186_0; clear hi186_0 hl186_0; replace p186 := eq_true p186; replace q186 := eq_true q186))
              go_roundg k1
              case measure => have := HK1.out; omega
              case rel => exact ⟨(wrap64 (x3_1 + 1)), (by first | rfl | (simp; done) | (simp [*]; done)), H', ⟨by have := HK1.out; omega⟩, ⟨by repeat (first | (with_reducible first | exact HB.out | apply below_alloc | apply pw_below_drewN | apply below_drew1) | exact HB.out)⟩⟩
          · replace c5 := Bool.eq_false_iff.mpr c5
            subst c5
            have H1 : (some false) = some r := by rw [if_neg (show ¬ (false = true) by decide)] at H; exact H
            clear H
            have H := H1
            clear H1
            obtain rfl := Option.some.inj H
            have p184 : 0 ≤ (x3_1 : Int) := of_decide_eq_true (by first | (with_reducible assumption) | assumption)
            have q184 : x3_1 < (l0.length : Int) := of_decide_eq_true (by first | (with_reducible assumption) | assumption)
            obtain ⟨ad184, A184_0, c184_0, e184, hx184_0, hl184_0, hi184_0⟩ := at_T45 HR0.out x3_1 p184 q184
            cases e184
            replace hx184_0 := (HB.out.cell (World.block_lt_of_cell? w _ hx184_0)).trans hx184_0
            have HR184_0 := Aside0.mk hi184_0
            have HC184_0 := Aside0.mk hl184_0
            clear hi184_0 hl184_0
            replace p184 := eq_true p184
            replace q184 := eq_true q184
            go_wp2_with (first | ((with_reducible refine gate_callee (f := 61) rfl ?_); refine goesL_ (some 14) rfl rfl Try.func61 (by kernel_rfl) rfl #[.agg #[.slice A184_0 ((rd_T45 l0 x3_1).f0).length c184_0]] rfl (by (try simp only [List.map_toArray, List.map_cons, List.map_nil]); first | done | rfl | (simp only [List.length_drop, List.length_take]; rfl)) ?_; (with_reducible refine (unicodetextref02_Valid.calls k1 _ _ ((rd_T45 l0 x3_1).f0) false _ ?side1 ?side2 A4.out).mono ?_); (case side1 => repeat (first | exact (Kd.C_below HR184_0.out HB.out) | (with_reducible refine Kd.C_alloc ?_ _) | (with_reducible refine Kd.C_drewN ?_ _) | (with_reducible refine Kd.C_drew ?_))); (case side2 => exact HC184_0.out); rintro e w9 ⟨rfl, hb⟩; refine ⟨_, rfl, ?_⟩; have n0_ := Aside0.mk (below_step (by repeat (first | (with_reducible first | exact HB.out | apply below_alloc | apply pw_below_drewN | apply below_drew1) | exact HB.out)) hb); clear HB; have HB := n0_; clear n0_; (try clear hb); (try clear hb2); (try clear hk); (try clear hi)))
            go_ret
            exact ⟨by first | rfl | (simp [errW_none, errW_some] <;> rfl) | (simp [*, errW_none, errW_some] <;> rfl), by repeat (first | (with_reducible first | exact HB.out | apply below_alloc | apply pw_below_drewN | apply below_drew1) | exact HB.out)⟩
        · rw [if_neg c3] at H
          exact absurd H (by simp)
      · rw [if_neg c2] at H
        have c2b0 : decide (x3_1 < (l0.length : Int)) = false := decide_eq_false c2
        clear c2
        obtain rfl := Option.some.inj H
        go_wp2
        go_ret
        exact ⟨by first | rfl | (simp [errW_none, errW_some] <;> rfl) | (simp [*, errW_none, errW_some] <;> rfl), by repeat (first | (with_reducible first | exact HB.out | apply below_alloc | apply pw_below_drewN | apply below_drew1) | exact HB.out)⟩
end Go.Proofs.Ytcpicopaobhlcaa.Q
end
