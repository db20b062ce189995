/- Lemmas, printed and written for this claim: part 9. -/
import Derived.Test.YthnkmcfhpjmihaaG2
import Derived.Test.YthnkmcfhpjmihaaG8
import Derived.IntWalk
import Derived.Deep.RegionHeld3
import Derived.Deep.RegionLaw
import Derived.Test.YthnkmcfhpjmihaaG7
import Derived.WalkKit
import Derived.WalkSpells
section
namespace Go.Proofs.Ythnkmcfhpjmihaa.Q
open Go.RowKit Go.Proofs.YthnkmcfhpjmihaaW.PrintWords Go.Proofs.YthnkmcfhpjmihaaW.PrintLast Go.Proofs.YthnkmcfhpjmihaaW.PrintMore
set_option linter.unusedVariables false
theorem rdR_mid (pre : List Rg) (x : Rg) (rest : List Rg) : rd_T33 (pre ++ x :: rest) (pre.length : Int) = x := by
  unfold rd_T33
  rw [Int.toNat_natCast, List.getD_eq_getElem?_getD, List.getElem?_append_right (Nat.le_refl _), Nat.sub_self]
  rfl
theorem hasB_cons (r : Int × Int) (l : List (Int × Int)) (c : Int) : CpM.hasB (r :: l) c = ((decide (0 ≤ c ∧ c ≤ 1114111) && (decide (r.1 ≤ c) && decide (c ≤ r.2))) || CpM.hasB l c) := by
  unfold CpM.hasB
  rw [List.any_cons, Bool.decide_and]
theorem has_go : ∀ (rest pre : List Rg) (c : Int) (k : Nat), (pre ++ rest).length < 1000000000 → rest.length + 1 ≤ k →
    unicodetextref02_Has.l0 k c (pre.length : Int) (pre ++ rest) = some (CpM.hasB (rest.map toP) c)
  | [], pre, c, k, h1, h2 => by
    obtain ⟨k, rfl⟩ : ∃ j, k = j + 1 := ⟨k - 1, by omega⟩
    rw [unicodetextref02_Has.l0, List.append_nil, if_neg (by omega)]
    rfl
  | x :: rest, pre, c, k, h1, h2 => by
    obtain ⟨k, rfl⟩ : ∃ j, k = j + 1 := ⟨k - 1, by omega⟩
    have hp : pre.length < 1000000000 := by simp at h1; omega
    have e2 : pre ++ x :: rest = (pre ++ [x]) ++ rest := by simp
    have e3 : (((pre.length + 1 : Nat)) : Int) = ((pre ++ [x]).length : Int) := by simp
    have ih := has_go rest (pre ++ [x]) c k (by simpa using h1) (by simp at h2; omega)
    rw [← e2, ← e3] at ih
    rw [unicodetextref02_Has.l0, if_pos (by simp; omega), valid_eq, rdR_mid, wrap_succ hp, ih, List.map_cons, hasB_cons]
    show (if decide (0 ≤ c ∧ c ≤ 1114111) = true then _ else _) = _
    by_cases hv : 0 ≤ c ∧ c ≤ 1114111
    · rw [decide_eq_true hv, if_pos rfl, if_pos (by omega)]
      unfold toP
      by_cases h3 : x.f0 ≤ c
      · by_cases h4 : c ≤ x.f1
        · simp [h3, h4]
        · simp [h3, h4]
      · simp [h3]
    · rw [decide_eq_false hv, if_neg (by decide)]
      rfl
theorem has_ok (l : List Rg) (c : Int) (h : l.length < 1000000000) : unicodetextref02_Has.f (l.length + 1) l c = some (CpM.hasB (l.map toP) c) :=
  has_go l [] c (l.length + 1) (by simpa using h) (Nat.le_refl _)
def keepsB (op : Int) (x y : Bool) : Bool := if op = 1 then x || y else if op = 2 then x && y else x && !y
theorem keeps_ok (op : Int) (x y : Bool) : unicodetextref02_keeps.f op x y = some (keepsB op x y) := by
  unfold unicodetextref02_keeps.f keepsB
  cases x <;> cases y <;> split <;> first | rfl | (split <;> rfl)
def keepAB (l0 l1 : List Rg) (op : Int) (c : Int) : Bool := keepsB op (CpM.hasB (l0.map toP) c) (CpM.hasB (l1.map toP) c)
def cutsAB (l0 l1 : List Rg) : List Int := CpM.cuts (CpM.cuts [] (l0.map toP)) (l1.map toP)
def combS (l0 l1 : List Rg) (op : Int) : List (Int × Int) := CpM.runs (keepAB l0 l1 op) none (CpM.segs (cutsAB l0 l1))
def unicodetextref02_combine.f (l0_0 : List S33) (l1_0 : List S33) (a2 : Int) : Option (List S33) := if l0_0.length + l1_0.length < 10000000 then some ((combS l0_0 l1_0 a2).map ofP) else none
theorem cuts_length (l : List Int) (a : List (Int × Int)) : (CpM.cuts l a).length ≤ l.length + 2 * a.length + 1 := by
  unfold CpM.cuts
  have := place_length 0 (a.foldl CpM.cut1 l)
  have := foldCut_length a l
  omega
def hiOf (rest : List Int) : Int := match rest with | [] => 1114111 | y :: _ => y - 1
theorem segs_cons (x : Int) (rest : List Int) : CpM.segs (x :: rest) = (x, hiOf rest) :: CpM.segs rest := by cases rest <;> rfl
theorem drop_rd (l : List Int) (k : Nat) (h : k < l.length) : l.drop k = rd l (k : Int) :: l.drop (k + 1) := by
  rw [List.drop_eq_getElem_cons h]
  unfold rd
  rw [Int.toNat_natCast, List.getD_eq_getElem?_getD, List.getElem?_eq_getElem h]
  rfl
theorem hiOf_last (l : List Int) (k : Nat) (h : ¬ k + 1 < l.length) : hiOf (l.drop (k + 1)) = 1114111 := by
  rw [List.drop_eq_nil_of_le (by omega)]; rfl
theorem hiOf_more (l : List Int) (k : Nat) (h : k + 1 < l.length) : hiOf (l.drop (k + 1)) = rd l ((k : Int) + 1) - 1 := by
  rw [drop_rd l (k + 1) h]; rfl
theorem cutsAB_in (l0 l1 : List Rg) : ∀ y ∈ cutsAB l0 l1, 0 ≤ y ∧ y ≤ 1114111 :=
  (CpM.cuts_ok _ _ (CpM.cuts_ok _ _ List.Pairwise.nil (fun y hy => by cases hy)).1 (CpM.cuts_ok _ _ List.Pairwise.nil (fun y hy => by cases hy)).2.1).2.1
set_option maxHeartbeats 8000000 in
set_option maxRecDepth 100000 in
theorem unicodetextref02_combine.calls (A0_0 : Option Addr) (c0_0 : Nat) (l0_0 : List S33) (A1_0 : Option Addr) (c1_0 : Nat) (l1_0 : List S33) (a2 : Int) (r : List S33) (w : World) (hr0_0 : Kd.C k33 w A0_0 l0_0.length l0_0) (hc0_0 : l0_0.length ≤ c0_0) (hr1_0 : Kd.C k33 w A1_0 l1_0.length l1_0) (hc1_0 : l1_0.length ≤ c1_0) (h : unicodetextref02_combine.f l0_0 l1_0 a2 = some r) :
    Calls Try.prog 77 #[.agg #[.slice A0_0 l0_0.length c0_0], .agg #[.slice A1_0 l1_0.length c1_0], .int .i64 a2] w fun e w' => ∃ v0_ : Value, e = .returned (.agg #[v0_]) ∧ Kd.R k33 33 w' w.heap.size (fun _ => True) v0_ r ∧ Below w.heap.size w w' := by
  have hn : l0_0.length + l1_0.length < 10000000 ∧ (combS l0_0 l1_0 a2).map ofP = r := by
    unfold unicodetextref02_combine.f at h
    split at h
    · rename_i hl; exact ⟨hl, Option.some.inj h⟩
    · cases h
  have HN := Aside0.mk hn
  have HRA := Aside0.mk hr0_0
  have HCA := Aside0.mk hc0_0
  have HRB := Aside0.mk hr1_0
  have HCB := Aside0.mk hc1_0
  have hcl := cuts_length [] (l0_0.map toP)
  have hcl2 := cuts_length (CpM.cuts [] (l0_0.map toP)) (l1_0.map toP)
  rw [List.length_map, List.length_nil] at hcl
  rw [List.length_map] at hcl2
  have HC1 : Aside0 (unicodetextref02_Cuts.f [] l0_0 = some (CpM.cuts [] (l0_0.map toP))) := ⟨by unfold unicodetextref02_Cuts.f; rw [if_pos (by simp; omega)]⟩
  have HC2 : Aside0 (unicodetextref02_Cuts.f (CpM.cuts [] (l0_0.map toP)) l1_0 = some (cutsAB l0_0 l1_0)) := ⟨by unfold unicodetextref02_Cuts.f; rw [if_pos (by omega)]; rfl⟩
  have HLC : Aside0 ((cutsAB l0_0 l1_0).length < 100000000) := ⟨by unfold cutsAB; omega⟩
  have HIN := Aside0.mk (cutsAB_in l0_0 l1_0)
  have HB := Aside0.mk (Below.refl w.heap.size w)
  clear hn h hr0_0 hc0_0 hr1_0 hc1_0 hcl hcl2
  generalize hq : cutsAB l0_0 l1_0 = cuts at HC2 HLC HIN
  have HQ := Aside0.mk hq
  clear hq
  have HBX := Aside0.mk (below_alloc (below_alloc (below_alloc (Below.refl w.heap.size w) (.cells #[.slice A0_0 l0_0.length c0_0] 25)) (.cells #[.slice A1_0 l1_0.length c1_0] 25)) (.cells #[.slice none 0 0] 25))
  have HCC1 : Aside0 (∀ W, Kd.C k33 W A0_0 l0_0.length l0_0 → Calls Try.prog 89 #[.slice none 0 0, .agg #[.slice A0_0 l0_0.length c0_0]] W fun e w' => ∃ v0_ : Value, e = .returned (v0_) ∧ Kd.R kInt 3 w' W.heap.size (fun _ => True) v0_ (CpM.cuts [] (l0_0.map toP)) ∧ Below W.heap.size W w') := ⟨fun W hW => unicodetextref02_Cuts.calls none 0 [] A0_0 c0_0 l0_0 _ W (Kd.C_nil _ _) (Nat.le_refl _) hW HCA.out HC1.out⟩
  go_enter Try.func77, Try.ntmps77
  have s0 : (((w.alloc (.cells #[.slice A0_0 l0_0.length c0_0] 25)).alloc (.cells #[.slice A1_0 l1_0.length c1_0] 25)).alloc (.cells #[.slice none 0 0] 25)).cell? ⟨w.heap.size, 0, none⟩ = some (.slice A0_0 l0_0.length c0_0) := cell_alloc_sl _ (cell_alloc_sl _ (cell_new_sl _ _ _))
  have s1 : (((w.alloc (.cells #[.slice A0_0 l0_0.length c0_0] 25)).alloc (.cells #[.slice A1_0 l1_0.length c1_0] 25)).alloc (.cells #[.slice none 0 0] 25)).cell? ⟨w.heap.size + 1, 0, none⟩ = some (.slice A1_0 l1_0.length c1_0) := by have := cell_new_sl (w.alloc (.cells #[.slice A0_0 l0_0.length c0_0] 25)) (.slice A1_0 l1_0.length c1_0) 25; rw [World.size_alloc] at this; exact cell_alloc_sl _ this
  go_wp2
  go_region_held3 (fun w' => w'.cell? ⟨w.heap.size, 0, none⟩ = some (.slice A0_0 l0_0.length c0_0) ∧ w'.cell? ⟨w.heap.size + 1, 0, none⟩ = some (.slice A1_0 l1_0.length c1_0)) (first | go_keep | (go_split_ands; constructor; (refine pw_cell_below hb ?_; assumption); (refine pw_cell_below hb ?_; assumption)))
    (first | (go_at_call 89; (with_reducible refine (HCC1.out _ ?s1).mono ?_); (case s1 => exact Kd.C_below HRA.out (below_drew1 HBX.out)); rintro e w1 ⟨v1, rfl, ho, hb⟩; have HO1 := Aside0.mk ho; have HB1 := Aside0.mk (below_step (below_drew1 HBX.out) hb); have HD1 := Aside0.mk hb; obtain ⟨Ay, cy, ev⟩ := Kd.R_slice ho; subst ev; clear ho) | (go_at_call 89; (with_reducible refine (unicodetextref02_Cuts.calls _ _ (CpM.cuts [] (l0_0.map toP)) A1_0 c1_0 l1_0 cuts _ (Kd.R_reads' HO1.out).2.2 (Kd.R_reads' HO1.out).2.1 ?s2 HCB.out HC2.out).mono ?_); (case s2 => exact Kd.C_below HRB.out HB1.out); rintro e w2 ⟨v2, rfl, ho, hb⟩; have HO2 := Aside0.mk ho; have HB2 := Aside0.mk hb; have HD2 := Aside0.mk hb; obtain ⟨Az, cz, ev⟩ := Kd.R_slice ho; subst ev; clear ho))
  have HRA2 := Aside0.mk (Kd.C_below HRA.out (below_step HB1.out HB2.out))
  have HRB2 := Aside0.mk (Kd.C_below HRB.out (below_step HB1.out HB2.out))
  have hbw := below_step HB1.out HB2.out
  have hxx : (((w.alloc (.cells #[.slice A0_0 l0_0.length c0_0] 25)).alloc (.cells #[.slice A1_0 l1_0.length c1_0] 25)).alloc (.cells #[.slice none 0 0] 25)).heap[w.heap.size + 1 + 1]? = some (.cells #[.slice none 0 0] 25 (0, 0)) := by have := heap_alloc_new ((w.alloc (.cells #[.slice A0_0 l0_0.length c0_0] 25)).alloc (.cells #[.slice A1_0 l1_0.length c1_0] 25)) (.cells #[.slice none 0 0] 25); rw [World.size_alloc, World.size_alloc] at this; exact this
  have BR := Aside0.mk (blk_below (blk_below (blk_drew hxx) HD1.out) HD2.out)
  have HBW := Aside0.mk hbw
  have S0 : Aside0 (w2.cell? ⟨w.heap.size, 0, none⟩ = some (.slice A0_0 l0_0.length c0_0)) := ⟨by go_split_ands; assumption⟩
  have S1 : Aside0 (w2.cell? ⟨w.heap.size + 1, 0, none⟩ = some (.slice A1_0 l1_0.length c1_0)) := ⟨by go_split_ands; assumption⟩
  have HLB := Aside0.mk (World.block_lt_of_cell? w2 _ S1.out)
  have HCU := Aside0.mk (Kd.R_reads' HO2.out).2.2
  clear hxx hbw s0 s1 HB HBX HCC1 HB1 HD1 HD2 HO1 HRA HRB HC1 HC2
  try clear hHeld
  try clear hb
  try clear hb
  go_wp2
  go_loopw [9, 10] (fun ov i wr => ∃ (k : Nat) (v : Value) (dn : List Rg) (cur : Option Rg), ov = .bool cur.isSome ∧ i = .int .i64 k ∧ Aside0 (k ≤ cuts.length) ∧ Aside0 ((dn ++ cur.toList).length ≤ k) ∧ Aside0 (combS l0_0 l1_0 a2 = dn.map toP ++ CpM.runs (keepAB l0_0 l1_0 a2) (cur.map toP) (CpM.segs (cuts.drop k))) ∧ Aside0 (Kd.R kRg 33 wr w2.heap.size (fun _ => True) v (dn ++ cur.toList)) ∧ Aside0 (wr.heap[w2.heap.size]? = some (.cells #[v] 25 (0, 0))) ∧ Aside0 (Below w2.heap.size w2 wr)) (fun _ i _ => cuts.length - (intOf i).toNat)
  case atStart => exact ⟨0, .slice none 0 0, [], none, rfl, rfl, ⟨Nat.zero_le _⟩, ⟨Nat.le_refl _⟩, ⟨by rw [← HQ.out]; rfl⟩, ⟨Kd.R_nil _ _ _ _ _⟩, ⟨heap_alloc_new w2 _⟩, ⟨below_alloc (Below.refl _ w2) _⟩⟩
  case round =>
    obtain ⟨k, v, dn, cur, rfl, rfl, HK, HKL, HS, HO, BO, HB⟩ := hrel
    by_cases hlt : k < cuts.length
    · have hx : rd cuts (k : Int) ∈ cuts := by unfold rd; rw [Int.toNat_natCast, List.getD_eq_getElem?_getD, List.getElem?_eq_getElem hlt]; exact List.getElem_mem hlt
      have hxr := HIN.out _ hx
      obtain ⟨ad, e, hx0⟩ := Kd.at_int HCU.out (k : Int) (by omega) (by omega)
      cases e
      rw [Int.toNat_natCast] at hx0
      have hc0 := (HB.out.cell (World.block_lt_of_cell? w2 _ hx0)).trans hx0
      have HX0 := Aside0.mk hx0
      clear hx0 hx
      have hs0 := (HB.out.cell (p := ⟨w.heap.size, 0, none⟩) (World.block_lt_of_cell? w2 _ S0.out)).trans S0.out
      have hs1 := (HB.out.cell (p := ⟨w.heap.size + 1, 0, none⟩) (World.block_lt_of_cell? w2 _ S1.out)).trans S1.out
      have hp : (0 ≤ (k : Int)) = True := eq_true (by omega)
      have hp2 : ((k : Int) < (cuts.length : Int)) = True := eq_true (by omega)
      have hw : wrap64 ((k : Int) + 1) = (k : Int) + 1 := by have := HLC.out; unfold wrap64; omega
      have hdr := drop_rd cuts k hlt
      have HSEG : Aside0 (CpM.segs (cuts.drop k) = (rd cuts (k : Int), hiOf (cuts.drop (k + 1))) :: CpM.segs (cuts.drop (k + 1))) := ⟨by rw [hdr, segs_cons]⟩
      clear hdr
      have hdlt : decide ((k : Int) < (cuts.length : Int)) = true := decide_eq_true (by omega)
      go_upto_if 27 with (fail)
      go_cut [11] (fun v11 wc => v11 = .int .i64 (hiOf (cuts.drop (k + 1))) ∧ wc = wr)
      case first =>
        by_cases hl2 : k + 1 < cuts.length
        · have HHI := Aside0.mk (hiOf_more cuts k hl2)
          have hy : rd cuts ((k : Int) + 1) ∈ cuts := by unfold rd; rw [show ((k : Int) + 1).toNat = k + 1 by omega, List.getD_eq_getElem?_getD, List.getElem?_eq_getElem hl2]; exact List.getElem_mem hl2
          have hyr := HIN.out _ hy
          obtain ⟨ad2, e2, hx2⟩ := Kd.at_int HCU.out ((k : Int) + 1) (by omega) (by omega)
          cases e2
          have hc2 := (HB.out.cell (World.block_lt_of_cell? w2 _ hx2)).trans hx2
          rw [show ((k : Int) + 1).toNat = k + 1 by omega, Addr.add, if_neg (by omega)] at hc2
          have hwy : wrap64 (rd cuts ((k : Int) + 1) - 1) = rd cuts ((k : Int) + 1) - 1 := by unfold wrap64; omega
          have hl3 : (k : Int) + 1 < (cuts.length : Int) := by omega
          have hp3 : (0 ≤ (k : Int) + 1) = True := eq_true (by omega)
          have hp4 : ((k : Int) + 1 < (cuts.length : Int)) = True := eq_true (by omega)
          have hd4 : decide ((k : Int) + 1 < (cuts.length : Int)) = true := decide_eq_true hl3
          have HP3 := Aside0.mk hp3
          have HP4 := Aside0.mk hp4
          clear hy hx2 hyr hl3 hp3 hp4 hl2
          generalize rd cuts ((k : Int) + 1) = y at *
          rw [hd4]
          go_upto_region 9 with (fail)
          have hp3 := HP3.out
          have hp4 := HP4.out
          go_wp2
          go_meet
          case rel => exact ⟨by rw [HHI.out, hwy], rfl⟩
        · have HHI := Aside0.mk (hiOf_last cuts k hl2)
          have hl3 : ¬ (k : Int) + 1 < (cuts.length : Int) := by omega
          have hd4 : decide ((k : Int) + 1 < (cuts.length : Int)) = false := decide_eq_false hl3
          clear hl3 hl2
          rw [hd4]
          go_wp2
          go_meet
          case rel => exact ⟨by rw [HHI.out], rfl⟩
      case rest =>
        obtain ⟨rfl, rfl⟩ := hcut
        have HA := Aside0.mk (has_ok l0_0 (rd cuts (k : Int)) (by have := HN.out.1; omega))
        have HBB := Aside0.mk (has_ok l1_0 (rd cuts (k : Int)) (by have := HN.out.1; omega))
        generalize hkx : keepAB l0_0 l1_0 a2 (rd cuts (k : Int)) = kx
        have HKX := Aside0.mk hkx
        have HKP : Aside0 (unicodetextref02_keeps.f a2 (CpM.hasB (l0_0.map toP) (rd cuts (k : Int))) (CpM.hasB (l1_0.map toP) (rd cuts (k : Int))) = some kx) := ⟨by rw [keeps_ok]; exact congrArg some hkx⟩
        clear hkx
        generalize hhi : hiOf (cuts.drop (k + 1)) = hi at HSEG ⊢
        generalize rd cuts (k : Int) = x at *
        generalize CpM.hasB (l0_0.map toP) x = ha at HA HKP
        generalize CpM.hasB (l1_0.map toP) x = hb' at HBB HKP
        clear hhi hw
        go_wp2
        go_region_held3 (fun w' => w'.cell? ⟨w.heap.size, 0, none⟩ = some (.slice A0_0 l0_0.length c0_0) ∧ w'.cell? ⟨w.heap.size + 1, 0, none⟩ = some (.slice A1_0 l1_0.length c1_0) ∧ w'.cell? (ad.add k) = some (.int .i64 x)) (first | go_keep | (go_split_ands; refine ⟨?_, ?_, ?_⟩; (refine pw_cell_below hb ?_; assumption); (refine pw_cell_below hb ?_; assumption); (refine pw_cell_below hb ?_; assumption)))
          (first | (go_at_call 29; (with_reducible refine (unicodetextref02_Has.calls ((l0_0).length + 1) A0_0 c0_0 l0_0 x _ _ ?s1 HCA.out HA.out).mono ?_); (case s1 => exact Kd.C_below HRA2.out (by repeat (first | (with_reducible first | exact HB.out | apply below_alloc | apply pw_below_drewN | apply below_drew1) | exact HB.out))); rintro e w1 ⟨rfl, hb⟩; have n0_ := Aside0.mk (below_step (by repeat (first | (with_reducible first | exact HB.out | apply below_alloc | apply pw_below_drewN | apply below_drew1) | exact HB.out)) hb); have n4_ := Aside0.mk (blk_below (by (with_reducible repeat (first | refine blk_drewN ?_ _ | refine blk_drew ?_ | refine blk_alloc ?_ _)); exact BO.out) hb); have n6_ := Aside0.mk (Kd.R_below (by (with_reducible repeat (first | apply Kd.R_alloc | apply Kd.R_drewN | apply Kd.R_drew)); exact HO.out) hb); clear HB BO HO; have HB := n0_; have BO := n4_; have HO := n6_; clear n0_ n4_ n6_) | (go_at_call 29; (with_reducible refine (unicodetextref02_Has.calls ((l1_0).length + 1) A1_0 c1_0 l1_0 x _ _ ?s2 HCB.out HBB.out).mono ?_); (case s2 => exact Kd.C_below HRB2.out (by repeat (first | (with_reducible first | exact HB.out | apply below_alloc | apply pw_below_drewN | apply below_drew1) | exact HB.out))); rintro e w1 ⟨rfl, hb⟩; have n0_ := Aside0.mk (below_step (by repeat (first | (with_reducible first | exact HB.out | apply below_alloc | apply pw_below_drewN | apply below_drew1) | exact HB.out)) hb); have n4_ := Aside0.mk (blk_below (by (with_reducible repeat (first | refine blk_drewN ?_ _ | refine blk_drew ?_ | refine blk_alloc ?_ _)); exact BO.out) hb); have n6_ := Aside0.mk (Kd.R_below (by (with_reducible repeat (first | apply Kd.R_alloc | apply Kd.R_drewN | apply Kd.R_drew)); exact HO.out) hb); clear HB BO HO; have HB := n0_; have BO := n4_; have HO := n6_; clear n0_ n4_ n6_) | (go_at_call 90; (with_reducible refine (unicodetextref02_keeps.calls a2 _ _ kx _ HKP.out).mono ?_); rintro e w1 ⟨rfl, ⟨nd, rfl⟩⟩))
        have n0_ := Aside0.mk (pw_below_drewN HB.out nd)
        have n1_ := Aside0.mk (blk_drewN BO.out nd)
        have n2_ := Aside0.mk (Kd.R_drewN HO.out nd)
        clear HB BO HO
        generalize w1.drewN nd = W at n0_ n1_ n2_ ⊢
        have HB := n0_
        have BO := n1_
        have HO := n2_
        clear n0_ n1_ n2_
        have hc0 := (HB.out.cell (World.block_lt_of_cell? w2 _ HX0.out)).trans HX0.out
        have hw : wrap64 ((k : Int) + 1) = (k : Int) + 1 := by have := HLC.out; unfold wrap64; omega
        have hvc := (blk_cell BO.out 0).trans rfl
        have hvf := blk_frozen BO.out 0
        obtain ⟨Av, cv, ev⟩ := Kd.R_slice HO.out
        subst ev
        cases kx with
        | false => cases cur with
          | none =>
            have HX : Aside0 (combS l0_0 l1_0 a2 = dn.map toP ++ CpM.runs (keepAB l0_0 l1_0 a2) none (CpM.segs (cuts.drop (k + 1)))) := ⟨by rw [HS.out, HSEG.out]; show _ ++ CpM.runs _ none _ = _; rw [CpM.runs, HKX.out, if_neg (by decide)]⟩
            go_wp2
            go_roundw
            case rel => exact ⟨k + 1, _, dn, none, rfl, by rw [hw]; rfl, ⟨hlt⟩, ⟨Nat.le_succ_of_le HKL.out⟩, HX, HO, BO, HB⟩
            case measure => rw [hw]; simp only [intOf]; omega
          | some q =>
            have HX : Aside0 (combS l0_0 l1_0 a2 = (dn ++ [q]).map toP ++ CpM.runs (keepAB l0_0 l1_0 a2) none (CpM.segs (cuts.drop (k + 1)))) := ⟨by rw [HS.out, HSEG.out]; show _ ++ CpM.runs _ (some (toP q)) _ = _; rw [CpM.runs, HKX.out, if_neg (by decide), List.map_append, List.append_assoc]; rfl⟩
            go_wp2
            go_roundw
            case rel => exact ⟨k + 1, _, dn ++ [q], none, rfl, by rw [hw]; rfl, ⟨hlt⟩, ⟨by have := HKL.out; simp at this ⊢; omega⟩, HX, ⟨by have := HO.out; simpa using this⟩, ⟨by have := BO.out; simpa using this⟩, HB⟩
            case measure => rw [hw]; simp only [intOf]; omega
        | true => cases cur with
          | none =>
            have HX : Aside0 (combS l0_0 l1_0 a2 = dn.map toP ++ CpM.runs (keepAB l0_0 l1_0 a2) (some (toP ⟨x, hi⟩)) (CpM.segs (cuts.drop (k + 1)))) := ⟨by rw [HS.out, HSEG.out]; show _ ++ CpM.runs _ none _ = _; rw [CpM.runs, HKX.out, if_pos rfl]; rfl⟩
            have hnn : dn ++ (none : Option Rg).toList = dn := List.append_nil dn
            rw [hnn] at HO BO HKL hvc
            clear hnn
            have hvc4 : (W.alloc (.cells #[.int .i64 x, .int .i64 hi] 33)).cell? ⟨w2.heap.size, 0, none⟩ = some (.slice Av dn.length cv) := pw_cell_below (below_alloc (Below.refl _ W) _) hvc
            go_wp2
            go_region_law ((refine Kd.R_append_step kRg (w0 := w2) w2.heap.size (by rfl) (.tmp 67) (.tmp 74) 23 33 (.agg #[.int .i64 0, .int .i64 0]) 16 (by rfl) Try.underlying23 info33 rfl (by decide) (by omega) _ dn ⟨x, hi⟩ [.int .i64 x, .int .i64 hi] (fun _ => True) (fun _ => False) (by rfl) (by first | (go_simp; done) | (go_simp; rfl)) (k33_mkM _ _ _ ⟨x, hi⟩) (fun _ h => h.elim) (fun _ _ => trivial) (Kd.R_drew HO.out) (below_drew1 HB.out) (by have := HB.out.size; simp; omega) (by have h1_ := HKL.out; have h2_ := HLC.out; omega) ?_; intro v1 w3 ho hb3 hg hat; obtain ⟨Av3, cv3, ev3⟩ := Kd.R_slice ho; subst ev3; have HO1 := Aside0.mk ho; have HB3 := Aside0.mk hb3; have BO1 := Aside0.mk (blk_grown (blk_drew BO.out) hg (Kd.R_ne (Kd.R_drew HO.out) (blk_drew BO.out) (by decide))); have hbc3 := (blk_cell BO1.out 0).trans rfl; have hbf3 := blk_frozen BO1.out 0; clear ho hb3 hg hat))
            all_goals go_wp2
            all_goals (go_roundw; (case rel => exact ⟨k + 1, .slice Av3 (dn.length + 1) cv3, dn, some ⟨x, hi⟩, rfl, by rw [hw]; rfl, ⟨hlt⟩, ⟨by have := HKL.out; simp only [Option.toList_some, List.length_append, List.length_singleton]; omega⟩, HX, ⟨by have h1_ := Kd.R_set HO1.out BO1.out (by decide) 0 (.slice Av3 (dn.length + 1) cv3); rw [List.length_append, List.length_singleton] at h1_; exact h1_⟩, ⟨blk_put BO1.out 0 _ rfl⟩, ⟨HB3.out.setCell (Nat.le_refl _) _⟩⟩); (case measure => rw [hw]; simp only [intOf]; omega))
          | some q =>
            have HX : Aside0 (combS l0_0 l1_0 a2 = dn.map toP ++ CpM.runs (keepAB l0_0 l1_0 a2) (some (toP ⟨q.f0, hi⟩)) (CpM.segs (cuts.drop (k + 1)))) := ⟨by rw [HS.out, HSEG.out]; show _ ++ CpM.runs _ (some (toP q)) _ = _; rw [CpM.runs, HKX.out, if_pos rfl]; rfl⟩
            have hmm : dn ++ (some q).toList = dn ++ [q] := rfl
            rw [hmm] at HO BO HKL hvc
            clear hmm
            have hmi : (dn ++ [q])[dn.length]? = some q := by simp
            obtain ⟨_, _, ⟨_, hz⟩ | ⟨g, co, cu, hv, hbg, _⟩⟩ := R_own_iff.1 HO.out
            · simp at hz
            cases hv
            have hcs := R_cells HO.out hmi
            obtain ⟨hq0, hq1, hqf⟩ := hcs
            have HG := Aside0.mk hbg
            have HMI := Aside0.mk hmi
            have hlen3 : (dn ++ [q]).length = dn.length + 1 := by simp
            obtain ⟨n, hn⟩ : ∃ n, (dn ++ [q]).length = n := ⟨_, rfl⟩
            obtain ⟨J, hJ⟩ : ∃ J : Int, (dn.length : Int) = J := ⟨_, rfl⟩
            have hJn : J.toNat = dn.length := by omega
            rw [← hJn] at hq0 hq1 hqf
            rw [hn] at HO BO HKL hvc
            have hb1 : (0 ≤ J) = True := eq_true (by omega)
            have hb2 : (J < (n : Int)) = True := eq_true (by omega)
            have hw2 : wrap64 ((n : Int) - 1) = J := by have h_ := HKL.out; have h2_ := HLC.out; unfold wrap64; omega
            have hw4 : IntKind.i64.wrap ((n : Int) - 1) = J := by have h_ := HKL.out; have h2_ := HLC.out; rw [IntWalk.i64_in _ (by omega)]; omega
            have HJ := Aside0.mk hJn
            have HNN := Aside0.mk hn
            clear hmi hbg hlen3 hn hJ hJn
            have hdc := Aside0.mk (Kd.R_ne HO.out BO.out (by decide))
            go_wp2
            go_roundw
            case rel =>
              have h1 := R_set_hi (y := hi) HO.out HMI.out
              have e : (dn ++ [q]).set dn.length ⟨q.f0, hi⟩ = dn ++ [⟨q.f0, hi⟩] := by simp
              rw [e] at h1
              rw [HJ.out]
              refine ⟨k + 1, _, dn, some ⟨q.f0, hi⟩, rfl, by rw [hw]; rfl, ⟨hlt⟩, ⟨?_⟩, HX, ⟨h1⟩, ⟨?_⟩, ⟨HB.out.setCell HG.out _⟩⟩
              · have := HKL.out; have := HNN.out; simp only [Option.toList_some, List.length_append, List.length_singleton] at *; omega
              · exact blk_far BO.out (by have := hdc.out; simpa [Value.ownBlock] using this) _
            case measure => rw [hw]; simp only [intOf]; omega
    · obtain rfl : k = cuts.length := by have := HK.out; omega
      have hbc := (blk_cell BO.out 0).trans rfl
      have hbr := blk_below BR.out HB.out
      have hbrc : wr.cell? ⟨w.heap.size + 1 + 1, 0, none⟩ = some (.slice none 0 0) := (blk_cell hbr 0).trans rfl
      have hbrf := blk_frozen hbr 0
      have HBR := Aside0.mk hbr
      have hfin : dn ++ cur.toList = r := by
        have h1 := HS.out
        rw [List.drop_length] at h1
        have h2 : CpM.runs (keepAB l0_0 l1_0 a2) (cur.map toP) (CpM.segs []) = cur.toList.map toP := by cases cur <;> rfl
        rw [h2, ← List.map_append] at h1
        rw [← HN.out.2, h1, ofP_toP]
      have HF := Aside0.mk hfin
      clear hfin hbr
      clear HS HKL
      generalize dn ++ cur.toList = out at *
      obtain ⟨Av, cv, ev⟩ := Kd.R_slice HO.out
      subst ev
      go_wp2
      refine bodyPost_ret (results_cell_row rfl _ _ (w.heap.size + 1 + 1) 25 #[.slice Av out.length cv] (0, 0) _ rfl (blk_put (cs := #[.slice none 0 0]) HBR.out 0 _ rfl) Try.underlying25 rfl (by kernel_rfl)) rfl ?_
      refine ⟨_, rfl, ?_, ?_⟩
      · rw [← HF.out]
        exact Kd.R_lower (Kd.R_set HO.out HBR.out (by decide) 0 _) HBW.out.size
      · exact (below_step HBW.out HB.out).setCell (by show w.heap.size ≤ w.heap.size + 1 + 1; omega) _
end Go.Proofs.Ythnkmcfhpjmihaa.Q
end
section
namespace Go.Proofs.Ythnkmcfhpjmihaa.Q
open Go.RowKit Go.Proofs.YthnkmcfhpjmihaaW.PrintWords Go.Proofs.YthnkmcfhpjmihaaW.PrintLast Go.Proofs.YthnkmcfhpjmihaaW.PrintMore
attribute [local go_sem] max2_int min2_int max_two min_two max_three min_three max_four min_four   -- for this text's walks alone
set_option linter.unusedVariables false
set_option linter.unusedSimpArgs false
def unicodetextref02_Make.f (l0 : List (S33)) : Option ((List (S33))) := (unicodetextref02_combine.f l0 ([] : List (S33)) 1).bind fun t271 => (some t271)
set_option maxHeartbeats 8000000 in
set_option maxRecDepth 100000 in
theorem unicodetextref02_Make.calls (A0 : Option Addr) (c0 : Nat) (l0 : List (S33)) (r : List (S33)) (w : World) (hr0 : Kd.C k33 w A0 l0.length l0) (hc0 : l0.length ≤ c0) (h : unicodetextref02_Make.f l0 = some r) :
    Calls Try.prog 60 #[.slice A0 l0.length c0] w fun e w' => ∃ v0_ : Value, e = .returned (.agg #[v0_]) ∧ Kd.R k33 33 w' w.heap.size (fun _ => True) v0_ r ∧ Below w.heap.size w w' := by
  have hu25 := Try.underlying25
  have HR0 := Aside0.mk hr0
  have HC0 := Aside0.mk hc0
  clear hr0 hc0
  have HB := Aside0.mk (Below.refl w.heap.size w)
  have H : ((unicodetextref02_combine.f l0 ([] : List (S33)) 1).bind fun t271 => (some t271)) = some r := h
  clear h
  replace H := Option.bind_eq_some_iff.mp H
  obtain ⟨t271, A20, H⟩ := H
  replace H : (some t271) = some r := H
  have A2 := Aside0.mk A20
  clear A20
  obtain rfl := Option.some.inj H
  go_enter Try.func60, Try.ntmps60
  go_wp2_with (first | ((with_reducible refine gate_dst (N := 2) rfl ?_); refine box_event ?hg (N := 2) ?hd (cs := #[.slice none 0 0]) (t := 25) ?hr ?_; (case hd => rfl); (case hg => rfl); (case hr => first | (go_simp; done) | (go_simp; rfl)); intro gb270 hg w3 hbox hb; have n0_ := Aside0.mk (below_step (by repeat (first | (with_reducible first | exact HB.out | apply below_alloc | apply pw_below_drewN | apply below_drew1) | exact HB.out)) hb); have n1_ := Aside0.mk (hbox); have n2_ := Aside0.mk ((by rw [hg]; exact (below_size (by repeat (first | (with_reducible first | exact HB.out | apply below_alloc | apply pw_below_drewN | apply below_drew1) | exact HB.out))) : w.heap.size ≤ gb270)); have n3_ := Aside0.mk ((by rw [hg]; exact (below_size (by repeat (first | (with_reducible first | exact HB.out | apply below_alloc | apply pw_below_drewN | apply below_drew1) | exact HB.out))) : w.heap.size ≤ gb270)); clear HB; have HB := n0_; have BK270 := n1_; have GW270 := n2_; have GE270 := n3_; clear n0_ n1_ n2_ n3_; clear hb hbox hg) | ((with_reducible refine gate_callee (f := 77) rfl ?_); refine goesL_ (some 6) rfl rfl Try.func77 (by kernel_rfl) rfl #[.agg #[.slice A0 l0.length c0], .agg #[.slice none 0 0], .int .i64 1] rfl (by (try simp only [List.map_toArray, List.map_cons, List.map_nil]); first | done | rfl | (simp only [List.length_drop, List.length_take]; rfl)) ?_; (refine (unicodetextref02_combine.calls _ _ l0 _ _ ([] : List (S33)) 1 t271 _ ?side1 ?side2 ?side3 ?side4 A2.out).mono ?_); (case side1 => repeat (first | exact (Kd.C_below HR0.out HB.out) | (with_reducible refine Kd.C_alloc ?_ _) | (with_reducible refine Kd.C_drewN ?_ _) | (with_reducible refine Kd.C_drew ?_))); (case side2 => exact HC0.out); (case side3 => exact Kd.C_nil _ _); (case side4 => exact Nat.le_refl _); rintro e w4 ⟨v272, rfl, ho0, hb⟩; refine ⟨_, rfl, ?_⟩; have n0_ := Aside0.mk (Kd.R_lower ho0 (below_size (by repeat (first | (with_reducible first | exact HB.out | apply below_alloc | apply pw_below_drewN | apply below_drew1 | refine below_set ?_ GE270.out) | exact HB.out)))); have n1_ := Aside0.mk (blk_below (g := gb270) (o := .cells #[.slice none 0 0] 25 (0, 0)) (by (with_reducible repeat (first | refine blk_drewN ?_ _ | refine blk_drew ?_ | refine blk_alloc ?_ _)); exact BK270.out) hb); have n2_ := Aside0.mk (below_step (by repeat (first | (with_reducible first | exact HB.out | apply below_alloc | apply pw_below_drewN | apply below_drew1 | refine below_set ?_ GE270.out) | exact HB.out)) hb); clear BK270; clear HB; have HO273 := n0_; have BK270 := n1_; have HB := n2_; clear n0_ n1_ n2_; (try clear hb); (try clear hb2); (try clear hk); (try clear hi); (try clear ho0); obtain ⟨Ao5, co5, eo5⟩ := Kd.R_slice HO273.out; subst eo5; have hcz6_0 : w4.cell? ⟨gb270, 0, none⟩ = some (.slice none 0 0) := (blk_cell BK270.out 0).trans rfl; have hfz6_0 := blk_frozen BK270.out 0))
  refine bodyPost_ret (results_cell_row rfl _ _ gb270 25 #[.slice Ao5 t271.length co5] (0, 0) _ rfl (by (with_reducible repeat (first | refine blk_drewN ?_ _ | refine blk_drew ?_ | refine blk_alloc ?_ _)); refine blk_put (cs := #[.slice none 0 0]) ?_ 0 _ rfl; (with_reducible repeat (first | refine blk_drewN ?_ _ | refine blk_drew ?_ | refine blk_alloc ?_ _)); exact BK270.out) Try.underlying25 rfl (by kernel_rfl)) rfl ?_
  exact ⟨_, by first | rfl | (simp [errW_none, errW_some] <;> rfl) | (simp [*, errW_none, errW_some] <;> rfl), by (with_reducible repeat (first | apply Kd.R_alloc | apply Kd.R_drewN | apply Kd.R_drew)); exact Kd.R_mono (Kd.R_far (p := ⟨gb270, 0, none⟩) (Kd.R_types HO273.out BK270.out (by decide)) (fun _ hk => hk.2) (.slice Ao5 t271.length co5)) (fun _ hk => trivial), by repeat (first | (with_reducible first | exact HB.out | apply below_alloc | apply pw_below_drewN | apply below_drew1 | refine below_set ?_ GE270.out) | exact HB.out)⟩
def unicodetextref02_Valid.f (k : Nat) (l0_0 : List (S33)) : Option (Bool) := (unicodetextref02_Make.f l0_0).bind fun t275 => ((unicodetextref02_Same.f k l0_0 t275).bind fun t278 => (some t278))
set_option maxHeartbeats 8000000 in
set_option maxRecDepth 100000 in
theorem unicodetextref02_Valid.calls (k : Nat) (A0_0 : Option Addr) (c0_0 : Nat) (l0_0 : List (S33)) (r : Bool) (w : World) (hr0_0 : Kd.C k33 w A0_0 l0_0.length l0_0) (hc0_0 : l0_0.length ≤ c0_0) (h : unicodetextref02_Valid.f k l0_0 = some r) :
    Calls Try.prog 38 #[.agg #[.slice A0_0 l0_0.length c0_0]] w fun e w' => e = .returned (.bool r) ∧ Below w.heap.size w w' := by
  have hu25 := Try.underlying25
  have HR0_0 := Aside0.mk hr0_0
  have HC0_0 := Aside0.mk hc0_0
  clear hr0_0 hc0_0
  have HB := Aside0.mk (Below.refl w.heap.size w)
  have H : ((unicodetextref02_Make.f l0_0).bind fun t275 => ((unicodetextref02_Same.f k l0_0 t275).bind fun t278 => (some t278))) = some r := h
  clear h
  replace H := Option.bind_eq_some_iff.mp H
  obtain ⟨t275, A20, H⟩ := H
  replace H : ((unicodetextref02_Same.f k l0_0 t275).bind fun t278 => (some t278)) = some r := H
  have A2 := Aside0.mk A20
  clear A20
  replace H := Option.bind_eq_some_iff.mp H
  obtain ⟨t278, A30, H⟩ := H
  replace H : (some t278) = some r := H
  have A3 := Aside0.mk A30
  clear A30
  obtain rfl := Option.some.inj H
  go_enter Try.func38, Try.ntmps38
  try go_wp2_with (first | ((with_reducible refine gate_dst (N := 1) rfl ?_); refine box_event ?hg (N := 1) ?hd (cs := #[.slice A0_0 l0_0.length c0_0]) (t := 25) ?hr ?_; (case hd => rfl); (case hg => rfl); (case hr => first | (go_simp; done) | (go_simp; rfl)); intro gb274 hg w4 hbox hb; have n0_ := Aside0.mk (below_step (by repeat (first | (with_reducible first | exact HB.out | apply below_alloc | apply pw_below_drewN | apply below_drew1) | exact HB.out)) hb); have n1_ := Aside0.mk (hbox); have n2_ := Aside0.mk ((by rw [hg]; exact (below_size (by repeat (first | (with_reducible first | exact HB.out | apply below_alloc | apply pw_below_drewN | apply below_drew1) | exact HB.out))) : w.heap.size ≤ gb274)); have n3_ := Aside0.mk ((by rw [hg]; exact (below_size (by repeat (first | (with_reducible first | exact HB.out | apply below_alloc | apply pw_below_drewN | apply below_drew1) | exact HB.out))) : w.heap.size ≤ gb274)); clear HB; have HB := n0_; have BK274 := n1_; have GW274 := n2_; have GE274 := n3_; clear n0_ n1_ n2_ n3_; clear hb hbox hg))
  have n0_ := Aside0.mk (blk_drew BK274.out)
  have n1_ := Aside0.mk (below_drew1 HB.out)
  clear BK274
  clear HB
  have BK274 := n0_
  have HB := n1_
  clear n0_ n1_
  refine start_ (n := 6) (S := fun w' => w'.cell? ⟨gb274, 0, none⟩ = some (.slice A0_0 l0_0.length c0_0)) (ds := []) #[false, false, false, false, false, false] (by kernel_rfl) rfl rfl ((blk_cell BK274.out 0).trans rfl) (fun hHeld => ?_)
  generalize w4.drew = w5 at BK274 HB hHeld ⊢
  refine pure_ (i := 1) (N := some 4) (v := ?_) (a' := ?_) #[false, true, false, false, false, false] rfl rfl (by kernel_rfl) (fun _ _ _ h => h) (Or.inl ⟨by rfl, ?_⟩) ?_ ?_
  rotate_left
  · intro w'
    go_simp
    with_reducible rfl
  rotate_left
  · simp only [Act.put, List.setIfInBounds_toArray, List.set_cons_zero, List.set_cons_succ, i64_w, i32_w]
    rfl
  refine take_ (i := 0) (N := some 3) (v := ?_) (a' := ?_) #[true, true, false, false, false, false] rfl rfl (by kernel_rfl) (fun _ _ _ h => h) (Or.inl ⟨by rfl, ?_⟩) hHeld ?_ ?_
  rotate_left
  · intro w' s0
    go_simp
    with_reducible rfl
  rotate_left
  · simp only [Act.put, List.setIfInBounds_toArray, List.set_cons_zero, List.set_cons_succ, i64_w, i32_w]
    rfl
  refine take_ (i := 2) (N := some 5) (v := ?_) (a' := ?_) #[true, true, true, false, false, false] rfl rfl (by kernel_rfl) (fun _ _ _ h => h) (Or.inl ⟨by rfl, ?_⟩) hHeld ?_ ?_
  rotate_left
  · intro w' s0
    go_simp
    with_reducible rfl
  rotate_left
  · simp only [Act.put, List.setIfInBounds_toArray, List.set_cons_zero, List.set_cons_succ, i64_w, i32_w]
    rfl
  refine one_ (i := 3) (N := some 6) #[true, true, true, true, false, false] rfl rfl (by kernel_rfl) (by decide) (fun K hK => ?_)
  refine goes_ Try.func60 (by kernel_rfl) rfl #[.slice A0_0 l0_0.length c0_0] (by rfl) rfl rfl (by (try simp only [List.map_toArray, List.map_cons, List.map_nil]); first | done | rfl | (simp only [List.length_drop, List.length_take]; rfl)) ?_
  with_reducible refine (unicodetextref02_Make.calls _ _ l0_0 t275 _ ?side1 ?side2 A2.out).mono ?_
  (case side1 => repeat (first | exact (Kd.C_below HR0_0.out HB.out) | (with_reducible refine Kd.C_alloc ?_ _) | (with_reducible refine Kd.C_drewN ?_ _) | (with_reducible refine Kd.C_drew ?_)))
  (case side2 => exact HC0_0.out)
  rintro e w6 ⟨v276, rfl, ho0, hb⟩
  refine ⟨_, rfl, ?_⟩
  have n0_ := Aside0.mk (Kd.R_lower ho0 (below_size (by repeat (first | (with_reducible first | exact HB.out | apply below_alloc | apply pw_below_drewN | apply below_drew1 | refine below_set ?_ GE274.out) | exact HB.out))))
  have n1_ := Aside0.mk (blk_below (g := gb274) (o := .cells #[.slice A0_0 l0_0.length c0_0] 25 (0, 0)) (by (with_reducible repeat (first | refine blk_drewN ?_ _ | refine blk_drew ?_ | refine blk_alloc ?_ _)); exact BK274.out) hb)
  have n2_ := Aside0.mk (below_step (by repeat (first | (with_reducible first | exact HB.out | apply below_alloc | apply pw_below_drewN | apply below_drew1 | refine below_set ?_ GE274.out) | exact HB.out)) hb)
  clear BK274
  clear HB
  have HO277 := n0_
  have BK274 := n1_
  have HB := n2_
  clear n0_ n1_ n2_
  (try clear hb)
  (try clear hb2)
  (try clear hk)
  (try clear hi)
  (try clear ho0)
  obtain ⟨Ao7, co7, eo7⟩ := Kd.R_slice HO277.out
  (first | subst eo7 | (injection eo7 with f1_ f2_ f3_; have f4_ := f1_.symm; have f5_ := f3_.symm; clear f1_ f2_ f3_; subst f4_; subst f5_))
  refine hK.out _ _ ((blk_cell BK274.out 0).trans rfl) (fun hHeld => ?_)
  clear hK K
  refine norm_ (a' := ?_) ?_ ?_
  rotate_left
  · show Act.put _ (some 6) _ = _
    simp only [Act.put, List.setIfInBounds_toArray, List.set_cons_zero, List.set_cons_succ, i64_w, i32_w]
    rfl
  refine one_ (i := 4) (N := some 7) #[true, true, true, true, true, false] rfl rfl (by kernel_rfl) (by decide) (fun K hK => ?_)
  refine goes_ Try.func59 (by kernel_rfl) rfl #[.agg #[.slice A0_0 l0_0.length c0_0], .agg #[.slice Ao7 t275.length co7]] (by rfl) rfl rfl (by (try simp only [List.map_toArray, List.map_cons, List.map_nil]); first | done | rfl | (simp only [List.length_drop, List.length_take]; rfl)) ?_
  with_reducible refine (unicodetextref02_Same.calls k _ _ l0_0 _ _ t275 t278 _ ?side1 ?side2 ?side3 ?side4 A3.out).mono ?_
  (case side1 => repeat (first | exact (Kd.C_below HR0_0.out HB.out) | (with_reducible refine Kd.C_alloc ?_ _) | (with_reducible refine Kd.C_drewN ?_ _) | (with_reducible refine Kd.C_drew ?_)))
  (case side2 => exact HC0_0.out)
  (case side3 => repeat (first | exact (Kd.R_reads' HO277.out).2.2 | (with_reducible refine Kd.C_alloc ?_ _) | (with_reducible refine Kd.C_drewN ?_ _) | (with_reducible refine Kd.C_drew ?_)))
  (case side4 => exact (Kd.R_reads' HO277.out).2.1)
  rintro e w8 ⟨rfl, hb⟩
  refine ⟨_, rfl, ?_⟩
  have n0_ := Aside0.mk (Kd.R_below (by (with_reducible repeat (first | apply Kd.R_alloc | apply Kd.R_drewN | apply Kd.R_drew)); exact HO277.out) hb)
  have n1_ := Aside0.mk (blk_below (g := gb274) (o := .cells #[.slice A0_0 l0_0.length c0_0] 25 (0, 0)) (by (with_reducible repeat (first | refine blk_drewN ?_ _ | refine blk_drew ?_ | refine blk_alloc ?_ _)); exact BK274.out) hb)
  have n2_ := Aside0.mk (below_step (by repeat (first | (with_reducible first | exact HB.out | apply below_alloc | apply pw_below_drewN | apply below_drew1 | refine below_set ?_ GE274.out) | exact HB.out)) hb)
  clear HO277
  clear BK274
  clear HB
  have HO277 := n0_
  have BK274 := n1_
  have HB := n2_
  clear n0_ n1_ n2_
  (try clear hb)
  (try clear hb2)
  (try clear hk)
  (try clear hi)
  refine hK.out _ _ ((blk_cell BK274.out 0).trans rfl) (fun hHeld => ?_)
  clear hK K
  refine norm_ (a' := ?_) ?_ ?_
  rotate_left
  · show Act.put _ (some 7) _ = _
    simp only [Act.put, List.setIfInBounds_toArray, List.set_cons_zero, List.set_cons_succ, i64_w, i32_w]
    rfl
  refine pure_ (i := 5) (N := some 2) (v := ?_) (a' := ?_) #[true, true, true, true, true, true] rfl rfl (by kernel_rfl) (fun _ _ _ h => h) (Or.inl ⟨by rfl, ?_⟩) ?_ ?_
  rotate_left
  · intro w'
    go_simp
    with_reducible rfl
  rotate_left
  · simp only [Act.put, List.setIfInBounds_toArray, List.set_cons_zero, List.set_cons_succ, i64_w, i32_w]
    rfl
  refine done_ (by kernel_rfl) ?_
  try go_wp2
  go_ret
  exact ⟨by first | rfl | (simp [errW_none, errW_some] <;> rfl) | (simp [*, errW_none, errW_some] <;> rfl), by repeat (first | (with_reducible first | exact HB.out | apply below_alloc | apply pw_below_drewN | apply below_drew1 | refine below_set ?_ GE274.out) | exact HB.out)⟩
end Go.Proofs.Ythnkmcfhpjmihaa.Q
end
section
namespace Go.Proofs.Ythnkmcfhpjmihaa.Q
open Go.RowKit Go.Proofs.YthnkmcfhpjmihaaW.PrintWords Go.Proofs.YthnkmcfhpjmihaaW.PrintLast Go.Proofs.YthnkmcfhpjmihaaW.PrintMore
attribute [local go_sem] max2_int min2_int max_two min_two max_three min_three max_four min_four   -- for this text's walks alone
set_option linter.unusedVariables false
set_option linter.unusedSimpArgs false
mutual
def unicodetextref37_Check.l0 : Nat → List (List (S43)) → Int → List (S43) → List (S43) → List (S43) → List (S43) → List (S33) → List (S33) → Option (Int)
  | 0, _, _, _, _, _, _, _, _ => none
  | k + 1, x3, x4, x280000, x280001, x280002, x280003, x280004, x280005 => if x4 < (x3.length : Int) then (if 0 ≤ x4 then ((unicodetextref11_Check.f k (rd_L5 x3 x4)).bind fun t284 => (if t284 = 0 then (unicodetextref37_Check.l0 k x3 (wrap64 (x4 + 1)) x280000 x280001 x280002 x280003 x280004 x280005) else (some t284))) else (none)) else ((unicodetextref37_tagged.f k x280000 (⟨#[102, 105, 110, 97, 108]⟩ : ByteArray)).bind fun t285 => (if t285 = true then (unicodetextref37_Check.j1 k true x280000 x280001 x280002 x280003 x280004 x280005) else ((unicodetextref37_tagged.f k x280001 (⟨#[]⟩ : ByteArray)).bind fun t286 => (if t286 = true then (unicodetextref37_Check.j1 k true x280000 x280001 x280002 x280003 x280004 x280005) else ((unicodetextref37_tagged.f k x280002 (⟨#[]⟩ : ByteArray)).bind fun t287 => (if t287 = true then (unicodetextref37_Check.j1 k true x280000 x280001 x280002 x280003 x280004 x280005) else ((unicodetextref37_tagged.f k x280003 (⟨#[]⟩ : ByteArray)).bind fun t288 => (unicodetextref37_Check.j1 k t288 x280000 x280001 x280002 x280003 x280004 x280005))))))))
def unicodetextref37_Check.j1 : Nat → Bool → List (S43) → List (S43) → List (S43) → List (S43) → List (S33) → List (S33) → Option (Int)
  | 0, _, _, _, _, _, _, _ => none
  | k + 1, x46, x280000, x280001, x280002, x280003, x280004, x280005 => if x46 = true then (some 6) else ((unicodetextref02_Valid.f k x280004).bind fun t289 => (if t289 = true then ((unicodetextref02_Valid.f k x280005).bind fun t290 => (if t290 = true then (some 0) else (some 11))) else (some 11)))
end
def unicodetextref37_Check.f (k : Nat) (l0_0 : List (S43)) (l0_1 : List (S43)) (l0_2 : List (S43)) (l0_3 : List (S43)) (l0_4 : List (S33)) (l0_5 : List (S33)) : Option (Int) := unicodetextref37_Check.l0 k (([l0_0, l0_1, l0_2, l0_3] : List (List (S43)))) 0 l0_0 l0_1 l0_2 l0_3 l0_4 l0_5
set_option maxHeartbeats 8000000 in
set_option maxRecDepth 100000 in
theorem unicodetextref37_Check.calls (k : Nat) (P0_0_ : Nat → Prop) (A0_0 : Option Addr) (c0_0 : Nat) (l0_0 : List (S43)) (P0_1_ : Nat → Prop) (A0_1 : Option Addr) (c0_1 : Nat) (l0_1 : List (S43)) (P0_2_ : Nat → Prop) (A0_2 : Option Addr) (c0_2 : Nat) (l0_2 : List (S43)) (P0_3_ : Nat → Prop) (A0_3 : Option Addr) (c0_3 : Nat) (l0_3 : List (S43)) (A0_4 : Option Addr) (c0_4 : Nat) (l0_4 : List (S33)) (A0_5 : Option Addr) (c0_5 : Nat) (l0_5 : List (S33)) (r : Int) (w : World) (hs0_0 : Kd.V k43 43 w w.heap.size (fun k_ => P0_0_ k_) (.slice A0_0 l0_0.length c0_0) l0_0) (hs0_1 : Kd.V k43 43 w w.heap.size (fun k_ => P0_1_ k_) (.slice A0_1 l0_1.length c0_1) l0_1) (hs0_2 : Kd.V k43 43 w w.heap.size (fun k_ => P0_2_ k_) (.slice A0_2 l0_2.length c0_2) l0_2) (hs0_3 : Kd.V k43 43 w w.heap.size (fun k_ => P0_3_ k_) (.slice A0_3 l0_3.length c0_3) l0_3) (hr0_4 : Kd.C k33 w A0_4 l0_4.length l0_4) (hc0_4 : l0_4.length ≤ c0_4) (hr0_5 : Kd.C k33 w A0_5 l0_5.length l0_5) (hc0_5 : l0_5.length ≤ c0_5) (h : unicodetextref37_Check.f k l0_0 l0_1 l0_2 l0_3 l0_4 l0_5 = some r) :
    Calls Try.prog 17 #[.agg #[.slice A0_0 l0_0.length c0_0, .slice A0_1 l0_1.length c0_1, .slice A0_2 l0_2.length c0_2, .slice A0_3 l0_3.length c0_3, .slice A0_4 l0_4.length c0_4, .slice A0_5 l0_5.length c0_5]] w fun e w' => e = .returned (.int .i64 r) ∧ Below w.heap.size w w' := by
  have hu27 := Try.underlying27
  have hu25 := Try.underlying25
  have HO0_0 := Aside0.mk (show Kd.V k43 43 w w.heap.size (fun k_ => ((P0_0_ k_ ∨ P0_1_ k_ ∨ P0_2_ k_ ∨ P0_3_ k_) ∨ w.heap.size ≤ k_)) (.slice A0_0 l0_0.length c0_0) l0_0 from Kd.V_mono hs0_0 (fun k_ hk => .inl (.inl hk)))
  have HO0_1 := Aside0.mk (show Kd.V k43 43 w w.heap.size (fun k_ => ((P0_0_ k_ ∨ P0_1_ k_ ∨ P0_2_ k_ ∨ P0_3_ k_) ∨ w.heap.size ≤ k_)) (.slice A0_1 l0_1.length c0_1) l0_1 from Kd.V_mono hs0_1 (fun k_ hk => .inl (.inr (.inl hk))))
  have HO0_2 := Aside0.mk (show Kd.V k43 43 w w.heap.size (fun k_ => ((P0_0_ k_ ∨ P0_1_ k_ ∨ P0_2_ k_ ∨ P0_3_ k_) ∨ w.heap.size ≤ k_)) (.slice A0_2 l0_2.length c0_2) l0_2 from Kd.V_mono hs0_2 (fun k_ hk => .inl (.inr (.inr (.inl hk)))))
  have HO0_3 := Aside0.mk (show Kd.V k43 43 w w.heap.size (fun k_ => ((P0_0_ k_ ∨ P0_1_ k_ ∨ P0_2_ k_ ∨ P0_3_ k_) ∨ w.heap.size ≤ k_)) (.slice A0_3 l0_3.length c0_3) l0_3 from Kd.V_mono hs0_3 (fun k_ hk => .inl (.inr (.inr (.inr hk)))))
  have HR0_4 := Aside0.mk hr0_4
  have HC0_4 := Aside0.mk hc0_4
  clear hr0_4 hc0_4
  have HR0_5 := Aside0.mk hr0_5
  have HC0_5 := Aside0.mk hc0_5
  clear hr0_5 hc0_5
  have HB := Aside0.mk (Below.refl w.heap.size w)
  have H : (unicodetextref37_Check.l0 k (([l0_0, l0_1, l0_2, l0_3] : List (List (S43)))) 0 l0_0 l0_1 l0_2 l0_3 l0_4 l0_5) = some r := h
  clear h
  obtain ⟨y280, hy280⟩ : ∃ y_ : List (List (S43)), y_ = (([l0_0, l0_1, l0_2, l0_3] : List (List (S43)))) := ⟨_, rfl⟩
  replace H : (unicodetextref37_Check.l0 k y280 0 l0_0 l0_1 l0_2 l0_3 l0_4 l0_5) = some r := by first | (rw [hy280]; with_reducible exact H) | (have H2_ := (Option.bind_some _ _).symm.trans H; rw [hy280]; with_reducible exact H2_) | (have H2_ := (Option.bind_some _ _).symm.trans H; with_reducible exact H2_) | with_reducible exact H | (rw [hy280]; exact H) | exact H
  have Ny280 := Aside0.mk hy280
  clear hy280
  have H' := Aside0.mk H
  clear H
  go_enter Try.func17, Try.ntmps17
  go_wp2_with (first | ((with_reducible refine gate_dst (N := 1) rfl ?_); refine box_event ?hg (N := 1) ?hd (cs := #[.slice A0_0 l0_0.length c0_0, .slice A0_1 l0_1.length c0_1, .slice A0_2 l0_2.length c0_2, .slice A0_3 l0_3.length c0_3, .slice A0_4 l0_4.length c0_4, .slice A0_5 l0_5.length c0_5]) (t := 27) ?hr ?_; (case hd => rfl); (case hg => rfl); (case hr => first | (go_simp; done) | (go_simp; rfl)); intro gb279 hg w2 hbox hb; have n0_ := Aside0.mk (Kd.V_below (Kd.V_elderB (by (with_reducible repeat (first | apply Kd.V_alloc | apply Kd.V_drewN | apply Kd.V_drew)); exact HO0_0.out) gb279 (Nat.le_of_eq hg.symm)) hb); have n1_ := Aside0.mk (Kd.V_below (Kd.V_elderB (by (with_reducible repeat (first | apply Kd.V_alloc | apply Kd.V_drewN | apply Kd.V_drew)); exact HO0_1.out) gb279 (Nat.le_of_eq hg.symm)) hb); have n2_ := Aside0.mk (Kd.V_below (Kd.V_elderB (by (with_reducible repeat (first | apply Kd.V_alloc | apply Kd.V_drewN | apply Kd.V_drew)); exact HO0_2.out) gb279 (Nat.le_of_eq hg.symm)) hb); have n3_ := Aside0.mk (Kd.V_below (Kd.V_elderB (by (with_reducible repeat (first | apply Kd.V_alloc | apply Kd.V_drewN | apply Kd.V_drew)); exact HO0_3.out) gb279 (Nat.le_of_eq hg.symm)) hb); have n4_ := Aside0.mk (below_step (by repeat (first | (with_reducible first | exact HB.out | apply below_alloc | apply pw_below_drewN | apply below_drew1) | exact HB.out)) hb); have n5_ := Aside0.mk (hbox); have n6_ := Aside0.mk ((by rw [hg]; exact (below_size (by repeat (first | (with_reducible first | exact HB.out | apply below_alloc | apply pw_below_drewN | apply below_drew1) | exact HB.out))) : w.heap.size ≤ gb279)); have n7_ := Aside0.mk ((by rw [hg]; exact (below_size (by repeat (first | (with_reducible first | exact HB.out | apply below_alloc | apply pw_below_drewN | apply below_drew1) | exact HB.out))) : w.heap.size ≤ gb279)); clear HO0_0; clear HO0_1; clear HO0_2; clear HO0_3; clear HB; have HO0_0 := n0_; have HO0_1 := n1_; have HO0_2 := n2_; have HO0_3 := n3_; have HB := n4_; have BK279 := n5_; have GW279 := n6_; have GE279 := n7_; clear n0_ n1_ n2_ n3_ n4_ n5_ n6_ n7_; clear hb hbox hg; have hcz3_0 : w2.cell? ⟨gb279, 0, none⟩ = some (.slice A0_0 l0_0.length c0_0) := (blk_cell BK279.out 0).trans rfl; have hcz3_1 : w2.cell? ⟨gb279, 1, none⟩ = some (.slice A0_1 l0_1.length c0_1) := (blk_cell BK279.out 1).trans rfl; have hcz3_2 : w2.cell? ⟨gb279, 2, none⟩ = some (.slice A0_2 l0_2.length c0_2) := (blk_cell BK279.out 2).trans rfl; have hcz3_3 : w2.cell? ⟨gb279, 3, none⟩ = some (.slice A0_3 l0_3.length c0_3) := (blk_cell BK279.out 3).trans rfl; have hcz3_4 : w2.cell? ⟨gb279, 4, none⟩ = some (.slice A0_4 l0_4.length c0_4) := (blk_cell BK279.out 4).trans rfl; have hcz3_5 : w2.cell? ⟨gb279, 5, none⟩ = some (.slice A0_5 l0_5.length c0_5) := (blk_cell BK279.out 5).trans rfl; have hfz3_0 := blk_frozen BK279.out 0; have hfz3_1 := blk_frozen BK279.out 1; have hfz3_2 := blk_frozen BK279.out 2; have hfz3_3 := blk_frozen BK279.out 3; have hfz3_4 := blk_frozen BK279.out 4; have hfz3_5 := blk_frozen BK279.out 5) | ((with_reducible refine gate_dst (N := 14) rfl ?_); refine Kd.N_lit (Kd.slice 43 k43) _ 22 ?hg (N' := 14) ?hd (xs := ([l0_0, l0_1, l0_2, l0_3] : List (List (S43)))) (inner := [.slice A0_0 l0_0.length c0_0, .slice A0_1 l0_1.length c0_1, .slice A0_2 l0_2.length c0_2, .slice A0_3 l0_3.length c0_3]) (ok := (fun k_ => ((P0_0_ k_ ∨ P0_1_ k_ ∨ P0_2_ k_ ∨ P0_3_ k_) ∨ w.heap.size ≤ k_) ∧ k_ ≠ gb279)) (okp := (fun k_ => ((P0_0_ k_ ∨ P0_1_ k_ ∨ P0_2_ k_ ∨ P0_3_ k_) ∨ w.heap.size ≤ k_) ∧ k_ ≠ gb279)) ?hr ?hp (fun _ hk => hk) ((show ∀ k_, w2.heap.size ≤ k_ → (fun k_ => ((P0_0_ k_ ∨ P0_1_ k_ ∨ P0_2_ k_ ∨ P0_3_ k_) ∨ w.heap.size ≤ k_) ∧ k_ ≠ gb279) k_ from fun k_ hk => ⟨(.inr (Nat.le_trans (below_size (by repeat (first | (with_reducible first | exact HB.out | apply below_alloc | apply pw_below_drewN | apply below_drew1 | refine below_set ?_ GE279.out) | exact HB.out))) hk)), Kd.freshB (g := gb279) (o := .cells #[.slice A0_0 l0_0.length c0_0, .slice A0_1 l0_1.length c0_1, .slice A0_2 l0_2.length c0_2, .slice A0_3 l0_3.length c0_3, .slice A0_4 l0_4.length c0_4, .slice A0_5 l0_5.length c0_5] 27 (0, 0)) (by (with_reducible repeat (first | refine blk_drewN ?_ _ | refine blk_drew ?_ | refine blk_alloc ?_ _)); exact BK279.out) k_ hk⟩) _ (Nat.le_refl _)) (Below.refl _ _) (Nat.le_refl _) (by simp) ?_; (case hd => rfl); (case hg => rfl); (case hr => first | (go_simp; done) | (go_simp; rfl)); (case hp => exact (Reps.one (show Kd.FK (Kd.slice 43 k43) _ _ l0_0 [.slice A0_0 l0_0.length c0_0] from (Kd.FK_slice_mk (Kd.V_reads' (Kd.V_mono (ok' := (fun k_ => ((P0_0_ k_ ∨ P0_1_ k_ ∨ P0_2_ k_ ∨ P0_3_ k_) ∨ w.heap.size ≤ k_) ∧ k_ ≠ gb279)) (HO0_0.out) (fun k_ hk => ⟨hk.1, hk.2⟩))).2.1 (Kd.V_F (Kd.V_mono (ok' := (fun k_ => ((P0_0_ k_ ∨ P0_1_ k_ ∨ P0_2_ k_ ∨ P0_3_ k_) ∨ w.heap.size ≤ k_) ∧ k_ ≠ gb279)) (HO0_0.out) (fun k_ hk => ⟨hk.1, hk.2⟩))))) (Reps.one (show Kd.FK (Kd.slice 43 k43) _ _ l0_1 [.slice A0_1 l0_1.length c0_1] from (Kd.FK_slice_mk (Kd.V_reads' (Kd.V_mono (ok' := (fun k_ => ((P0_0_ k_ ∨ P0_1_ k_ ∨ P0_2_ k_ ∨ P0_3_ k_) ∨ w.heap.size ≤ k_) ∧ k_ ≠ gb279)) (HO0_1.out) (fun k_ hk => ⟨hk.1, hk.2⟩))).2.1 (Kd.V_F (Kd.V_mono (ok' := (fun k_ => ((P0_0_ k_ ∨ P0_1_ k_ ∨ P0_2_ k_ ∨ P0_3_ k_) ∨ w.heap.size ≤ k_) ∧ k_ ≠ gb279)) (HO0_1.out) (fun k_ hk => ⟨hk.1, hk.2⟩))))) (Reps.one (show Kd.FK (Kd.slice 43 k43) _ _ l0_2 [.slice A0_2 l0_2.length c0_2] from (Kd.FK_slice_mk (Kd.V_reads' (Kd.V_mono (ok' := (fun k_ => ((P0_0_ k_ ∨ P0_1_ k_ ∨ P0_2_ k_ ∨ P0_3_ k_) ∨ w.heap.size ≤ k_) ∧ k_ ≠ gb279)) (HO0_2.out) (fun k_ hk => ⟨hk.1, hk.2⟩))).2.1 (Kd.V_F (Kd.V_mono (ok' := (fun k_ => ((P0_0_ k_ ∨ P0_1_ k_ ∨ P0_2_ k_ ∨ P0_3_ k_) ∨ w.heap.size ≤ k_) ∧ k_ ≠ gb279)) (HO0_2.out) (fun k_ hk => ⟨hk.1, hk.2⟩))))) (Reps.one (show Kd.FK (Kd.slice 43 k43) _ _ l0_3 [.slice A0_3 l0_3.length c0_3] from (Kd.FK_slice_mk (Kd.V_reads' (Kd.V_mono (ok' := (fun k_ => ((P0_0_ k_ ∨ P0_1_ k_ ∨ P0_2_ k_ ∨ P0_3_ k_) ∨ w.heap.size ≤ k_) ∧ k_ ≠ gb279)) (HO0_3.out) (fun k_ hk => ⟨hk.1, hk.2⟩))).2.1 (Kd.V_F (Kd.V_mono (ok' := (fun k_ => ((P0_0_ k_ ∨ P0_1_ k_ ∨ P0_2_ k_ ∨ P0_3_ k_) ∨ w.heap.size ≤ k_) ∧ k_ ≠ gb279)) (HO0_3.out) (fun k_ hk => ⟨hk.1, hk.2⟩))))) (Reps.none _ _)))))); intro v281 w4 ho5 hb hg_ hnew_; clear hg_ hnew_; (first | rw [← Ny280.out] at ho5 | (simp only [Int.reduceToNat] at ho5; rw [← Ny280.out] at ho5)); have n0_ := Aside0.mk (Kd.V_elder' (by (with_reducible repeat (first | apply Kd.V_alloc | apply Kd.V_drewN | apply Kd.V_drew)); exact HO0_0.out) (Kd.N_base ho5) hb); have n1_ := Aside0.mk (Kd.V_elder' (by (with_reducible repeat (first | apply Kd.V_alloc | apply Kd.V_drewN | apply Kd.V_drew)); exact HO0_1.out) (Kd.N_base ho5) hb); have n2_ := Aside0.mk (Kd.V_elder' (by (with_reducible repeat (first | apply Kd.V_alloc | apply Kd.V_drewN | apply Kd.V_drew)); exact HO0_2.out) (Kd.N_base ho5) hb); have n3_ := Aside0.mk (Kd.V_elder' (by (with_reducible repeat (first | apply Kd.V_alloc | apply Kd.V_drewN | apply Kd.V_drew)); exact HO0_3.out) (Kd.N_base ho5) hb); have n4_ := Aside0.mk (Kd.N_lower ho5 (below_size (by repeat (first | (with_reducible first | exact HB.out | apply below_alloc | apply pw_below_drewN | apply below_drew1 | refine below_set ?_ GE279.out) | exact HB.out)))); have n5_ := Aside0.mk (blk_below (g := gb279) (o := .cells #[.slice A0_0 l0_0.length c0_0, .slice A0_1 l0_1.length c0_1, .slice A0_2 l0_2.length c0_2, .slice A0_3 l0_3.length c0_3, .slice A0_4 l0_4.length c0_4, .slice A0_5 l0_5.length c0_5] 27 (0, 0)) (by (with_reducible repeat (first | refine blk_drewN ?_ _ | refine blk_drew ?_ | refine blk_alloc ?_ _)); exact BK279.out) hb); have n6_ := Aside0.mk (below_step (by repeat (first | (with_reducible first | exact HB.out | apply below_alloc | apply pw_below_drewN | apply below_drew1 | refine below_set ?_ GE279.out) | exact HB.out)) hb); clear HO0_0; clear HO0_1; clear HO0_2; clear HO0_3; clear BK279; clear HB; have HO0_0 := n0_; have HO0_1 := n1_; have HO0_2 := n2_; have HO0_3 := n3_; have HO282 := n4_; have BK279 := n5_; have HB := n6_; clear n0_ n1_ n2_ n3_ n4_ n5_ n6_; clear hb ho5))
  go_loopg [4] k (fun kq v4 w' => ∃ (x4_1 : Int), v4 = .int .i64 x4_1 ∧ Aside0 (unicodetextref37_Check.l0 kq y280 x4_1 l0_0 l0_1 l0_2 l0_3 l0_4 l0_5 = some r) ∧ Aside0 (kq ≤ k) ∧ Aside0 (Kd.N (Kd.slice 43 k43) 22 w' w.heap.size (fun k_ => ((P0_0_ k_ ∨ P0_1_ k_ ∨ P0_2_ k_ ∨ P0_3_ k_) ∨ w.heap.size ≤ k_) ∧ k_ ≠ gb279) v281 y280) ∧ Aside0 (Kd.V k43 43 w' w.heap.size (fun k_ => ((P0_0_ k_ ∨ P0_1_ k_ ∨ P0_2_ k_ ∨ P0_3_ k_) ∨ w.heap.size ≤ k_) ∧ some k_ ≠ (v281 : Value).ownBlock ∧ k_ ≠ gb279) (.slice A0_0 l0_0.length c0_0) l0_0) ∧ Aside0 (Kd.V k43 43 w' w.heap.size (fun k_ => ((P0_0_ k_ ∨ P0_1_ k_ ∨ P0_2_ k_ ∨ P0_3_ k_) ∨ w.heap.size ≤ k_) ∧ some k_ ≠ (v281 : Value).ownBlock ∧ k_ ≠ gb279) (.slice A0_1 l0_1.length c0_1) l0_1) ∧ Aside0 (Kd.V k43 43 w' w.heap.size (fun k_ => ((P0_0_ k_ ∨ P0_1_ k_ ∨ P0_2_ k_ ∨ P0_3_ k_) ∨ w.heap.size ≤ k_) ∧ some k_ ≠ (v281 : Value).ownBlock ∧ k_ ≠ gb279) (.slice A0_2 l0_2.length c0_2) l0_2) ∧ Aside0 (Kd.V k43 43 w' w.heap.size (fun k_ => ((P0_0_ k_ ∨ P0_1_ k_ ∨ P0_2_ k_ ∨ P0_3_ k_) ∨ w.heap.size ≤ k_) ∧ some k_ ≠ (v281 : Value).ownBlock ∧ k_ ≠ gb279) (.slice A0_3 l0_3.length c0_3) l0_3) ∧ Aside0 (w'.heap[gb279]? = some (.cells #[(.slice A0_0 l0_0.length c0_0), (.slice A0_1 l0_1.length c0_1), (.slice A0_2 l0_2.length c0_2), (.slice A0_3 l0_3.length c0_3), (.slice A0_4 l0_4.length c0_4), (.slice A0_5 l0_5.length c0_5)] 27 (0, 0))) ∧ Aside0 (Below w.heap.size w w'))
  case atStart => exact ⟨(0), (by first | rfl | (simp; done) | (simp [*]; done)), H', ⟨Nat.le_refl _⟩, ⟨by (with_reducible repeat (first | apply Kd.N_alloc | apply Kd.N_drewN | apply Kd.N_drew)); exact HO282.out⟩, ⟨by (with_reducible repeat (first | apply Kd.V_alloc | apply Kd.V_drewN | apply Kd.V_drew)); exact Kd.V_mono HO0_0.out (fun _ hk => ⟨hk.1.1, ⟨hk.2, hk.1.2⟩⟩)⟩, ⟨by (with_reducible repeat (first | apply Kd.V_alloc | apply Kd.V_drewN | apply Kd.V_drew)); exact Kd.V_mono HO0_1.out (fun _ hk => ⟨hk.1.1, ⟨hk.2, hk.1.2⟩⟩)⟩, ⟨by (with_reducible repeat (first | apply Kd.V_alloc | apply Kd.V_drewN | apply Kd.V_drew)); exact Kd.V_mono HO0_2.out (fun _ hk => ⟨hk.1.1, ⟨hk.2, hk.1.2⟩⟩)⟩, ⟨by (with_reducible repeat (first | apply Kd.V_alloc | apply Kd.V_drewN | apply Kd.V_drew)); exact Kd.V_mono HO0_3.out (fun _ hk => ⟨hk.1.1, ⟨hk.2, hk.1.2⟩⟩)⟩, ⟨by (with_reducible repeat (first | refine blk_drewN ?_ _ | refine blk_drew ?_ | refine blk_alloc ?_ _)); exact BK279.out⟩, ⟨by repeat (first | (with_reducible first | exact HB.out | apply below_alloc | apply pw_below_drewN | apply below_drew1 | refine below_set ?_ GE279.out) | exact HB.out)⟩⟩
  case round =>
    clear H'
    try clear c1
    try clear p2
    try clear hcz3_0
    try clear hcz3_1
    try clear hcz3_2
    try clear hcz3_3
    try clear hcz3_4
    try clear hcz3_5
    try clear hfz3_0
    try clear hfz3_1
    try clear hfz3_2
    try clear hfz3_3
    try clear hfz3_4
    try clear hfz3_5
    obtain ⟨x4_1, rfl, HA, HK1, HO_3, HO_280000, HO_280001, HO_280002, HO_280003, BK279, HB⟩ := hrel
    cases gk with
    | zero => exact absurd HA.out (by simp [unicodetextref37_Check.l0])
    | succ k1 =>
      have H := HA.out
      clear HA
      simp only [unicodetextref37_Check.l0] at H
      by_cases c6 : x4_1 < (y280.length : Int)
      · rw [if_pos c6] at H
        have c6b0 : decide (x4_1 < (y280.length : Int)) = true := decide_eq_true c6
        clear c6
        by_cases c7 : 0 ≤ x4_1
        · rw [if_pos c7] at H
          have c7b0 : decide (0 ≤ x4_1) = true := decide_eq_true c7
          clear c7
          replace H := Option.bind_eq_some_iff.mp H
          obtain ⟨t284, A80, H⟩ := H
          replace H : (if t284 = 0 then (unicodetextref37_Check.l0 k1 y280 (wrap64 (x4_1 + 1)) l0_0 l0_1 l0_2 l0_3 l0_4 l0_5) else (some t284)) = some r := H
          have A8 := Aside0.mk A80
          clear A80
          by_cases c9 : t284 = 0
          · rw [if_pos c9] at H
            have c9b0 : (t284 == 0) = true := beq_iff_eq.mpr c9
            have c9b1 : (t284 != 0) = false := bne_eq_false_iff_eq.mpr c9
            clear c9
            have H' := Aside0.mk H
            clear H
            obtain ⟨Ao10, co10, eo10⟩ := Kd.N_slice HO_3.out
            subst eo10
            have p283 : 0 ≤ (x4_1 : Int) := of_decide_eq_true (by first | (with_reducible assumption) | assumption)
            have q283 : x4_1 < (y280.length : Int) := of_decide_eq_true (by first | (with_reducible assumption) | assumption)
            obtain ⟨ad283, A283_0, c283_0, e283, hx283_0, hl283_0, hi283_0⟩ := at_L5 (Kd.N_reads' HO_3.out).2.2 x4_1 p283 q283
            cases e283
            obtain ⟨ce283, hce283, hMe283, hcc283⟩ := Kd.N_get HO_3.out [] x4_1 p283 (by first | exact q283 | exact of_decide_eq_true (by first | (with_reducible assumption) | assumption) | (have e_ := (Kd.N_reads' HO_3.out).1; omega))
            obtain ⟨ua283_0, uc283_0, rfl, ul283_0, ge283_0⟩ := Kd.FK_slice_open hMe283
            have hv283_0 := hcc283 0 _ rfl
            rw [Nat.add_zero, show ((Kd.slice 43 k43)).sz = 1 from rfl, Nat.mul_one] at hv283_0
            replace hv283_0 := Option.some.inj (hv283_0.symm.trans hx283_0)
            injection hv283_0 with hva_ hvn_ hvc_
            rw [hva_] at ge283_0
            rw [hvc_] at ul283_0
            have HL283_0 := Aside0.mk (show Kd.V k43 43 _ w.heap.size _ _ (rd_L5 y280 x4_1) from Kd.V_mk ul283_0 ge283_0)
            clear hva_ hvn_ hvc_ ge283_0 ul283_0
            clear hcc283 hce283
            have HR283_0 := Aside0.mk hi283_0
            have HC283_0 := Aside0.mk hl283_0
            clear hi283_0 hl283_0
            replace p283 := eq_true p283
            replace q283 := eq_true q283
            go_wp2_with (first | ((with_reducible refine gate_callee (f := 36) rfl ?_); refine goesL_ (some 25) rfl rfl Try.func36 (by kernel_rfl) rfl #[.slice A283_0 (rd_L5 y280 x4_1).length c283_0] rfl (by (try simp only [List.map_toArray, List.map_cons, List.map_nil]); first | done | rfl | (simp only [List.length_drop, List.length_take]; rfl)) ?_; (with_reducible refine (unicodetextref11_Check.calls k1 _ _ (rd_L5 y280 x4_1) t284 _ ?side1 ?side2 A8.out).mono ?_); (case side1 => repeat (first | exact (by repeat (first | (with_reducible exact HR283_0.out) | (with_reducible refine Kd.C_alloc ?_ _) | (with_reducible refine Kd.C_drewN ?_ _) | (with_reducible refine Kd.C_drew ?_) | exact HR283_0.out)) | (with_reducible refine Kd.C_alloc ?_ _) | (with_reducible refine Kd.C_drewN ?_ _) | (with_reducible refine Kd.C_drew ?_))); (case side2 => exact HC283_0.out); rintro e w11 ⟨rfl, hb⟩; refine ⟨_, rfl, ?_⟩; have n0_ := Aside0.mk (Kd.N_below (by (with_reducible repeat (first | apply Kd.N_alloc | apply Kd.N_drewN | apply Kd.N_drew)); exact HO_3.out) hb); have n1_ := Aside0.mk (Kd.V_below (by (with_reducible repeat (first | apply Kd.V_alloc | apply Kd.V_drewN | apply Kd.V_drew)); exact HO_280000.out) hb); have n2_ := Aside0.mk (Kd.V_below (by (with_reducible repeat (first | apply Kd.V_alloc | apply Kd.V_drewN | apply Kd.V_drew)); exact HO_280001.out) hb); have n3_ := Aside0.mk (Kd.V_below (by (with_reducible repeat (first | apply Kd.V_alloc | apply Kd.V_drewN | apply Kd.V_drew)); exact HO_280002.out) hb); have n4_ := Aside0.mk (Kd.V_below (by (with_reducible repeat (first | apply Kd.V_alloc | apply Kd.V_drewN | apply Kd.V_drew)); exact HO_280003.out) hb); have n5_ := Aside0.mk (Kd.V_below (by (with_reducible repeat (first | apply Kd.V_alloc | apply Kd.V_drewN | apply Kd.V_drew)); exact HL283_0.out) hb); have n6_ := Aside0.mk (blk_below (g := gb279) (o := .cells #[.slice A0_0 l0_0.length c0_0, .slice A0_1 l0_1.length c0_1, .slice A0_2 l0_2.length c0_2, .slice A0_3 l0_3.length c0_3, .slice A0_4 l0_4.length c0_4, .slice A0_5 l0_5.length c0_5] 27 (0, 0)) (by (with_reducible repeat (first | refine blk_drewN ?_ _ | refine blk_drew ?_ | refine blk_alloc ?_ _)); exact BK279.out) hb); have n7_ := Aside0.mk (Kd.C_below (by repeat (first | (with_reducible exact HR283_0.out) | (with_reducible refine Kd.C_alloc ?_ _) | (with_reducible refine Kd.C_drewN ?_ _) | (with_reducible refine Kd.C_drew ?_) | exact HR283_0.out)) hb); have n8_ := Aside0.mk (below_step (by repeat (first | (with_reducible first | exact HB.out | apply below_alloc | apply pw_below_drewN | apply below_drew1 | refine below_set ?_ GE279.out) | exact HB.out)) hb); clear HO_3; clear HO_280000; clear HO_280001; clear HO_280002; clear HO_280003; clear HL283_0; clear BK279; clear HR283_0; clear HB; have HO_3 := n0_; have HO_280000 := n1_; have HO_280001 := n2_; have HO_280002 := n3_; have HO_280003 := n4_; have HL283_0 := n5_; have BK279 := n6_; have HR283_0 := n7_; have HB := n8_; clear n0_ n1_ n2_ n3_ n4_ n5_ n6_ n7_ n8_; (try clear hb); (try clear hb2); (try clear hk); (try clear hi)))
            go_roundg k1
            case measure => have := HK1.out; omega
            case rel => exact ⟨(wrap64 (x4_1 + 1)), (by first | rfl | (simp; done) | (simp [*]; done)), H', ⟨by have := HK1.out; omega⟩, ⟨by (with_reducible repeat (first | apply Kd.N_alloc | apply Kd.N_drewN | apply Kd.N_drew)); exact HO_3.out⟩, ⟨by (with_reducible repeat (first | apply Kd.V_alloc | apply Kd.V_drewN | apply Kd.V_drew)); exact HO_280000.out⟩, ⟨by (with_reducible repeat (first | apply Kd.V_alloc | apply Kd.V_drewN | apply Kd.V_drew)); exact HO_280001.out⟩, ⟨by (with_reducible repeat (first | apply Kd.V_alloc | apply Kd.V_drewN | apply Kd.V_drew)); exact HO_280002.out⟩, ⟨by (with_reducible repeat (first | apply Kd.V_alloc | apply Kd.V_drewN | apply Kd.V_drew)); exact HO_280003.out⟩, ⟨by (with_reducible repeat (first | refine blk_drewN ?_ _ | refine blk_drew ?_ | refine blk_alloc ?_ _)); exact BK279.out⟩, ⟨by repeat (first | (with_reducible first | exact HB.out | apply below_alloc | apply pw_below_drewN | apply below_drew1 | refine below_set ?_ GE279.out) | exact HB.out)⟩⟩
          · rw [if_neg c9] at H
            have c9b0 : (t284 == 0) = false := beq_eq_false_iff_ne.mpr c9
            have c9b1 : (t284 != 0) = true := bne_iff_ne.mpr c9
            obtain rfl := Option.some.inj H
            obtain ⟨Ao12, co12, eo12⟩ := Kd.N_slice HO_3.out
            subst eo12
            have p283 : 0 ≤ (x4_1 : Int) := of_decide_eq_true (by first | (with_reducible assumption) | assumption)
            have q283 : x4_1 < (y280.length : Int) := of_decide_eq_true (by first | (with_reducible assumption) | assumption)
            obtain ⟨ad283, A283_0, c283_0, e283, hx283_0, hl283_0, hi283_0⟩ := at_L5 (Kd.N_reads' HO_3.out).2.2 x4_1 p283 q283
            cases e283
            obtain ⟨ce283, hce283, hMe283, hcc283⟩ := Kd.N_get HO_3.out [] x4_1 p283 (by first | exact q283 | exact of_decide_eq_true (by first | (with_reducible assumption) | assumption) | (have e_ := (Kd.N_reads' HO_3.out).1; omega))
            obtain ⟨ua283_0, uc283_0, rfl, ul283_0, ge283_0⟩ := Kd.FK_slice_open hMe283
            have hv283_0 := hcc283 0 _ rfl
            rw [Nat.add_zero, show ((Kd.slice 43 k43)).sz = 1 from rfl, Nat.mul_one] at hv283_0
            replace hv283_0 := Option.some.inj (hv283_0.symm.trans hx283_0)
            injection hv283_0 with hva_ hvn_ hvc_
            rw [hva_] at ge283_0
            rw [hvc_] at ul283_0
            have HL283_0 := Aside0.mk (show Kd.V k43 43 _ w.heap.size _ _ (rd_L5 y280 x4_1) from Kd.V_mk ul283_0 ge283_0)
            clear hva_ hvn_ hvc_ ge283_0 ul283_0
            clear hcc283 hce283
            have HR283_0 := Aside0.mk hi283_0
            have HC283_0 := Aside0.mk hl283_0
            clear hi283_0 hl283_0
            replace p283 := eq_true p283
            replace q283 := eq_true q283
            go_wp2_with (first | ((with_reducible refine gate_callee (f := 36) rfl ?_); refine goesL_ (some 25) rfl rfl Try.func36 (by kernel_rfl) rfl #[.slice A283_0 (rd_L5 y280 x4_1).length c283_0] rfl (by (try simp only [List.map_toArray, List.map_cons, List.map_nil]); first | done | rfl | (simp only [List.length_drop, List.length_take]; rfl)) ?_; (with_reducible refine (unicodetextref11_Check.calls k1 _ _ (rd_L5 y280 x4_1) t284 _ ?side1 ?side2 A8.out).mono ?_); (case side1 => repeat (first | exact (by repeat (first | (with_reducible exact HR283_0.out) | (with_reducible refine Kd.C_alloc ?_ _) | (with_reducible refine Kd.C_drewN ?_ _) | (with_reducible refine Kd.C_drew ?_) | exact HR283_0.out)) | (with_reducible refine Kd.C_alloc ?_ _) | (with_reducible refine Kd.C_drewN ?_ _) | (with_reducible refine Kd.C_drew ?_))); (case side2 => exact HC283_0.out); rintro e w13 ⟨rfl, hb⟩; refine ⟨_, rfl, ?_⟩; have n0_ := Aside0.mk (Kd.N_below (by (with_reducible repeat (first | apply Kd.N_alloc | apply Kd.N_drewN | apply Kd.N_drew)); exact HO_3.out) hb); have n1_ := Aside0.mk (Kd.V_below (by (with_reducible repeat (first | apply Kd.V_alloc | apply Kd.V_drewN | apply Kd.V_drew)); exact HO_280000.out) hb); have n2_ := Aside0.mk (Kd.V_below (by (with_reducible repeat (first | apply Kd.V_alloc | apply Kd.V_drewN | apply Kd.V_drew)); exact HO_280001.out) hb); have n3_ := Aside0.mk (Kd.V_below (by (with_reducible repeat (first | apply Kd.V_alloc | apply Kd.V_drewN | apply Kd.V_drew)); exact HO_280002.out) hb); have n4_ := Aside0.mk (Kd.V_below (by (with_reducible repeat (first | apply Kd.V_alloc | apply Kd.V_drewN | apply Kd.V_drew)); exact HO_280003.out) hb); have n5_ := Aside0.mk (Kd.V_below (by (with_reducible repeat (first | apply Kd.V_alloc | apply Kd.V_drewN | apply Kd.V_drew)); exact HL283_0.out) hb); have n6_ := Aside0.mk (blk_below (g := gb279) (o := .cells #[.slice A0_0 l0_0.length c0_0, .slice A0_1 l0_1.length c0_1, .slice A0_2 l0_2.length c0_2, .slice A0_3 l0_3.length c0_3, .slice A0_4 l0_4.length c0_4, .slice A0_5 l0_5.length c0_5] 27 (0, 0)) (by (with_reducible repeat (first | refine blk_drewN ?_ _ | refine blk_drew ?_ | refine blk_alloc ?_ _)); exact BK279.out) hb); have n7_ := Aside0.mk (Kd.C_below (by repeat (first | (with_reducible exact HR283_0.out) | (with_reducible refine Kd.C_alloc ?_ _) | (with_reducible refine Kd.C_drewN ?_ _) | (with_reducible refine Kd.C_drew ?_) | exact HR283_0.out)) hb); have n8_ := Aside0.mk (below_step (by repeat (first | (with_reducible first | exact HB.out | apply below_alloc | apply pw_below_drewN | apply below_drew1 | refine below_set ?_ GE279.out) | exact HB.out)) hb); clear HO_3; clear HO_280000; clear HO_280001; clear HO_280002; clear HO_280003; clear HL283_0; clear BK279; clear HR283_0; clear HB; have HO_3 := n0_; have HO_280000 := n1_; have HO_280001 := n2_; have HO_280002 := n3_; have HO_280003 := n4_; have HL283_0 := n5_; have BK279 := n6_; have HR283_0 := n7_; have HB := n8_; clear n0_ n1_ n2_ n3_ n4_ n5_ n6_ n7_ n8_; (try clear hb); (try clear hb2); (try clear hk); (try clear hi)))
            go_ret
            exact ⟨by first | rfl | (simp [errW_none, errW_some] <;> rfl) | (simp [*, errW_none, errW_some] <;> rfl), by repeat (first | (with_reducible first | exact HB.out | apply below_alloc | apply pw_below_drewN | apply below_drew1 | refine below_set ?_ GE279.out) | exact HB.out)⟩
        · rw [if_neg c7] at H
          exact absurd H (by simp)
      · rw [if_neg c6] at H
        have c6b0 : decide (x4_1 < (y280.length : Int)) = false := decide_eq_false c6
        clear c6
        have HC14 := Aside0.mk H
        clear H
        obtain ⟨Ao15, co15, eo15⟩ := Kd.N_slice HO_3.out
        subst eo15
        go_upto_region 8 with (fail)
        go_cut [46] (fun v46 wc => ∃ (kq : Nat) (x46_13 : Bool), v46 = .bool x46_13 ∧ Aside0 (unicodetextref37_Check.j1 kq x46_13 l0_0 l0_1 l0_2 l0_3 l0_4 l0_5 = some r) ∧ Aside0 (kq ≤ k1) ∧ Aside0 (Kd.V k43 43 wc w.heap.size (fun k_ => ((P0_0_ k_ ∨ P0_1_ k_ ∨ P0_2_ k_ ∨ P0_3_ k_) ∨ w.heap.size ≤ k_) ∧ k_ ≠ gb279) (.slice A0_0 l0_0.length c0_0) l0_0) ∧ Aside0 (Kd.V k43 43 wc w.heap.size (fun k_ => ((P0_0_ k_ ∨ P0_1_ k_ ∨ P0_2_ k_ ∨ P0_3_ k_) ∨ w.heap.size ≤ k_) ∧ k_ ≠ gb279) (.slice A0_1 l0_1.length c0_1) l0_1) ∧ Aside0 (Kd.V k43 43 wc w.heap.size (fun k_ => ((P0_0_ k_ ∨ P0_1_ k_ ∨ P0_2_ k_ ∨ P0_3_ k_) ∨ w.heap.size ≤ k_) ∧ k_ ≠ gb279) (.slice A0_2 l0_2.length c0_2) l0_2) ∧ Aside0 (Kd.V k43 43 wc w.heap.size (fun k_ => ((P0_0_ k_ ∨ P0_1_ k_ ∨ P0_2_ k_ ∨ P0_3_ k_) ∨ w.heap.size ≤ k_) ∧ k_ ≠ gb279) (.slice A0_3 l0_3.length c0_3) l0_3) ∧ Aside0 (wc.heap[gb279]? = some (.cells #[(.slice A0_0 l0_0.length c0_0), (.slice A0_1 l0_1.length c0_1), (.slice A0_2 l0_2.length c0_2), (.slice A0_3 l0_3.length c0_3), (.slice A0_4 l0_4.length c0_4), (.slice A0_5 l0_5.length c0_5)] 27 (0, 0))) ∧ Aside0 (Below w.heap.size w wc))
        case first =>
          have H := HC14.out
          clear HC14
          replace H := Option.bind_eq_some_iff.mp H
          obtain ⟨t285, A160, H⟩ := H
          replace H : (if t285 = true then (unicodetextref37_Check.j1 k1 true l0_0 l0_1 l0_2 l0_3 l0_4 l0_5) else ((unicodetextref37_tagged.f k1 l0_1 (⟨#[]⟩ : ByteArray)).bind fun t286 => (if t286 = true then (unicodetextref37_Check.j1 k1 true l0_0 l0_1 l0_2 l0_3 l0_4 l0_5) else ((unicodetextref37_tagged.f k1 l0_2 (⟨#[]⟩ : ByteArray)).bind fun t287 => (if t287 = true then (unicodetextref37_Check.j1 k1 true l0_0 l0_1 l0_2 l0_3 l0_4 l0_5) else ((unicodetextref37_tagged.f k1 l0_3 (⟨#[]⟩ : ByteArray)).bind fun t288 => (unicodetextref37_Check.j1 k1 t288 l0_0 l0_1 l0_2 l0_3 l0_4 l0_5))))))) = some r := H
          have A16 := Aside0.mk A160
          clear A160
          by_cases c17 : t285 = true
          · subst c17
            have H1 : (unicodetextref37_Check.j1 k1 true l0_0 l0_1 l0_2 l0_3 l0_4 l0_5) = some r := by rw [if_pos rfl] at H; exact H
            clear H
            have H := H1
            clear H1
            have H' := Aside0.mk H
            clear H
            have hcz18_0 : wr.cell? ⟨gb279, 0, none⟩ = some (.slice A0_0 l0_0.length c0_0) := (blk_cell BK279.out 0).trans rfl
            have hcz18_1 : wr.cell? ⟨gb279, 1, none⟩ = some (.slice A0_1 l0_1.length c0_1) := (blk_cell BK279.out 1).trans rfl
            have hcz18_2 : wr.cell? ⟨gb279, 2, none⟩ = some (.slice A0_2 l0_2.length c0_2) := (blk_cell BK279.out 2).trans rfl
            have hcz18_3 : wr.cell? ⟨gb279, 3, none⟩ = some (.slice A0_3 l0_3.length c0_3) := (blk_cell BK279.out 3).trans rfl
            have hcz18_4 : wr.cell? ⟨gb279, 4, none⟩ = some (.slice A0_4 l0_4.length c0_4) := (blk_cell BK279.out 4).trans rfl
            have hcz18_5 : wr.cell? ⟨gb279, 5, none⟩ = some (.slice A0_5 l0_5.length c0_5) := (blk_cell BK279.out 5).trans rfl
            have hfz18_0 := blk_frozen BK279.out 0
            have hfz18_1 := blk_frozen BK279.out 1
            have hfz18_2 := blk_frozen BK279.out 2
            have hfz18_3 := blk_frozen BK279.out 3
            have hfz18_4 := blk_frozen BK279.out 4
            have hfz18_5 := blk_frozen BK279.out 5
            go_wp2_with (first | ((with_reducible refine gate_callee (f := 37) rfl ?_); refine goesL_ (some 31) rfl rfl Try.func37 (by kernel_rfl) rfl #[.slice A0_0 l0_0.length c0_0, .string (⟨#[102, 105, 110, 97, 108]⟩ : ByteArray)] rfl (by (try simp only [List.map_toArray, List.map_cons, List.map_nil]); first | done | rfl | (simp only [List.length_drop, List.length_take]; rfl)) ?_; (with_reducible refine (unicodetextref37_tagged.calls k1 _ _ l0_0 (⟨#[102, 105, 110, 97, 108]⟩ : ByteArray) true _ ?side1 ?side2 A16.out).mono ?_); (case side1 => repeat (first | exact (Kd.V_reads' HO_280000.out).2.2 | (with_reducible refine Kd.C_alloc ?_ _) | (with_reducible refine Kd.C_drewN ?_ _) | (with_reducible refine Kd.C_drew ?_))); (case side2 => exact (Kd.V_reads' HO_280000.out).2.1); rintro e w' ⟨rfl, ⟨nd, rfl⟩⟩; refine ⟨_, rfl, ?_⟩))
            go_meet
            case rel => exact ⟨_, (true), (by first | rfl | (simp; done) | (simp [*]; done)), H', ⟨by have := HK1.out; first | omega | exact Nat.le_refl _⟩, ⟨by (with_reducible repeat (first | apply Kd.V_alloc | apply Kd.V_drewN | apply Kd.V_drew)); exact Kd.V_mono HO_280000.out (fun _ hk => ⟨hk.1, hk.2.2⟩)⟩, ⟨by (with_reducible repeat (first | apply Kd.V_alloc | apply Kd.V_drewN | apply Kd.V_drew)); exact Kd.V_mono HO_280001.out (fun _ hk => ⟨hk.1, hk.2.2⟩)⟩, ⟨by (with_reducible repeat (first | apply Kd.V_alloc | apply Kd.V_drewN | apply Kd.V_drew)); exact Kd.V_mono HO_280002.out (fun _ hk => ⟨hk.1, hk.2.2⟩)⟩, ⟨by (with_reducible repeat (first | apply Kd.V_alloc | apply Kd.V_drewN | apply Kd.V_drew)); exact Kd.V_mono HO_280003.out (fun _ hk => ⟨hk.1, hk.2.2⟩)⟩, ⟨by (with_reducible repeat (first | refine blk_drewN ?_ _ | refine blk_drew ?_ | refine blk_alloc ?_ _)); exact BK279.out⟩, ⟨by repeat (first | (with_reducible first | exact HB.out | apply below_alloc | apply pw_below_drewN | apply below_drew1 | refine below_set ?_ GE279.out) | exact HB.out)⟩⟩
          · replace c17 := Bool.eq_false_iff.mpr c17
            subst c17
            have H1 : ((unicodetextref37_tagged.f k1 l0_1 (⟨#[]⟩ : ByteArray)).bind fun t286 => (if t286 = true then (unicodetextref37_Check.j1 k1 true l0_0 l0_1 l0_2 l0_3 l0_4 l0_5) else ((unicodetextref37_tagged.f k1 l0_2 (⟨#[]⟩ : ByteArray)).bind fun t287 => (if t287 = true then (unicodetextref37_Check.j1 k1 true l0_0 l0_1 l0_2 l0_3 l0_4 l0_5) else ((unicodetextref37_tagged.f k1 l0_3 (⟨#[]⟩ : ByteArray)).bind fun t288 => (unicodetextref37_Check.j1 k1 t288 l0_0 l0_1 l0_2 l0_3 l0_4 l0_5)))))) = some r := by rw [if_neg (show ¬ (false = true) by decide)] at H; exact H
            clear H
            have H := H1
            clear H1
            replace H := Option.bind_eq_some_iff.mp H
            obtain ⟨t286, A190, H⟩ := H
            replace H : (if t286 = true then (unicodetextref37_Check.j1 k1 true l0_0 l0_1 l0_2 l0_3 l0_4 l0_5) else ((unicodetextref37_tagged.f k1 l0_2 (⟨#[]⟩ : ByteArray)).bind fun t287 => (if t287 = true then (unicodetextref37_Check.j1 k1 true l0_0 l0_1 l0_2 l0_3 l0_4 l0_5) else ((unicodetextref37_tagged.f k1 l0_3 (⟨#[]⟩ : ByteArray)).bind fun t288 => (unicodetextref37_Check.j1 k1 t288 l0_0 l0_1 l0_2 l0_3 l0_4 l0_5))))) = some r := H
            have A19 := Aside0.mk A190
            clear A190
            by_cases c20 : t286 = true
            · subst c20
              have H1 : (unicodetextref37_Check.j1 k1 true l0_0 l0_1 l0_2 l0_3 l0_4 l0_5) = some r := by rw [if_pos rfl] at H; exact H
              clear H
              have H := H1
              clear H1
              have H' := Aside0.mk H
              clear H
              have hcz21_0 : wr.cell? ⟨gb279, 0, none⟩ = some (.slice A0_0 l0_0.length c0_0) := (blk_cell BK279.out 0).trans rfl
              have hcz21_1 : wr.cell? ⟨gb279, 1, none⟩ = some (.slice A0_1 l0_1.length c0_1) := (blk_cell BK279.out 1).trans rfl
              have hcz21_2 : wr.cell? ⟨gb279, 2, none⟩ = some (.slice A0_2 l0_2.length c0_2) := (blk_cell BK279.out 2).trans rfl
              have hcz21_3 : wr.cell? ⟨gb279, 3, none⟩ = some (.slice A0_3 l0_3.length c0_3) := (blk_cell BK279.out 3).trans rfl
              have hcz21_4 : wr.cell? ⟨gb279, 4, none⟩ = some (.slice A0_4 l0_4.length c0_4) := (blk_cell BK279.out 4).trans rfl
              have hcz21_5 : wr.cell? ⟨gb279, 5, none⟩ = some (.slice A0_5 l0_5.length c0_5) := (blk_cell BK279.out 5).trans rfl
              have hfz21_0 := blk_frozen BK279.out 0
              have hfz21_1 := blk_frozen BK279.out 1
              have hfz21_2 := blk_frozen BK279.out 2
              have hfz21_3 := blk_frozen BK279.out 3
              have hfz21_4 := blk_frozen BK279.out 4
              have hfz21_5 := blk_frozen BK279.out 5
              go_wp2_with (first | ((with_reducible refine gate_callee (f := 37) rfl ?_); refine goesL_ (some 31) rfl rfl Try.func37 (by kernel_rfl) rfl #[.slice A0_0 l0_0.length c0_0, .string (⟨#[102, 105, 110, 97, 108]⟩ : ByteArray)] rfl (by (try simp only [List.map_toArray, List.map_cons, List.map_nil]); first | done | rfl | (simp only [List.length_drop, List.length_take]; rfl)) ?_; (with_reducible refine (unicodetextref37_tagged.calls k1 _ _ l0_0 (⟨#[102, 105, 110, 97, 108]⟩ : ByteArray) false _ ?side1 ?side2 A16.out).mono ?_); (case side1 => repeat (first | exact (Kd.V_reads' HO_280000.out).2.2 | (with_reducible refine Kd.C_alloc ?_ _) | (with_reducible refine Kd.C_drewN ?_ _) | (with_reducible refine Kd.C_drew ?_))); (case side2 => exact (Kd.V_reads' HO_280000.out).2.1); rintro e w' ⟨rfl, ⟨nd, rfl⟩⟩; refine ⟨_, rfl, ?_⟩) | (go_at_call 37; (with_reducible refine (unicodetextref37_tagged.calls k1 _ _ l0_1 (⟨#[]⟩ : ByteArray) true _ ?side1 ?side2 A19.out).mono ?_); (case side1 => repeat (first | exact (Kd.V_reads' HO_280001.out).2.2 | (with_reducible refine Kd.C_alloc ?_ _) | (with_reducible refine Kd.C_drewN ?_ _) | (with_reducible refine Kd.C_drew ?_))); (case side2 => exact (Kd.V_reads' HO_280001.out).2.1); rintro e w' ⟨rfl, ⟨nd, rfl⟩⟩))
              go_meet
              case rel => exact ⟨_, (true), (by first | rfl | (simp; done) | (simp [*]; done)), H', ⟨by have := HK1.out; first | omega | exact Nat.le_refl _⟩, ⟨by (with_reducible repeat (first | apply Kd.V_alloc | apply Kd.V_drewN | apply Kd.V_drew)); exact Kd.V_mono HO_280000.out (fun _ hk => ⟨hk.1, hk.2.2⟩)⟩, ⟨by (with_reducible repeat (first | apply Kd.V_alloc | apply Kd.V_drewN | apply Kd.V_drew)); exact Kd.V_mono HO_280001.out (fun _ hk => ⟨hk.1, hk.2.2⟩)⟩, ⟨by (with_reducible repeat (first | apply Kd.V_alloc | apply Kd.V_drewN | apply Kd.V_drew)); exact Kd.V_mono HO_280002.out (fun _ hk => ⟨hk.1, hk.2.2⟩)⟩, ⟨by (with_reducible repeat (first | apply Kd.V_alloc | apply Kd.V_drewN | apply Kd.V_drew)); exact Kd.V_mono HO_280003.out (fun _ hk => ⟨hk.1, hk.2.2⟩)⟩, ⟨by (with_reducible repeat (first | refine blk_drewN ?_ _ | refine blk_drew ?_ | refine blk_alloc ?_ _)); exact BK279.out⟩, ⟨by repeat (first | (with_reducible first | exact HB.out | apply below_alloc | apply pw_below_drewN | apply below_drew1 | refine below_set ?_ GE279.out) | exact HB.out)⟩⟩
            · replace c20 := Bool.eq_false_iff.mpr c20
              subst c20
              have H1 : ((unicodetextref37_tagged.f k1 l0_2 (⟨#[]⟩ : ByteArray)).bind fun t287 => (if t287 = true then (unicodetextref37_Check.j1 k1 true l0_0 l0_1 l0_2 l0_3 l0_4 l0_5) else ((unicodetextref37_tagged.f k1 l0_3 (⟨#[]⟩ : ByteArray)).bind fun t288 => (unicodetextref37_Check.j1 k1 t288 l0_0 l0_1 l0_2 l0_3 l0_4 l0_5)))) = some r := by rw [if_neg (show ¬ (false = true) by decide)] at H; exact H
              clear H
              have H := H1
              clear H1
              replace H := Option.bind_eq_some_iff.mp H
              obtain ⟨t287, A220, H⟩ := H
              replace H : (if t287 = true then (unicodetextref37_Check.j1 k1 true l0_0 l0_1 l0_2 l0_3 l0_4 l0_5) else ((unicodetextref37_tagged.f k1 l0_3 (⟨#[]⟩ : ByteArray)).bind fun t288 => (unicodetextref37_Check.j1 k1 t288 l0_0 l0_1 l0_2 l0_3 l0_4 l0_5))) = some r := H
              have A22 := Aside0.mk A220
              clear A220
              by_cases c23 : t287 = true
              · subst c23
                have H1 : (unicodetextref37_Check.j1 k1 true l0_0 l0_1 l0_2 l0_3 l0_4 l0_5) = some r := by rw [if_pos rfl] at H; exact H
                clear H
                have H := H1
                clear H1
                have H' := Aside0.mk H
                clear H
                have hcz24_0 : wr.cell? ⟨gb279, 0, none⟩ = some (.slice A0_0 l0_0.length c0_0) := (blk_cell BK279.out 0).trans rfl
                have hcz24_1 : wr.cell? ⟨gb279, 1, none⟩ = some (.slice A0_1 l0_1.length c0_1) := (blk_cell BK279.out 1).trans rfl
                have hcz24_2 : wr.cell? ⟨gb279, 2, none⟩ = some (.slice A0_2 l0_2.length c0_2) := (blk_cell BK279.out 2).trans rfl
                have hcz24_3 : wr.cell? ⟨gb279, 3, none⟩ = some (.slice A0_3 l0_3.length c0_3) := (blk_cell BK279.out 3).trans rfl
                have hcz24_4 : wr.cell? ⟨gb279, 4, none⟩ = some (.slice A0_4 l0_4.length c0_4) := (blk_cell BK279.out 4).trans rfl
                have hcz24_5 : wr.cell? ⟨gb279, 5, none⟩ = some (.slice A0_5 l0_5.length c0_5) := (blk_cell BK279.out 5).trans rfl
                have hfz24_0 := blk_frozen BK279.out 0
                have hfz24_1 := blk_frozen BK279.out 1
                have hfz24_2 := blk_frozen BK279.out 2
                have hfz24_3 := blk_frozen BK279.out 3
                have hfz24_4 := blk_frozen BK279.out 4
                have hfz24_5 := blk_frozen BK279.out 5
                go_wp2_with (first | ((with_reducible refine gate_callee (f := 37) rfl ?_); refine goesL_ (some 31) rfl rfl Try.func37 (by kernel_rfl) rfl #[.slice A0_0 l0_0.length c0_0, .string (⟨#[102, 105, 110, 97, 108]⟩ : ByteArray)] rfl (by (try simp only [List.map_toArray, List.map_cons, List.map_nil]); first | done | rfl | (simp only [List.length_drop, List.length_take]; rfl)) ?_; (with_reducible refine (unicodetextref37_tagged.calls k1 _ _ l0_0 (⟨#[102, 105, 110, 97, 108]⟩ : ByteArray) false _ ?side1 ?side2 A16.out).mono ?_); (case side1 => repeat (first | exact (Kd.V_reads' HO_280000.out).2.2 | (with_reducible refine Kd.C_alloc ?_ _) | (with_reducible refine Kd.C_drewN ?_ _) | (with_reducible refine Kd.C_drew ?_))); (case side2 => exact (Kd.V_reads' HO_280000.out).2.1); rintro e w' ⟨rfl, ⟨nd, rfl⟩⟩; refine ⟨_, rfl, ?_⟩) | (go_at_call 37; (with_reducible refine (unicodetextref37_tagged.calls k1 _ _ l0_1 (⟨#[]⟩ : ByteArray) false _ ?side1 ?side2 A19.out).mono ?_); (case side1 => repeat (first | exact (Kd.V_reads' HO_280001.out).2.2 | (with_reducible refine Kd.C_alloc ?_ _) | (with_reducible refine Kd.C_drewN ?_ _) | (with_reducible refine Kd.C_drew ?_))); (case side2 => exact (Kd.V_reads' HO_280001.out).2.1); rintro e w' ⟨rfl, ⟨nd, rfl⟩⟩) | (go_at_call 37; (with_reducible refine (unicodetextref37_tagged.calls k1 _ _ l0_2 (⟨#[]⟩ : ByteArray) true _ ?side1 ?side2 A22.out).mono ?_); (case side1 => repeat (first | exact (Kd.V_reads' HO_280002.out).2.2 | (with_reducible refine Kd.C_alloc ?_ _) | (with_reducible refine Kd.C_drewN ?_ _) | (with_reducible refine Kd.C_drew ?_))); (case side2 => exact (Kd.V_reads' HO_280002.out).2.1); rintro e w' ⟨rfl, ⟨nd, rfl⟩⟩))
                go_meet
                case rel => exact ⟨_, (true), (by first | rfl | (simp; done) | (simp [*]; done)), H', ⟨by have := HK1.out; first | omega | exact Nat.le_refl _⟩, ⟨by (with_reducible repeat (first | apply Kd.V_alloc | apply Kd.V_drewN | apply Kd.V_drew)); exact Kd.V_mono HO_280000.out (fun _ hk => ⟨hk.1, hk.2.2⟩)⟩, ⟨by (with_reducible repeat (first | apply Kd.V_alloc | apply Kd.V_drewN | apply Kd.V_drew)); exact Kd.V_mono HO_280001.out (fun _ hk => ⟨hk.1, hk.2.2⟩)⟩, ⟨by (with_reducible repeat (first | apply Kd.V_alloc | apply Kd.V_drewN | apply Kd.V_drew)); exact Kd.V_mono HO_280002.out (fun _ hk => ⟨hk.1, hk.2.2⟩)⟩, ⟨by (with_reducible repeat (first | apply Kd.V_alloc | apply Kd.V_drewN | apply Kd.V_drew)); exact Kd.V_mono HO_280003.out (fun _ hk => ⟨hk.1, hk.2.2⟩)⟩, ⟨by (with_reducible repeat (first | refine blk_drewN ?_ _ | refine blk_drew ?_ | refine blk_alloc ?_ _)); exact BK279.out⟩, ⟨by repeat (first | (with_reducible first | exact HB.out | apply below_alloc | apply pw_below_drewN | apply below_drew1 | refine below_set ?_ GE279.out) | exact HB.out)⟩⟩
              · replace c23 := Bool.eq_false_iff.mpr c23
                subst c23
                have H1 : ((unicodetextref37_tagged.f k1 l0_3 (⟨#[]⟩ : ByteArray)).bind fun t288 => (unicodetextref37_Check.j1 k1 t288 l0_0 l0_1 l0_2 l0_3 l0_4 l0_5)) = some r := by rw [if_neg (show ¬ (false = true) by decide)] at H; exact H
                clear H
                have H := H1
                clear H1
                replace H := Option.bind_eq_some_iff.mp H
                obtain ⟨t288, A250, H⟩ := H
                replace H : (unicodetextref37_Check.j1 k1 t288 l0_0 l0_1 l0_2 l0_3 l0_4 l0_5) = some r := H
                have A25 := Aside0.mk A250
                clear A250
                have H' := Aside0.mk H
                clear H
                have hcz26_0 : wr.cell? ⟨gb279, 0, none⟩ = some (.slice A0_0 l0_0.length c0_0) := (blk_cell BK279.out 0).trans rfl
                have hcz26_1 : wr.cell? ⟨gb279, 1, none⟩ = some (.slice A0_1 l0_1.length c0_1) := (blk_cell BK279.out 1).trans rfl
                have hcz26_2 : wr.cell? ⟨gb279, 2, none⟩ = some (.slice A0_2 l0_2.length c0_2) := (blk_cell BK279.out 2).trans rfl
                have hcz26_3 : wr.cell? ⟨gb279, 3, none⟩ = some (.slice A0_3 l0_3.length c0_3) := (blk_cell BK279.out 3).trans rfl
                have hcz26_4 : wr.cell? ⟨gb279, 4, none⟩ = some (.slice A0_4 l0_4.length c0_4) := (blk_cell BK279.out 4).trans rfl
                have hcz26_5 : wr.cell? ⟨gb279, 5, none⟩ = some (.slice A0_5 l0_5.length c0_5) := (blk_cell BK279.out 5).trans rfl
                have hfz26_0 := blk_frozen BK279.out 0
                have hfz26_1 := blk_frozen BK279.out 1
                have hfz26_2 := blk_frozen BK279.out 2
                have hfz26_3 := blk_frozen BK279.out 3
                have hfz26_4 := blk_frozen BK279.out 4
                have hfz26_5 := blk_frozen BK279.out 5
                go_wp2_with (first | ((with_reducible refine gate_callee (f := 37) rfl ?_); refine goesL_ (some 31) rfl rfl Try.func37 (by kernel_rfl) rfl #[.slice A0_0 l0_0.length c0_0, .string (⟨#[102, 105, 110, 97, 108]⟩ : ByteArray)] rfl (by (try simp only [List.map_toArray, List.map_cons, List.map_nil]); first | done | rfl | (simp only [List.length_drop, List.length_take]; rfl)) ?_; (with_reducible refine (unicodetextref37_tagged.calls k1 _ _ l0_0 (⟨#[102, 105, 110, 97, 108]⟩ : ByteArray) false _ ?side1 ?side2 A16.out).mono ?_); (case side1 => repeat (first | exact (Kd.V_reads' HO_280000.out).2.2 | (with_reducible refine Kd.C_alloc ?_ _) | (with_reducible refine Kd.C_drewN ?_ _) | (with_reducible refine Kd.C_drew ?_))); (case side2 => exact (Kd.V_reads' HO_280000.out).2.1); rintro e w' ⟨rfl, ⟨nd, rfl⟩⟩; refine ⟨_, rfl, ?_⟩) | (go_at_call 37; (with_reducible refine (unicodetextref37_tagged.calls k1 _ _ l0_1 (⟨#[]⟩ : ByteArray) false _ ?side1 ?side2 A19.out).mono ?_); (case side1 => repeat (first | exact (Kd.V_reads' HO_280001.out).2.2 | (with_reducible refine Kd.C_alloc ?_ _) | (with_reducible refine Kd.C_drewN ?_ _) | (with_reducible refine Kd.C_drew ?_))); (case side2 => exact (Kd.V_reads' HO_280001.out).2.1); rintro e w' ⟨rfl, ⟨nd, rfl⟩⟩) | (go_at_call 37; (with_reducible refine (unicodetextref37_tagged.calls k1 _ _ l0_2 (⟨#[]⟩ : ByteArray) false _ ?side1 ?side2 A22.out).mono ?_); (case side1 => repeat (first | exact (Kd.V_reads' HO_280002.out).2.2 | (with_reducible refine Kd.C_alloc ?_ _) | (with_reducible refine Kd.C_drewN ?_ _) | (with_reducible refine Kd.C_drew ?_))); (case side2 => exact (Kd.V_reads' HO_280002.out).2.1); rintro e w' ⟨rfl, ⟨nd, rfl⟩⟩) | (go_at_call 37; (with_reducible refine (unicodetextref37_tagged.calls k1 _ _ l0_3 (⟨#[]⟩ : ByteArray) t288 _ ?side1 ?side2 A25.out).mono ?_); (case side1 => repeat (first | exact (Kd.V_reads' HO_280003.out).2.2 | (with_reducible refine Kd.C_alloc ?_ _) | (with_reducible refine Kd.C_drewN ?_ _) | (with_reducible refine Kd.C_drew ?_))); (case side2 => exact (Kd.V_reads' HO_280003.out).2.1); rintro e w' ⟨rfl, ⟨nd, rfl⟩⟩))
                go_meet
                case rel => exact ⟨_, (t288), (by first | rfl | (simp; done) | (simp [*]; done)), H', ⟨by have := HK1.out; first | omega | exact Nat.le_refl _⟩, ⟨by (with_reducible repeat (first | apply Kd.V_alloc | apply Kd.V_drewN | apply Kd.V_drew)); exact Kd.V_mono HO_280000.out (fun _ hk => ⟨hk.1, hk.2.2⟩)⟩, ⟨by (with_reducible repeat (first | apply Kd.V_alloc | apply Kd.V_drewN | apply Kd.V_drew)); exact Kd.V_mono HO_280001.out (fun _ hk => ⟨hk.1, hk.2.2⟩)⟩, ⟨by (with_reducible repeat (first | apply Kd.V_alloc | apply Kd.V_drewN | apply Kd.V_drew)); exact Kd.V_mono HO_280002.out (fun _ hk => ⟨hk.1, hk.2.2⟩)⟩, ⟨by (with_reducible repeat (first | apply Kd.V_alloc | apply Kd.V_drewN | apply Kd.V_drew)); exact Kd.V_mono HO_280003.out (fun _ hk => ⟨hk.1, hk.2.2⟩)⟩, ⟨by (with_reducible repeat (first | refine blk_drewN ?_ _ | refine blk_drew ?_ | refine blk_alloc ?_ _)); exact BK279.out⟩, ⟨by repeat (first | (with_reducible first | exact HB.out | apply below_alloc | apply pw_below_drewN | apply below_drew1 | refine below_set ?_ GE279.out) | exact HB.out)⟩⟩
        case rest =>
          clear HC14
          try clear c1
          try clear c2
          try clear p2
          try clear q2
          try clear hx2
          try clear c3
          try clear c6
          try clear c6b0
          try clear p6
          try clear c7
          try clear c7b0
          try clear c9
          try clear c9b0
          try clear c9b1
          try clear c17
          try clear c20
          try clear c23
          try clear hcz18_0
          try clear hcz18_1
          try clear hcz18_2
          try clear hcz18_3
          try clear hcz18_4
          try clear hcz18_5
          try clear hcz21_0
          try clear hcz21_1
          try clear hcz21_2
          try clear hcz21_3
          try clear hcz21_4
          try clear hcz21_5
          try clear hcz24_0
          try clear hcz24_1
          try clear hcz24_2
          try clear hcz24_3
          try clear hcz24_4
          try clear hcz24_5
          try clear hcz26_0
          try clear hcz26_1
          try clear hcz26_2
          try clear hcz26_3
          try clear hcz26_4
          try clear hcz26_5
          try clear hcz3_0
          try clear hcz3_1
          try clear hcz3_2
          try clear hcz3_3
          try clear hcz3_4
          try clear hcz3_5
          try clear hfz18_0
          try clear hfz18_1
          try clear hfz18_2
          try clear hfz18_3
          try clear hfz18_4
          try clear hfz18_5
          try clear hfz21_0
          try clear hfz21_1
          try clear hfz21_2
          try clear hfz21_3
          try clear hfz21_4
          try clear hfz21_5
          try clear hfz24_0
          try clear hfz24_1
          try clear hfz24_2
          try clear hfz24_3
          try clear hfz24_4
          try clear hfz24_5
          try clear hfz26_0
          try clear hfz26_1
          try clear hfz26_2
          try clear hfz26_3
          try clear hfz26_4
          try clear hfz26_5
          try clear hfz3_0
          try clear hfz3_1
          try clear hfz3_2
          try clear hfz3_3
          try clear hfz3_4
          try clear hfz3_5
          try clear hx283_0
          try clear p2
          try clear p283
          try clear q283
          obtain ⟨kq, x46_13, rfl, HA, HJ13, HO_280000, HO_280001, HO_280002, HO_280003, BK279, HB⟩ := hcut
          cases kq with
          | zero => exact absurd HA.out (by simp [unicodetextref37_Check.j1])
          | succ kj13 =>
            have H := HA.out
            clear HA
            simp only [unicodetextref37_Check.j1] at H
            by_cases c27 : x46_13 = true
            · subst c27
              have H1 : (some 6) = some r := by rw [if_pos rfl] at H; exact H
              clear H
              have H := H1
              clear H1
              obtain rfl := Option.some.inj H
              go_wp2
              go_ret
              exact ⟨by first | rfl | (simp [errW_none, errW_some] <;> rfl) | (simp [*, errW_none, errW_some] <;> rfl), by repeat (first | (with_reducible first | exact HB.out | apply below_alloc | apply pw_below_drewN | apply below_drew1 | refine below_set ?_ GE279.out) | exact HB.out)⟩
            · replace c27 := Bool.eq_false_iff.mpr c27
              subst c27
              have H1 : ((unicodetextref02_Valid.f kj13 l0_4).bind fun t289 => (if t289 = true then ((unicodetextref02_Valid.f kj13 l0_5).bind fun t290 => (if t290 = true then (some 0) else (some 11))) else (some 11))) = some r := by rw [if_neg (show ¬ (false = true) by decide)] at H; exact H
              clear H
              have H := H1
              clear H1
              replace H := Option.bind_eq_some_iff.mp H
              obtain ⟨t289, A280, H⟩ := H
              replace H : (if t289 = true then ((unicodetextref02_Valid.f kj13 l0_5).bind fun t290 => (if t290 = true then (some 0) else (some 11))) else (some 11)) = some r := H
              have A28 := Aside0.mk A280
              clear A280
              by_cases c29 : t289 = true
              · subst c29
                have H1 : ((unicodetextref02_Valid.f kj13 l0_5).bind fun t290 => (if t290 = true then (some 0) else (some 11))) = some r := by rw [if_pos rfl] at H; exact H
                clear H
                have H := H1
                clear H1
                replace H := Option.bind_eq_some_iff.mp H
                obtain ⟨t290, A300, H⟩ := H
                replace H : (if t290 = true then (some 0) else (some 11)) = some r := H
                have A30 := Aside0.mk A300
                clear A300
                by_cases c31 : t290 = true
                · subst c31
                  have H1 : (some 0) = some r := by rw [if_pos rfl] at H; exact H
                  clear H
                  have H := H1
                  clear H1
                  obtain rfl := Option.some.inj H
                  have hcz32_0 : wc.cell? ⟨gb279, 0, none⟩ = some (.slice A0_0 l0_0.length c0_0) := (blk_cell BK279.out 0).trans rfl
                  have hcz32_1 : wc.cell? ⟨gb279, 1, none⟩ = some (.slice A0_1 l0_1.length c0_1) := (blk_cell BK279.out 1).trans rfl
                  have hcz32_2 : wc.cell? ⟨gb279, 2, none⟩ = some (.slice A0_2 l0_2.length c0_2) := (blk_cell BK279.out 2).trans rfl
                  have hcz32_3 : wc.cell? ⟨gb279, 3, none⟩ = some (.slice A0_3 l0_3.length c0_3) := (blk_cell BK279.out 3).trans rfl
                  have hcz32_4 : wc.cell? ⟨gb279, 4, none⟩ = some (.slice A0_4 l0_4.length c0_4) := (blk_cell BK279.out 4).trans rfl
                  have hcz32_5 : wc.cell? ⟨gb279, 5, none⟩ = some (.slice A0_5 l0_5.length c0_5) := (blk_cell BK279.out 5).trans rfl
                  have hfz32_0 := blk_frozen BK279.out 0
                  have hfz32_1 := blk_frozen BK279.out 1
                  have hfz32_2 := blk_frozen BK279.out 2
                  have hfz32_3 := blk_frozen BK279.out 3
                  have hfz32_4 := blk_frozen BK279.out 4
                  have hfz32_5 := blk_frozen BK279.out 5
                  go_wp2_with (first | ((with_reducible refine gate_callee (f := 38) rfl ?_); refine goesL_ (some 49) rfl rfl Try.func38 (by kernel_rfl) rfl #[.agg #[.slice A0_4 l0_4.length c0_4]] rfl (by (try simp only [List.map_toArray, List.map_cons, List.map_nil]); first | done | rfl | (simp only [List.length_drop, List.length_take]; rfl)) ?_; (with_reducible refine (unicodetextref02_Valid.calls kj13 _ _ l0_4 true _ ?side1 ?side2 A28.out).mono ?_); (case side1 => repeat (first | exact (Kd.C_below HR0_4.out HB.out) | (with_reducible refine Kd.C_alloc ?_ _) | (with_reducible refine Kd.C_drewN ?_ _) | (with_reducible refine Kd.C_drew ?_))); (case side2 => exact HC0_4.out); rintro e w33 ⟨rfl, hb⟩; refine ⟨_, rfl, ?_⟩; have n0_ := Aside0.mk (Kd.V_below (by (with_reducible repeat (first | apply Kd.V_alloc | apply Kd.V_drewN | apply Kd.V_drew)); exact HO_280000.out) hb); have n1_ := Aside0.mk (Kd.V_below (by (with_reducible repeat (first | apply Kd.V_alloc | apply Kd.V_drewN | apply Kd.V_drew)); exact HO_280001.out) hb); have n2_ := Aside0.mk (Kd.V_below (by (with_reducible repeat (first | apply Kd.V_alloc | apply Kd.V_drewN | apply Kd.V_drew)); exact HO_280002.out) hb); have n3_ := Aside0.mk (Kd.V_below (by (with_reducible repeat (first | apply Kd.V_alloc | apply Kd.V_drewN | apply Kd.V_drew)); exact HO_280003.out) hb); have n4_ := Aside0.mk (blk_below (g := gb279) (o := .cells #[.slice A0_0 l0_0.length c0_0, .slice A0_1 l0_1.length c0_1, .slice A0_2 l0_2.length c0_2, .slice A0_3 l0_3.length c0_3, .slice A0_4 l0_4.length c0_4, .slice A0_5 l0_5.length c0_5] 27 (0, 0)) (by (with_reducible repeat (first | refine blk_drewN ?_ _ | refine blk_drew ?_ | refine blk_alloc ?_ _)); exact BK279.out) hb); have n5_ := Aside0.mk (below_step (by repeat (first | (with_reducible first | exact HB.out | apply below_alloc | apply pw_below_drewN | apply below_drew1 | refine below_set ?_ GE279.out) | exact HB.out)) hb); clear HO_280000; clear HO_280001; clear HO_280002; clear HO_280003; clear BK279; clear HB; have HO_280000 := n0_; have HO_280001 := n1_; have HO_280002 := n2_; have HO_280003 := n3_; have BK279 := n4_; have HB := n5_; clear n0_ n1_ n2_ n3_ n4_ n5_; (try clear hb); (try clear hb2); (try clear hk); (try clear hi); have hcz34_0 : w33.cell? ⟨gb279, 0, none⟩ = some (.slice A0_0 l0_0.length c0_0) := (blk_cell BK279.out 0).trans rfl; have hcz34_1 : w33.cell? ⟨gb279, 1, none⟩ = some (.slice A0_1 l0_1.length c0_1) := (blk_cell BK279.out 1).trans rfl; have hcz34_2 : w33.cell? ⟨gb279, 2, none⟩ = some (.slice A0_2 l0_2.length c0_2) := (blk_cell BK279.out 2).trans rfl; have hcz34_3 : w33.cell? ⟨gb279, 3, none⟩ = some (.slice A0_3 l0_3.length c0_3) := (blk_cell BK279.out 3).trans rfl; have hcz34_4 : w33.cell? ⟨gb279, 4, none⟩ = some (.slice A0_4 l0_4.length c0_4) := (blk_cell BK279.out 4).trans rfl; have hcz34_5 : w33.cell? ⟨gb279, 5, none⟩ = some (.slice A0_5 l0_5.length c0_5) := (blk_cell BK279.out 5).trans rfl; have hfz34_0 := blk_frozen BK279.out 0; have hfz34_1 := blk_frozen BK279.out 1; have hfz34_2 := blk_frozen BK279.out 2; have hfz34_3 := blk_frozen BK279.out 3; have hfz34_4 := blk_frozen BK279.out 4; have hfz34_5 := blk_frozen BK279.out 5) | (go_at_call 38; (with_reducible refine (unicodetextref02_Valid.calls kj13 _ _ l0_5 true _ ?side1 ?side2 A30.out).mono ?_); (case side1 => repeat (first | exact (Kd.C_below HR0_5.out HB.out) | (with_reducible refine Kd.C_alloc ?_ _) | (with_reducible refine Kd.C_drewN ?_ _) | (with_reducible refine Kd.C_drew ?_))); (case side2 => exact HC0_5.out); rintro e w35 ⟨rfl, hb⟩; have n0_ := Aside0.mk (Kd.V_below (by (with_reducible repeat (first | apply Kd.V_alloc | apply Kd.V_drewN | apply Kd.V_drew)); exact HO_280000.out) hb); have n1_ := Aside0.mk (Kd.V_below (by (with_reducible repeat (first | apply Kd.V_alloc | apply Kd.V_drewN | apply Kd.V_drew)); exact HO_280001.out) hb); have n2_ := Aside0.mk (Kd.V_below (by (with_reducible repeat (first | apply Kd.V_alloc | apply Kd.V_drewN | apply Kd.V_drew)); exact HO_280002.out) hb); have n3_ := Aside0.mk (Kd.V_below (by (with_reducible repeat (first | apply Kd.V_alloc | apply Kd.V_drewN | apply Kd.V_drew)); exact HO_280003.out) hb); have n4_ := Aside0.mk (blk_below (g := gb279) (o := .cells #[.slice A0_0 l0_0.length c0_0, .slice A0_1 l0_1.length c0_1, .slice A0_2 l0_2.length c0_2, .slice A0_3 l0_3.length c0_3, .slice A0_4 l0_4.length c0_4, .slice A0_5 l0_5.length c0_5] 27 (0, 0)) (by (with_reducible repeat (first | refine blk_drewN ?_ _ | refine blk_drew ?_ | refine blk_alloc ?_ _)); exact BK279.out) hb); have n5_ := Aside0.mk (below_step (by repeat (first | (with_reducible first | exact HB.out | apply below_alloc | apply pw_below_drewN | apply below_drew1 | refine below_set ?_ GE279.out) | exact HB.out)) hb); clear HO_280000; clear HO_280001; clear HO_280002; clear HO_280003; clear BK279; clear HB; have HO_280000 := n0_; have HO_280001 := n1_; have HO_280002 := n2_; have HO_280003 := n3_; have BK279 := n4_; have HB := n5_; clear n0_ n1_ n2_ n3_ n4_ n5_; (try clear hb); (try clear hb2); (try clear hk); (try clear hi)))
                  go_ret
                  exact ⟨by first | rfl | (simp [errW_none, errW_some] <;> rfl) | (simp [*, errW_none, errW_some] <;> rfl), by repeat (first | (with_reducible first | exact HB.out | apply below_alloc | apply pw_below_drewN | apply below_drew1 | refine below_set ?_ GE279.out) | exact HB.out)⟩
                · replace c31 := Bool.eq_false_iff.mpr c31
                  subst c31
                  have H1 : (some 11) = some r := by rw [if_neg (show ¬ (false = true) by decide)] at H; exact H
                  clear H
                  have H := H1
                  clear H1
                  obtain rfl := Option.some.inj H
                  have hcz36_0 : wc.cell? ⟨gb279, 0, none⟩ = some (.slice A0_0 l0_0.length c0_0) := (blk_cell BK279.out 0).trans rfl
                  have hcz36_1 : wc.cell? ⟨gb279, 1, none⟩ = some (.slice A0_1 l0_1.length c0_1) := (blk_cell BK279.out 1).trans rfl
                  have hcz36_2 : wc.cell? ⟨gb279, 2, none⟩ = some (.slice A0_2 l0_2.length c0_2) := (blk_cell BK279.out 2).trans rfl
                  have hcz36_3 : wc.cell? ⟨gb279, 3, none⟩ = some (.slice A0_3 l0_3.length c0_3) := (blk_cell BK279.out 3).trans rfl
                  have hcz36_4 : wc.cell? ⟨gb279, 4, none⟩ = some (.slice A0_4 l0_4.length c0_4) := (blk_cell BK279.out 4).trans rfl
                  have hcz36_5 : wc.cell? ⟨gb279, 5, none⟩ = some (.slice A0_5 l0_5.length c0_5) := (blk_cell BK279.out 5).trans rfl
                  have hfz36_0 := blk_frozen BK279.out 0
                  have hfz36_1 := blk_frozen BK279.out 1
                  have hfz36_2 := blk_frozen BK279.out 2
                  have hfz36_3 := blk_frozen BK279.out 3
                  have hfz36_4 := blk_frozen BK279.out 4
                  have hfz36_5 := blk_frozen BK279.out 5
                  go_wp2_with (first | ((with_reducible refine gate_callee (f := 38) rfl ?_); refine goesL_ (some 49) rfl rfl Try.func38 (by kernel_rfl) rfl #[.agg #[.slice A0_4 l0_4.length c0_4]] rfl (by (try simp only [List.map_toArray, List.map_cons, List.map_nil]); first | done | rfl | (simp only [List.length_drop, List.length_take]; rfl)) ?_; (with_reducible refine (unicodetextref02_Valid.calls kj13 _ _ l0_4 true _ ?side1 ?side2 A28.out).mono ?_); (case side1 => repeat (first | exact (Kd.C_below HR0_4.out HB.out) | (with_reducible refine Kd.C_alloc ?_ _) | (with_reducible refine Kd.C_drewN ?_ _) | (with_reducible refine Kd.C_drew ?_))); (case side2 => exact HC0_4.out); rintro e w37 ⟨rfl, hb⟩; refine ⟨_, rfl, ?_⟩; have n0_ := Aside0.mk (Kd.V_below (by (with_reducible repeat (first | apply Kd.V_alloc | apply Kd.V_drewN | apply Kd.V_drew)); exact HO_280000.out) hb); have n1_ := Aside0.mk (Kd.V_below (by (with_reducible repeat (first | apply Kd.V_alloc | apply Kd.V_drewN | apply Kd.V_drew)); exact HO_280001.out) hb); have n2_ := Aside0.mk (Kd.V_below (by (with_reducible repeat (first | apply Kd.V_alloc | apply Kd.V_drewN | apply Kd.V_drew)); exact HO_280002.out) hb); have n3_ := Aside0.mk (Kd.V_below (by (with_reducible repeat (first | apply Kd.V_alloc | apply Kd.V_drewN | apply Kd.V_drew)); exact HO_280003.out) hb); have n4_ := Aside0.mk (blk_below (g := gb279) (o := .cells #[.slice A0_0 l0_0.length c0_0, .slice A0_1 l0_1.length c0_1, .slice A0_2 l0_2.length c0_2, .slice A0_3 l0_3.length c0_3, .slice A0_4 l0_4.length c0_4, .slice A0_5 l0_5.length c0_5] 27 (0, 0)) (by (with_reducible repeat (first | refine blk_drewN ?_ _ | refine blk_drew ?_ | refine blk_alloc ?_ _)); exact BK279.out) hb); have n5_ := Aside0.mk (below_step (by repeat (first | (with_reducible first | exact HB.out | apply below_alloc | apply pw_below_drewN | apply below_drew1 | refine below_set ?_ GE279.out) | exact HB.out)) hb); clear HO_280000; clear HO_280001; clear HO_280002; clear HO_280003; clear BK279; clear HB; have HO_280000 := n0_; have HO_280001 := n1_; have HO_280002 := n2_; have HO_280003 := n3_; have BK279 := n4_; have HB := n5_; clear n0_ n1_ n2_ n3_ n4_ n5_; (try clear hb); (try clear hb2); (try clear hk); (try clear hi); have hcz38_0 : w37.cell? ⟨gb279, 0, none⟩ = some (.slice A0_0 l0_0.length c0_0) := (blk_cell BK279.out 0).trans rfl; have hcz38_1 : w37.cell? ⟨gb279, 1, none⟩ = some (.slice A0_1 l0_1.length c0_1) := (blk_cell BK279.out 1).trans rfl; have hcz38_2 : w37.cell? ⟨gb279, 2, none⟩ = some (.slice A0_2 l0_2.length c0_2) := (blk_cell BK279.out 2).trans rfl; have hcz38_3 : w37.cell? ⟨gb279, 3, none⟩ = some (.slice A0_3 l0_3.length c0_3) := (blk_cell BK279.out 3).trans rfl; have hcz38_4 : w37.cell? ⟨gb279, 4, none⟩ = some (.slice A0_4 l0_4.length c0_4) := (blk_cell BK279.out 4).trans rfl; have hcz38_5 : w37.cell? ⟨gb279, 5, none⟩ = some (.slice A0_5 l0_5.length c0_5) := (blk_cell BK279.out 5).trans rfl; have hfz38_0 := blk_frozen BK279.out 0; have hfz38_1 := blk_frozen BK279.out 1; have hfz38_2 := blk_frozen BK279.out 2; have hfz38_3 := blk_frozen BK279.out 3; have hfz38_4 := blk_frozen BK279.out 4; have hfz38_5 := blk_frozen BK279.out 5) | (go_at_call 38; (with_reducible refine (unicodetextref02_Valid.calls kj13 _ _ l0_5 false _ ?side1 ?side2 A30.out).mono ?_); (case side1 => repeat (first | exact (Kd.C_below HR0_5.out HB.out) | (with_reducible refine Kd.C_alloc ?_ _) | (with_reducible refine Kd.C_drewN ?_ _) | (with_reducible refine Kd.C_drew ?_))); (case side2 => exact HC0_5.out); rintro e w39 ⟨rfl, hb⟩; have n0_ := Aside0.mk (Kd.V_below (by (with_reducible repeat (first | apply Kd.V_alloc | apply Kd.V_drewN | apply Kd.V_drew)); exact HO_280000.out) hb); have n1_ := Aside0.mk (Kd.V_below (by (with_reducible repeat (first | apply Kd.V_alloc | apply Kd.V_drewN | apply Kd.V_drew)); exact HO_280001.out) hb); have n2_ := Aside0.mk (Kd.V_below (by (with_reducible repeat (first | apply Kd.V_alloc | apply Kd.V_drewN | apply Kd.V_drew)); exact HO_280002.out) hb); have n3_ := Aside0.mk (Kd.V_below (by (with_reducible repeat (first | apply Kd.V_alloc | apply Kd.V_drewN | apply Kd.V_drew)); exact HO_280003.out) hb); have n4_ := Aside0.mk (blk_below (g := gb279) (o := .cells #[.slice A0_0 l0_0.length c0_0, .slice A0_1 l0_1.length c0_1, .slice A0_2 l0_2.length c0_2, .slice A0_3 l0_3.length c0_3, .slice A0_4 l0_4.length c0_4, .slice A0_5 l0_5.length c0_5] 27 (0, 0)) (by (with_reducible repeat (first | refine blk_drewN ?_ _ | refine blk_drew ?_ | refine blk_alloc ?_ _)); exact BK279.out) hb); have n5_ := Aside0.mk (below_step (by repeat (first | (with_reducible first | exact HB.out | apply below_alloc | apply pw_below_drewN | apply below_drew1 | refine below_set ?_ GE279.out) | exact HB.out)) hb); clear HO_280000; clear HO_280001; clear HO_280002; clear HO_280003; clear BK279; clear HB; have HO_280000 := n0_; have HO_280001 := n1_; have HO_280002 := n2_; have HO_280003 := n3_; have BK279 := n4_; have HB := n5_; clear n0_ n1_ n2_ n3_ n4_ n5_; (try clear hb); (try clear hb2); (try clear hk); (try clear hi)))
                  go_ret
                  exact ⟨by first | rfl | (simp [errW_none, errW_some] <;> rfl) | (simp [*, errW_none, errW_some] <;> rfl), by repeat (first | (with_reducible first | exact HB.out | apply below_alloc | apply pw_below_drewN | apply below_drew1 | refine below_set ?_ GE279.out) | exact HB.out)⟩
              · replace c29 := Bool.eq_false_iff.mpr c29
                subst c29
                have H1 : (some 11) = some r := by rw [if_neg (show ¬ (false = true) by decide)] at H; exact H
                clear H
                have H := H1
                clear H1
                obtain rfl := Option.some.inj H
                have hcz40_0 : wc.cell? ⟨gb279, 0, none⟩ = some (.slice A0_0 l0_0.length c0_0) := (blk_cell BK279.out 0).trans rfl
                have hcz40_1 : wc.cell? ⟨gb279, 1, none⟩ = some (.slice A0_1 l0_1.length c0_1) := (blk_cell BK279.out 1).trans rfl
                have hcz40_2 : wc.cell? ⟨gb279, 2, none⟩ = some (.slice A0_2 l0_2.length c0_2) := (blk_cell BK279.out 2).trans rfl
                have hcz40_3 : wc.cell? ⟨gb279, 3, none⟩ = some (.slice A0_3 l0_3.length c0_3) := (blk_cell BK279.out 3).trans rfl
                have hcz40_4 : wc.cell? ⟨gb279, 4, none⟩ = some (.slice A0_4 l0_4.length c0_4) := (blk_cell BK279.out 4).trans rfl
                have hcz40_5 : wc.cell? ⟨gb279, 5, none⟩ = some (.slice A0_5 l0_5.length c0_5) := (blk_cell BK279.out 5).trans rfl
                have hfz40_0 := blk_frozen BK279.out 0
                have hfz40_1 := blk_frozen BK279.out 1
                have hfz40_2 := blk_frozen BK279.out 2
                have hfz40_3 := blk_frozen BK279.out 3
                have hfz40_4 := blk_frozen BK279.out 4
                have hfz40_5 := blk_frozen BK279.out 5
                go_wp2_with (first | ((with_reducible refine gate_callee (f := 38) rfl ?_); refine goesL_ (some 49) rfl rfl Try.func38 (by kernel_rfl) rfl #[.agg #[.slice A0_4 l0_4.length c0_4]] rfl (by (try simp only [List.map_toArray, List.map_cons, List.map_nil]); first | done | rfl | (simp only [List.length_drop, List.length_take]; rfl)) ?_; (with_reducible refine (unicodetextref02_Valid.calls kj13 _ _ l0_4 false _ ?side1 ?side2 A28.out).mono ?_); (case side1 => repeat (first | exact (Kd.C_below HR0_4.out HB.out) | (with_reducible refine Kd.C_alloc ?_ _) | (with_reducible refine Kd.C_drewN ?_ _) | (with_reducible refine Kd.C_drew ?_))); (case side2 => exact HC0_4.out); rintro e w41 ⟨rfl, hb⟩; refine ⟨_, rfl, ?_⟩; have n0_ := Aside0.mk (Kd.V_below (by (with_reducible repeat (first | apply Kd.V_alloc | apply Kd.V_drewN | apply Kd.V_drew)); exact HO_280000.out) hb); have n1_ := Aside0.mk (Kd.V_below (by (with_reducible repeat (first | apply Kd.V_alloc | apply Kd.V_drewN | apply Kd.V_drew)); exact HO_280001.out) hb); have n2_ := Aside0.mk (Kd.V_below (by (with_reducible repeat (first | apply Kd.V_alloc | apply Kd.V_drewN | apply Kd.V_drew)); exact HO_280002.out) hb); have n3_ := Aside0.mk (Kd.V_below (by (with_reducible repeat (first | apply Kd.V_alloc | apply Kd.V_drewN | apply Kd.V_drew)); exact HO_280003.out) hb); have n4_ := Aside0.mk (blk_below (g := gb279) (o := .cells #[.slice A0_0 l0_0.length c0_0, .slice A0_1 l0_1.length c0_1, .slice A0_2 l0_2.length c0_2, .slice A0_3 l0_3.length c0_3, .slice A0_4 l0_4.length c0_4, .slice A0_5 l0_5.length c0_5] 27 (0, 0)) (by (with_reducible repeat (first | refine blk_drewN ?_ _ | refine blk_drew ?_ | refine blk_alloc ?_ _)); exact BK279.out) hb); have n5_ := Aside0.mk (below_step (by repeat (first | (with_reducible first | exact HB.out | apply below_alloc | apply pw_below_drewN | apply below_drew1 | refine below_set ?_ GE279.out) | exact HB.out)) hb); clear HO_280000; clear HO_280001; clear HO_280002; clear HO_280003; clear BK279; clear HB; have HO_280000 := n0_; have HO_280001 := n1_; have HO_280002 := n2_; have HO_280003 := n3_; have BK279 := n4_; have HB := n5_; clear n0_ n1_ n2_ n3_ n4_ n5_; (try clear hb); (try clear hb2); (try clear hk); (try clear hi)))
                go_ret
                exact ⟨by first | rfl | (simp [errW_none, errW_some] <;> rfl) | (simp [*, errW_none, errW_some] <;> rfl), by repeat (first | (with_reducible first | exact HB.out | apply below_alloc | apply pw_below_drewN | apply below_drew1 | refine below_set ?_ GE279.out) | exact HB.out)⟩
end Go.Proofs.Ythnkmcfhpjmihaa.Q
end
section
namespace Go.Proofs.Ythnkmcfhpjmihaa.Q
open Go.RowKit Go.Proofs.YthnkmcfhpjmihaaW.PrintWords Go.Proofs.YthnkmcfhpjmihaaW.PrintLast Go.Proofs.YthnkmcfhpjmihaaW.PrintMore
set_option linter.unusedVariables false
def unicodetextref37_Data.f (k : Nat) (l0_0 : List Mp) (l0_1 : List Mp) (l0_2 : List Mp) (l0_3 : List Mp) (l0_4 : List Rg) (l0_5 : List Rg) : Option (List Mp × List Mp × List Mp × List Mp × List Rg × List Rg) := (unicodetextref37_Check.f k l0_0 l0_1 l0_2 l0_3 l0_4 l0_5).bind fun t => if t = 0 then some (l0_0, l0_1, l0_2, l0_3, l0_4, l0_5) else some ([], [], [], [], [], [])
end Go.Proofs.Ythnkmcfhpjmihaa.Q
end
section
namespace Go.Proofs.Ythnkmcfhpjmihaa.Q
open Go.RowKit Go.Proofs.YthnkmcfhpjmihaaW.PrintWords Go.Proofs.YthnkmcfhpjmihaaW.PrintLast Go.Proofs.YthnkmcfhpjmihaaW.PrintMore
set_option linter.unusedVariables false
def unicodetextref11_valid.f (k : Nat) (l0 : List S43) : Option (List S43) := (unicodetextref11_Check.f k l0).bind fun t => if t = 0 then some l0 else some []
end Go.Proofs.Ythnkmcfhpjmihaa.Q
end
