/- Lemmas, printed and written for this claim: part 7. -/
import Derived.Test.YtcpicopaobhlcaaG2
import Derived.RangeFuncNested
import Derived.RangeFuncBound
import Derived.RangeFuncCalls
import Derived.RangeFuncLeaves
import Derived.RangeFuncBox
import Derived.Shelf.Abstract
import Derived.OwnWalkIn
import Derived.TacticsInMore
import Derived.LoopNIn
import Derived.LoopIn
import Derived.Maps.AppendAt
import Derived.WalkKit
import Derived.Test.YtcpicopaobhlcaaG3
import Derived.Shelf.SlSorted.Search
import Derived.Shelf.Lay
import Derived.RegionTactic
import Derived.Maps.Own
import Derived.Maps.OwnSet
import Derived.Maps.OwnOps
import Derived.Maps.Views
import Derived.Maps.Keyed
import Derived.Test.YtcpicopaobhlcaaG6
import Derived.WalkMore
section
namespace Go.Proofs.Ytcpicopaobhlcaa.Q
open Go.RowKit Go.Shelf Go.Proofs.YtcpicopaobhlcaaW.PrintWords Go.Proofs.YtcpicopaobhlcaaW.PrintLast Go.Proofs.YtcpicopaobhlcaaW.PrintMore
set_option linter.unusedVariables false
attribute [local go_sem] Oper.semAt_some
def mkR (xs : List Rg) : List Rg := (CpM.make (xs.map toP)).map ofP
theorem mkR_length (xs : List Rg) : (mkR xs).length ≤ xs.length := by
  unfold mkR
  have := make_length (xs.map toP)
  simpa using this
/-- The block that the slice in the box B lies in. -/
def rowAt (W : World) (B k : Nat) : Prop := ∃ v t fr, W.heap[B]? = some (.cells #[v] t fr) ∧ v.ownBlock = some k
/-- What a round keeps: all cells but the box B and the row that the box leads to. -/
structure KpB (B : Nat) (W W' : World) : Prop where
  size : W.heap.size ≤ W'.heap.size
  same : ∀ k cs t fr, W.heap[k]? = some (.cells cs t fr) → k ≠ B → ¬ rowAt W B k → W'.heap[k]? = some (.cells cs t fr)
  row : ∀ k, rowAt W' B k → rowAt W B k ∨ W.heap.size ≤ k
theorem lt_of_heap {W : World} {k : Nat} {o : Obj} (h : W.heap[k]? = some o) : k < W.heap.size := (Array.getElem?_eq_some_iff.1 h).1
theorem KpB.trans {B : Nat} {X Y Z : World} (h : KpB B X Y) (k : KpB B Y Z) : KpB B X Z where
  size := Nat.le_trans h.size k.size
  same i cs t fr hi hne hr := by
    refine k.same i cs t fr (h.same i cs t fr hi hne hr) hne fun hy => ?_
    rcases h.row i hy with h1 | h1
    · exact hr h1
    · have := lt_of_heap hi; omega
  row i hi := by
    rcases k.row i hi with h1 | h1
    · exact h.row i h1
    · exact .inr (Nat.le_trans h.size h1)
theorem KpB.putObj {B : Nat} (W : World) (l : Nat) (o o' : Obj) (hB : B < l) (hl : W.heap[l]? = some o) (hc : o.isCells = false) : KpB B W (W.putObj l o') where
  size := (grownBy_putObj' W l o').size
  same i cs t fr hi hne hr := by
    refine ((grownBy_putObj' W l o').block i (lt_of_heap hi) fun e => ?_).trans hi
    injection e with e
    subst e
    rw [hi] at hl
    cases hl
    cases hc
  row i hi := by
    obtain ⟨v, t, fr, h1, h2⟩ := hi
    rw [World.putObj_heap_other (show B ≠ l by omega)] at h1
    exact .inl ⟨v, t, fr, h1, h2⟩
theorem KpB.of_below {B : Nat} {W W' : World} (hb : Below W.heap.size W W') (hB : B < W.heap.size) : KpB B W W' where
  size := hb.size
  same i cs t fr hi hne hr := (hb.block i (lt_of_heap hi)).trans hi
  row i hi := by
    obtain ⟨v, t, fr, h1, h2⟩ := hi
    exact .inl ⟨v, t, fr, by rw [← hb.block B hB]; exact h1, h2⟩
set_option maxHeartbeats 1000000 in
theorem ranges_calls (v : Value) (w : World) : Calls Try.prog 94 #[.agg #[v]] w fun e w' => e = .returned (.func (.func 101) #[] #[.pointer (some ⟨w.heap.size, 0, none⟩)]) ∧ w' = w.alloc (.cells #[v] 45) := by
  go_enter Try.func94, Try.ntmps94
  go_wp2
  go_ret
  exact ⟨rfl, rfl⟩
/-- What the iterator reads still lies where it lay, and is not the collector's own row. -/
def Stays (B : Nat) (v : Value) (W1 wr : World) : Prop := ∀ k, v.ownBlock = some k → wr.heap[k]? = W1.heap[k]? ∧ ¬ rowAt wr B k
set_option maxHeartbeats 4000000 in
set_option maxRecDepth 100000 in
theorem ranges_iter (B n : Nat) (hn : 1 ≤ n) (l Bn : Nat) (A0 : Option Addr) (c0 : Nat) (xs : List Rg) (J Jx : List Rg → World → Prop)
    (hY : ∀ pre x W, J pre W → pre.length < (mkR xs).length → YieldAt Fence.wide (n - 1) Try.prog l #[.agg #[.int .i64 x.f0, .int .i64 x.f1]] W fun e W' =>
      (e = .returned (.bool true) ∧ J (pre ++ [x]) W' ∧ KpB B W W') ∨ (e = .returned (.bool false) ∧ Jx (pre ++ [x]) W'))
    (W : World) (hBn : W.cell? ⟨Bn, 0, none⟩ = some (.slice A0 xs.length c0)) (hR : Kd.C kRg W A0 xs.length xs) (hc : xs.length ≤ c0) (hbig : xs.length < 1000000000)
    (hB0 : W.heap[B]? = some (.cells #[.slice none 0 0] 43 (0, 0))) (hJ : AbidesFrom W.heap.size J) (h0 : J [] W) :
    CallsIn Fence.wide n Try.prog 101 #[.func (.yield l) #[] #[], .pointer (some ⟨Bn, 0, none⟩)] W fun e W' => (∃ v, e = .returned v) ∧
      ((∃ ys, ys = mkR xs ∧ J ys W') ∨ (∃ pre, pre <+: mkR xs ∧ Jx pre W')) := by
  have hmk : cpset_Make.f xs = some (mkR xs) := by unfold cpset_Make.f; rw [if_pos hbig]; rfl
  have HM := Aside0.mk hmk
  have HR := Aside0.mk hR
  have HC := Aside0.mk hc
  have HB0 := Aside0.mk hB0
  have HBIG := Aside0.mk hbig
  clear hmk hR hc hbig hB0
  refine callsIn_of_wp Try.func101 rfl trivial ?_ rfl
  simp only [Try.ntmps101, List.size_toArray, List.length_cons, List.length_nil, Nat.reduceAdd, Nat.reduceSub, Array.replicate_succ, Array.replicate_zero, List.push_toArray, List.append_toArray, List.nil_append, List.cons_append]
  gi_wp2_with (refine ⟨trivial, ?_⟩; gi_at_call 59; refine (callsIn_wide.2 (cpset_Make.calls _ _ xs (mkR xs) _ HR.out HC.out HM.out)).mono ?_; rintro e W1 ⟨v, rfl, ho, hb⟩; have HO := Aside0.mk ho; have HB := Aside0.mk hb; obtain ⟨A1, c1, ev⟩ := Kd.R_slice ho; subst ev; clear ho hb)
  have hJ1 : J [] W1 := hJ [] W W1 none h0 (grown_of_below HB.out none) (fun r e => by cases e)
  have hBlt := lt_of_heap HB0.out
  have hB1 := (HB.out.block B hBlt).trans HB0.out
  have hst0 : Stays B (.slice A1 (mkR xs).length c1) W1 W1 := fun k hk => ⟨rfl, fun ⟨v, t, fr, h1, h2⟩ => by rw [hB1] at h1; cases h1; simp [Value.ownBlock] at h2⟩
  have hown : ∀ k, (Value.slice A1 (mkR xs).length c1).ownBlock = some k → W.heap.size ≤ k ∧ k < W1.heap.size ∧ ∃ cells, W1.heap[k]? = some (.cells cells 69 (0, 0)) := fun k hk => ⟨Kd.R_base HO.out k hk, Kd.R_lt HO.out k hk, by obtain ⟨inner, ho⟩ := Kd.R_own HO.out; exact own_typed ho k hk⟩
  have HOWN := Aside0.mk hown
  have HST := Aside0.mk hst0
  have HMM := Aside0.mk (Nat.lt_of_le_of_lt (mkR_length xs) HBIG.out)
  have HBL := Aside0.mk hBlt
  clear hB1 hst0 hown hBlt
  have HJJ := Aside0.mk hJ
  have HJ1 := Aside0.mk hJ1
  have HWS := Aside0.mk HB.out.size
  clear hJ hJ1 h0
  gi_loopw [10] (fun i wr => ∃ k : Nat, i = .int .i64 k ∧ Aside0 (k ≤ (mkR xs).length) ∧ Aside0 (W1.heap.size ≤ wr.heap.size) ∧ Aside0 (J ((mkR xs).take k) wr) ∧ Aside0 (Stays B (.slice A1 (mkR xs).length c1) W1 wr)) (fun i wr => (mkR xs).length - (intOf i).toNat)
  case atStart => exact ⟨0, rfl, ⟨Nat.zero_le _⟩, ⟨Nat.le_refl _⟩, HJ1, HST⟩
  case round =>
    obtain ⟨k, rfl, HK, HS, HJ, HST1⟩ := hrel
    by_cases hlt : k < (mkR xs).length
    · have hRr : Kd.R kRg 69 wr W.heap.size (fun j => some j = (Value.slice A1 (mkR xs).length c1).ownBlock) (.slice A1 (mkR xs).length c1) (mkR xs) := Kd.R_move (Kd.R_tight rfl HO.out) (fun j hj => (HST1.out j hj.symm).1)
      obtain ⟨ad, e, hx0, hx1⟩ := at_T69 (Kd.R_reads' hRr).2.2 (k : Int) (by omega) (by omega)
      cases e
      rw [Int.toNat_natCast] at hx0 hx1
      clear hRr
      have hst := Aside0.mk (rd_take hlt)
      generalize rd_T69 (mkR xs) (k : Int) = x at hx0 hx1 hst
      have hw : wrap64 ((k : Int) + 1) = (k : Int) + 1 := by have := HMM.out; unfold wrap64; omega
      have hp : (0 ≤ (k : Int)) = True := eq_true (by omega)
      have hJ' := HJJ.out _ wr (wr.alloc (.cells #[.int .i64 x.f0, .int .i64 x.f1] 69)) none HJ.out (World.grownBy_alloc wr _ none) (fun r e => by cases e)
      obtain ⟨fn, tmps, assign, body, hy, hR⟩ := hY ((mkR xs).take k) x _ hJ' (by rw [List.length_take]; omega)
      clear hJ' hY
      have HRR := Aside0.mk hR
      clear hR
      gi_wp2
      refine HRR.out.mono ?_
      rintro e W3 (⟨rfl, hJ3, hk3⟩ | ⟨rfl, hJx3⟩)
      · have HJ3 := Aside0.mk hJ3
        have hsz3 := hk3.size
        have HST3 : Aside0 (Stays B (.slice (some ad) (mkR xs).length c1) W1 W3) := ⟨fun j hj => by
          obtain ⟨h1, h2⟩ := HST1.out j hj
          obtain ⟨h3, h4, cells, h5⟩ := HOWN.out j hj
          have h6 : (wr.alloc (.cells #[.int .i64 x.f0, .int .i64 x.f1] 69)).heap[j]? = some (.cells cells 69 (0, 0)) := by
            rw [Below.heap_alloc _ _ _ (Nat.lt_of_lt_of_le h4 HS.out), h1]; exact h5
          have h7 : ¬ rowAt (wr.alloc (.cells #[.int .i64 x.f0, .int .i64 x.f1] 69)) B j := by
            rintro ⟨v, t, fr, ha, hb⟩
            rw [Below.heap_alloc _ _ _ (by have := HBL.out; have := HWS.out; have := HS.out; omega)] at ha
            exact h2 ⟨v, t, fr, ha, hb⟩
          refine ⟨(hk3.same j _ _ _ h6 (by have := HBL.out; omega) h7).trans h5.symm, fun h8 => ?_⟩
          rcases hk3.row j h8 with h9 | h9
          · exact h7 h9
          · have := HS.out
            rw [World.size_alloc] at h9
            omega⟩
        have HS3 : Aside0 (W1.heap.size ≤ W3.heap.size) := ⟨by rw [World.size_alloc] at hsz3; have := HS.out; omega⟩
        clear hJ3 hk3 hsz3
        gi_wp2
        go_roundw
        case rel => exact ⟨k + 1, by rw [hw]; rfl, ⟨hlt⟩, HS3, ⟨by rw [hst.out]; exact HJ3.out⟩, HST3⟩
        case measure => rw [hw]; simp only [intOf]; omega
      · have HJX := Aside0.mk hJx3
        clear hJx3
        gi_wp2
        refine bodyPost_ret (results_none rfl _ _ _) rfl ?_
        exact ⟨⟨_, rfl⟩, .inr ⟨_, by rw [← hst.out]; exact List.take_prefix _ _, HJX.out⟩⟩
    · obtain rfl : k = (mkR xs).length := by have := HK.out; omega
      gi_wp2
      go_end0
      exact ⟨⟨_, rfl⟩, .inl ⟨_, rfl, by have := HJ.out; rwa [List.take_length] at this⟩⟩
end Go.Proofs.Ytcpicopaobhlcaa.Q
end
section
namespace Go.Proofs.Ytcpicopaobhlcaa.Q
open Go.RowKit Go.Shelf Go.Proofs.YtcpicopaobhlcaaW.PrintWords Go.Proofs.YtcpicopaobhlcaaW.PrintLast Go.Proofs.YtcpicopaobhlcaaW.PrintMore
set_option linter.unusedVariables false
attribute [local go_sem] Oper.semAt_some
theorem wpListIn_append_at {F : Fence} {n : Nat} {P : Program} (w : World) {ops : Array Oper} {rest : List Oper} {o : Oper} {a : Act} {Q : Exit → Act → World → Prop}
    (hg : o.guard = none) (s x : Operand) (t : TypeId) (hop : o.op = Op.call { callee := Callee.builtin Builtin.append, args := #[s, x], argTypes := #[t, t] })
    (base : Nat) (e : TypeId) (i : TypeInfo) (z : Value) (size bytes : Nat) (h1 : P.underlying t = some (.slice e)) (h2 : P.info? e = some i) (h3 : i.zero = some z) (h4 : i.size = size) (h5 : i.bytes = bytes) (h6 : z.cells.size = size) (h7 : 0 < size)
    (v : Value) (k : Nat) (xs : List Value) (hs : a.eval s = v) (hown : w.ownsRow base e size v k xs) (ad : Addr) (m c : Nat) (news : List Value) (hx : a.eval x = .slice (some ad) m c) (hn : news.length = m * size)
    (hc : ∀ j u, news[j]? = some u → w.cell? (ad.add j) = some u) (h1c : ∀ u ∈ news, u.oneCell' = true) (b1 : k + m ≤ maxLen) (b2 : (k + m) * bytes ≤ 140737488355328) (b3 : base ≤ w.heap.size)
    (hK : ∀ v' w', w'.ownsRow base e size v' (k + m) (xs ++ news) → w.grownBy w' v.ownBlock → (v'.ownBlock = v.ownBlock ∨ v'.ownBlock = some w.heap.size) → wpListIn F n P ops Q rest (a.put o.dst v') w') :
    wpListIn F n P ops Q (o :: rest) a w := by
  refine wpListIn_plain hg fun K hK' => ?_
  obtain ⟨v', w', hrun, r1, r2, _, r3⟩ := run_append_own_at (P := P) w base t o.type e i z size bytes h1 h2 h3 h4 h5 h6 h7 v k xs hown ad m c news hn hc h1c b1 b2 b3
  unfold Oper.wpIn
  refine ⟨?_, ?_⟩
  · simp [Oper.about, hop, resolve, Target.leads, Sem.run_pure]
  · rw [Oper.semAt_plain F _ _ (by rw [hop]; intro c hc'; cases hc')]
    simp [execOp, hop, resolve, invoke, builtin, hs, hx, hrun, Result.andThen]
    exact hK' _ _ (hK v' w' r1 r2 r3)
theorem KpB.appended {B : Nat} {W w1 : World} {tmp : Obj} {t : TypeId} {v v' : Value} (hv : Boxed W B t v) (hgrow : (W.alloc tmp).grownBy w1 v.ownBlock) (hat : v'.ownBlock = v.ownBlock ∨ v'.ownBlock = some (W.alloc tmp).heap.size) (hv1 : Boxed w1 B t v) :
    KpB B W (w1.setCell ⟨B, 0, none⟩ v') where
  size := Nat.le_trans (Nat.le_trans (by simp) hgrow.size) (KeepsWalks.setCell w1 _ v').size
  same k cs t' fr hk hne hr := by
    have hlt := lt_of_heap hk
    rw [Below.heap_setCell _ _ _ _ hne, hgrow.block k (by simp; omega) (fun e => hr ⟨v, t, _, hv, e.symm⟩), Below.heap_alloc _ _ _ hlt]
    exact hk
  row k hk := by
    obtain ⟨u, t', fr, h1, h2⟩ := hk
    have h3 : (w1.setCell ⟨B, 0, none⟩ v').heap[B]? = _ := hv1.set v'
    rw [h3] at h1
    cases h1
    rcases hat with h4 | h4
    · exact .inl ⟨v, t, _, hv, by rw [← h4]; exact h2⟩
    · rw [h4] at h2
      injection h2 with h2
      exact .inr (by rw [← h2]; simp)
set_option maxHeartbeats 4000000 in
set_option maxRecDepth 100000 in
theorem append_seq (n : Nat) (hn : 3 ≤ n) (Bn : Nat) (A0 : Option Addr) (c0 : Nat) (xs : List Rg) (w : World)
    (hBn : w.cell? ⟨Bn, 0, none⟩ = some (.slice A0 xs.length c0)) (hR : Kd.C kRg w A0 xs.length xs) (hc : xs.length ≤ c0) (hbig : xs.length < 1000000000) :
    CallsIn Fence.wide n Try.prog 100 #[.slice none 0 0, .func (.func 101) #[] #[.pointer (some ⟨Bn, 0, none⟩)]] w fun e W' =>
      ∃ v, e = .returned v ∧ Kd.R kRg 69 W' w.heap.size (fun _ => True) v (mkR xs) ∧ Below w.heap.size w W' := by
  have h1 : 1 ≤ n := by omega
  obtain ⟨i0, hi, hzz⟩ := Option.map_eq_some_iff.1 info69
  simp only [Prod.mk.injEq] at hzz
  obtain ⟨hz0, hz1, hz2⟩ := hzz
  have HZ := Aside0.mk hz0
  have HZ1 := Aside0.mk hz1
  have HZ2 := Aside0.mk hz2
  have HI := Aside0.mk hi
  clear hz0 hz1 hz2 hi
  refine callsIn_of_wp_marks Try.func100 rfl trivial ?_ rfl
  simp only [Try.ntmps100, List.size_toArray, List.length_cons, List.length_nil, Nat.reduceAdd, Nat.reduceSub, Array.replicate_succ, Array.replicate_zero, List.push_toArray, List.append_toArray, List.nil_append, List.cons_append]
  have HBn := Aside0.mk hBn
  have HR := Aside0.mk hR
  have HG := Aside0.mk hbig
  clear hBn hR hbig
  gi_wp2
  have bO := Boxed.new w 43 (.slice none 0 0)
  have hB0 : Below w.heap.size w (w.alloc (.cells #[.slice none 0 0] 43)) := (Below.refl _ w).alloc (Nat.le_refl _) _
  have hsz : (w.alloc (.cells #[.slice none 0 0] 43)).heap.size = w.heap.size + 1 := by simp
  obtain ⟨W0, hW0⟩ : ∃ W0, w.alloc (.cells #[.slice none 0 0] 43) = W0 := ⟨_, rfl⟩
  rw [hW0] at bO hB0 hsz ⊢
  clear hW0
  refine wpIn_rangeFunc_ownH (F := Fence.wide) rfl h1 (gf := 101) (lb := #[.pointer (some ⟨Bn, 0, none⟩)]) rfl trivial (enters_of Try.func101 (by kernel_rfl) rfl)
    (encs := fun x : Rg => #[.agg #[.int .i64 x.f0, .int .i64 x.f1]]) (Kp := KpB w.heap.size) (S := fun ys => ys = mkR xs) (Sp := fun pre => pre <+: mkR xs) (N := (mkR xs).length) (w0 := W0)
    (fun l J Jx W hW hJ _ hY h0 => ranges_iter w.heap.size (n - 1) (by omega) l Bn A0 c0 xs J Jx hY W
      ((hW.cell (p := ⟨Bn, 0, none⟩) (by have : Bn < w.heap.size := World.block_lt_of_cell? w _ HBn.out; show Bn < W0.heap.size; omega)).trans ((hB0.cell (p := ⟨Bn, 0, none⟩) (show Bn < w.heap.size from World.block_lt_of_cell? w _ HBn.out)).trans HBn.out))
      (Kd.C_below (Kd.C_below HR.out hB0) hW) hc HG.out ((hW.block _ bO.lt).trans bO) hJ h0)
    KpB.trans (fun W l o o' hl hlo hoc _ => KpB.putObj W l o o' (by omega) hlo hoc) (Below.refl _ _) (fun _ => rfl)
    (fun pre W => (∃ v, Boxed W w.heap.size 43 v ∧ W.ownsRow w.heap.size 69 2 v pre.length (flatR pre) ∧ True) ∧ Below w.heap.size w W)
    (fun _ _ _ => False)
    (OwnFrom.and (Own.from (holdsRow_own w.heap.size w.heap.size 43 69 2 (fun pre : List Rg => pre.length) flatR (fun _ _ => True)) _) (ownFrom_below (Nat.le_refl _) (by omega)))
    (fun _ _ _ _ _ hs _ _ => hs)
    ⟨⟨_, bO, World.ownsRow_nil _ _ _ _, trivial⟩, hB0⟩
    (fun x a' W => ∃ Bx, w.heap.size < Bx ∧ W.heap[Bx]? = some (.cells #[.int .i64 x.f0, .int .i64 x.f1] 69 (0, 0)) ∧ a' = { tmps := #[.slice none 0 0, .func (.func 101) #[] #[.pointer (some ⟨Bn, 0, none⟩)], .pointer (some ⟨w.heap.size, 0, none⟩), undef, .slice none 0 0, .pointer (some ⟨Bx, 0, none⟩), .func (.func 101) #[] #[.pointer (some ⟨Bn, 0, none⟩)], .agg #[.int .i64 x.f0, .int .i64 x.f1], undef, undef, undef, undef, undef], defers := [] })
    (fun x a' _ X Y row hs hg hr => by obtain ⟨Bx, h1, h2, h3⟩ := hs; exact ⟨Bx, h1, (grownBy_keeps_cells hg (fun r e => (hr r e).2) h2 rfl).trans h2, h3⟩)
    ?assign ?body ?done ?stop
  case assign =>
    rintro l pre x W K ⟨⟨v, hv, hrow, _⟩, hB⟩ hK
    have HV := Aside0.mk hv
    have HRW := Aside0.mk hrow
    have HB := Aside0.mk hB
    clear hv hrow hB
    gi_wp2
    refine hK _ _ ((KeepsOthers.alloc _ _).from _) (KpB.of_below (below_alloc (Below.refl _ W) _) (Nat.lt_of_lt_of_le HV.out.lt (Nat.le_refl _))) ⟨⟨v, HV.out.alloc _, HRW.out.alloc _, trivial⟩, HB.out.alloc HB.out.size _⟩ ⟨W.heap.size, HV.out.lt, heap_alloc_new W _, rfl⟩
  case body =>
    rintro l pre x a' W hl _ ⟨⟨v, hv, hrow, _⟩, hB⟩ ⟨Bx, hBx, hx, rfl⟩ hlt
    have hcv := hv.cell
    have hc0 : W.cell? ⟨Bx, 0, none⟩ = some (.int .i64 x.f0) := (blk_cell hx 0).trans rfl
    have hc1 : W.cell? ⟨Bx, 1, none⟩ = some (.int .i64 x.f1) := (blk_cell hx 1).trans rfl
    have HX := Aside0.mk hx
    have HV := Aside0.mk hv
    have HRW := Aside0.mk hrow
    have HB := Aside0.mk hB
    have hpl : pre.length < 1000000000 := Nat.lt_of_lt_of_le hlt (Nat.le_trans (mkR_length xs) (Nat.le_of_lt HG.out))
    have HPL := Aside0.mk hpl
    clear hx hv hrow hB hpl hlt
    gi_wp2_with (gi_at_builtin; refine wpListIn_append_at _ rfl _ _ 43 rfl w.heap.size 69 i0 (.agg #[.int .i64 0, .int .i64 0]) 2 16 Try.underlying43 HI.out HZ.out HZ1.out HZ2.out rfl (by decide) v pre.length (flatR pre) rfl (HRW.out.alloc _) ⟨W.heap.size, 0, none⟩ 1 1 [.int .i64 x.f0, .int .i64 x.f1] rfl rfl (by simpa using World.news_of_block (cs := #[.int .i64 x.f0, .int .i64 x.f1]) (t := 69) (fr := (0, 0)) (heap_alloc_new W (.cells #[.int .i64 x.f0, .int .i64 x.f1] 69))) (by simp [Value.oneCell']) (by have := HPL.out; unfold maxLen; omega) (by have := HPL.out; omega) (by have := HB.out.size; simp; omega) ?_; intro v' w1 hown' hgrow hat; obtain ⟨g', cap', rfl⟩ := ownsRow_succ hown'; obtain ⟨hv1, hv2, hr2, hk2, hb2⟩ := HV.out.appended (by decide) HRW.out HB.out.size (Nat.le_refl _) hown' hgrow; have hc1' := hv1.cell; have hf1 := hv1.frozen; have HG2 := Aside0.mk hgrow; have HA2 := Aside0.mk hat; have HV1 := Aside0.mk hv1; have HV2 := Aside0.mk hv2; have HR2 := Aside0.mk hr2; have HK2 := Aside0.mk hk2; have HB2 := Aside0.mk hb2; clear hgrow hat hown' hv1 hv2 hr2 hk2 hb2)
    refine ⟨HK2.out.from _, KpB.appended HV.out HG2.out HA2.out HV1.out, ⟨⟨_, HV2.out, ?_, trivial⟩, HB.out.trans HB2.out⟩⟩
    rw [List.length_append, List.length_singleton, flatR_append]
    exact HR2.out
  case done =>
    rintro D ys W hD rfl ⟨⟨v, hv, hrow, _⟩, hB⟩ hK
    have hcv := hv.cell
    have HRW := Aside0.mk hrow
    have HB := Aside0.mk hB
    have HK := Aside0.mk hK
    clear hv hrow hB hK
    gi_wp2
    refine ⟨by simp, .inl ⟨_, _, rfl, run_takeDeferred HK.out, ?_⟩⟩
    exact ⟨_, results_tmp rfl _ _ _, v, rfl, R_own_iff.2 ⟨fun _ _ => trivial, ownsRow_putObj HRW.out _ HK.out rfl⟩, HB.out.trans (belowK_b (w := w) (Nat.le_refl _) W D _ _ (by omega) HK.out rfl rfl)⟩
  case stop =>
    rintro D c pre W _ _ h _
    exact h.elim
set_option maxHeartbeats 1000000 in
theorem collect_calls (Bn : Nat) (A0 : Option Addr) (c0 : Nat) (xs : List Rg) (w : World)
    (hBn : w.cell? ⟨Bn, 0, none⟩ = some (.slice A0 xs.length c0)) (hR : Kd.C kRg w A0 xs.length xs) (hc : xs.length ≤ c0) (hbig : xs.length < 1000000000) :
    Calls Try.prog 93 #[.func (.func 101) #[] #[.pointer (some ⟨Bn, 0, none⟩)]] w fun e W' =>
      ∃ v, e = .returned v ∧ Kd.R kRg 69 W' w.heap.size (fun _ => True) v (mkR xs) ∧ Below w.heap.size w W' := by
  have HS := Aside0.mk (callsIn_wide.1 (append_seq 3 (by omega) Bn A0 c0 xs w hBn hR hc hbig))
  clear hBn hR hc hbig
  go_enter Try.func93, Try.ntmps93
  go_wp2_with (go_at_call 100; refine HS.out.mono ?_; rintro e w1 ⟨v, rfl, ho, hb⟩; have HO := Aside0.mk ho; have HB := Aside0.mk hb; clear ho hb)
  go_ret
  exact ⟨v, rfl, HO.out, HB.out⟩
end Go.Proofs.Ytcpicopaobhlcaa.Q
end
section
namespace Go.Proofs.Ytcpicopaobhlcaa.Q
open Go.RowKit Go.Shelf Go.Proofs.YtcpicopaobhlcaaW.PrintWords Go.Proofs.YtcpicopaobhlcaaW.PrintLast Go.Proofs.YtcpicopaobhlcaaW.PrintMore
set_option linter.unusedVariables false
/-- Whether the ranges of a canonical list hold c, as the closure of finder answers it. -/
def findR (ys : List Rg) (c : Int) : Bool :=
  let n := (List.range ys.length).countP (fun i : Nat => !decide (c ≤ (rd_T69 ys (i : Int)).f1))
  decide (n < ys.length) && decide ((rd_T69 ys n).f0 ≤ c)
set_option maxHeartbeats 2000000 in
theorem finder11_calls (bl bc : Nat) (A : Option Addr) (cap : Nat) (ys : List Rg) (c : Int) (i : Nat) (W : World) (hi : i < ys.length)
    (ha : W.cell? ⟨bl, 0, none⟩ = some (.slice A ys.length cap)) (hx : W.cell? ⟨bc, 0, none⟩ = some (.int .i64 c)) (hc : Kd.C kRg W A ys.length ys) :
    Calls Try.prog 97 (#[.int .i64 i] ++ #[.pointer (some ⟨bl, 0, none⟩), .pointer (some ⟨bc, 0, none⟩)]) W fun e w' => e = .returned (.bool (decide (c ≤ (rd_T69 ys i).f1))) ∧ ∃ q, w' = W.drewN q := by
  obtain ⟨ad, e, h0, h1⟩ := at_T69 hc (i : Int) (by omega) (by omega)
  subst e
  rw [Int.toNat_natCast] at h0 h1
  generalize rd_T69 ys i = y at h0 h1 ⊢
  clear hc
  have hiz : (i : Int) < (ys.length : Int) := by omega
  generalize ys.length = n at *
  go_enter Try.func97, Try.ntmps97
  go_wp2
  go_region
  all_goals go_wp2
  all_goals go_ret
  all_goals exact ⟨by first | rfl | simp, 1, rfl⟩
set_option maxHeartbeats 4000000 in
set_option maxRecDepth 100000 in
theorem finder1_calls (bl : Nat) (A : Option Addr) (cap : Nat) (ys : List Rg) (c : Int) (w : World) (hsz : ys.length < 1000000000)
    (ha : w.cell? ⟨bl, 0, none⟩ = some (.slice A ys.length cap)) (hC : Kd.C kRg w A ys.length ys)
    (hmono : ∀ a b : Nat, a ≤ b → b < ys.length → c ≤ (rd_T69 ys (a : Int)).f1 → c ≤ (rd_T69 ys (b : Int)).f1) :
    Calls Try.prog 95 #[.int .i64 c, .pointer (some ⟨bl, 0, none⟩)] w fun e w' => e = .returned (.bool (findR ys c)) ∧ Below w.heap.size w w' := by
  have hbl : bl < w.heap.size := World.block_lt_of_cell? w _ ha
  obtain ⟨W0, hW0⟩ : ∃ W0, W0 = w.alloc (.cells #[.int .i64 c] 3) := ⟨_, rfl⟩
  have hsize : W0.heap.size = w.heap.size + 1 := by rw [hW0]; simp
  have hB0 : Below w.heap.size w W0 := by rw [hW0]; exact (Below.refl _ w).alloc (Nat.le_refl _) _
  have ca : W0.cell? ⟨bl, 0, none⟩ = some (.slice A ys.length cap) := by rw [hW0]; exact cell_alloc_sl _ ha
  have cx : W0.cell? ⟨w.heap.size, 0, none⟩ = some (.int .i64 c) := by rw [hW0]; exact cell_new_sl w _ _
  have cc : Kd.C kRg W0 A ys.length ys := Kd.C_below hC hB0
  have eg : ∀ args w, (callFunc 97 args).run Try.prog w = .ok (.enter 97 args) w := enters_of Try.func97 (by kernel_rfl) rfl
  have hS := Any.sort_Search Try.search 97 #[.pointer (some ⟨bl, 0, none⟩), .pointer (some ⟨w.heap.size, 0, none⟩)] ys.length (fun i => decide (c ≤ (rd_T69 ys (i : Int)).f1)) W0 eg (by omega)
    (fun m os i hi => (finder11_calls bl w.heap.size A cap ys c i _ hi ((below_grown_sl W0.heap.size W0 m os (Nat.le_refl _)).cell (p := ⟨bl, 0, none⟩) (show bl < W0.heap.size by omega) |>.trans ca) ((below_grown_sl W0.heap.size W0 m os (Nat.le_refl _)).cell (p := ⟨w.heap.size, 0, none⟩) (show w.heap.size < W0.heap.size by omega) |>.trans cx) (Kd.C_below cc (below_grown_sl W0.heap.size W0 m os (Nat.le_refl _)))).mono
      fun _ _ ⟨he, q, hq⟩ => ⟨he, q, #[], by rw [hq, Go.Sort.grow_empty]⟩) (fun a b hab hb h => decide_eq_true (hmono a b hab hb (of_decide_eq_true h)))
  change Calls Try.prog 96 _ _ _ at hS
  unfold findR
  have hle : (List.range ys.length).countP (fun i : Nat => !decide (c ≤ (rd_T69 ys (i : Int)).f1)) ≤ ys.length := by
    have := List.countP_le_length (p := fun i : Nat => !decide (c ≤ (rd_T69 ys (i : Int)).f1)) (l := List.range ys.length)
    simpa using this
  generalize (List.range ys.length).countP (fun i : Nat => !decide (c ≤ (rd_T69 ys (i : Int)).f1)) = r at hS hle ⊢
  generalize hres : (decide (r < ys.length) && decide ((rd_T69 ys (r : Int)).f0 ≤ c)) = res
  have HRES := Aside0.mk hres
  clear hres
  have HS := Aside0.mk hS
  have HC := Aside0.mk cc
  have HCA := Aside0.mk ca
  have HCX := Aside0.mk cx
  have HB0 := Aside0.mk hB0
  clear hS hC ca cx cc eg hmono hB0
  go_enter Try.func95, Try.ntmps95
  go_wp2_with (go_at_call 96; rw [← hW0]; refine HS.out.mono ?_; rintro e w' ⟨rfl, q, os, rfl⟩; have HB1 := Aside0.mk (below_grown_sl W0.heap.size W0 q os (Nat.le_refl _)); generalize Go.Sort.grow (W0.drewN q) os = W1 at HB1 ⊢)
  have ha1 : W1.cell? ⟨bl, 0, none⟩ = some (.slice A ys.length cap) := (HB1.out.cell (p := ⟨bl, 0, none⟩) (show bl < W0.heap.size by omega)).trans HCA.out
  have hx1 : W1.cell? ⟨w.heap.size, 0, none⟩ = some (.int .i64 c) := (HB1.out.cell (p := ⟨w.heap.size, 0, none⟩) (show w.heap.size < W0.heap.size by omega)).trans HCX.out
  have HC1 := Aside0.mk (Kd.C_below HC.out HB1.out)
  have hBW : Aside0 (Below w.heap.size w W1) := ⟨below_step HB0.out HB1.out⟩
  clear HS ha HC HCA HCX hW0 HB0 HB1 hsize hbl
  by_cases hlt : r < ys.length
  · obtain ⟨ad, e, h0, h1⟩ := at_T69 HC1.out (r : Int) (by omega) (by omega)
    subst e
    rw [Int.toNat_natCast] at h0 h1
    have hd : res = decide ((rd_T69 ys (r : Int)).f0 ≤ c) := by rw [← HRES.out, decide_eq_true hlt, Bool.true_and]
    clear HRES
    generalize rd_T69 ys (r : Int) = y at h0 h1 hd
    have hiz : (r : Int) < (ys.length : Int) := by omega
    have HF := Aside0.mk hd
    clear HC1 hd hle
    generalize ys.length = n at *
    go_region
    all_goals go_wp2
    all_goals go_ret
    all_goals exact ⟨by rw [HF.out]; rfl, pw_below_drewN hBW.out _⟩
  · have hd : res = false := by rw [← HRES.out, decide_eq_false hlt, Bool.false_and]
    clear HRES
    have hiz : ¬ (r : Int) < (ys.length : Int) := by omega
    have HF := Aside0.mk hd
    clear hd hle
    generalize ys.length = n at *
    go_region
    all_goals go_wp2
    all_goals go_ret
    all_goals exact ⟨by rw [HF.out]; rfl, pw_below_drewN hBW.out _⟩
set_option maxHeartbeats 2000000 in
set_option maxRecDepth 100000 in
theorem finder_calls (A0 : Option Addr) (c0 : Nat) (xs : List Rg) (w : World) (hR : Kd.C kRg w A0 xs.length xs) (hc : xs.length ≤ c0) (hbig : xs.length < 1000000000) :
    Calls Try.prog 85 #[.agg #[.slice A0 xs.length c0]] w fun e w' => ∃ (b : Nat) (A1 : Option Addr) (c1 : Nat), e = .returned (.func (.func 95) #[] #[.pointer (some ⟨b, 0, none⟩)]) ∧
      w.heap.size ≤ b ∧ w'.cell? ⟨b, 0, none⟩ = some (.slice A1 (mkR xs).length c1) ∧ (mkR xs).length ≤ c1 ∧ Kd.C kRg w' A1 (mkR xs).length (mkR xs) ∧ Below w.heap.size w w' := by
  have HR := Aside0.mk hR
  have HC := Aside0.mk hc
  have HG := Aside0.mk hbig
  have HN : Aside0 (((w.alloc (.cells #[.slice A0 xs.length c0] 45)).alloc (.cells #[.slice A0 xs.length c0] 45)).cell? ⟨w.heap.size + 1, 0, none⟩ = some (.slice A0 xs.length c0)) := ⟨by have := cell_new_sl (w.alloc (.cells #[.slice A0 xs.length c0] 45)) (.slice A0 xs.length c0) 45; rwa [World.size_alloc] at this⟩
  have HRR := Aside0.mk (Kd.C_alloc (Kd.C_alloc hR (.cells #[.slice A0 xs.length c0] 45)) (.cells #[.slice A0 xs.length c0] 45))
  clear hR hc hbig
  go_enter Try.func85, Try.ntmps85
  go_wp2_with (first | (go_at_call 94; refine (ranges_calls _ _).mono ?_; rintro e W1 ⟨rfl, rfl⟩) | (go_at_call 93; refine (collect_calls (w.heap.size + 1) A0 c0 xs _ HN.out HRR.out HC.out HG.out).mono ?_; rintro e W1 ⟨v, rfl, ho, hb⟩; have HO := Aside0.mk ho; have HB := Aside0.mk hb; obtain ⟨A1, c1, ev⟩ := Kd.R_slice ho; subst ev; clear ho hb))
  go_ret
  have hB1 : Below w.heap.size w W1 := by
    have h0 : Below w.heap.size w ((w.alloc (.cells #[.slice A0 xs.length c0] 45)).alloc (.cells #[.slice A0 xs.length c0] 45)) := ((Below.refl _ w).alloc (Nat.le_refl _) _).alloc (by simp) _
    exact below_step h0 HB.out
  refine ⟨_, A1, c1, rfl, hB1.size, ?_, (Kd.R_reads' HO.out).2.1, Kd.C_alloc (Kd.R_reads' HO.out).2.2 _, hB1.alloc hB1.size _⟩
  exact cell_new_sl _ _ _
theorem countP_rangeL {α : Type} (z : α) (f : α → Bool) : ∀ ys : List α, (List.range ys.length).countP (fun i : Nat => f (ys.getD i z)) = ys.countP f
  | [] => rfl
  | y :: ys => by
    rw [List.length_cons, List.range_succ_eq_map, List.countP_cons, List.countP_cons, List.countP_map]
    have := countP_rangeL z f ys
    simp only [Function.comp_def, List.getD_cons_succ, List.getD_cons_zero] at this ⊢
    rw [this]
theorem canon_none (c : Int) : ∀ (ys : List Rg) (b : Int), CpM.CanonFrom b (ys.map toP) → c < b → ys.countP (fun r => !decide (c ≤ r.f1)) = 0
  | [], b, _, _ => rfl
  | r :: ys, b, ⟨h1, h2, h3, h4⟩, h => by
    have h1' : b ≤ r.f0 := h1
    have h2' : r.f0 ≤ r.f1 := h2
    rw [List.countP_cons, canon_none c ys _ h4 (show c < r.f1 + 2 by omega), decide_eq_true (show c ≤ r.f1 by omega)]
    rfl
theorem find_mem (c : Int) : ∀ (ys : List Rg) (b : Int), CpM.CanonFrom b (ys.map toP) →
    ((ys.countP (fun r => !decide (c ≤ r.f1)) < ys.length ∧ (ys.getD (ys.countP (fun r => !decide (c ≤ r.f1))) z69).f0 ≤ c) ↔ CpM.mem (ys.map toP) c)
  | [], b, _ => by simp [CpM.mem_nil]
  | r :: ys, b, ⟨h1, h2, h3, h4⟩ => by
    have h1' : b ≤ r.f0 := h1
    have h2' : r.f0 ≤ r.f1 := h2
    rw [List.map_cons, CpM.mem_cons, List.countP_cons]
    by_cases hc : c ≤ r.f1
    · rw [canon_none c ys _ h4 (show c < r.f1 + 2 by omega), decide_eq_true hc]
      constructor
      · rintro ⟨_, h⟩
        exact .inl ⟨h, hc⟩
      · rintro (⟨h, _⟩ | h)
        · exact ⟨by simp, h⟩
        · have h5 : r.f1 + 2 ≤ c := CpM.CanonFrom.ge h4 h
          omega
    · rw [decide_eq_false hc, ← find_mem c ys _ h4]
      simp only [Bool.not_false, if_true, List.length_cons, List.getD_cons_succ]
      constructor
      · rintro ⟨h5, h6⟩
        exact .inr ⟨by omega, h6⟩
      · rintro (⟨_, h5⟩ | ⟨h5, h6⟩)
        · exact absurd h5 hc
        · exact ⟨by omega, h6⟩
theorem mkR_canon (xs : List Rg) : CpM.CanonFrom 0 ((mkR xs).map toP) := by unfold mkR; rw [toP_ofP]; exact CpM.make_canon _
theorem findR_mk (xs : List Rg) (c : Int) : findR (mkR xs) c = CpM.hasB (xs.map toP) c := by
  have hn : (List.range (mkR xs).length).countP (fun i : Nat => !decide (c ≤ (rd_T69 (mkR xs) (i : Int)).f1)) = (mkR xs).countP (fun r => !decide (c ≤ r.f1)) :=
    countP_rangeL z69 (fun r : Rg => !decide (c ≤ r.f1)) (mkR xs)
  unfold findR
  simp only [hn]
  rw [Bool.eq_iff_iff, CpM.hasB_iff, ← CpM.make_mem, Bool.and_eq_true, decide_eq_true_eq, decide_eq_true_eq]
  have := find_mem c (mkR xs) 0 (mkR_canon xs)
  rw [show (mkR xs).map toP = CpM.make (xs.map toP) from toP_ofP _] at this
  exact this
theorem mkR_mono (xs : List Rg) (c : Int) (a b : Nat) (hab : a ≤ b) (hb : b < (mkR xs).length) (h : c ≤ (rd_T69 (mkR xs) (a : Int)).f1) : c ≤ (rd_T69 (mkR xs) (b : Int)).f1 := by
  suffices H : ∀ (ys : List Rg) (z : Int), CpM.CanonFrom z (ys.map toP) → ∀ a b : Nat, a ≤ b → b < ys.length → (ys.getD a z69).f1 ≤ (ys.getD b z69).f1 ∧ z ≤ (ys.getD b z69).f1 by
    exact Int.le_trans h (H (mkR xs) 0 (mkR_canon xs) a b hab hb).1
  intro ys
  induction ys with
  | nil => intro z _ a b _ h; simp at h
  | cons r ys ih =>
    rintro z ⟨h1, h2, h3, h4⟩ a b hab hb
    have h1' : z ≤ r.f0 := h1
    have h2' : r.f0 ≤ r.f1 := h2
    cases b with
    | zero => cases a with
      | zero => exact ⟨Int.le_refl _, show z ≤ r.f1 by omega⟩
      | succ a => omega
    | succ b =>
      have hb' : b < ys.length := by simpa using hb
      cases a with
      | zero =>
        have h5 : r.f1 + 2 ≤ (ys.getD b z69).f1 := (ih _ h4 b b (Nat.le_refl _) hb').2
        rw [List.getD_cons_succ, List.getD_cons_zero]
        exact ⟨by omega, by omega⟩
      | succ a =>
        have h5 := ih _ h4 a b (by omega) hb'
        have h6 : r.f1 + 2 ≤ (ys.getD b z69).f1 := h5.2
        rw [List.getD_cons_succ, List.getD_cons_succ]
        exact ⟨h5.1, by omega⟩
def cpset_Has.f (l0_0 : List S69) (a1 : Int) : Option Bool := if l0_0.length < 1000000000 then some (CpM.hasB (l0_0.map toP) a1) else none
set_option maxHeartbeats 2000000 in
theorem cpset_Has.calls (A0_0 : Option Addr) (c0_0 : Nat) (l0_0 : List S69) (a1 : Int) (r : Bool) (w : World) (hr0_0 : Kd.C k69 w A0_0 l0_0.length l0_0) (hc0_0 : l0_0.length ≤ c0_0) (h : cpset_Has.f l0_0 a1 = some r) :
    Calls Try.prog 73 #[.agg #[.slice A0_0 l0_0.length c0_0], .int .i64 a1] w fun e w' => e = .returned (.bool r) ∧ Below w.heap.size w w' := by
  unfold cpset_Has.f at h
  split at h
  · rename_i hlt
    injection h with h
    rw [← findR_mk] at h
    subst h
    have HL := Aside0.mk hlt
    have HR := Aside0.mk hr0_0
    have HC := Aside0.mk hc0_0
    have eg : ∀ args w, (callFunc 95 args).run Try.prog w = .ok (.enter 95 args) w := enters_of Try.func95 (by kernel_rfl) rfl
    clear hlt hr0_0 hc0_0
    generalize hf : findR (mkR l0_0) a1 = res
    have HF := Aside0.mk hf
    clear hf
    go_enter Try.func73, Try.ntmps73
    go_wp2_with (first | (go_at_call 85; refine (finder_calls A0_0 c0_0 l0_0 _ (Kd.C_alloc HR.out _) HC.out HL.out).mono ?_; rintro e W1 ⟨b, A1, c1, rfl, hb, hcell, hc1, hC1, hB⟩; have HB := Aside0.mk hB; have HCL := Aside0.mk hcell; have HC1 := Aside0.mk hC1; clear hb hcell hc1 hC1 hB) | (go_at_fn 95; go_loud (refine (finder1_calls _ A1 c1 (mkR l0_0) a1 _ (Nat.lt_of_le_of_lt (mkR_length l0_0) HL.out) HCL.out HC1.out (mkR_mono l0_0 a1)).mono ?_); rintro e W2 ⟨rfl, hB2⟩; have HB2 := Aside0.mk hB2; clear hB2))
    go_ret
    exact ⟨by rw [← HF.out]; rfl, below_step (below_step ((Below.refl _ w).alloc (Nat.le_refl _) _) HB.out) HB2.out⟩
  · cases h
end Go.Proofs.Ytcpicopaobhlcaa.Q
end
section
namespace Go.Proofs.Ytcpicopaobhlcaa.Q
open Go.RowKit Go.Maps Go.Proofs.YtcpicopaobhlcaaW.PrintWords Go.Proofs.YtcpicopaobhlcaaW.PrintLast Go.Proofs.YtcpicopaobhlcaaW.PrintMore
set_option linter.unusedVariables false
theorem rdU_mid (pre : List Ru) (x : Ru) (rest : List Ru) : rd_T41 (pre ++ x :: rest) (pre.length : Int) = x := by
  unfold rd_T41
  rw [Int.toNat_natCast, List.getD_eq_getElem?_getD, List.getElem?_append_right (Nat.le_refl _), Nat.sub_self]
  rfl
theorem check_go : ∀ (rest pre : List Ru) (k : Nat), (∀ x ∈ rest, okRule x = true) → (pre ++ rest).length < 1000000000 → rest.length + 1 ≤ k →
    transrule_Check.l0 k (pre ++ rest) ((pre ++ rest).length : Int) (pre.length : Int) = some (firstErr rest)
  | [], pre, k, h0, h1, h2 => by
    obtain ⟨k, rfl⟩ : ∃ j, k = j + 1 := ⟨k - 1, by omega⟩
    rw [transrule_Check.l0, if_neg (by simp)]
    rfl
  | x :: rest, pre, k, h0, h1, h2 => by
    obtain ⟨k, rfl⟩ : ∃ j, k = j + 1 := ⟨k - 1, by omega⟩
    have hp : pre.length < 1000000000 := by simp at h1; omega
    have ih := check_go rest (pre ++ [x]) k (fun y hy => h0 y (List.mem_cons_of_mem _ hy)) (by simpa using h1) (by simp at h2; omega)
    have ex : (pre ++ [x]) ++ rest = pre ++ x :: rest := by simp
    have el : ((pre ++ [x]).length : Int) = ((pre.length + 1 : Nat) : Int) := by simp
    rw [ex, el] at ih
    have hx := h0 x List.mem_cons_self
    rw [transrule_Check.l0, if_pos (by simp; omega), if_pos (by omega), if_pos (by simp; omega), rdU_mid, wrap_suc hp]
    unfold transrule_checkRule.f
    rw [if_pos hx]
    show (if oneS x = 0 then _ else _) = _
    rw [ih, firstErr]
    split <;> rfl
theorem check_ok (l : List Ru) (h : okRules l = true) : transrule_Check.f (l.length + 1) l = some (checkS l) := by
  unfold okRules at h
  rw [Bool.and_eq_true, decide_eq_true_eq, List.all_eq_true] at h
  unfold transrule_Check.f checkS
  by_cases hl : 200 < l.length
  · rw [if_pos (by omega), if_pos hl]
  · rw [if_neg (by omega), if_neg hl]
    exact check_go l [] (l.length + 1) h.2 (by simpa using by omega) (Nat.le_refl _)
/-- A value of the map stands for itself. -/
def RV : Value → Option (DataW Value × List MemPlace) := fun v => some (.held v, [])
/-- The rules whose Match begins with c. -/
def startsS (x : Ru) (c : Int) : Bool := hasS (x.f1.getD 0 z45) c
def beginS : List Ru → Nat → Int → List Int
  | [], _, _ => []
  | x :: l, i, c => if startsS x c then (i : Int) :: beginS l (i + 1) c else beginS l (i + 1) c
def nilD : DataW Value := .held (.slice none 0 0)
/-- What the map holds: at each key the row of the rules that begin with it. -/
def MachD (w : World) (g : Option Nat) (l : List Ru) (D : DataW Value) : Prop := ∀ c : Int, has D (.int .i64 c) = true → ∃ A cap, D.atKey (.int .i64 c) nilD = .held (.slice A (beginS l 0 c).length cap) ∧ (beginS l 0 c).length ≤ cap ∧ Kd.C (Kd.int .i64) w A (beginS l 0 c).length (beginS l 0 c) ∧ ∀ ad, A = some ad → 0 < (beginS l 0 c).length → some ad.block ≠ g
structure Mach (w : World) (g : Option Nat) (bm mb : Nat) (A : Option Addr) (cA : Nat) (l : List Ru) (n : Nat) : Prop where
  blk : w.heap[bm]? = some (.cells #[.slice A l.length cA, .map (some mb)] 76 (0, 0))
  map : ∃ D, w.ownsMap Try.prog 3 RV mb n D ∧ MachD w g l D
def MapAt (w : World) (mb : Nat) : Prop := ∃ es clock, w.heap[mb]? = some (.map es clock)
theorem ownsMap_at {w : World} {mb n : Nat} {D : DataW Value} (h : w.ownsMap Try.prog 3 RV mb n D) : MapAt w mb := by
  obtain ⟨es, clock, hb, _⟩ := h
  exact ⟨es, clock, hb⟩
theorem mach_own {w : World} {base n cap : Nat} {ok : Nat → Prop} {ad : Addr} {xs : List Int} (h : Kd.R (Kd.int .i64) 3 w base ok (.slice (some ad) n cap) xs) : (Value.slice (some ad) n cap).ownBlock = some ad.block := by
  obtain ⟨g, rfl⟩ := Kd.R_head h
  rfl
theorem mach_blk (ad : Addr) (k : Nat) : (ad.add k).block = ad.block := by
  unfold Addr.add
  split <;> rfl
theorem mach_grownC {w w' : World} {g : Option Nat} {A : Option Addr} {n : Nat} {xs : List Int} (h : Kd.C (Kd.int .i64) w A n xs) (hg : w.grownBy w' g) (hne : ∀ ad, A = some ad → 0 < n → some ad.block ≠ g) : Kd.C (Kd.int .i64) w' A n xs := by
  obtain ⟨h1, h2, h3⟩ := h
  refine ⟨h1, h2, fun h0 => ?_⟩
  obtain ⟨ad, e, hc⟩ := h3 h0
  refine ⟨ad, e, fun j p hj => ?_⟩
  obtain ⟨c, hl, hK, hcell⟩ := hc j p hj
  refine ⟨c, hl, hK, fun i u hu => ?_⟩
  have h4 := hcell i u hu
  rw [World.cell?_of_block (hg.block _ (World.block_lt_of_cell? w _ h4) (by rw [mach_blk]; exact hne ad e h0))]
  exact h4
/-- The block of a row that is not empty lies in the memory. -/
theorem mach_blockC {w : World} {A : Option Addr} {n : Nat} {xs : List Int} (h : Kd.C (Kd.int .i64) w A n xs) (ad : Addr) (e : A = some ad) (h0 : 0 < n) : ad.block < w.heap.size := by
  obtain ⟨h1, h2, h3⟩ := h
  obtain ⟨ad', e', hc⟩ := h3 h0
  cases e.symm.trans e'
  have hx : 0 < xs.length := by omega
  obtain ⟨c, hl, hK, hcell⟩ := hc 0 xs[0] (List.getElem?_eq_getElem hx)
  have hc0 : 0 < c.length := by rw [hl]; exact Nat.one_pos
  have h4 := World.block_lt_of_cell? w _ (hcell 0 c[0] (List.getElem?_eq_getElem hc0))
  rwa [mach_blk] at h4
/-- Cells stay where all blocks but the map stay. -/
theorem C_keep {w w' : World} {mb : Nat} (hm : MapAt w mb) (hk : ∀ k o, w.heap[k]? = some o → k ≠ mb → w'.heap[k]? = some o) {A : Option Addr} {n : Nat} {xs : List Int} (h : Kd.C (Kd.int .i64) w A n xs) : Kd.C (Kd.int .i64) w' A n xs := by
  obtain ⟨h1, h2, h3⟩ := h
  refine ⟨h1, h2, fun h0 => ?_⟩
  obtain ⟨ad, e, hc⟩ := h3 h0
  refine ⟨ad, e, fun j p hj => ?_⟩
  obtain ⟨c, hl, hK, hcell⟩ := hc j p hj
  refine ⟨c, hl, hK, fun i u hu => ?_⟩
  have h4 := hcell i u hu
  obtain ⟨es, clock, hmb⟩ := hm
  have h5 : w'.heap[(ad.add (j * (Kd.int .i64).sz + i)).block]? = w.heap[(ad.add (j * (Kd.int .i64).sz + i)).block]? := by
    cases ho : w.heap[(ad.add (j * (Kd.int .i64).sz + i)).block]? with
    | none => simp [World.cell?, ho] at h4
    | some o =>
      refine hk _ _ ho fun e => ?_
      rw [e, hmb] at ho
      cases ho
      simp [World.cell?, e, hmb] at h4
  unfold World.cell? at h4 ⊢
  rw [h5]
  exact h4
set_option maxHeartbeats 4000000 in
set_option maxRecDepth 100000 in
theorem open_calls (A0 : Option Addr) (c0 : Nat) (l0 : List Ru) (w : World) (hok : okRules l0 = true) (hr : Kd.C k41 w A0 l0.length l0) (hc : l0.length ≤ c0) :
    Calls Try.prog 42 #[.slice A0 l0.length c0] w fun e w' => ∃ (bm mb : Nat) (A : Option Addr) (cA : Nat), e = .returned (.pointer (some ⟨bm, 0, none⟩)) ∧ (∀ g, Mach w' g bm mb A cA (dataS l0) 0) ∧ Kd.C k41 w A (dataS l0).length (dataS l0) ∧ (dataS l0).length ≤ cA ∧ w.heap.size ≤ mb ∧ w.heap.size ≤ bm ∧ bm ≠ mb ∧ Below w.heap.size w w' := by
  have HR := Aside0.mk hr
  have HC := Aside0.mk hc
  have HCK := Aside0.mk (check_ok l0 hok)
  have hmm := @run_makeMap Try.prog
  clear hok hr hc
  by_cases h0 : checkS l0 = 0
  · have HD : Aside0 (dataS l0 = l0) := ⟨by unfold dataS; rw [if_pos h0]⟩
    rw [h0] at HCK
    clear h0
    go_enter Try.func42, Try.ntmps42
    go_wp2_with (go_at_call 26; (with_reducible refine (transrule_Check.calls (l0.length + 1) A0 c0 l0 0 _ HR.out HC.out HCK.out).mono ?_); rintro e w1 ⟨rfl, hb⟩; have HB := Aside0.mk hb; clear hb)
    go_ret
    have hbk : (((w1.alloc (.map #[] 0)).alloc (.cells #[.slice A0 (l0).length c0, .map (some w1.heap.size)] 76)).heap[w1.heap.size + 1]? = some (.cells #[.slice A0 (l0).length c0, .map (some w1.heap.size)] 76 (0, 0))) := by have := heap_alloc_new (w1.alloc (.map #[] 0)) (.cells #[.slice A0 (l0).length c0, .map (some w1.heap.size)] 76); rwa [World.size_alloc] at this
    rw [HD.out]
    exact ⟨w1.heap.size + 1, w1.heap.size, A0, c0, rfl, fun g => ⟨hbk, .map [], (World.ownsMap_made w1 _ _ _).alloc _, fun c h => by simp [has] at h⟩, HR.out, HC.out, HB.out.size, Nat.le_trans HB.out.size (Nat.le_succ _), by omega, below_alloc (below_alloc HB.out _) _⟩
  · have HD : Aside0 (dataS l0 = []) := ⟨by unfold dataS; rw [if_neg h0]⟩
    have hq : decide (checkS l0 = 0) = false := decide_eq_false h0
    have hq2 : (checkS l0 == 0) = false := by rw [beq_eq_false_iff_ne]; exact h0
    have hq3 : (checkS l0 != 0) = true := by rw [bne_iff_ne]; exact h0
    have hq4 : (!decide (checkS l0 = 0)) = true := by rw [decide_eq_false h0]; rfl
    generalize checkS l0 = q at *
    clear h0
    go_enter Try.func42, Try.ntmps42
    go_wp2_with (go_at_call 26; (with_reducible refine (transrule_Check.calls (l0.length + 1) A0 c0 l0 q _ HR.out HC.out HCK.out).mono ?_); rintro e w1 ⟨rfl, hb⟩; have HB := Aside0.mk hb; clear hb)
    go_ret
    have hbk : (((w1.alloc (.map #[] 0)).alloc (.cells #[.slice none (([] : List Ru)).length 0, .map (some w1.heap.size)] 76)).heap[w1.heap.size + 1]? = some (.cells #[.slice none (([] : List Ru)).length 0, .map (some w1.heap.size)] 76 (0, 0))) := by have := heap_alloc_new (w1.alloc (.map #[] 0)) (.cells #[.slice none (([] : List Ru)).length 0, .map (some w1.heap.size)] 76); rwa [World.size_alloc] at this
    rw [HD.out]
    exact ⟨w1.heap.size + 1, w1.heap.size, none, 0, rfl, fun g => ⟨hbk, .map [], (World.ownsMap_made w1 _ _ _).alloc _, fun c h => by simp [has] at h⟩, Kd.C_nil _ _, Nat.le_refl _, HB.out.size, Nat.le_trans HB.out.size (Nat.le_succ _), by omega, below_alloc (below_alloc HB.out _) _⟩
theorem beginS_snoc (c : Int) (x : Ru) : ∀ (l : List Ru) (i : Nat), beginS (l ++ [x]) i c = beginS l i c ++ (if startsS x c then [((i + l.length : Nat) : Int)] else [])
  | [], i => by simp [beginS]
  | y :: l, i => by
    have ih := beginS_snoc c x l (i + 1)
    have e : i + 1 + l.length = i + (y :: l).length := by simp; omega
    rw [e] at ih
    rw [List.cons_append, beginS, beginS, ih]
    split <;> simp
theorem beginS_length (c : Int) : ∀ (l : List Ru) (i : Nat), (beginS l i c).length ≤ l.length
  | [], _ => Nat.le_refl _
  | x :: l, i => by
    have := beginS_length c l (i + 1)
    rw [beginS]
    split <;> simp <;> omega
section
variable {P : Program} {ops : Array Oper} {rest : List Oper} {o : Oper} {a : Act} {Q : Exit → Act → World → Prop}
theorem wpList_look_ok {H : Type} (w : World) (hg : o.guard = none) (m x : Operand) (t : TypeId) (hop : o.op = Op.lookup t m x true)
    (k e : TypeId) (K : Keyed P k) (ht : P.underlying t = some (.map k e)) (R : Value → Option (DataW H × List MemPlace)) (z : Value) (hz : (zeroValue e).run P w = .ok z w) (zd : DataW H) (zp : List MemPlace) (hzd : R z = some (zd, zp)) (b n : Nat) (D : DataW H)
    (hm : a.eval m = .map (some b)) (hown : w.ownsMap P k R b n D) (key : Value) (kl : Lit) (hx : a.eval x = key) (hkey : keyOf P k key = some kl)
    (hK : ∀ v ps, R v = some (D.atKey kl zd, ps) → wpList P ops Q rest (a.put o.dst (.tuple #[v, .bool (Maps.has D kl)])) w) :
    wpList P ops Q (o :: rest) a w := by
  refine wpList_plain hg fun K' hK' => ?_
  obtain ⟨v, ps, hrun, hat⟩ := hown.look_ok K ht hz hzd hkey
  unfold Oper.wp
  simp [execOp, hop, hm, hx, hrun, Result.andThen]
  exact hK' _ _ (hK v ps hat)
end
theorem zero23 (w : World) : (zeroValue 31).run Try.prog w = .ok (.slice none 0 0) w := by kernel_rfl
set_option maxHeartbeats 4000000 in
set_option maxRecDepth 100000 in
theorem begin_calls (w0 w : World) (bm mb : Nat) (A : Option Addr) (cA : Nat) (l : List Ru) (n : Nat) (c : Int) (g : Option Nat) (hg0 : ∀ k, g = some k → k < w.heap.size) (hM : Mach w g bm mb A cA l n) (hb0 : Below w0.heap.size w0 w) (hmb : w0.heap.size ≤ mb) (hR : Kd.C k41 w0 A l.length l) (hc : l.length ≤ cA)
    (hl : l.length < 100000000) (hm1 : ∀ x ∈ l, 1 ≤ x.f1.length ∧ ∀ s ∈ x.f1, s.f0.length < 1000) (hn : n < 1000000000) (hwf : (Lit.int .i64 c).wf = true) :
    Calls Try.prog 66 #[.pointer (some ⟨bm, 0, none⟩), .int .i64 c] w fun e w' => ∃ A' cap, e = .returned (.slice A' (beginS l 0 c).length cap) ∧ (beginS l 0 c).length ≤ cap ∧ Kd.C (Kd.int .i64) w' A' (beginS l 0 c).length (beginS l 0 c) ∧ Mach w' g bm mb A cA l (n + 1) ∧ Below w0.heap.size w0 w' ∧ (∀ k o, w.heap[k]? = some o → k ≠ mb → w'.heap[k]? = some o) := by
  obtain ⟨hblk, D, hD, hMD⟩ := hM
  have hcl : w.cell? ⟨bm, 0, none⟩ = some (.slice A l.length cA) := (blk_cell hblk 0).trans rfl
  have hcm : w.cell? ⟨bm, 1, none⟩ = some (.map (some mb)) := (blk_cell hblk 1).trans rfl
  have HBLK := Aside0.mk hblk
  have HG0 := Aside0.mk hg0
  have HD := Aside0.mk hD
  have HMD := Aside0.mk hMD
  have HB0 := Aside0.mk hb0
  have HMB := Aside0.mk hmb
  have HR := Aside0.mk hR
  have HC := Aside0.mk hc
  have HL := Aside0.mk hl
  have HM1 := Aside0.mk hm1
  have HN := Aside0.mk hn
  have HKEY := Aside0.mk (keyOf_int_mk (P := Try.prog) Try.underlying3 hwf)
  clear hg0 hblk hD hMD hb0 hmb hR hc hl hm1 hn hwf
  cases hh : has D (.int .i64 c) with
  | true =>
    obtain ⟨A', cap, hat, hcap, hC, hAV⟩ := HMD.out c hh
    have HAT := Aside0.mk hat
    have HH := Aside0.mk hh
    have HCC := Aside0.mk hC
    have HCAP := Aside0.mk hcap
    clear hh hat hC hcap hAV
    generalize hbs : beginS l 0 c = bs at HCC HCAP HAT
    clear hbs
    go_enter Try.func66, Try.ntmps66
    go_wp2_with (at_lookup; refine wpList_look_ok _ rfl (.tmp 13) (.tmp 14) 74 rfl 3 31 (int_keyed Try.underlying3) Try.underlying74 RV _ (zero23 _) nilD [] rfl mb n D (by rfl) HD.out _ _ (by rfl) HKEY.out ?_; intro v ps hv; rw [HAT.out] at hv; have hv2 : (DataW.held v : DataW Value) = .held (.slice A' bs.length cap) := congrArg Prod.fst (Option.some.inj hv); injection hv2 with hv3; subst hv3; rw [HH.out]; clear hv)
    go_ret
    exact ⟨A', cap, rfl, HCAP.out, HCC.out, ⟨HBLK.out, D, HD.out.mono (Nat.le_succ n), HMD.out⟩, HB0.out, fun k o h _ => h⟩
  | false =>
    have HH := Aside0.mk hh
    have hz : D.atKey (.int .i64 c) nilD = nilD := atKey_of_not_has hh nilD
    have HZ := Aside0.mk hz
    clear hh hz
    go_enter Try.func66, Try.ntmps66
    go_wp2_with (at_lookup; refine wpList_look_ok _ rfl (.tmp 13) (.tmp 14) 74 rfl 3 31 (int_keyed Try.underlying3) Try.underlying74 RV _ (zero23 _) nilD [] rfl mb n D (by rfl) HD.out _ _ (by rfl) HKEY.out ?_; intro v ps hv; rw [HZ.out] at hv; have hv2 : (DataW.held v : DataW Value) = .held (.slice none 0 0) := congrArg Prod.fst (Option.some.inj hv); injection hv2 with hv3; subst hv3; rw [HH.out]; clear hv)
    go_loopw [5, 25] (fun lv i wr => ∃ k : Nat, i = .int .i64 k ∧ Aside0 (k ≤ l.length) ∧ Aside0 (Kd.R (Kd.int .i64) 3 wr w.heap.size (fun _ => True) lv (beginS (l.take k) 0 c)) ∧ Aside0 (Below w.heap.size w wr)) (fun _ i _ => l.length - (intOf i).toNat)
    case atStart => exact ⟨0, rfl, ⟨Nat.zero_le _⟩, ⟨Kd.R_nil _ _ _ _ _⟩, ⟨Below.refl _ _⟩⟩
    case round =>
      obtain ⟨k, rfl, HK, HO, HB⟩ := hrel
      by_cases hlt : k < l.length
      · have hRw := Kd.C_below HR.out (below_step HB0.out HB.out)
        obtain ⟨ad, B0, d0, B1, d1, B2, d2, B3, d3, e, x0, x1, x2, x3, y0, z0, y1, z1, y2, z2, y3, z3⟩ := at_T41 hRw (k : Int) (by omega) (by omega)
        cases e
        rw [Int.toNat_natCast] at x0 x1 x2 x3
        have hst : l.take (k + 1) = l.take k ++ [rd_T41 l (k : Int)] := by
          unfold rd_T41
          rw [Int.toNat_natCast, List.getD_eq_getElem?_getD, List.take_add_one, List.getElem?_eq_getElem hlt]
          rfl
        have hmem : rd_T41 l (k : Int) ∈ l := by unfold rd_T41; rw [Int.toNat_natCast, List.getD_eq_getElem?_getD, List.getElem?_eq_getElem hlt]; exact List.getElem_mem hlt
        have hsn := beginS_snoc c (rd_T41 l (k : Int)) (l.take k) 0
        rw [← hst, List.length_take, Nat.min_eq_left (Nat.le_of_lt hlt), Nat.zero_add] at hsn
        have HLEN : Aside0 ((beginS (l.take k) 0 c).length ≤ l.length) := ⟨Nat.le_trans (beginS_length c _ _) (List.length_take_le' _ _)⟩
        obtain ⟨hx1, hx2⟩ := HM1.out _ hmem
        clear hRw y0 z0 y2 z2 y3 z3 hst hmem
        have HSN := Aside0.mk hsn
        clear hsn
        generalize rd_T41 l (k : Int) = x at *
        obtain ⟨ad1, B4, d4, e1, hs0, hs1, hs2⟩ := at_T45 z1 0 (by omega) (by omega)
        cases e1
        have HS2 := Aside0.mk hs2
        have hmem1 : rd_T45 x.f1 0 ∈ x.f1 := by unfold rd_T45; rw [List.getD_eq_getElem?_getD, List.getElem?_eq_getElem (by omega : (0 : Int).toNat < x.f1.length)]; exact List.getElem_mem _
        have hF : cpset_Has.f (rd_T45 x.f1 0).f0 c = some (startsS x c) := by
          unfold cpset_Has.f
          rw [if_pos (by have := hx2 _ hmem1; omega)]
          rfl
        have HF := Aside0.mk hF
        clear z1 hs2 hmem1 hx2 hF
        have hp : (0 ≤ (k : Int)) = True := eq_true (by omega)
        have hp1 : ((0 : Int) < (x.f1.length : Int)) = True := eq_true (by omega)
        have hw : wrap64 ((k : Int) + 1) = (k : Int) + 1 := by have := HL.out; unfold wrap64; omega
        have hs00 : wr.cell? ad1 = some (.slice B4 (rd_T45 x.f1 0).f0.length d4) := by simpa [Addr.add] using hs0
        have hs0b := pw_cell_below (below_alloc (Below.refl _ wr) (.cells #[.slice B0 x.f0.length d0, .slice (some ad1) x.f1.length d1, .slice B2 x.f2.length d2, .slice B3 x.f3.length d3] 41)) hs00
        clear hs0 hs00
        generalize hb1 : startsS x c = b at HSN HF
        cases b with
        | true =>
          have HNX : Aside0 (beginS (l.take (k + 1)) 0 c = beginS (l.take k) 0 c ++ [(k : Int)]) := ⟨by rw [HSN.out]; rfl⟩
          go_wp2_with (first | (go_at_call 73; (with_reducible refine (cpset_Has.calls _ _ (rd_T45 x.f1 0).f0 c true _ ?s1 hs1 HF.out).mono ?_); (case s1 => exact Kd.C_alloc HS2.out _); rintro e w2 ⟨rfl, hb⟩; have n0_ := Aside0.mk (below_step (by repeat (first | (with_reducible first | exact HB.out | apply below_alloc | apply pw_below_drewN | apply below_drew1) | exact HB.out)) hb); have n1_ := Aside0.mk (Kd.R_below (by (with_reducible repeat (first | apply Kd.R_alloc | apply Kd.R_drewN | apply Kd.R_drew)); exact HO.out) hb); clear HB HO hb; have HB := n0_; have HO := n1_; clear n0_ n1_) | (at_builtin; refine Kd.R_append (Kd.int .i64) (w0 := w) w.heap.size rfl (.tmp 36) (.tmp 38) 31 3 (.int .i64 0) 8 rfl Try.underlying31 info3 rfl (by decide) (by omega) _ (beginS (l.take k) 0 c) (k : Int) [.int .i64 (k : Int)] (fun _ => True) (fun _ => False) rfl rfl ?aP (fun _ hk => hk.elim) ?aF ?aO ?aB ?aS ?aL ?_; (case aP => exact rfl); (case aB => exact (by repeat (first | (with_reducible first | exact HB.out | apply below_alloc | apply pw_below_drewN | apply below_drew1) | exact HB.out))); (case aF => exact (fun _ _ => trivial)); (case aO => exact (by (with_reducible repeat (first | apply Kd.R_alloc | apply Kd.R_drewN | apply Kd.R_drew)); exact HO.out)); (case aS => exact (below_size (by repeat (first | (with_reducible first | exact HB.out | apply below_alloc | apply pw_below_drewN | apply below_drew1) | exact HB.out)))); (case aL => have h1_ := HLEN.out; have h2_ := HL.out; omega); intro v3 w4 ho hb hg hat; have HB4 := Aside0.mk hb; have HO4 := Aside0.mk ho; clear ho hb hg hat))
          go_roundw
          case rel => exact ⟨k + 1, by rw [hw]; rfl, ⟨hlt⟩, ⟨by rw [HNX.out]; exact HO4.out⟩, HB4⟩
          case measure => rw [hw]; simp only [intOf]; omega
        | false =>
          have HNX : Aside0 (beginS (l.take (k + 1)) 0 c = beginS (l.take k) 0 c) := ⟨by rw [HSN.out]; exact List.append_nil _⟩
          go_wp2_with (go_at_call 73; (with_reducible refine (cpset_Has.calls _ _ (rd_T45 x.f1 0).f0 c false _ ?s1 hs1 HF.out).mono ?_); (case s1 => exact Kd.C_alloc HS2.out _); rintro e w2 ⟨rfl, hb⟩; have n0_ := Aside0.mk (below_step (by repeat (first | (with_reducible first | exact HB.out | apply below_alloc | apply pw_below_drewN | apply below_drew1) | exact HB.out)) hb); have n1_ := Aside0.mk (Kd.R_below (by (with_reducible repeat (first | apply Kd.R_alloc | apply Kd.R_drewN | apply Kd.R_drew)); exact HO.out) hb); clear HB HO hb; have HB := n0_; have HO := n1_; clear n0_ n1_)
          go_roundw
          case rel => exact ⟨k + 1, by rw [hw]; rfl, ⟨hlt⟩, ⟨by rw [HNX.out]; exact HO.out⟩, HB⟩
          case measure => rw [hw]; simp only [intOf]; omega
      · obtain rfl : k = l.length := by have := HK.out; omega
        rw [List.take_length] at HO
        obtain ⟨A', cap, ev⟩ := Kd.R_slice HO.out
        subst ev
        have HMW := Aside0.mk (HD.out.kept (grown_of_below HB.out none) (by simp))
        have hcm2 := (HB.out.cell (p := ⟨bm, 1, none⟩) (blk_lt HBLK.out)).trans hcm
        have HLR := Aside0.mk (Kd.R_reads' HO.out)
        have HAV : Aside0 (∀ ad, A' = some ad → 0 < (beginS l 0 c).length → some ad.block ≠ g) := ⟨fun ad e _ e2 => by
          subst e
          have h1 := HG0.out ad.block e2.symm
          have h2 := Kd.R_base HO.out ad.block (mach_own HO.out)
          omega⟩
        go_wp2_with (at_mapUpdate; refine wpList_mapUpdate_own _ rfl (.tmp 44) (.tmp 45) (.tmp 46) 74 rfl 3 31 (int_keyed Try.underlying3) Try.underlying74 RV mb n D (by rfl) HMW.out (by have := HN.out; unfold maxLen; omega) _ _ (.int .i64 c) (by rfl) (by rfl) HKEY.out (.held (.slice A' (beginS l 0 c).length cap)) [] rfl ?_; intro w5 hown hg; have HOW := Aside0.mk hown; have HG := Aside0.mk hg; clear hown hg)
        go_ret
        have hkp : ∀ k o, wr.heap[k]? = some o → k ≠ mb → w5.heap[k]? = some o := fun k o h hk => (HG.out.block k (blk_lt h) (fun e => hk (Option.some.inj e))).trans h
        have hkq : ∀ k o, w.heap[k]? = some o → k ≠ mb → w5.heap[k]? = some o := fun k o h hk => hkp k o (blk_below h HB.out) hk
        have hne : bm ≠ mb := by
          obtain ⟨es, clock, hmp⟩ := ownsMap_at HD.out
          intro e
          have := HBLK.out
          rw [e, hmp] at this
          cases this
        have hbw : Below w0.heap.size w0 w5 := (below_step HB0.out HB.out).grown HG.out (below_step HB0.out HB.out).size (fun k hk => by cases hk; exact HMB.out)
        have hCn := C_keep (ownsMap_at HMW.out) hkp HLR.out.2.2
        refine ⟨A', cap, rfl, HLR.out.2.1, hCn, ⟨hkq _ _ HBLK.out hne, _, HOW.out, fun c' h' => ?_⟩, hbw, hkq⟩
        by_cases hcc : c' = c
        · subst hcc
          exact ⟨A', cap, atKey_put_same HD.out.isMap (show WideAt.IsKeyLit (.int .i64 c') from trivial) _ _, HLR.out.2.1, hCn, HAV.out⟩
        · have hnk : (Lit.int .i64 c') ≠ .int .i64 c := fun e => hcc (by injection e)
          rw [has_put_other hnk] at h'
          obtain ⟨A2, cap2, e1, e2, e3, e4⟩ := HMD.out c' h'
          exact ⟨A2, cap2, by rw [atKey_put_other hnk]; exact e1, e2, C_keep (ownsMap_at HD.out) hkq e3, e4⟩
end Go.Proofs.Ytcpicopaobhlcaa.Q
end
section
namespace Go.Proofs.Ytcpicopaobhlcaa.Q
open Go.RowKit Go.Proofs.YtcpicopaobhlcaaW.PrintWords Go.Proofs.YtcpicopaobhlcaaW.PrintLast Go.Proofs.YtcpicopaobhlcaaW.PrintMore
attribute [local go_sem] max2_int min2_int max_two min_two max_three min_three max_four min_four   -- for this text's walks alone
set_option linter.unusedVariables false
set_option linter.unusedSimpArgs false
mutual
def transduce_covers.j0 : Nat → List (S45) → List Int → Int → Bool → Option (Bool)
  | 0, _, _, _, _ => none
  | k + 1, x0, x1, x2, x19 => if x19 = true then (some false) else (transduce_covers.l0 k x1 x2 x0 (x0.length : Int) 0)
def transduce_covers.l0 : Nat → List Int → Int → List (S45) → Int → Int → Option (Bool)
  | 0, _, _, _, _, _ => none
  | k + 1, x1, x2, x20, x21, x22 => if x22 < x21 then (if 0 ≤ x22 then (if x22 < (x20.length : Int) then (if 0 ≤ (wrap64 (x2 + x22)) then (if (wrap64 (x2 + x22)) < (x1.length : Int) then ((cpset_Has.f ((rd_T45 x20 x22).f0) (rd x1 (wrap64 (x2 + x22)))).bind fun t120 => (if t120 = true then (transduce_covers.l0 k x1 x2 x20 x21 (wrap64 (x22 + 1))) else (some false))) else (none)) else (none)) else (none)) else (none)) else (some true)
end
def transduce_covers.f (k : Nat) (l0 : List (S45)) (l1 : List Int) (a2 : Int) : Option (Bool) := if a2 < 0 then (transduce_covers.j0 k l0 l1 a2 true) else (transduce_covers.j0 k l0 l1 a2 (decide ((wrap64 (a2 + (l0.length : Int))) > (l1.length : Int))))
def transduce_covers.T6 : Bool × List (List Nat × List Nat) := (true, [([], []), ([], []), ([], []), ([], []), ([2, 3], [2, 3]), ([1, 4], [1, 4]), ([5], [5]), ([0, 6], [0, 6]), ([7], [7])])
def transduce_covers.B6 : List Nat := [0, 0, 0, 0, 12, 30, 62, 127, 255]
theorem transduce_covers.tab6 : rtab .any (opsOf Try.f67 6) = transduce_covers.T6 := by kernel_rfl
theorem transduce_covers.bits6 : waitsOk transduce_covers.T6.2 transduce_covers.B6 = true := by kernel_rfl
set_option maxHeartbeats 8000000 in
set_option maxRecDepth 100000 in
theorem transduce_covers.calls (k : Nat) (A0 : Option Addr) (c0 : Nat) (l0 : List (S45)) (A1 : Option Addr) (c1 : Nat) (l1 : List Int) (a2 : Int) (r : Bool) (w : World) (hr0 : Kd.C k45 w A0 l0.length l0) (hc0 : l0.length ≤ c0) (hr1 : Kd.C (Kd.int .i64) w A1 l1.length l1) (hc1 : l1.length ≤ c1) (h : transduce_covers.f k l0 l1 a2 = some r) :
    Calls Try.prog 67 #[.slice A0 l0.length c0, .slice A1 l1.length c1, .int .i64 a2] w fun e w' => e = .returned (.bool r) ∧ Below w.heap.size w w' := by
  have hu45 := Try.underlying45
  have HR0 := Aside0.mk hr0
  have HC0 := Aside0.mk hc0
  clear hr0 hc0
  have HR1 := Aside0.mk hr1
  have HC1 := Aside0.mk hc1
  clear hr1 hc1
  have HB := Aside0.mk (Below.refl w.heap.size w)
  have H : (if a2 < 0 then (transduce_covers.j0 k l0 l1 a2 true) else (transduce_covers.j0 k l0 l1 a2 (decide ((wrap64 (a2 + (l0.length : Int))) > (l1.length : Int))))) = some r := h
  clear h
  have HC4 := Aside0.mk H
  clear H
  go_enter Try.func67, Try.ntmps67
  go_upto_region 1 with (fail)
  go_cut [19] (fun v19 wc => ∃ (kq : Nat) (x19_3 : Bool), v19 = .bool x19_3 ∧ Aside0 (transduce_covers.j0 kq l0 l1 a2 x19_3 = some r) ∧ Aside0 (kq ≤ k) ∧ Aside0 (Below w.heap.size w wc))
  case first =>
    have H := HC4.out
    clear HC4
    by_cases c5 : a2 < 0
    · rw [if_pos c5] at H
      have c5b0 : decide (a2 < 0) = true := decide_eq_true c5
      clear c5
      (first | rw [c5b0] | (simp only [i64_w, i32_w]; rw [c5b0]) | skip)
      have H' := Aside0.mk H
      clear H
      go_wp2
      go_meet
      case rel => exact ⟨_, (true), (by first | rfl | (simp; done) | (simp [*]; done)), H', ⟨by first | omega | exact Nat.le_refl _⟩, ⟨by repeat (first | (with_reducible first | exact HB.out | apply below_alloc | apply pw_below_drewN | apply below_drew1) | exact HB.out)⟩⟩
    · rw [if_neg c5] at H
      have c5b0 : decide (a2 < 0) = false := decide_eq_false c5
      clear c5
      (first | rw [c5b0] | (simp only [i64_w, i32_w]; rw [c5b0]) | skip)
      have H' := Aside0.mk H
      clear H
      go_wp2
      go_meet
      case rel => exact ⟨_, (decide ((wrap64 (a2 + (l0.length : Int))) > (l1.length : Int))), (by first | rfl | (simp; done) | (simp [*]; done)), H', ⟨by first | omega | exact Nat.le_refl _⟩, ⟨by repeat (first | (with_reducible first | exact HB.out | apply below_alloc | apply pw_below_drewN | apply below_drew1) | exact HB.out)⟩⟩
  case rest =>
    clear HC4
    try clear c1
    try clear p2
    try clear c5
    try clear c5b0
    obtain ⟨kq, x19_3, rfl, HA, HJ3, HB⟩ := hcut
    cases kq with
    | zero => exact absurd HA.out (by simp [transduce_covers.j0])
    | succ kj3 =>
      have H := HA.out
      clear HA
      simp only [transduce_covers.j0] at H
      by_cases c6 : x19_3 = true
      · subst c6
        have H1 : (some false) = some r := by rw [if_pos rfl] at H; exact H
        clear H
        have H := H1
        clear H1
        obtain rfl := Option.some.inj H
        go_wp2
        go_ret
        exact ⟨by first | rfl | (simp [errW_none, errW_some] <;> rfl) | (simp [*, errW_none, errW_some] <;> rfl), by repeat (first | (with_reducible first | exact HB.out | apply below_alloc | apply pw_below_drewN | apply below_drew1) | exact HB.out)⟩
      · replace c6 := Bool.eq_false_iff.mpr c6
        subst c6
        have H1 : (transduce_covers.l0 kj3 l1 a2 l0 (l0.length : Int) 0) = some r := by rw [if_neg (show ¬ (false = true) by decide)] at H; exact H
        clear H
        have H := H1
        clear H1
        have H' := Aside0.mk H
        clear H
        go_wp2
        go_loopg [22] kj3 (fun kq v22 w' => ∃ (x22_2 : Int), v22 = .int .i64 x22_2 ∧ Aside0 (transduce_covers.l0 kq l1 a2 l0 (l0.length : Int) x22_2 = some r) ∧ Aside0 (kq ≤ kj3) ∧ Aside0 (Below w.heap.size w w'))
        case atStart => exact ⟨(0), (by first | rfl | (simp; done) | (simp [*]; done)), H', ⟨Nat.le_refl _⟩, ⟨by repeat (first | (with_reducible first | exact HB.out | apply below_alloc | apply pw_below_drewN | apply below_drew1) | exact HB.out)⟩⟩
        case round =>
          clear H'
          try clear c1
          try clear p2
          try clear c5
          try clear c5b0
          try clear c6
          try clear p6
          try clear p2
          obtain ⟨x22_2, rfl, HA, HK2, HB⟩ := hrel
          cases gk with
          | zero => exact absurd HA.out (by simp [transduce_covers.l0])
          | succ k2 =>
            have H := HA.out
            clear HA
            simp only [transduce_covers.l0] at H
            by_cases c7 : x22_2 < (l0.length : Int)
            · rw [if_pos c7] at H
              have c7b0 : decide (x22_2 < (l0.length : Int)) = true := decide_eq_true c7
              clear c7
              by_cases c8 : 0 ≤ x22_2
              · rw [if_pos c8] at H
                have c8b0 : decide (0 ≤ x22_2) = true := decide_eq_true c8
                clear c8
                by_cases c9 : x22_2 < (l0.length : Int)
                · rw [if_pos c9] at H
                  have c9b0 : decide (x22_2 < (l0.length : Int)) = true := decide_eq_true c9
                  clear c9
                  obtain ⟨ji10, hji10⟩ : ∃ j_ : Int, (wrap64 (a2 + x22_2)) = j_ := ⟨_, rfl⟩
                  replace H : (if 0 ≤ (ji10) then (if (ji10) < (l1.length : Int) then ((cpset_Has.f ((rd_T45 l0 x22_2).f0) (rd l1 (ji10))).bind fun t120 => (if t120 = true then (transduce_covers.l0 k2 l1 a2 l0 (l0.length : Int) (wrap64 (x22_2 + 1))) else (some false))) else (none)) else (none)) = some r := by first | (rw [hji10] at H; exact H) | (simp only [hji10] at H ⊢; exact H)
                  have hji10w : (IntKind.i64.wrap (a2 + x22_2)) = ji10 := (i64_w _).trans hji10
                  by_cases c11 : 0 ≤ (ji10)
                  · rw [if_pos c11] at H
                    have c11b0 : decide (0 ≤ (ji10)) = true := decide_eq_true c11
                    clear c11
                    by_cases c12 : (ji10) < (l1.length : Int)
                    · rw [if_pos c12] at H
                      have c12b0 : decide ((ji10) < (l1.length : Int)) = true := decide_eq_true c12
                      clear c12
                      replace H := Option.bind_eq_some_iff.mp H
                      obtain ⟨t120, A130, H⟩ := H
                      replace H : (if t120 = true then (transduce_covers.l0 k2 l1 a2 l0 (l0.length : Int) (wrap64 (x22_2 + 1))) else (some false)) = some r := H
                      have A13 := Aside0.mk A130
                      clear A130
                      by_cases c14 : t120 = true
                      · subst c14
                        have H1 : (transduce_covers.l0 k2 l1 a2 l0 (l0.length : Int) (wrap64 (x22_2 + 1))) = some r := by rw [if_pos rfl] at H; exact H
                        clear H
                        have H := H1
                        clear H1
                        have H' := Aside0.mk H
                        clear H
                        have p117 : 0 ≤ (x22_2 : Int) := of_decide_eq_true (by first | (with_reducible assumption) | assumption)
                        have q117 : x22_2 < (l0.length : Int) := of_decide_eq_true (by first | (with_reducible assumption) | assumption)
                        obtain ⟨ad117, A117_0, c117_0, e117, hx117_0, hl117_0, hi117_0⟩ := at_T45 HR0.out x22_2 p117 q117
                        cases e117
                        replace hx117_0 := (HB.out.cell (World.block_lt_of_cell? w _ hx117_0)).trans hx117_0
                        have HR117_0 := Aside0.mk hi117_0
                        have HC117_0 := Aside0.mk hl117_0
                        clear hi117_0 hl117_0
                        replace p117 := eq_true p117
                        replace q117 := eq_true q117
                        try go_wp2_with (first | ((with_reducible refine gate_dst (N := 8) rfl ?_); (try (refine gate_guard (by rfl) ?_; dsimp only)); refine box_event ?hg (N := 8) ?hd (cs := #[.slice none 0 0]) (t := 45) ?hr ?_; (case hd => rfl); (case hg => rfl); (case hr => first | (go_simp; done) | (go_simp; rfl)); intro gb118 hg w15 hbox hb; have n0_ := Aside0.mk (below_step (by repeat (first | (with_reducible first | exact HB.out | apply below_alloc | apply pw_below_drewN | apply below_drew1) | exact HB.out)) hb); have n1_ := Aside0.mk (hbox); have n2_ := Aside0.mk ((by rw [hg]; exact (below_size (by repeat (first | (with_reducible first | exact HB.out | apply below_alloc | apply pw_below_drewN | apply below_drew1) | exact HB.out))) : w.heap.size ≤ gb118)); have n3_ := Aside0.mk ((by rw [hg]; exact (below_size (by repeat (first | (with_reducible first | exact HB.out | apply below_alloc | apply pw_below_drewN | apply below_drew1) | exact HB.out))) : w.heap.size ≤ gb118)); clear HB; have HB := n0_; have BK118 := n1_; have GW118 := n2_; have GE118 := n3_; clear n0_ n1_ n2_ n3_; clear hb hbox hg; have hcz16_0 : w15.cell? ⟨gb118, 0, none⟩ = some (.slice none 0 0) := (blk_cell BK118.out 0).trans rfl; have hfz16_0 := blk_frozen BK118.out 0))
                        have n0_ : Aside0 ((w15.setCell ⟨gb118, 0, none⟩ (.slice A117_0 ((rd_T45 l0 x22_2).f0).length c117_0)).heap[gb118]? = some (.cells #[.slice A117_0 ((rd_T45 l0 x22_2).f0).length c117_0] 45 (0, 0))) := ⟨by (with_reducible repeat (first | refine blk_drewN ?_ _ | refine blk_drew ?_ | refine blk_alloc ?_ _)); refine blk_put (cs := #[.slice none 0 0]) ?_ 0 _ rfl; (with_reducible repeat (first | refine blk_drewN ?_ _ | refine blk_drew ?_ | refine blk_alloc ?_ _)); exact BK118.out⟩
                        have n1_ : Aside0 (Below w.heap.size w (w15.setCell ⟨gb118, 0, none⟩ (.slice A117_0 ((rd_T45 l0 x22_2).f0).length c117_0))) := ⟨by repeat (first | (with_reducible first | exact HB.out | apply below_alloc | apply pw_below_drewN | apply below_drew1 | refine below_set ?_ GE118.out) | exact HB.out)⟩
                        (try clear BK118)
                        (try clear HB)
                        generalize (w15.setCell ⟨gb118, 0, none⟩ (.slice A117_0 ((rd_T45 l0 x22_2).f0).length c117_0)) = w17 at n0_ n1_ ⊢
                        have BK118 := n0_
                        have HB := n1_
                        clear n0_ n1_
                        have n0_ := Aside0.mk (blk_drew BK118.out)
                        have n1_ := Aside0.mk (below_drew1 HB.out)
                        clear BK118
                        clear HB
                        have BK118 := n0_
                        have HB := n1_
                        clear n0_ n1_
                        have p119 : 0 ≤ ((ji10) : Int) := of_decide_eq_true (by first | (with_reducible assumption) | assumption)
                        have q119 : (ji10) < (l1.length : Int) := of_decide_eq_true (by first | (with_reducible assumption) | assumption)
                        obtain ⟨ad119, e119, hx119_0⟩ := Kd.at_int HR1.out (ji10) p119 q119
                        have hw119_0 := hx119_0
                        cases e119
                        replace hx119_0 := (HB.out.cell (World.block_lt_of_cell? w _ hx119_0)).trans hx119_0
                        replace p119 := eq_true p119
                        replace q119 := eq_true q119
                        refine start_ (n := 9) (S := fun w' => w'.cell? ⟨gb118, 0, none⟩ = some (.slice A117_0 ((rd_T45 l0 x22_2).f0).length c117_0) ∧ w'.cell? (ad119.add ((ji10)).toNat) = some (.int .i64 (rd l1 (ji10)))) (ds := []) #[false, false, false, false, false, false, false, false, false] (by kernel_rfl) rfl rfl ⟨(blk_cell BK118.out 0).trans rfl, ((HB.out.cell (World.block_lt_of_cell? w _ hw119_0)).trans hw119_0)⟩ (fun hHeld => ?_); refine with_tabW transduce_covers.tab6 transduce_covers.bits6 (fun HT_ HW_ => ?_)
                        generalize w17.drew = w18 at BK118 HB hx119_0 hHeld ⊢
                        refine pure_ (i := 1) (N := some 28) (v := ?_) (a' := ?_) #[false, true, false, false, false, false, false, false, false] rfl rfl (any_of HT_.out (by kernel_rfl)) (fun _ _ _ h => h) (Or.inl ⟨by rfl, ?_⟩) ?_ ?_
                        rotate_left
                        · intro w'
                          go_simp
                          with_reducible rfl
                        rotate_left
                        · simp only [Act.put, List.setIfInBounds_toArray, List.set_cons_zero, List.set_cons_succ, i64_w, i32_w]
                          rfl
                        refine pure_ (i := 2) (N := some 29) (v := ?_) (a' := ?_) #[false, true, true, false, false, false, false, false, false] rfl rfl (any_of HT_.out (by kernel_rfl)) (fun _ _ _ h => h) (Or.inl ⟨by rfl, ?_⟩) ?_ ?_
                        rotate_left
                        · intro w'
                          go_simp
                          with_reducible rfl
                        rotate_left
                        · simp only [Act.put, List.setIfInBounds_toArray, List.set_cons_zero, List.set_cons_succ, i64_w, i32_w]
                          rfl
                        refine pure_ (i := 3) (N := some 30) (v := ?_) (a' := ?_) #[false, true, true, true, false, false, false, false, false] rfl rfl (any_of HT_.out (by kernel_rfl)) (fun _ _ _ h => h) (Or.inl ⟨by rfl, ?_⟩) ?_ ?_
                        rotate_left
                        · intro w'
                          go_simp
                          with_reducible rfl
                        rotate_left
                        · simp only [Act.put, List.setIfInBounds_toArray, List.set_cons_zero, List.set_cons_succ, i64_w, i32_w]
                          rfl
                        refine pure_ (i := 4) (N := some 31) (v := ?_) (a' := ?_) #[false, true, true, true, true, false, false, false, false] rfl rfl (any_of HT_.out (by kernel_rfl)) (fun _ _ _ h => h) (Or.inl ⟨by rfl, ?_⟩) ?_ ?_
                        rotate_left
                        · intro w'
                          go_simp
                          with_reducible rfl
                        rotate_left
                        · simp only [Act.put, List.setIfInBounds_toArray, List.set_cons_zero, List.set_cons_succ, i64_w, i32_w]
                          rfl
                        refine pure_ (i := 5) (N := some 32) (v := ?_) (a' := ?_) #[false, true, true, true, true, true, false, false, false] rfl rfl (any_of HT_.out (by kernel_rfl)) (fun _ _ _ h => h) (Or.inl ⟨by rfl, ?_⟩) ?_ ?_
                        rotate_left
                        · intro w'
                          go_simp
                          with_reducible rfl
                        rotate_left
                        · simp only [Act.put, List.setIfInBounds_toArray, List.set_cons_zero, List.set_cons_succ, i64_w, i32_w]
                          rfl
                        refine take_ (i := 0) (N := some 27) (v := ?_) (a' := ?_) #[true, true, true, true, true, true, false, false, false] rfl rfl (take_ofW HT_.out HW_.out (by kernel_rfl)) (fun _ _ _ h => h) (Or.inl ⟨by rfl, ?_⟩) hHeld ?_ ?_
                        rotate_left
                        · rintro w' ⟨s0, s1⟩
                          go_simp
                          with_reducible rfl
                        rotate_left
                        · simp only [Act.put, List.setIfInBounds_toArray, List.set_cons_zero, List.set_cons_succ, i64_w, i32_w]
                          rfl
                        refine take_ (i := 6) (N := some 33) (v := ?_) (a' := ?_) #[true, true, true, true, true, true, true, false, false] rfl rfl (take_ofW HT_.out HW_.out (by kernel_rfl)) (fun _ _ _ h => h) (Or.inl ⟨by rfl, ?_⟩) hHeld ?_ ?_
                        rotate_left
                        · rintro w' ⟨s0, s1⟩
                          go_simp
                          with_reducible rfl
                        rotate_left
                        · simp only [Act.put, List.setIfInBounds_toArray, List.set_cons_zero, List.set_cons_succ, i64_w, i32_w]
                          rfl
                        refine one_ (i := 7) (N := some 34) #[true, true, true, true, true, true, true, true, false] rfl rfl (one_of HT_.out (by kernel_rfl)) (by decide) (fun K hK => ?_)
                        refine goes_ Try.func73 (by kernel_rfl) rfl #[.agg #[.slice A117_0 ((rd_T45 l0 x22_2).f0).length c117_0], .int .i64 (rd l1 (ji10))] (by rfl) rfl rfl (by (try simp only [List.map_toArray, List.map_cons, List.map_nil]); first | done | (simp only [hji10]; rfl) | rfl | (simp only [List.length_drop, List.length_take]; rfl)) ?_
                        with_reducible refine (cpset_Has.calls _ _ ((rd_T45 l0 x22_2).f0) (rd l1 (ji10)) true _ ?side1 ?side2 A13.out).mono ?_
                        (case side1 => repeat (first | exact (Kd.C_below HR117_0.out HB.out) | (with_reducible refine Kd.C_alloc ?_ _) | (with_reducible refine Kd.C_drewN ?_ _) | (with_reducible refine Kd.C_drew ?_)))
                        (case side2 => exact HC117_0.out)
                        rintro e w19 ⟨rfl, hb⟩
                        refine ⟨_, rfl, ?_⟩
                        have n0_ := Aside0.mk (blk_below (g := gb118) (o := .cells #[.slice A117_0 ((rd_T45 l0 x22_2).f0).length c117_0] 45 (0, 0)) (by (with_reducible repeat (first | refine blk_drewN ?_ _ | refine blk_drew ?_ | refine blk_alloc ?_ _)); exact BK118.out) hb)
                        have n1_ := Aside0.mk (below_step (by repeat (first | (with_reducible first | exact HB.out | apply below_alloc | apply pw_below_drewN | apply below_drew1 | refine below_set ?_ GE118.out) | exact HB.out)) hb)
                        clear BK118
                        clear HB
                        have BK118 := n0_
                        have HB := n1_
                        clear n0_ n1_
                        (try clear hb)
                        (try clear hb2)
                        (try clear hk)
                        (try clear hi)
                        refine hK.out _ _ ⟨(blk_cell BK118.out 0).trans rfl, ((HB.out.cell (World.block_lt_of_cell? w _ hw119_0)).trans hw119_0)⟩ (fun hHeld => ?_)
                        clear hK K
                        refine norm_ (a' := ?_) ?_ ?_
                        rotate_left
                        · show Act.put _ (some 34) _ = _
                          simp only [Act.put, List.setIfInBounds_toArray, List.set_cons_zero, List.set_cons_succ, i64_w, i32_w]
                          rfl
                        refine pure_ (i := 8) (N := some 35) (v := ?_) (a' := ?_) #[true, true, true, true, true, true, true, true, true] rfl rfl (any_of HT_.out (by kernel_rfl)) (fun _ _ _ h => h) (Or.inl ⟨by rfl, ?_⟩) ?_ ?_
                        rotate_left
                        · intro w'
                          go_simp
                          with_reducible rfl
                        rotate_left
                        · simp only [Act.put, List.setIfInBounds_toArray, List.set_cons_zero, List.set_cons_succ, i64_w, i32_w]
                          rfl
                        refine done_ (done_of HT_.out (by kernel_rfl)) ?_
                        try go_wp2
                        go_roundg k2
                        case measure => have := HJ3.out; have := HK2.out; omega
                        case rel => exact ⟨(wrap64 (x22_2 + 1)), (by first | rfl | (simp; done) | (simp [*]; done)), H', ⟨by have := HJ3.out; have := HK2.out; omega⟩, ⟨by repeat (first | (with_reducible first | exact HB.out | apply below_alloc | apply pw_below_drewN | apply below_drew1 | refine below_set ?_ GE118.out) | exact HB.out)⟩⟩
                      · replace c14 := Bool.eq_false_iff.mpr c14
                        subst c14
                        have H1 : (some false) = some r := by rw [if_neg (show ¬ (false = true) by decide)] at H; exact H
                        clear H
                        have H := H1
                        clear H1
                        obtain rfl := Option.some.inj H
                        have p117 : 0 ≤ (x22_2 : Int) := of_decide_eq_true (by first | (with_reducible assumption) | assumption)
                        have q117 : x22_2 < (l0.length : Int) := of_decide_eq_true (by first | (with_reducible assumption) | assumption)
                        obtain ⟨ad117, A117_0, c117_0, e117, hx117_0, hl117_0, hi117_0⟩ := at_T45 HR0.out x22_2 p117 q117
                        cases e117
                        replace hx117_0 := (HB.out.cell (World.block_lt_of_cell? w _ hx117_0)).trans hx117_0
                        have HR117_0 := Aside0.mk hi117_0
                        have HC117_0 := Aside0.mk hl117_0
                        clear hi117_0 hl117_0
                        replace p117 := eq_true p117
                        replace q117 := eq_true q117
                        try go_wp2_with (first | ((with_reducible refine gate_dst (N := 8) rfl ?_); (try (refine gate_guard (by rfl) ?_; dsimp only)); refine box_event ?hg (N := 8) ?hd (cs := #[.slice none 0 0]) (t := 45) ?hr ?_; (case hd => rfl); (case hg => rfl); (case hr => first | (go_simp; done) | (go_simp; rfl)); intro gb118 hg w20 hbox hb; have n0_ := Aside0.mk (below_step (by repeat (first | (with_reducible first | exact HB.out | apply below_alloc | apply pw_below_drewN | apply below_drew1) | exact HB.out)) hb); have n1_ := Aside0.mk (hbox); have n2_ := Aside0.mk ((by rw [hg]; exact (below_size (by repeat (first | (with_reducible first | exact HB.out | apply below_alloc | apply pw_below_drewN | apply below_drew1) | exact HB.out))) : w.heap.size ≤ gb118)); have n3_ := Aside0.mk ((by rw [hg]; exact (below_size (by repeat (first | (with_reducible first | exact HB.out | apply below_alloc | apply pw_below_drewN | apply below_drew1) | exact HB.out))) : w.heap.size ≤ gb118)); clear HB; have HB := n0_; have BK118 := n1_; have GW118 := n2_; have GE118 := n3_; clear n0_ n1_ n2_ n3_; clear hb hbox hg; have hcz21_0 : w20.cell? ⟨gb118, 0, none⟩ = some (.slice none 0 0) := (blk_cell BK118.out 0).trans rfl; have hfz21_0 := blk_frozen BK118.out 0))
                        have n0_ : Aside0 ((w20.setCell ⟨gb118, 0, none⟩ (.slice A117_0 ((rd_T45 l0 x22_2).f0).length c117_0)).heap[gb118]? = some (.cells #[.slice A117_0 ((rd_T45 l0 x22_2).f0).length c117_0] 45 (0, 0))) := ⟨by (with_reducible repeat (first | refine blk_drewN ?_ _ | refine blk_drew ?_ | refine blk_alloc ?_ _)); refine blk_put (cs := #[.slice none 0 0]) ?_ 0 _ rfl; (with_reducible repeat (first | refine blk_drewN ?_ _ | refine blk_drew ?_ | refine blk_alloc ?_ _)); exact BK118.out⟩
                        have n1_ : Aside0 (Below w.heap.size w (w20.setCell ⟨gb118, 0, none⟩ (.slice A117_0 ((rd_T45 l0 x22_2).f0).length c117_0))) := ⟨by repeat (first | (with_reducible first | exact HB.out | apply below_alloc | apply pw_below_drewN | apply below_drew1 | refine below_set ?_ GE118.out) | exact HB.out)⟩
                        (try clear BK118)
                        (try clear HB)
                        generalize (w20.setCell ⟨gb118, 0, none⟩ (.slice A117_0 ((rd_T45 l0 x22_2).f0).length c117_0)) = w22 at n0_ n1_ ⊢
                        have BK118 := n0_
                        have HB := n1_
                        clear n0_ n1_
                        have n0_ := Aside0.mk (blk_drew BK118.out)
                        have n1_ := Aside0.mk (below_drew1 HB.out)
                        clear BK118
                        clear HB
                        have BK118 := n0_
                        have HB := n1_
                        clear n0_ n1_
                        have p119 : 0 ≤ ((ji10) : Int) := of_decide_eq_true (by first | (with_reducible assumption) | assumption)
                        have q119 : (ji10) < (l1.length : Int) := of_decide_eq_true (by first | (with_reducible assumption) | assumption)
                        obtain ⟨ad119, e119, hx119_0⟩ := Kd.at_int HR1.out (ji10) p119 q119
                        have hw119_0 := hx119_0
                        cases e119
                        replace hx119_0 := (HB.out.cell (World.block_lt_of_cell? w _ hx119_0)).trans hx119_0
                        replace p119 := eq_true p119
                        replace q119 := eq_true q119
                        refine start_ (n := 9) (S := fun w' => w'.cell? ⟨gb118, 0, none⟩ = some (.slice A117_0 ((rd_T45 l0 x22_2).f0).length c117_0) ∧ w'.cell? (ad119.add ((ji10)).toNat) = some (.int .i64 (rd l1 (ji10)))) (ds := []) #[false, false, false, false, false, false, false, false, false] (by kernel_rfl) rfl rfl ⟨(blk_cell BK118.out 0).trans rfl, ((HB.out.cell (World.block_lt_of_cell? w _ hw119_0)).trans hw119_0)⟩ (fun hHeld => ?_); refine with_tabW transduce_covers.tab6 transduce_covers.bits6 (fun HT_ HW_ => ?_)
                        generalize w22.drew = w23 at BK118 HB hx119_0 hHeld ⊢
                        refine pure_ (i := 1) (N := some 28) (v := ?_) (a' := ?_) #[false, true, false, false, false, false, false, false, false] rfl rfl (any_of HT_.out (by kernel_rfl)) (fun _ _ _ h => h) (Or.inl ⟨by rfl, ?_⟩) ?_ ?_
                        rotate_left
                        · intro w'
                          go_simp
                          with_reducible rfl
                        rotate_left
                        · simp only [Act.put, List.setIfInBounds_toArray, List.set_cons_zero, List.set_cons_succ, i64_w, i32_w]
                          rfl
                        refine pure_ (i := 2) (N := some 29) (v := ?_) (a' := ?_) #[false, true, true, false, false, false, false, false, false] rfl rfl (any_of HT_.out (by kernel_rfl)) (fun _ _ _ h => h) (Or.inl ⟨by rfl, ?_⟩) ?_ ?_
                        rotate_left
                        · intro w'
                          go_simp
                          with_reducible rfl
                        rotate_left
                        · simp only [Act.put, List.setIfInBounds_toArray, List.set_cons_zero, List.set_cons_succ, i64_w, i32_w]
                          rfl
                        refine pure_ (i := 3) (N := some 30) (v := ?_) (a' := ?_) #[false, true, true, true, false, false, false, false, false] rfl rfl (any_of HT_.out (by kernel_rfl)) (fun _ _ _ h => h) (Or.inl ⟨by rfl, ?_⟩) ?_ ?_
                        rotate_left
                        · intro w'
                          go_simp
                          with_reducible rfl
                        rotate_left
                        · simp only [Act.put, List.setIfInBounds_toArray, List.set_cons_zero, List.set_cons_succ, i64_w, i32_w]
                          rfl
                        refine pure_ (i := 4) (N := some 31) (v := ?_) (a' := ?_) #[false, true, true, true, true, false, false, false, false] rfl rfl (any_of HT_.out (by kernel_rfl)) (fun _ _ _ h => h) (Or.inl ⟨by rfl, ?_⟩) ?_ ?_
                        rotate_left
                        · intro w'
                          go_simp
                          with_reducible rfl
                        rotate_left
                        · simp only [Act.put, List.setIfInBounds_toArray, List.set_cons_zero, List.set_cons_succ, i64_w, i32_w]
                          rfl
                        refine pure_ (i := 5) (N := some 32) (v := ?_) (a' := ?_) #[false, true, true, true, true, true, false, false, false] rfl rfl (any_of HT_.out (by kernel_rfl)) (fun _ _ _ h => h) (Or.inl ⟨by rfl, ?_⟩) ?_ ?_
                        rotate_left
                        · intro w'
                          go_simp
                          with_reducible rfl
                        rotate_left
                        · simp only [Act.put, List.setIfInBounds_toArray, List.set_cons_zero, List.set_cons_succ, i64_w, i32_w]
                          rfl
                        refine take_ (i := 0) (N := some 27) (v := ?_) (a' := ?_) #[true, true, true, true, true, true, false, false, false] rfl rfl (take_ofW HT_.out HW_.out (by kernel_rfl)) (fun _ _ _ h => h) (Or.inl ⟨by rfl, ?_⟩) hHeld ?_ ?_
                        rotate_left
                        · rintro w' ⟨s0, s1⟩
                          go_simp
                          with_reducible rfl
                        rotate_left
                        · simp only [Act.put, List.setIfInBounds_toArray, List.set_cons_zero, List.set_cons_succ, i64_w, i32_w]
                          rfl
                        refine take_ (i := 6) (N := some 33) (v := ?_) (a' := ?_) #[true, true, true, true, true, true, true, false, false] rfl rfl (take_ofW HT_.out HW_.out (by kernel_rfl)) (fun _ _ _ h => h) (Or.inl ⟨by rfl, ?_⟩) hHeld ?_ ?_
                        rotate_left
                        · rintro w' ⟨s0, s1⟩
                          go_simp
                          with_reducible rfl
                        rotate_left
                        · simp only [Act.put, List.setIfInBounds_toArray, List.set_cons_zero, List.set_cons_succ, i64_w, i32_w]
                          rfl
                        refine one_ (i := 7) (N := some 34) #[true, true, true, true, true, true, true, true, false] rfl rfl (one_of HT_.out (by kernel_rfl)) (by decide) (fun K hK => ?_)
                        refine goes_ Try.func73 (by kernel_rfl) rfl #[.agg #[.slice A117_0 ((rd_T45 l0 x22_2).f0).length c117_0], .int .i64 (rd l1 (ji10))] (by rfl) rfl rfl (by (try simp only [List.map_toArray, List.map_cons, List.map_nil]); first | done | (simp only [hji10]; rfl) | rfl | (simp only [List.length_drop, List.length_take]; rfl)) ?_
                        with_reducible refine (cpset_Has.calls _ _ ((rd_T45 l0 x22_2).f0) (rd l1 (ji10)) false _ ?side1 ?side2 A13.out).mono ?_
                        (case side1 => repeat (first | exact (Kd.C_below HR117_0.out HB.out) | (with_reducible refine Kd.C_alloc ?_ _) | (with_reducible refine Kd.C_drewN ?_ _) | (with_reducible refine Kd.C_drew ?_)))
                        (case side2 => exact HC117_0.out)
                        rintro e w24 ⟨rfl, hb⟩
                        refine ⟨_, rfl, ?_⟩
                        have n0_ := Aside0.mk (blk_below (g := gb118) (o := .cells #[.slice A117_0 ((rd_T45 l0 x22_2).f0).length c117_0] 45 (0, 0)) (by (with_reducible repeat (first | refine blk_drewN ?_ _ | refine blk_drew ?_ | refine blk_alloc ?_ _)); exact BK118.out) hb)
                        have n1_ := Aside0.mk (below_step (by repeat (first | (with_reducible first | exact HB.out | apply below_alloc | apply pw_below_drewN | apply below_drew1 | refine below_set ?_ GE118.out) | exact HB.out)) hb)
                        clear BK118
                        clear HB
                        have BK118 := n0_
                        have HB := n1_
                        clear n0_ n1_
                        (try clear hb)
                        (try clear hb2)
                        (try clear hk)
                        (try clear hi)
                        refine hK.out _ _ ⟨(blk_cell BK118.out 0).trans rfl, ((HB.out.cell (World.block_lt_of_cell? w _ hw119_0)).trans hw119_0)⟩ (fun hHeld => ?_)
                        clear hK K
                        refine norm_ (a' := ?_) ?_ ?_
                        rotate_left
                        · show Act.put _ (some 34) _ = _
                          simp only [Act.put, List.setIfInBounds_toArray, List.set_cons_zero, List.set_cons_succ, i64_w, i32_w]
                          rfl
                        refine pure_ (i := 8) (N := some 35) (v := ?_) (a' := ?_) #[true, true, true, true, true, true, true, true, true] rfl rfl (any_of HT_.out (by kernel_rfl)) (fun _ _ _ h => h) (Or.inl ⟨by rfl, ?_⟩) ?_ ?_
                        rotate_left
                        · intro w'
                          go_simp
                          with_reducible rfl
                        rotate_left
                        · simp only [Act.put, List.setIfInBounds_toArray, List.set_cons_zero, List.set_cons_succ, i64_w, i32_w]
                          rfl
                        refine done_ (done_of HT_.out (by kernel_rfl)) ?_
                        try go_wp2
                        go_ret
                        exact ⟨by first | rfl | (simp [errW_none, errW_some] <;> rfl) | (simp only [← hji10]; first | rfl | (simp [errW_none, errW_some] <;> rfl)) | (simp [*, errW_none, errW_some] <;> rfl), by repeat (first | (with_reducible first | exact HB.out | apply below_alloc | apply pw_below_drewN | apply below_drew1 | refine below_set ?_ GE118.out) | exact HB.out)⟩
                    · rw [if_neg c12] at H
                      exact absurd H (by simp)
                  · rw [if_neg c11] at H
                    exact absurd H (by simp)
                · rw [if_neg c9] at H
                  exact absurd H (by simp)
              · rw [if_neg c8] at H
                exact absurd H (by simp)
            · rw [if_neg c7] at H
              have c7b0 : decide (x22_2 < (l0.length : Int)) = false := decide_eq_false c7
              clear c7
              obtain rfl := Option.some.inj H
              go_wp2
              go_ret
              exact ⟨by first | rfl | (simp [errW_none, errW_some] <;> rfl) | (simp [*, errW_none, errW_some] <;> rfl), by repeat (first | (with_reducible first | exact HB.out | apply below_alloc | apply pw_below_drewN | apply below_drew1) | exact HB.out)⟩
end Go.Proofs.Ytcpicopaobhlcaa.Q
end
section
namespace Go.Proofs.Ytcpicopaobhlcaa.Q
open Go.RowKit Go.Maps Go.Proofs.YtcpicopaobhlcaaW.PrintWords Go.Proofs.YtcpicopaobhlcaaW.PrintLast Go.Proofs.YtcpicopaobhlcaaW.PrintMore
set_option linter.unusedVariables false
theorem rdS_mid (pre : List St) (x : St) (rest : List St) : rd_T45 (pre ++ x :: rest) (pre.length : Int) = x := by
  unfold rd_T45
  rw [Int.toNat_natCast, List.getD_eq_getElem?_getD, List.getElem?_append_right (Nat.le_refl _), Nat.sub_self]
  rfl
theorem drop_rdI (l : List Int) (k : Nat) (h : k < l.length) : l.drop k = rd l (k : Int) :: l.drop (k + 1) := by
  rw [List.drop_eq_getElem_cons h]
  unfold rd
  rw [Int.toNat_natCast, List.getD_eq_getElem?_getD, List.getElem?_eq_getElem h]
  rfl
theorem cov_go (text : List Int) (a : Nat) (hT : text.length < 1000000000) : ∀ (rest pre : List St) (k : Nat), (∀ s ∈ rest, s.f0.length < 1000) → a + (pre ++ rest).length ≤ text.length → rest.length + 1 ≤ k →
    transduce_covers.l0 k text (a : Int) (pre ++ rest) ((pre ++ rest).length : Int) (pre.length : Int) = some (insideS rest (text.drop (a + pre.length)))
  | [], pre, k, h0, h1, h2 => by
    obtain ⟨k, rfl⟩ : ∃ j, k = j + 1 := ⟨k - 1, by omega⟩
    rw [transduce_covers.l0, if_neg (by simp)]
    rfl
  | s :: rest, pre, k, h0, h1, h2 => by
    obtain ⟨k, rfl⟩ : ∃ j, k = j + 1 := ⟨k - 1, by omega⟩
    have hp : a + pre.length < text.length := by simp at h1; omega
    have ih := cov_go text a hT rest (pre ++ [s]) k (fun y hy => h0 y (List.mem_cons_of_mem _ hy)) (by simpa using h1) (by simp at h2; omega)
    have ex : (pre ++ [s]) ++ rest = pre ++ s :: rest := by simp
    have el : ((pre ++ [s]).length : Int) = ((pre.length + 1 : Nat) : Int) := by simp
    have en : (pre ++ [s]).length = pre.length + 1 := by simp
    rw [ex, el, en] at ih
    have hw : wrap64 ((a : Int) + (pre.length : Int)) = ((a + pre.length : Nat) : Int) := by unfold wrap64; omega
    have hs : cpset_Has.f s.f0 (rd text ((a + pre.length : Nat) : Int)) = some (hasS s (rd text ((a + pre.length : Nat) : Int))) := by
      unfold cpset_Has.f
      rw [if_pos (by have := h0 s List.mem_cons_self; omega)]
      rfl
    rw [transduce_covers.l0, if_pos (by simp; omega), if_pos (by omega), if_pos (by simp; omega), rdS_mid, hw, if_pos (by omega), if_pos (by omega), hs, wrap_suc (by omega : pre.length < 1000000000), drop_rdI _ _ hp]
    show (if hasS s _ = true then _ else _) = _
    rw [ih, insideS]
    cases hasS s (rd text ((a + pre.length : Nat) : Int)) <;> rfl
theorem cov_ok (sets : List St) (text : List Int) (i : Int) (h0 : ∀ s ∈ sets, s.f0.length < 1000) (hT : text.length < 1000000000) (hS : sets.length < 1000000000) (hi : -1000000000000 < i ∧ i < 1000000000000) :
    transduce_covers.f (sets.length + 2) sets text i = some (coversS sets text i) := by
  unfold transduce_covers.f coversS
  by_cases hn : i < 0
  · rw [if_pos hn, transduce_covers.j0, if_pos rfl, decide_eq_false (by omega)]
    rfl
  · have hw : wrap64 (i + (sets.length : Int)) = i + (sets.length : Int) := by unfold wrap64; omega
    rw [if_neg hn, hw, transduce_covers.j0, decide_eq_true (by omega : 0 ≤ i)]
    by_cases hl : i + (sets.length : Int) ≤ (text.length : Int)
    · rw [if_neg (by simp; omega), decide_eq_true hl]
      obtain ⟨a, rfl⟩ : ∃ a : Nat, i = (a : Int) := ⟨i.toNat, by omega⟩
      have := cov_go text a hT sets [] (sets.length + 1) h0 (by simpa using by omega) (Nat.le_refl _)
      rw [Int.toNat_natCast]
      exact this
    · rw [if_pos (by simp; omega), decide_eq_false hl]
      rfl
theorem find_begin (c : Int) (P : Int → Bool) (Q : Ru → Bool) : ∀ (l : List Ru) (i : Nat), (∀ x ∈ l, Q x = true → startsS x c = true) → (∀ (j : Nat) (x : Ru), l[j]? = some x → P ((i + j : Nat) : Int) = Q x) →
    (beginS l i c).find? P = (l.findIdx? Q).map (fun j => ((i + j : Nat) : Int))
  | [], i, _, h => rfl
  | x :: l, i, hQ, h => by
    have h0 := h 0 x rfl
    rw [Nat.add_zero] at h0
    have ih := find_begin c P Q l (i + 1) (fun y hy => hQ y (List.mem_cons_of_mem _ hy)) fun j y hy => by
      have := h (j + 1) y (by simpa using hy)
      rw [show i + (j + 1) = i + 1 + j by omega] at this
      exact this
    rw [beginS, List.findIdx?_cons]
    by_cases hq : Q x = true
    · rw [if_pos (hQ x List.mem_cons_self hq), List.find?_cons, h0, hq]
      simp
    · have hq' : Q x = false := by simpa using hq
      rw [hq']
      have hrest : (l.findIdx? Q).map (fun j => ((i + 1 + j : Nat) : Int)) = ((l.findIdx? Q).map (· + 1)).map (fun j => ((i + j : Nat) : Int)) := by
        cases l.findIdx? Q with
        | none => rfl
        | some j => simp; omega
      split
      · rw [List.find?_cons, h0, hq', ih, hrest]; rfl
      · rw [ih, hrest]; rfl
theorem starts_of (x : Ru) (text : List Int) (i : Int) (h1 : 1 ≤ x.f1.length) (h2 : 0 ≤ i) (h3 : i < (text.length : Int)) (h : appliesS x text i = true) : startsS x (rd text i) = true := by
  unfold appliesS coversS at h
  simp only [Bool.and_eq_true] at h
  have h4 := h.1.2.2
  obtain ⟨a, rfl⟩ : ∃ a : Nat, i = (a : Int) := ⟨i.toNat, by omega⟩
  rw [Int.toNat_natCast, drop_rdI text a (by omega)] at h4
  unfold startsS
  cases hf : x.f1 with
  | nil => rw [hf] at h1; simp at h1
  | cons s r =>
    rw [hf, insideS, Bool.and_eq_true] at h4
    exact h4.1
theorem find_hit (P : Int → Bool) (bs : List Int) (k : Nat) (hk : k < bs.length) (h : ∀ y ∈ bs.take k, P y = false) (hp : P (rd bs (k : Int)) = true) : bs.find? P = some (rd bs (k : Int)) := by
  have h1 : bs = bs.take k ++ bs.drop k := (List.take_append_drop k bs).symm
  have h2 : (bs.take k).find? P = none := List.find?_eq_none.2 fun y hy => by rw [h y hy]; decide
  have h3 := drop_rdI bs k hk
  generalize hq : rd bs (k : Int) = q at *
  rw [h1, List.find?_append, h2, h3, List.find?_cons, hp]
  rfl
theorem beginS_mem (c : Int) : ∀ (l : List Ru) (i : Nat) (y : Int), y ∈ beginS l i c → (i : Int) ≤ y ∧ y < ((i + l.length : Nat) : Int)
  | [], i, y, h => by simp [beginS] at h
  | x :: l, i, y, h => by
    rw [beginS] at h
    split at h
    · rcases List.mem_cons.1 h with rfl | h
      · simp only [List.length_cons]; omega
      · have := beginS_mem c l (i + 1) y h
        simp only [List.length_cons]; omega
    · have := beginS_mem c l (i + 1) y h
      simp only [List.length_cons]; omega
theorem Mach.below {w w' : World} {g : Option Nat} {bm mb cA n : Nat} {A : Option Addr} {l : List Ru} (h : Mach w g bm mb A cA l n) (hb : Below w.heap.size w w') : Mach w' g bm mb A cA l n := by
  obtain ⟨D, h1, h2⟩ := h.map
  refine ⟨blk_below h.blk hb, D, h1.kept (grown_of_below hb none) (by simp), fun c hc => ?_⟩
  obtain ⟨A', cap, e1, e2, e3, e4⟩ := h2 c hc
  exact ⟨A', cap, e1, e2, Kd.C_below e3 hb, e4⟩
theorem Mach.mono {w : World} {g : Option Nat} {bm mb cA n m : Nat} {A : Option Addr} {l : List Ru} (h : Mach w g bm mb A cA l n) (hm : n ≤ m) : Mach w g bm mb A cA l m := ⟨h.blk, h.map.elim fun D h => ⟨D, h.1.mono hm, h.2⟩⟩
/-- A row that is kept apart may grow. -/
theorem Mach.grown {w w' : World} {g g' : Option Nat} {bm mb cA n : Nat} {A : Option Addr} {l : List Ru} {e0 : TypeId} (he0 : e0 ≠ 76) (h : Mach w g bm mb A cA l n) (hg : w.grownBy w' g) (hty : ∀ k, g = some k → ∃ cells, w.heap[k]? = some (.cells cells e0 (0, 0)))
    (hat : g' = g ∨ ∃ b, g' = some b ∧ w.heap.size ≤ b) : Mach w' g' bm mb A cA l n := by
  obtain ⟨D, h1, h2⟩ := h.map
  obtain ⟨es, clock, hmp⟩ := ownsMap_at h1
  have hnb : some bm ≠ g := fun e => by
    obtain ⟨cells, hc⟩ := hty bm e.symm
    rw [h.blk] at hc
    injection hc with hc
    injection hc with hc1 hc2
    exact absurd hc2.symm he0
  have hnm : some mb ≠ g := fun e => by
    obtain ⟨cells, hc⟩ := hty mb e.symm
    rw [hmp] at hc
    cases hc
  refine ⟨blk_grown h.blk hg hnb, D, h1.kept hg hnm, fun c hc => ?_⟩
  obtain ⟨A', cap, e1, e2, e3, e4⟩ := h2 c hc
  refine ⟨A', cap, e1, e2, mach_grownC e3 hg e4, fun ad ea h0 => ?_⟩
  rcases hat with rfl | ⟨b, rfl, hb⟩
  · exact e4 ad ea h0
  · have := mach_blockC e3 ad ea h0
    intro e
    injection e with e
    omega
set_option maxHeartbeats 4000000 in
set_option maxRecDepth 100000 in
theorem step_calls (w0 w : World) (bm mb : Nat) (A : Option Addr) (cA : Nat) (l : List Ru) (n : Nat) (A1 : Option Addr) (c1 : Nat) (text : List Int) (at_ : Int) (g : Option Nat) (hg0 : ∀ k, g = some k → k < w.heap.size) (hM : Mach w g bm mb A cA l n) (hb0 : Below w0.heap.size w0 w) (hmb : w0.heap.size ≤ mb) (hR : Kd.C k41 w0 A l.length l) (hc : l.length ≤ cA)
    (hl : l.length < 100000000) (hm1 : ∀ x ∈ l, 1 ≤ x.f1.length ∧ (∀ s ∈ x.f0, s.f0.length < 1000) ∧ (∀ s ∈ x.f1, s.f0.length < 1000) ∧ (∀ s ∈ x.f2, s.f0.length < 1000) ∧ x.f0.length < 100000000 ∧ x.f1.length < 100000000 ∧ x.f2.length < 100000000) (hn : n < 1000000000)
    (hT : Kd.C (Kd.int .i64) w0 A1 text.length text) (hc1 : text.length ≤ c1) (hTl : text.length < 100000000) (hwf : ∀ c ∈ text, (Lit.int .i64 c).wf = true) :
    Calls Try.prog 60 #[.pointer (some ⟨bm, 0, none⟩), .slice A1 text.length c1, .int .i64 at_] w fun e w' => e = .returned (.tuple #[.int .i64 (stepS l text at_).1, .int .i64 (stepS l text at_).2]) ∧ Mach w' g bm mb A cA l (n + 1) ∧ Below w0.heap.size w0 w' ∧ (∀ k o, w.heap[k]? = some o → k ≠ mb → w'.heap[k]? = some o) := by
  have HM := Aside0.mk hM
  have HG0 := Aside0.mk hg0
  have HB0 := Aside0.mk hb0
  have HMB := Aside0.mk hmb
  have HR := Aside0.mk hR
  have HC := Aside0.mk hc
  have HL := Aside0.mk hl
  have HM1 := Aside0.mk hm1
  have HN := Aside0.mk hn
  have HT0 := Aside0.mk hT
  have HC1 := Aside0.mk hc1
  have HTL := Aside0.mk hTl
  have HWF := Aside0.mk hwf
  clear hg0 hM hb0 hmb hR hc hl hm1 hn hT hc1 hTl hwf
  by_cases hneg : at_ < 0
  · have hd : decide (at_ < 0) = true := decide_eq_true hneg
    have HS := Aside0.mk (show stepS l text at_ = (-1, 0) by unfold stepS; rw [if_pos (.inl hneg)])
    clear hneg
    go_enter Try.func60, Try.ntmps60
    go_wp2
    go_step3
    go_wp2
    rw [Exit.noGoto_ret]
    go_ret2
    exact ⟨by rw [HS.out]; rfl, ⟨HM.out.blk, HM.out.map.elim fun D h => ⟨D, h.1.mono (Nat.le_succ n), h.2⟩⟩, HB0.out, fun k o h _ => h⟩
  · by_cases hge : (text.length : Int) ≤ at_
    · have hd : decide (at_ < 0) = false := decide_eq_false hneg
      have hd2 : decide (at_ ≥ (text.length : Int)) = true := decide_eq_true hge
      have HS := Aside0.mk (show stepS l text at_ = (-1, 0) by unfold stepS; rw [if_pos (.inr hge)])
      clear hneg hge
      go_enter Try.func60, Try.ntmps60
      go_wp2
      go_step3
      go_wp2
      rw [Exit.noGoto_ret]
      go_ret2
      exact ⟨by rw [HS.out]; rfl, ⟨HM.out.blk, HM.out.map.elim fun D h => ⟨D, h.1.mono (Nat.le_succ n), h.2⟩⟩, HB0.out, fun k o h _ => h⟩
    · have hd : decide (at_ < 0) = false := decide_eq_false hneg
      have hd2 : decide (at_ ≥ (text.length : Int)) = false := decide_eq_false hge
      obtain ⟨ad, e, hx0⟩ := Kd.at_int (Kd.C_below HT0.out HB0.out) at_ (by omega) (by omega)
      cases e
      have hp : (0 ≤ at_) = True := eq_true (by omega)
      have hp2 : (at_ < (text.length : Int)) = True := eq_true (by omega)
      have hmem : rd text at_ ∈ text := by unfold rd; rw [List.getD_eq_getElem?_getD, List.getElem?_eq_getElem (by omega : at_.toNat < text.length)]; exact List.getElem_mem _
      have HSN : Aside0 (l.findIdx? (fun x => appliesS x text at_) = none → stepS l text at_ = (-1, 1)) := ⟨fun h => by unfold stepS; rw [if_neg (by omega)]; simp only [h]⟩
      have HSS : Aside0 (∀ j, l.findIdx? (fun x => appliesS x text at_) = some j → stepS l text at_ = ((j : Int), (((l.getD j z41).f1.length : Nat) : Int))) := ⟨fun j h => by unfold stepS; rw [if_neg (by omega)]; simp only [h]⟩
      have hfb := find_begin (rd text at_) (fun y => appliesS (rd_T41 l y) text at_) (fun x => appliesS x text at_) l 0 (fun x hx h => starts_of x text at_ (HM1.out x hx).1 (by omega) (by omega) h) (fun j x hj => by
        show appliesS (rd_T41 l ((0 + j : Nat) : Int)) text at_ = _
        unfold rd_T41
        rw [Nat.zero_add, Int.toNat_natCast, List.getD_eq_getElem?_getD, hj]
        rfl)
      have HFB := Aside0.mk hfb
      have HBM := Aside0.mk (beginS_mem (rd text at_) l 0)
      have HLB : Aside0 ((beginS l 0 (rd text at_)).length < 1000000000) := ⟨by have := beginS_length (rd text at_) l 0; have := HL.out; omega⟩
      clear hfb
      have HBG := Aside0.mk (begin_calls w0 w bm mb A cA l n (rd text at_) g HG0.out HM.out HB0.out HMB.out HR.out HC.out HL.out (fun x hx => ⟨(HM1.out x hx).1, (HM1.out x hx).2.2.1⟩) HN.out (HWF.out _ hmem))
      have HRNG : Aside0 (0 ≤ at_ ∧ at_ < (text.length : Int)) := ⟨by omega⟩
      clear hmem hneg hge
      go_enter Try.func60, Try.ntmps60
      go_wp2
      go_step3
      go_wp2
      go_step3
      go_wp2_with (go_at_call 66; (with_reducible refine HBG.out.mono ?_); rintro e w1 ⟨A', cap, rfl, hcap, hC, hM', hbw, hkp⟩; have HCAP := Aside0.mk hcap; have HBC := Aside0.mk hC; have HM' := Aside0.mk hM'; have HBW := Aside0.mk hbw; have HKP := Aside0.mk hkp; clear hcap hC hM' hbw hkp)
      generalize rd text at_ = c at *
      generalize hbs : beginS l 0 c = bs at HBC HCAP HFB HBM HLB ⊢
      go_loopw [27] (fun i wr => ∃ k : Nat, i = .int .i64 k ∧ Aside0 (k ≤ bs.length) ∧ Aside0 (∀ y ∈ bs.take k, appliesS (rd_T41 l y) text at_ = false) ∧ Aside0 (Below w1.heap.size w1 wr)) (fun i _ => bs.length - (intOf i).toNat)
      case atStart => exact ⟨0, rfl, ⟨Nat.zero_le _⟩, ⟨fun y hy => by simp at hy⟩, ⟨Below.refl _ _⟩⟩
      case round =>
        obtain ⟨k, rfl, HK, HNO, HB⟩ := hrel
        by_cases hlt : k < bs.length
        · have hy : rd bs (k : Int) ∈ bs := by unfold rd; rw [Int.toNat_natCast, List.getD_eq_getElem?_getD, List.getElem?_eq_getElem hlt]; exact List.getElem_mem hlt
          have hyr := HBM.out _ hy
          obtain ⟨adb, eb, hb0⟩ := Kd.at_int (Kd.C_below HBC.out HB.out) (k : Int) (by omega) (by omega)
          cases eb
          rw [Int.toNat_natCast] at hb0
          have hkp2 : (0 ≤ (k : Int)) = True := eq_true (by omega)
          have hwk : wrap64 ((k : Int) + 1) = (k : Int) + 1 := by have := HLB.out; unfold wrap64; omega
          have hst : bs.take (k + 1) = bs.take k ++ [rd bs (k : Int)] := by
            unfold rd
            rw [Int.toNat_natCast, List.getD_eq_getElem?_getD, List.take_add_one, List.getElem?_eq_getElem hlt]
            rfl
          have hmb' := blk_below HM'.out.blk HB.out
          have hml : wr.cell? ⟨bm, 0, none⟩ = some (.slice A l.length cA) := (blk_cell hmb' 0).trans rfl
          have HHIT : Aside0 (appliesS (rd_T41 l (rd bs (k : Int))) text at_ = true → stepS l text at_ = (rd bs (k : Int), ((rd_T41 l (rd bs (k : Int))).f1.length : Int))) := ⟨fun h => by
            have h1 := find_hit (fun y => appliesS (rd_T41 l y) text at_) bs k hlt HNO.out h
            rw [HFB.out] at h1
            cases hj : l.findIdx? (fun x => appliesS x text at_) with
            | none => rw [hj] at h1; simp at h1
            | some j =>
              rw [hj] at h1
              simp only [Option.map_some, Option.some.injEq, Nat.zero_add] at h1
              rw [HSS.out j hj, ← h1]
              unfold rd_T41
              rw [Int.toNat_natCast]⟩
          have HMISS0 : Aside0 (appliesS (rd_T41 l (rd bs (k : Int))) text at_ = false → ∀ y ∈ bs.take (k + 1), appliesS (rd_T41 l y) text at_ = false) := ⟨fun h y hy => by
            rw [hst, List.mem_append, List.mem_singleton] at hy
            rcases hy with hy | rfl
            · exact HNO.out y hy
            · exact h⟩
          clear hst hy hmb'
          generalize rd bs (k : Int) = y at *
          have hRw := Kd.C_below HR.out (below_step HBW.out HB.out)
          obtain ⟨adr, B0, d0, B1, d1, B2, d2, B3, d3, er, x0, x1, x2, x3, y0, z0, y1, z1, y2, z2, y3, z3⟩ := at_T41 hRw y (by omega) (by omega)
          cases er
          have hmemx : rd_T41 l y ∈ l := by unfold rd_T41; rw [List.getD_eq_getElem?_getD, List.getElem?_eq_getElem (by omega : y.toNat < l.length)]; exact List.getElem_mem _
          obtain ⟨q1, q2, q3, q4, q5, q6, q7⟩ := HM1.out _ hmemx
          clear hRw hmemx y3 z3
          generalize rd_T41 l y = x at *
          have hyp : (0 ≤ y) = True := eq_true (by omega)
          have hyp2 : (y < (l.length : Int)) = True := eq_true (by omega)
          have HV1 := Aside0.mk (cov_ok x.f1 text at_ q3 (by have := HTL.out; omega) (by omega) (by have := HRNG.out; have := HTL.out; omega))
          have HV2 := Aside0.mk (cov_ok x.f2 text (at_ + (x.f1.length : Int)) q4 (by have := HTL.out; omega) (by omega) (by have := HRNG.out; have := HTL.out; omega))
          have HV3 := Aside0.mk (cov_ok x.f0 text (at_ - (x.f0.length : Int)) q2 (by have := HTL.out; omega) (by omega) (by have := HRNG.out; have := HTL.out; omega))
          have hwa : wrap64 (at_ + (x.f1.length : Int)) = at_ + (x.f1.length : Int) := by have := HRNG.out; have := HTL.out; unfold wrap64; omega
          have hwb : wrap64 (at_ - (x.f0.length : Int)) = at_ - (x.f0.length : Int) := by have := HRNG.out; have := HTL.out; unfold wrap64; omega
          have hap : appliesS x text at_ = (coversS x.f1 text at_ && (coversS x.f2 text (at_ + (x.f1.length : Int)) && coversS x.f0 text (at_ - (x.f0.length : Int)))) := rfl
          rw [hap] at HHIT HMISS0
          have L1 := Aside0.mk y1
          have L2 := Aside0.mk y2
          have L0 := Aside0.mk y0
          have Y1 := Aside0.mk z1
          have Y2 := Aside0.mk z2
          have Y0 := Aside0.mk z0
          have HTR := Aside0.mk (Kd.C_below HT0.out (below_step HBW.out HB.out))
          have HBQ := Aside0.mk (Below.refl wr.heap.size wr)
          have X0 : (wr.alloc (.cells #[.slice B0 x.f0.length d0, .slice B1 x.f1.length d1, .slice B2 x.f2.length d2, .slice B3 x.f3.length d3] 41)).cell? ⟨wr.heap.size, 0, none⟩ = some (.slice B0 x.f0.length d0) := (blk_cell (heap_alloc_new wr (.cells #[.slice B0 x.f0.length d0, .slice B1 x.f1.length d1, .slice B2 x.f2.length d2, .slice B3 x.f3.length d3] 41)) 0).trans rfl
          have X1 : (wr.alloc (.cells #[.slice B0 x.f0.length d0, .slice B1 x.f1.length d1, .slice B2 x.f2.length d2, .slice B3 x.f3.length d3] 41)).cell? ⟨wr.heap.size, 1, none⟩ = some (.slice B1 x.f1.length d1) := (blk_cell (heap_alloc_new wr (.cells #[.slice B0 x.f0.length d0, .slice B1 x.f1.length d1, .slice B2 x.f2.length d2, .slice B3 x.f3.length d3] 41)) 1).trans rfl
          have X2 : (wr.alloc (.cells #[.slice B0 x.f0.length d0, .slice B1 x.f1.length d1, .slice B2 x.f2.length d2, .slice B3 x.f3.length d3] 41)).cell? ⟨wr.heap.size, 2, none⟩ = some (.slice B2 x.f2.length d2) := (blk_cell (heap_alloc_new wr (.cells #[.slice B0 x.f0.length d0, .slice B1 x.f1.length d1, .slice B2 x.f2.length d2, .slice B3 x.f3.length d3] 41)) 2).trans rfl
          clear q1 q2 q3 q4 q5 q6 q7 hap z0 z1 z2 y0 y1 y2 hyr
          generalize coversS x.f1 text at_ = b1 at *
          generalize coversS x.f2 text (at_ + (x.f1.length : Int)) = b2 at *
          generalize coversS x.f0 text (at_ - (x.f0.length : Int)) = b3 at *
          cases b1 with
          | false =>
            have HMISS := Aside0.mk (HMISS0.out rfl)
            go_wp2_with (first | (go_at_call 67; (with_reducible refine (transduce_covers.calls (x.f1.length + 2) B1 d1 x.f1 (some ad) c1 text (at_) false _ ?sma L1.out ?smb HC1.out HV1.out).mono ?_); (case sma => exact Kd.C_below Y1.out (by repeat (first | (with_reducible first | exact HBQ.out | apply below_alloc | apply pw_below_drewN | apply below_drew1) | exact HBQ.out))); (case smb => exact Kd.C_below HTR.out (by repeat (first | (with_reducible first | exact HBQ.out | apply below_alloc | apply pw_below_drewN | apply below_drew1) | exact HBQ.out))); rintro e w3 ⟨rfl, hb⟩; have Z0 := pw_cell_below hb X0; have Z1 := pw_cell_below hb X1; have Z2 := pw_cell_below hb X2; clear X0 X1 X2; have X0 := Z0; have X1 := Z1; have X2 := Z2; clear Z0 Z1 Z2; have n0_ := Aside0.mk (below_step (by repeat (first | (with_reducible first | exact HBQ.out | apply below_alloc | apply pw_below_drewN | apply below_drew1) | exact HBQ.out)) hb); clear HBQ hb; have HBQ := n0_; clear n0_))
            go_roundw
            case rel => exact ⟨k + 1, by rw [hwk]; rfl, ⟨hlt⟩, HMISS, ⟨below_step HB.out HBQ.out⟩⟩
            case measure => rw [hwk]; simp only [intOf]; omega
          | true => cases b2 with
            | false =>
              have HMISS := Aside0.mk (HMISS0.out rfl)
              go_wp2_with (first | (go_at_call 67; (with_reducible refine (transduce_covers.calls (x.f1.length + 2) B1 d1 x.f1 (some ad) c1 text (at_) true _ ?sma L1.out ?smb HC1.out HV1.out).mono ?_); (case sma => exact Kd.C_below Y1.out (by repeat (first | (with_reducible first | exact HBQ.out | apply below_alloc | apply pw_below_drewN | apply below_drew1) | exact HBQ.out))); (case smb => exact Kd.C_below HTR.out (by repeat (first | (with_reducible first | exact HBQ.out | apply below_alloc | apply pw_below_drewN | apply below_drew1) | exact HBQ.out))); rintro e w3 ⟨rfl, hb⟩; have Z0 := pw_cell_below hb X0; have Z1 := pw_cell_below hb X1; have Z2 := pw_cell_below hb X2; clear X0 X1 X2; have X0 := Z0; have X1 := Z1; have X2 := Z2; clear Z0 Z1 Z2; have n0_ := Aside0.mk (below_step (by repeat (first | (with_reducible first | exact HBQ.out | apply below_alloc | apply pw_below_drewN | apply below_drew1) | exact HBQ.out)) hb); clear HBQ hb; have HBQ := n0_; clear n0_) | (go_at_call 67; (with_reducible refine (transduce_covers.calls (x.f2.length + 2) B2 d2 x.f2 (some ad) c1 text (at_ + (x.f1.length : Int)) false _ ?saa L2.out ?sab HC1.out HV2.out).mono ?_); (case saa => exact Kd.C_below Y2.out (by repeat (first | (with_reducible first | exact HBQ.out | apply below_alloc | apply pw_below_drewN | apply below_drew1) | exact HBQ.out))); (case sab => exact Kd.C_below HTR.out (by repeat (first | (with_reducible first | exact HBQ.out | apply below_alloc | apply pw_below_drewN | apply below_drew1) | exact HBQ.out))); rintro e w3 ⟨rfl, hb⟩; have Z0 := pw_cell_below hb X0; have Z1 := pw_cell_below hb X1; have Z2 := pw_cell_below hb X2; clear X0 X1 X2; have X0 := Z0; have X1 := Z1; have X2 := Z2; clear Z0 Z1 Z2; have n0_ := Aside0.mk (below_step (by repeat (first | (with_reducible first | exact HBQ.out | apply below_alloc | apply pw_below_drewN | apply below_drew1) | exact HBQ.out)) hb); clear HBQ hb; have HBQ := n0_; clear n0_))
              go_roundw
              case rel => exact ⟨k + 1, by rw [hwk]; rfl, ⟨hlt⟩, HMISS, ⟨below_step HB.out HBQ.out⟩⟩
              case measure => rw [hwk]; simp only [intOf]; omega
            | true => cases b3 with
              | false =>
                have HMISS := Aside0.mk (HMISS0.out rfl)
                go_wp2_with (first | (go_at_call 67; (with_reducible refine (transduce_covers.calls (x.f1.length + 2) B1 d1 x.f1 (some ad) c1 text (at_) true _ ?sma L1.out ?smb HC1.out HV1.out).mono ?_); (case sma => exact Kd.C_below Y1.out (by repeat (first | (with_reducible first | exact HBQ.out | apply below_alloc | apply pw_below_drewN | apply below_drew1) | exact HBQ.out))); (case smb => exact Kd.C_below HTR.out (by repeat (first | (with_reducible first | exact HBQ.out | apply below_alloc | apply pw_below_drewN | apply below_drew1) | exact HBQ.out))); rintro e w3 ⟨rfl, hb⟩; have Z0 := pw_cell_below hb X0; have Z1 := pw_cell_below hb X1; have Z2 := pw_cell_below hb X2; clear X0 X1 X2; have X0 := Z0; have X1 := Z1; have X2 := Z2; clear Z0 Z1 Z2; have n0_ := Aside0.mk (below_step (by repeat (first | (with_reducible first | exact HBQ.out | apply below_alloc | apply pw_below_drewN | apply below_drew1) | exact HBQ.out)) hb); clear HBQ hb; have HBQ := n0_; clear n0_) | (go_at_call 67; (with_reducible refine (transduce_covers.calls (x.f2.length + 2) B2 d2 x.f2 (some ad) c1 text (at_ + (x.f1.length : Int)) true _ ?saa L2.out ?sab HC1.out HV2.out).mono ?_); (case saa => exact Kd.C_below Y2.out (by repeat (first | (with_reducible first | exact HBQ.out | apply below_alloc | apply pw_below_drewN | apply below_drew1) | exact HBQ.out))); (case sab => exact Kd.C_below HTR.out (by repeat (first | (with_reducible first | exact HBQ.out | apply below_alloc | apply pw_below_drewN | apply below_drew1) | exact HBQ.out))); rintro e w3 ⟨rfl, hb⟩; have Z0 := pw_cell_below hb X0; have Z1 := pw_cell_below hb X1; have Z2 := pw_cell_below hb X2; clear X0 X1 X2; have X0 := Z0; have X1 := Z1; have X2 := Z2; clear Z0 Z1 Z2; have n0_ := Aside0.mk (below_step (by repeat (first | (with_reducible first | exact HBQ.out | apply below_alloc | apply pw_below_drewN | apply below_drew1) | exact HBQ.out)) hb); clear HBQ hb; have HBQ := n0_; clear n0_) | (go_at_call 67; (with_reducible refine (transduce_covers.calls (x.f0.length + 2) B0 d0 x.f0 (some ad) c1 text (at_ - (x.f0.length : Int)) false _ ?sba L0.out ?sbb HC1.out HV3.out).mono ?_); (case sba => exact Kd.C_below Y0.out (by repeat (first | (with_reducible first | exact HBQ.out | apply below_alloc | apply pw_below_drewN | apply below_drew1) | exact HBQ.out))); (case sbb => exact Kd.C_below HTR.out (by repeat (first | (with_reducible first | exact HBQ.out | apply below_alloc | apply pw_below_drewN | apply below_drew1) | exact HBQ.out))); rintro e w3 ⟨rfl, hb⟩; have Z0 := pw_cell_below hb X0; have Z1 := pw_cell_below hb X1; have Z2 := pw_cell_below hb X2; clear X0 X1 X2; have X0 := Z0; have X1 := Z1; have X2 := Z2; clear Z0 Z1 Z2; have n0_ := Aside0.mk (below_step (by repeat (first | (with_reducible first | exact HBQ.out | apply below_alloc | apply pw_below_drewN | apply below_drew1) | exact HBQ.out)) hb); clear HBQ hb; have HBQ := n0_; clear n0_))
                go_roundw
                case rel => exact ⟨k + 1, by rw [hwk]; rfl, ⟨hlt⟩, HMISS, ⟨below_step HB.out HBQ.out⟩⟩
                case measure => rw [hwk]; simp only [intOf]; omega
              | true =>
                have HS := Aside0.mk (HHIT.out rfl)
                go_wp2_with (first | (go_at_call 67; (with_reducible refine (transduce_covers.calls (x.f1.length + 2) B1 d1 x.f1 (some ad) c1 text (at_) true _ ?sma L1.out ?smb HC1.out HV1.out).mono ?_); (case sma => exact Kd.C_below Y1.out (by repeat (first | (with_reducible first | exact HBQ.out | apply below_alloc | apply pw_below_drewN | apply below_drew1) | exact HBQ.out))); (case smb => exact Kd.C_below HTR.out (by repeat (first | (with_reducible first | exact HBQ.out | apply below_alloc | apply pw_below_drewN | apply below_drew1) | exact HBQ.out))); rintro e w3 ⟨rfl, hb⟩; have Z0 := pw_cell_below hb X0; have Z1 := pw_cell_below hb X1; have Z2 := pw_cell_below hb X2; clear X0 X1 X2; have X0 := Z0; have X1 := Z1; have X2 := Z2; clear Z0 Z1 Z2; have n0_ := Aside0.mk (below_step (by repeat (first | (with_reducible first | exact HBQ.out | apply below_alloc | apply pw_below_drewN | apply below_drew1) | exact HBQ.out)) hb); clear HBQ hb; have HBQ := n0_; clear n0_) | (go_at_call 67; (with_reducible refine (transduce_covers.calls (x.f2.length + 2) B2 d2 x.f2 (some ad) c1 text (at_ + (x.f1.length : Int)) true _ ?saa L2.out ?sab HC1.out HV2.out).mono ?_); (case saa => exact Kd.C_below Y2.out (by repeat (first | (with_reducible first | exact HBQ.out | apply below_alloc | apply pw_below_drewN | apply below_drew1) | exact HBQ.out))); (case sab => exact Kd.C_below HTR.out (by repeat (first | (with_reducible first | exact HBQ.out | apply below_alloc | apply pw_below_drewN | apply below_drew1) | exact HBQ.out))); rintro e w3 ⟨rfl, hb⟩; have Z0 := pw_cell_below hb X0; have Z1 := pw_cell_below hb X1; have Z2 := pw_cell_below hb X2; clear X0 X1 X2; have X0 := Z0; have X1 := Z1; have X2 := Z2; clear Z0 Z1 Z2; have n0_ := Aside0.mk (below_step (by repeat (first | (with_reducible first | exact HBQ.out | apply below_alloc | apply pw_below_drewN | apply below_drew1) | exact HBQ.out)) hb); clear HBQ hb; have HBQ := n0_; clear n0_) | (go_at_call 67; (with_reducible refine (transduce_covers.calls (x.f0.length + 2) B0 d0 x.f0 (some ad) c1 text (at_ - (x.f0.length : Int)) true _ ?sba L0.out ?sbb HC1.out HV3.out).mono ?_); (case sba => exact Kd.C_below Y0.out (by repeat (first | (with_reducible first | exact HBQ.out | apply below_alloc | apply pw_below_drewN | apply below_drew1) | exact HBQ.out))); (case sbb => exact Kd.C_below HTR.out (by repeat (first | (with_reducible first | exact HBQ.out | apply below_alloc | apply pw_below_drewN | apply below_drew1) | exact HBQ.out))); rintro e w3 ⟨rfl, hb⟩; have Z0 := pw_cell_below hb X0; have Z1 := pw_cell_below hb X1; have Z2 := pw_cell_below hb X2; clear X0 X1 X2; have X0 := Z0; have X1 := Z1; have X2 := Z2; clear Z0 Z1 Z2; have n0_ := Aside0.mk (below_step (by repeat (first | (with_reducible first | exact HBQ.out | apply below_alloc | apply pw_below_drewN | apply below_drew1) | exact HBQ.out)) hb); clear HBQ hb; have HBQ := n0_; clear n0_))
                first | rw [Exit.noGoto_ret] | skip
                go_ret2
                exact ⟨by rw [HS.out]; rfl, HM'.out.below (below_step HB.out HBQ.out), below_step (below_step HBW.out HB.out) HBQ.out, fun k o h hk => blk_below (blk_below (HKP.out k o h hk) HB.out) HBQ.out⟩
        · obtain rfl : k = bs.length := by have := HK.out; omega
          rw [List.take_length] at HNO
          have HS : Aside0 (stepS l text at_ = (-1, 1)) := ⟨HSN.out (by
            have h1 : bs.find? (fun y => appliesS (rd_T41 l y) text at_) = none := List.find?_eq_none.2 fun y hy => by rw [HNO.out y hy]; decide
            rw [HFB.out] at h1
            simpa using h1)⟩
          go_wp2
          first | rw [Exit.noGoto_ret] | skip
          go_ret2
          exact ⟨by rw [HS.out]; rfl, HM'.out.below HB.out, below_step HBW.out HB.out, fun k o h hk => blk_below (HKP.out k o h hk) HB.out⟩
end Go.Proofs.Ytcpicopaobhlcaa.Q
end
