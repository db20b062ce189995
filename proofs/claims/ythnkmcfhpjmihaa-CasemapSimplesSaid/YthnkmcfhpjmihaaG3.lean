/- Lemmas, printed and written for this claim: part 3. -/
import Derived.WalkKit
import Derived.WalkSpells
import Derived.IntWalk
import Derived.Laws.RangeAny
import Derived.Laws.Strings
import Derived.WideShapes
import Derived.Test.YthnkmcfhpjmihaaG2
import Derived.Laws.StructEq
import Derived.Maps.Own
import Derived.Maps.OwnSet
import Derived.Maps.OwnOps
import Derived.Maps.Keyed
import Derived.ChangeKeysEq
import Derived.Lib.Strings
import Derived.Lib.Slices
import Derived.Lib.Walk
import Derived.Lib.Bytealg
import Derived.Deep.RegionHeld3
import Derived.Deep.RegionLaw
import Derived.Shelf.SlicesG.Cmp
import Derived.Laws.Runes
section
namespace Go.Proofs.Ythnkmcfhpjmihaa.Q
open Go.RowKit Go.Proofs.YthnkmcfhpjmihaaW.PrintWords Go.Proofs.YthnkmcfhpjmihaaW.PrintLast Go.Proofs.YthnkmcfhpjmihaaW.PrintMore
set_option linter.unusedVariables false
theorem nbyte_cases (r : Int) : (r < 48 ∨ 48 ≤ r ∧ r ≤ 57 ∨ 58 ≤ r ∧ r ≤ 64 ∨ 65 ≤ r ∧ r ≤ 90 ∨ 91 ≤ r ∧ r ≤ 94 ∨ r = 95 ∨ r = 96 ∨ 97 ≤ r ∧ r ≤ 122 ∨ 123 ≤ r) := by omega
set_option maxHeartbeats 4000000 in
theorem nameFn_calls (r : Int) (w : World) : Calls Try.prog 95 #[.int .i32 r] w fun e w' => e = .returned (.bool (!nbyte r)) ∧ w' = w := by
 rcases nbyte_cases r with h | h | h | h | h | h | h | h | h
 ·have hn : nbyte r = false := by unfold nbyte; simp only [Bool.or_eq_false_iff, decide_eq_false_iff_not]; omega
  have a0 : decide (r ≥ 65) = false := decide_eq_false (by omega)
  have a1 : decide (r ≤ 90) = true := dT (by omega)
  have a2 : decide (r ≥ 97) = false := decide_eq_false (by omega)
  have a3 : decide (r ≤ 122) = true := dT (by omega)
  have a4 : decide (r ≥ 48) = false := decide_eq_false (by omega)
  have a5 : decide (r ≤ 57) = true := dT (by omega)
  have a6 : decide (r = 95) = false := decide_eq_false (by omega)
  have a9 : (r == 95) = false := by rw [beq_eq_false_iff_ne]; omega
  rw [hn]
  clear hn h
  go_enter Try.func95, Try.ntmps95
  go_wp2
  go_ret
  exact ⟨rfl, rfl⟩
 ·have hn : nbyte r = true := by unfold nbyte; simp only [Bool.or_eq_true, decide_eq_true_eq]; omega
  have a0 : decide (r ≥ 65) = false := decide_eq_false (by omega)
  have a1 : decide (r ≤ 90) = true := dT (by omega)
  have a2 : decide (r ≥ 97) = false := decide_eq_false (by omega)
  have a3 : decide (r ≤ 122) = true := dT (by omega)
  have a4 : decide (r ≥ 48) = true := dT (by omega)
  have a5 : decide (r ≤ 57) = true := dT (by omega)
  have a6 : decide (r = 95) = false := decide_eq_false (by omega)
  have a9 : (r == 95) = false := by rw [beq_eq_false_iff_ne]; omega
  rw [hn]
  clear hn h
  go_enter Try.func95, Try.ntmps95
  go_wp2
  go_ret
  exact ⟨rfl, rfl⟩
 ·have hn : nbyte r = false := by unfold nbyte; simp only [Bool.or_eq_false_iff, decide_eq_false_iff_not]; omega
  have a0 : decide (r ≥ 65) = false := decide_eq_false (by omega)
  have a1 : decide (r ≤ 90) = true := dT (by omega)
  have a2 : decide (r ≥ 97) = false := decide_eq_false (by omega)
  have a3 : decide (r ≤ 122) = true := dT (by omega)
  have a4 : decide (r ≥ 48) = true := dT (by omega)
  have a5 : decide (r ≤ 57) = false := decide_eq_false (by omega)
  have a6 : decide (r = 95) = false := decide_eq_false (by omega)
  have a9 : (r == 95) = false := by rw [beq_eq_false_iff_ne]; omega
  rw [hn]
  clear hn h
  go_enter Try.func95, Try.ntmps95
  go_wp2
  go_ret
  exact ⟨rfl, rfl⟩
 ·have hn : nbyte r = true := by unfold nbyte; simp only [Bool.or_eq_true, decide_eq_true_eq]; omega
  have a0 : decide (r ≥ 65) = true := dT (by omega)
  have a1 : decide (r ≤ 90) = true := dT (by omega)
  have a2 : decide (r ≥ 97) = false := decide_eq_false (by omega)
  have a3 : decide (r ≤ 122) = true := dT (by omega)
  have a4 : decide (r ≥ 48) = true := dT (by omega)
  have a5 : decide (r ≤ 57) = false := decide_eq_false (by omega)
  have a6 : decide (r = 95) = false := decide_eq_false (by omega)
  have a9 : (r == 95) = false := by rw [beq_eq_false_iff_ne]; omega
  rw [hn]
  clear hn h
  go_enter Try.func95, Try.ntmps95
  go_wp2
  go_ret
  exact ⟨rfl, rfl⟩
 ·have hn : nbyte r = false := by unfold nbyte; simp only [Bool.or_eq_false_iff, decide_eq_false_iff_not]; omega
  have a0 : decide (r ≥ 65) = true := dT (by omega)
  have a1 : decide (r ≤ 90) = false := decide_eq_false (by omega)
  have a2 : decide (r ≥ 97) = false := decide_eq_false (by omega)
  have a3 : decide (r ≤ 122) = true := dT (by omega)
  have a4 : decide (r ≥ 48) = true := dT (by omega)
  have a5 : decide (r ≤ 57) = false := decide_eq_false (by omega)
  have a6 : decide (r = 95) = false := decide_eq_false (by omega)
  have a9 : (r == 95) = false := by rw [beq_eq_false_iff_ne]; omega
  rw [hn]
  clear hn h
  go_enter Try.func95, Try.ntmps95
  go_wp2
  go_ret
  exact ⟨rfl, rfl⟩
 ·have hn : nbyte r = true := by unfold nbyte; simp only [Bool.or_eq_true, decide_eq_true_eq]; omega
  have a0 : decide (r ≥ 65) = true := dT (by omega)
  have a1 : decide (r ≤ 90) = false := decide_eq_false (by omega)
  have a2 : decide (r ≥ 97) = false := decide_eq_false (by omega)
  have a3 : decide (r ≤ 122) = true := dT (by omega)
  have a4 : decide (r ≥ 48) = true := dT (by omega)
  have a5 : decide (r ≤ 57) = false := decide_eq_false (by omega)
  have a6 : decide (r = 95) = true := dT (by omega)
  have a9 : (r == 95) = true := by rw [beq_iff_eq]; omega
  rw [hn]
  clear hn h
  go_enter Try.func95, Try.ntmps95
  go_wp2
  go_ret
  exact ⟨rfl, rfl⟩
 ·have hn : nbyte r = false := by unfold nbyte; simp only [Bool.or_eq_false_iff, decide_eq_false_iff_not]; omega
  have a0 : decide (r ≥ 65) = true := dT (by omega)
  have a1 : decide (r ≤ 90) = false := decide_eq_false (by omega)
  have a2 : decide (r ≥ 97) = false := decide_eq_false (by omega)
  have a3 : decide (r ≤ 122) = true := dT (by omega)
  have a4 : decide (r ≥ 48) = true := dT (by omega)
  have a5 : decide (r ≤ 57) = false := decide_eq_false (by omega)
  have a6 : decide (r = 95) = false := decide_eq_false (by omega)
  have a9 : (r == 95) = false := by rw [beq_eq_false_iff_ne]; omega
  rw [hn]
  clear hn h
  go_enter Try.func95, Try.ntmps95
  go_wp2
  go_ret
  exact ⟨rfl, rfl⟩
 ·have hn : nbyte r = true := by unfold nbyte; simp only [Bool.or_eq_true, decide_eq_true_eq]; omega
  have a0 : decide (r ≥ 65) = true := dT (by omega)
  have a1 : decide (r ≤ 90) = false := decide_eq_false (by omega)
  have a2 : decide (r ≥ 97) = true := dT (by omega)
  have a3 : decide (r ≤ 122) = true := dT (by omega)
  have a4 : decide (r ≥ 48) = true := dT (by omega)
  have a5 : decide (r ≤ 57) = false := decide_eq_false (by omega)
  have a6 : decide (r = 95) = false := decide_eq_false (by omega)
  have a9 : (r == 95) = false := by rw [beq_eq_false_iff_ne]; omega
  rw [hn]
  clear hn h
  go_enter Try.func95, Try.ntmps95
  go_wp2
  go_ret
  exact ⟨rfl, rfl⟩
 ·have hn : nbyte r = false := by unfold nbyte; simp only [Bool.or_eq_false_iff, decide_eq_false_iff_not]; omega
  have a0 : decide (r ≥ 65) = true := dT (by omega)
  have a1 : decide (r ≤ 90) = false := decide_eq_false (by omega)
  have a2 : decide (r ≥ 97) = true := dT (by omega)
  have a3 : decide (r ≤ 122) = false := decide_eq_false (by omega)
  have a4 : decide (r ≥ 48) = true := dT (by omega)
  have a5 : decide (r ≤ 57) = false := decide_eq_false (by omega)
  have a6 : decide (r = 95) = false := decide_eq_false (by omega)
  have a9 : (r == 95) = false := by rw [beq_eq_false_iff_ne]; omega
  rw [hn]
  clear hn h
  go_enter Try.func95, Try.ntmps95
  go_wp2
  go_ret
  exact ⟨rfl, rfl⟩
def nameAll (s : ByteArray) : Bool := s.data.toList.all fun b => nbyte (b.toNat : Int)
theorem nameAll_bad {s : ByteArray} {i : Nat} (h : i < s.size) (hb : nbyte ((s[i]'h).toNat : Int) = false) : nameAll s = false := by
 unfold nameAll
 rw [List.all_eq_false]
 exact ⟨s[i]'h, by
  have : s[i]'h = s.data[i]'h := rfl
  rw [this]
  exact Array.getElem_mem_toList (h := h), by rw [hb]; decide⟩
theorem nameAll_good {s : ByteArray} (h : ∀ i (hi : i < s.size), nbyte ((s[i]'hi).toNat : Int) = true) : nameAll s = true := by
 unfold nameAll
 rw [List.all_eq_true]
 intro x hx
 obtain ⟨i, hi, rfl⟩ := List.getElem_of_mem hx
 exact h i (by simpa using hi)
set_option maxHeartbeats 2000000 in
set_option maxRecDepth 100000 in
theorem indexName_calls (s : ByteArray) (w : World) (hs : s.size < 1000000) :
  Calls Try.prog 114 #[.string s, .func (.func 95) #[] #[], .bool true] w fun e w' => (∃ j : Int, e = .returned (.int .i64 j) ∧ decide (j ≥ 0) = !nameAll s) ∧ Below w.heap.size w w' := by
 have HS := aM hs
 clear hs
 go_enter Try.func114, Try.ntmps114
 go_wp2
 go_loopw [] (fun w' => ∃ pos : Nat, w' = w.iter s pos ∧ Aside0 (∀ i (hi : i < s.size), i < pos → nbyte ((s[i]'hi).toNat : Int) = true)) (fun w' => s.size - w'.iterPos w.heap.size)
 case atStart => exact ⟨0, rfl, ⟨fun i hi h => by omega⟩⟩
 case round =>
  obtain ⟨pos, rfl, HA⟩ := hrel
  by_cases hp : pos < s.size
  ·have hnx : ∀ ty, (Instr.next (.pointer (some ⟨w.heap.size, 0, none⟩)) true ty).run Try.prog (w.iter s pos) = _ := fun ty => run_next_any w s pos ty hp
   obtain ⟨r, hr⟩ : ∃ r : Int, r = ((Utf8.decode s pos).1 : Int) := ⟨_, rfl⟩
   obtain ⟨wd, hwd⟩ : ∃ wd, wd = (Utf8.decode s pos).2 := ⟨_, rfl⟩
   rw [← hr, ← hwd] at hnx
   cases hb : nbyte ((s[pos]'hp).toNat : Int) with
   | true =>
    have hlt : (s[pos]'hp).toNat < 128 := by
     unfold nbyte at hb
     simp only [Bool.or_eq_true, decide_eq_true_eq] at hb
     omega
    have hd := decode_ascii s pos hp hlt
    rw [hd] at hr hwd
    have HN : Aside0 (nbyte r = true) := ⟨by rw [hr]; exact hb⟩
    have HW := aM hwd
    have HB := aM hb
    clear hb hlt hd hr hwd
    go_wp2_with (go_at_call 95; (with_reducible refine (nameFn_calls r _).mono ?_); rw [HN.out]; rintro e w1 ⟨rfl, rfl⟩)
    go_roundw
    case rel =>
     refine ⟨pos + wd, rfl, ⟨fun i hi h => ?_⟩⟩
     have h2 := HW.out
     by_cases he : i = pos
     ·subst he; exact HB.out
     ·exact HA.out i hi (by have h3 : wd = 1 := h2; omega)
    case measure =>
     have h3 : wd = 1 := HW.out
     simp
     omega
   | false =>
    have HN : Aside0 (nbyte r = false) := ⟨by
     by_cases hlt : (s[pos]'hp).toNat < 128
     ·rw [decode_ascii s pos hp hlt] at hr
      rw [hr]; exact hb
     ·have h1 := (decode_high s pos hp (by omega)).1
      unfold nbyte
      simp only [Bool.or_eq_false_iff, decide_eq_false_iff_not]
      omega⟩
    have HB := aM (nameAll_bad hp hb)
    clear hb hr hwd
    go_wp2_with (go_at_call 95; (with_reducible refine (nameFn_calls r _).mono ?_); rw [HN.out]; rintro e w1 ⟨rfl, rfl⟩)
    go_ret
    exact ⟨⟨(pos : Int), rfl, by rw [HB.out]; simp⟩, bAl (Below.refl _ _) _⟩
  ·have hnx : ∀ ty, (Instr.next (.pointer (some ⟨w.heap.size, 0, none⟩)) true ty).run Try.prog (w.iter s pos) = _ := fun ty => run_next_end w s pos ty hp
   have HB := aM (nameAll_good (fun i hi => HA.out i hi (by omega)))
   go_wp2
   go_ret
   exact ⟨⟨-1, rfl, by rw [HB.out]; rfl⟩, bAl (Below.refl _ _) _⟩
theorem bytesEq_nil (s : ByteArray) : (s.toList = ([] : List UInt8)) ↔ s.size = 0 := by
 rw [Go.ByteArray.toList_eq]
 constructor
 ·intro h
  have h2 := congrArg List.length h
  simpa using h2
 ·intro h
  exact List.length_eq_zero_iff.1 (by simpa using h)
theorem bytesEq_iff (s t : ByteArray) : (s.toList = t.toList) ↔ s = t := by
 rw [Go.ByteArray.toList_eq, Go.ByteArray.toList_eq]
 exact ⟨fun h => Go.WideShapes.bytes_inj h, fun h => by rw [h]⟩
set_option maxHeartbeats 2000000 in
theorem isName_calls (s : ByteArray) (w : World) (hs : s.size < 1000000) :
  Calls Try.prog 79 #[.string s] w fun e w' => e = .returned (.bool (nameB s)) ∧ Below w.heap.size w w' := by
 have HS := aM hs
 by_cases h0 : s.size = 0
 ·have hn : nameB s = false := by unfold nameB; rw [decide_eq_false (by omega)]; rfl
  have a1 : (s.toList == ([] : List UInt8)) = true := beq_iff_eq.mpr ((bytesEq_nil s).2 h0)
  have a2 : (s.toList != ([] : List UInt8)) = false := bne_eq_false_iff_eq.mpr ((bytesEq_nil s).2 h0)
  rw [hn]
  clear hn h0 hs
  go_enter Try.func79, Try.ntmps79
  go_wp2
  go_ret
  exact ⟨rfl, Below.refl _ _⟩
 ·have a1 : (s.toList == ([] : List UInt8)) = false := beq_eq_false_iff_ne.mpr (fun h => h0 ((bytesEq_nil s).1 h))
  have a2 : (s.toList != ([] : List UInt8)) = true := bne_iff_ne.mpr (fun h => h0 ((bytesEq_nil s).1 h))
  by_cases h1 : 32 < s.size
  ·have hn : nameB s = false := by unfold nameB; rw [decide_eq_false (by omega : ¬ s.size ≤ 32), Bool.and_false]; rfl
   have a3 : decide ((s.size : Int) > 32) = true := dT (by omega)
   have a4 : (32 < s.size) = True := eq_true h1
   rw [hn]
   clear hn h0 h1 hs
   go_enter Try.func79, Try.ntmps79
   go_wp2
   go_ret
   exact ⟨rfl, Below.refl _ _⟩
  ·have hn : nameB s = nameAll s := by unfold nameB nameAll; rw [dT (by omega : 1 ≤ s.size), dT (by omega : s.size ≤ 32)]; rfl
   have a3 : decide ((s.size : Int) > 32) = false := decide_eq_false (by omega)
   have a4 : (32 < s.size) = False := eq_false h1
   rw [hn]
   have HC : Aside0 (Calls Try.prog 94 #[.string s, .func (.func 95) #[] #[]] w fun e w' => e = .returned (.bool (!nameAll s)) ∧ Below w.heap.size w w') := ⟨by
    have HI : Aside0 (Calls Try.prog 102 #[.string s, .func (.func 95) #[] #[]] w fun e w' => (∃ j : Int, e = .returned (.int .i64 j) ∧ decide (j ≥ 0) = !nameAll s) ∧ Below w.heap.size w w') := ⟨by
     clear hn h0 h1 a1 a2 a3 a4 hs
     go_enter Try.func102, Try.ntmps102
     go_wp2_with (go_at_call 114; (with_reducible refine (indexName_calls s _ HS.out).mono ?_); rintro e w1 ⟨⟨j, rfl, hj⟩, hb⟩; have HJ := aM hj; have HB := aM hb; clear hj hb)
     go_ret
     exact ⟨⟨j, rfl, HJ.out⟩, HB.out⟩⟩
    clear hn h0 h1 a1 a2 a3 a4 hs
    go_enter Try.func94, Try.ntmps94
    go_wp2_with (go_at_call 102; (with_reducible refine HI.out.mono ?_); rintro e w1 ⟨⟨j, rfl, hj⟩, hb⟩; have HJ := aM hj; have HB := aM hb; clear hj hb)
    go_ret
    rw [← HJ.out]
    exact ⟨rfl, HB.out⟩⟩
   clear hn h0 h1 hs
   go_enter Try.func79, Try.ntmps79
   go_wp2_with (go_at_call 94; (with_reducible refine HC.out.mono ?_); rintro e w1 ⟨rfl, hb⟩; have HB := aM hb; clear hb)
   go_ret
   refine ⟨?_, HB.out⟩
   cases nameAll s <;> rfl
def keyV (c : Int) (t : ByteArray) : Value := .agg #[.int .i64 c, .string t]
theorem fieldsKey : Try.prog.fieldsOf 86 = #[{ name := "from", type := 3, offset := 0, embedded := false, tag := "", pkgPath := "unicodetext/mapping", byteOffset := 0 }, { name := "tag", type := 9, offset := 1, embedded := false, tag := "", pkgPath := "unicodetext/mapping", byteOffset := 8 }] := by kernel_rfl
theorem undKey : Try.prog.underlying 86 = some (.struct (Try.prog.fieldsOf 86)) := by kernel_rfl
theorem stoodKey : Try.prog.stoodInHeld 86 = false := by kernel_rfl
theorem equalKey (w : World) (c c' : Int) (t t' : ByteArray) : (Op.equal 86 (keyV c t) (keyV c' t')).run Try.prog w = .ok (decide (c = c') && decide (t = t')) w := by
 unfold keyV
 have h := run_equalIn_struct (P := Try.prog) w 9999 86 #[.int .i64 c, .string t] #[.int .i64 c', .string t'] undKey stoodKey
 rw [show Op.equal 86 (.agg #[.int .i64 c, .string t]) (.agg #[.int .i64 c', .string t']) = Op.equalIn (9999 + 1) 86 (.agg #[.int .i64 c, .string t]) (.agg #[.int .i64 c', .string t']) from rfl, h, fieldsKey]
 have ht : (t.toList == t'.toList) = decide (t = t') := by
  rw [Bool.eq_iff_iff, beq_iff_eq, decide_eq_true_iff]
  exact bytesEq_iff t t'
 have hc : (c == c') = decide (c = c') := by rw [Bool.eq_iff_iff, beq_iff_eq, decide_eq_true_iff]
 go_simp
 by_cases h1 : c = c' <;> by_cases h2 : t = t' <;> simp [h1, h2]
theorem undKey2 : Try.prog.underlying 86 = some (.struct #[{ name := "from", type := 3, offset := 0, embedded := false, tag := "", pkgPath := "unicodetext/mapping", byteOffset := 0 }, { name := "tag", type := 9, offset := 1, embedded := false, tag := "", pkgPath := "unicodetext/mapping", byteOffset := 8 }]) := by kernel_rfl
theorem checkKeyV (w : World) (em : Bool) (c : Int) (t : ByteArray) : (Instr.checkKey em 10000 86 (keyV c t)).run Try.prog w = .ok () w := by
 unfold keyV
 have e1 : ∀ n, (Instr.checkKey em (n + 1) 3 (.int .i64 c)).run Try.prog w = .ok () w := fun n => by simp [Instr.checkKey, run_underlying Try.underlying3]
 have e2 : ∀ n, (Instr.checkKey em (n + 1) 9 (.string t)).run Try.prog w = .ok () w := fun n => by simp [Instr.checkKey, run_underlying Try.underlying9]
 rw [show (10000 : Nat) = 9999 + 1 from rfl, Instr.checkKey]
 simp only [Sem.run_bind, run_underlying undKey2, Result.andThen_ok]
 rw [← Array.forIn_toList]
 simp only [List.forIn_cons, List.forIn_nil, Sem.run_bind, Sem.run_ite]
 have p0 : (part 3 #[.int .i64 c, .string t] 0).run Try.prog w = .ok (.int .i64 c) w := run_part_plain w (by kernel_rfl) rfl
 have p1 : (part 9 #[.int .i64 c, .string t] 1).run Try.prog w = .ok (.string t) w := run_part_plain w (by kernel_rfl) rfl
 have q1 := e1 9998
 have q2 := e2 9998
 simp [p0, p1, q1, q2, Result.andThen]
abbrev KVs := List (Int × ByteArray × Value)
/-- The entries of a map, in their order. -/
def Ents (es : Array MapEntry) (L : KVs) : Prop := es.toList.map (fun e => (e.key, e.val)) = L.map (fun p => (keyV p.1 p.2.1, p.2.2))
def hitL (L : KVs) (c : Int) (t : ByteArray) : Option Value := (L.find? (fun p => decide (c = p.1) && decide (t = p.2.1))).map (·.2.2)
theorem findAsk (w : World) (c : Int) (t : ByteArray) : ∀ (es : List MapEntry) (L : KVs) (i : Nat), es.map (fun e => (e.key, e.val)) = L.map (fun p => (keyV p.1 p.2.1, p.2.2)) →
  ∃ r, (Instr.findAsking 86 (keyV c t) es i).run Try.prog w = .ok r w ∧ r.map (·.2) = hitL L c t
 | [], [], i, h => ⟨none, by simp [Instr.findAsking], rfl⟩
 | [], p :: L, i, h => by simp at h
 | e :: es, [], i, h => by simp at h
 | e :: es, p :: L, i, h => by
  simp only [List.map_cons, List.cons.injEq, Prod.mk.injEq] at h
  obtain ⟨⟨h1, h2⟩, h3⟩ := h
  obtain ⟨r, hr, hv⟩ := findAsk w c t es L (i + 1) h3
  have he := equalKey w c p.1 t p.2.1
  unfold hitL
  rw [List.find?_cons]
  cases hq : (decide (c = p.1) && decide (t = p.2.1)) with
  | true =>
   rw [hq] at he
   exact ⟨some (i, e.val), by rw [Instr.findAsking, h1]; simp [he, Result.andThen], by simp [h2]⟩
  | false =>
   rw [hq] at he
   exact ⟨r, by rw [Instr.findAsking, h1]; simp [he, Result.andThen, hr], hv⟩
theorem findKeyV (w : World) (c : Int) (t : ByteArray) (es : Array MapEntry) (L : KVs) (h : Ents es L) : ∃ r, (Instr.findKey 86 (keyV c t) es.toList).run Try.prog w = .ok r w ∧ r.map (·.2) = hitL L c t := by
 obtain ⟨r, hr, hv⟩ := findAsk w c t es.toList L 0 h
 unfold Instr.findKey
 cases hl : es.toList with
 | nil =>
  have hL : L = [] := by unfold Ents at h; rw [hl] at h; simpa using h.symm
  subst hL
  exact ⟨none, by simp [run_underlying undKey2, Instr.findNow], rfl⟩
 | cons e l =>
  rw [hl] at hr
  have hs : Instr.findNow (.struct (Try.prog.fieldsOf 86)) (keyV c t) (e :: l) 0 = none := by
   unfold Instr.findNow
   unfold keyV
   rfl
  refine ⟨r, ?_, hv⟩
  simp only [Sem.run_bind, run_underlying undKey, Result.andThen_ok, hs]
  exact hr
def MapKV (w : World) (mb : Nat) (L : KVs) : Prop := ∃ es clock, w.heap[mb]? = some (.map es clock) ∧ Ents es L
theorem lookup_run {w : World} {mb : Nat} {L : KVs} (h : MapKV w mb L) (ty el : TypeId) (hty : Try.prog.underlying ty = some (.map 86 el)) (z : Value) (hz : (zeroValue el).run Try.prog w = .ok z w) (c : Int) (t : ByteArray) (ok : Bool) :
  (Instr.lookup ty (.map (some mb)) (keyV c t) ok).run Try.prog w = .ok (if ok then .tuple #[(hitL L c t).getD z, .bool (hitL L c t).isSome] else (hitL L c t).getD z) w := by
 obtain ⟨es, clock, hb, hE⟩ := h
 obtain ⟨r, hr, hv⟩ := findKeyV w c t es L hE
 rw [← hv]
 have hck := checkKeyV w es.isEmpty c t
 cases r with
 | none => cases ok <;> simp [Instr.lookup, run_underlying hty, MapKept.run_getObj_map hb, hck, hr, hz, Result.andThen]
 | some q => cases ok <;> simp [Instr.lookup, run_underlying hty, MapKept.run_getObj_map hb, hck, hr, hz, Result.andThen]
theorem update_run {w : World} {mb : Nat} {L : KVs} (h : MapKV w mb L) (ty el : TypeId) (hty : Try.prog.underlying ty = some (.map 86 el)) (c : Int) (t : ByteArray) (v : Value) (hn : hitL L c t = none) :
  ∃ w', (Instr.mapUpdate ty (.map (some mb)) (keyV c t) v).run Try.prog w = .ok () w' ∧ MapKV w' mb (L ++ [(c, t, v)]) ∧ w.grownBy w' (some mb) := by
 obtain ⟨es, clock, hb, hE⟩ := h
 obtain ⟨r, hr, hv⟩ := findKeyV w c t es L hE
 rw [hn] at hv
 have hck := checkKeyV w false c t
 cases r with
 | some q => simp at hv
 | none =>
  refine ⟨ChangeMaps.setBlock w mb (.map (es.push ⟨keyV c t, v, clock⟩) (clock + 1)), ?_, ⟨_, _, ChangeMaps.heap_setBlock_same hb _, ?_⟩, ⟨rfl, rfl, rfl, by simp [ChangeMaps.setBlock], fun i _ hi => ChangeMaps.heap_setBlock_other hb _ (fun e => hi (by rw [e]))⟩⟩
  ·simp [Instr.mapUpdate, run_underlying hty, MapKept.run_getObj_map hb, hck, hr, MapKept.run_setObj_map _ hb, Result.andThen, ChangeMaps.setBlock]
  ·unfold Ents at hE ⊢
   simp [hE]
theorem MapKV.kept {w w' : World} {mb : Nat} {L : KVs} (h : MapKV w mb L) (hb : Below w.heap.size w w') : MapKV w' mb L := by
 obtain ⟨es, clock, h1, h2⟩ := h
 exact ⟨es, clock, (hb.block mb (blk_lt h1)).trans h1, h2⟩
theorem MapKV.lt {w : World} {mb : Nat} {L : KVs} (h : MapKV w mb L) : mb < w.heap.size := by
 obtain ⟨es, clock, h1, h2⟩ := h
 exact blk_lt h1
theorem MapKV.made (w : World) : MapKV (w.alloc (.map #[] 0)) w.heap.size [] := ⟨#[], 0, blk_new w _, rfl⟩
section
variable {ops : Array Oper} {rest : List Oper} {o : Oper} {a : Act} {Q : Exit → Act → World → Prop}
theorem wpList_lookupKV (w : World) (hg : o.guard = none) (m x : Operand) (ty el : TypeId) (ok : Bool) (hop : o.op = Op.lookup ty m x ok) (hty : Try.prog.underlying ty = some (.map 86 el)) (z : Value) (hz : (zeroValue el).run Try.prog w = .ok z w)
  {mb : Nat} {L : KVs} (h : MapKV w mb L) (hm : a.eval m = .map (some mb)) (c : Int) (t : ByteArray) (hx : a.eval x = keyV c t) (r : Value) (hr : r = if ok then .tuple #[(hitL L c t).getD z, .bool (hitL L c t).isSome] else (hitL L c t).getD z)
  (hK : wpList Try.prog ops Q rest (a.put o.dst r) w) : wpList Try.prog ops Q (o :: rest) a w := by
 refine wpList_plain hg fun K' hK' => ?_
 have hrun := lookup_run h ty el hty z hz c t ok
 rw [← hr] at hrun
 unfold Oper.wp
 simp [execOp, hop, hm, hx, hrun, Result.andThen]
 exact hK' _ _ hK
theorem wpList_updateKV (w : World) (hg : o.guard = none) (m x v : Operand) (ty el : TypeId) (hop : o.op = Op.mapUpdate ty m x v) (hty : Try.prog.underlying ty = some (.map 86 el))
  {mb : Nat} {L : KVs} (h : MapKV w mb L) (hm : a.eval m = .map (some mb)) (c : Int) (t : ByteArray) (hx : a.eval x = keyV c t) (vv : Value) (hv : a.eval v = vv) (hn : hitL L c t = none)
  (hK : ∀ w', MapKV w' mb (L ++ [(c, t, vv)]) → w.grownBy w' (some mb) → wpList Try.prog ops Q rest (a.put o.dst undef) w') : wpList Try.prog ops Q (o :: rest) a w := by
 refine wpList_plain hg fun K' hK' => ?_
 obtain ⟨w', hrun, h1, h2⟩ := update_run h ty el hty c t vv hn
 unfold Oper.wp
 simp [execOp, hop, hm, hx, hv, hrun, Result.andThen]
 exact hK' _ _ (hK w' h1 h2)
end
set_option maxHeartbeats 1000000 in
set_option maxRecDepth 100000 in
theorem cmpStr_calls (a b : ByteArray) (w : World) :
  Calls Try.prog 97 #[.string a, .string b] w fun e w' => e = .returned (.int .i64 (Lib.compareBytes a.data.toList b.data.toList)) ∧ w' = w := by
 go_enter Try.func97, Try.ntmps97
 go_wp2
 rw [run_callFunc_extern Try.func103 (by kernel_rfl) (by kernel_rfl) (by kernel_rfl) (e := Extern.BytealgCompare.compare) (by kernel_rfl), Lib.run_compareString]
 simp only [Result.andThen]
 rw [Oper.upon_value]
 go_wp2
 go_ret
 exact ⟨rfl, rfl⟩
set_option maxHeartbeats 1000000 in
theorem strCompare_calls (a b : ByteArray) (w : World) :
  Calls Try.prog 82 #[.string a, .string b] w fun e w' => e = .returned (.int .i64 (Lib.compareBytes a.data.toList b.data.toList)) ∧ w' = w := by
 go_enter Try.func82, Try.ntmps82
 go_wp2_with (go_at_call 97; refine (cmpStr_calls _ _ _).mono ?_; rintro e w' ⟨rfl, rfl⟩)
 go_ret
 exact ⟨rfl, rfl⟩
def cmpI (a b : Int) : Int := if a < b then -1 else if a > b then 1 else 0
set_option maxHeartbeats 1000000 in
theorem cmpInt_calls (a b : Int) (w : World) : Calls Try.prog 81 #[.int .i64 a, .int .i64 b] w fun e w' => e = .returned (.int .i64 (cmpI a b)) ∧ w' = w := by
 have hcon := AnyG.cmp_Compare_int Try.cmpInt a b w
 have e : cmpI a b = Lib.compareInt a b := by
  unfold cmpI Lib.compareInt
  by_cases h1 : a < b
  ·simp [h1]
  ·by_cases h2 : b < a <;> simp [h1, h2]
 rw [e]
 exact hcon
def orderM (x y : Mp) : Int := if cmpI x.f0 y.f0 ≠ 0 then cmpI x.f0 y.f0 else Lib.compareBytes x.f2.data.toList y.f2.data.toList
set_option maxHeartbeats 2000000 in
theorem cmpOr_calls (A : Option Addr) (n : Nat) (l : List Int) (w : World) (hr : Kd.C (Kd.int .i64) w A l.length l) (hs : l.length < 1000000) :
  Calls Try.prog 80 #[.slice A l.length n] w fun e w' => e = .returned (.int .i64 ((l.find? (fun x => x != 0)).getD 0)) ∧ w' = w := by
 have HR := aM hr
 have HLM := aM hs
 clear hr hs
 go_enter Try.func80, Try.ntmps80
 go_wp2
 go_loopw [8] (fun i wr => wr = w ∧ ∃ k : Nat, i = .int .i64 k ∧ Aside0 (k ≤ l.length) ∧ Aside0 (∀ c ∈ l.take k, c = 0)) (fun i _ => l.length - (intOf i).toNat)
 case atStart => exact ⟨rfl, 0, rfl, ⟨Nat.zero_le _⟩, ⟨fun x hx => by simp at hx⟩⟩
 case round =>
  obtain ⟨rfl, k, rfl, HK, HA⟩ := hrel
  by_cases hlt : k < l.length
  ·obtain ⟨ad, e, h0⟩ := Kd.at_int HR.out (k : Int) (by omega) (by omega)
   cases e
   rw [Int.toNat_natCast] at h0
   have hp1 : (0 ≤ (k : Int)) = True := eq_true (by omega)
   have hp2 : ((k : Int) < (l.length : Int)) = True := eq_true (by omega)
   have hdl : decide ((k : Int) < (l.length : Int)) = true := dT (by omega)
   have hw : wrap64 ((k : Int) + 1) = (k : Int) + 1 := by have := HLM.out; unfold wrap64; omega
   have hrd : l[k]? = some (rd l (k : Int)) := by unfold rd; rw [Int.toNat_natCast, List.getD_eq_getElem?_getD, List.getElem?_eq_getElem hlt]; rfl
   have hst : l.take (k + 1) = l.take k ++ [rd l (k : Int)] := by rw [List.take_add_one, hrd]; rfl
   have HST := aM hst
   have HLT := aM hlt
   have HRD := aM hrd
   clear hst hlt hrd
   generalize rd l (k : Int) = c at *
   by_cases h : c = 0
   ·have y1 : (c == 0) = true := by simp [h]
    have y2 : (c != 0) = false := by simp [h]
    have y3 : decide (c = 0) = true := dT h
    have HC := aM h
    clear h
    go_wp2
    go_roundw
    case rel => exact ⟨by first | rfl | trivial, k + 1, by rw [hw]; rfl, HLT, ⟨fun x hx => by rw [HST.out] at hx; exact (List.mem_append.1 hx).elim (HA.out x) (fun h => by rw [List.mem_singleton.1 h]; exact HC.out)⟩⟩
    case measure => rw [hw]; simp only [intOf]; have := HLT.out; omega
   ·have y1 : (c == 0) = false := by simpa using h
    have y2 : (c != 0) = true := by simpa using h
    have y3 : decide (c = 0) = false := decide_eq_false h
    have HF : Aside0 (l.find? (fun x => x != 0) = some c) := ⟨by
     rw [List.find?_eq_some_iff_append]
     refine ⟨by simpa using h, l.take k, l.drop (k + 1), ?_, fun x hx => by rw [HA.out x hx]; rfl⟩
     rw [← List.singleton_append, ← List.append_assoc, ← HST.out, List.take_append_drop]⟩
    clear h
    go_wp2
    go_ret
    rw [HF.out]
    exact ⟨rfl, rfl⟩
  ·obtain rfl : k = l.length := by have := HK.out; omega
   have hdl : decide ((l.length : Int) < (l.length : Int)) = false := decide_eq_false (by omega)
   have HF : Aside0 (l.find? (fun x => x != 0) = none) := ⟨by
    rw [List.find?_eq_none]
    intro x hx
    rw [HA.out x (by rw [List.take_length]; exact hx)]; decide⟩
   clear hlt
   go_wp2
   go_ret
   rw [HF.out]
   exact ⟨rfl, rfl⟩
theorem cmpOr_two (a b : Int) : (([a, b] : List Int).find? (fun x => x != 0)).getD 0 = if a ≠ 0 then a else b := by
 by_cases h : a = 0
 ·by_cases h2 : b = 0 <;> simp [h, h2]
 ·simp [h]
theorem C_ints (W : World) (l : List Int) (hl : l.length ≤ 9223372036854775807) : Kd.C (Kd.int .i64) (W.alloc (.cells (l.map (Value.int .i64)).toArray 3)) (some ⟨W.heap.size, 0, none⟩) l.length l := by
 refine Kd.C_of_reads (d := (0 : Int)) ⟨rfl, hl, fun _ => ⟨_, rfl, fun j hj => ?_⟩⟩
 rw [add_plain, bkC (blk_new W _) j]
 simp [hj]
theorem orderM_def (x y : Mp) : orderM x y = if cmpI x.f0 y.f0 ≠ 0 then cmpI x.f0 y.f0 else Lib.compareBytes x.f2.data.toList y.f2.data.toList := rfl
set_option maxHeartbeats 2000000 in
set_option maxRecDepth 100000 in
theorem order_calls (x y : Mp) (A1 : Option Addr) (n1 c1 : Nat) (A2 : Option Addr) (n2 c2 : Nat) (w : World) :
  Calls Try.prog 63 #[.agg #[.int .i64 x.f0, .slice A1 n1 c1, .string x.f2], .agg #[.int .i64 y.f0, .slice A2 n2 c2, .string y.f2]] w fun e w' => e = .returned (.int .i64 (orderM x y)) ∧ Below w.heap.size w w' := by
 rw [orderM_def]
 obtain ⟨x0, x1, x2⟩ := x
 obtain ⟨y0, y1, y2⟩ := y
 have HC1 := aM (cmpInt_calls x0 y0)
 have HC2 := aM (strCompare_calls x2 y2)
 show Calls _ _ _ _ fun e w' => e = .returned (.int .i64 (if cmpI x0 y0 ≠ 0 then cmpI x0 y0 else Lib.compareBytes x2.data.toList y2.data.toList)) ∧ _
 generalize cmpI x0 y0 = p at *
 generalize Lib.compareBytes x2.data.toList y2.data.toList = q at *
 have HOR := aM (fun (ad : Option Addr) (W : World) (h : Kd.C (Kd.int .i64) W ad 2 [p, q]) => show Calls Try.prog 80 #[.slice ad 2 2] W fun e w' => e = .returned (.int .i64 (if p ≠ 0 then p else q)) ∧ w' = W from by have h2 := cmpOr_calls ad 2 [p, q] W h (by simp); rw [cmpOr_two] at h2; exact h2)
 generalize (if p ≠ 0 then p else q) = r at *
 have hu := Try.underlying43
 go_enter Try.func63, Try.ntmps63
 go_wp2
 have k0 : ((w.alloc (Obj.cells #[Value.int IntKind.i64 x0, Value.slice A1 n1 c1, Value.string x2] 43)).alloc (Obj.cells #[Value.int IntKind.i64 y0, Value.slice A2 n2 c2, Value.string y2] 43)).heap[w.heap.size]? = some (Obj.cells #[Value.int IntKind.i64 x0, Value.slice A1 n1 c1, Value.string x2] 43) := by
  have h := bAl (Below.refl (w.alloc (Obj.cells #[Value.int IntKind.i64 x0, Value.slice A1 n1 c1, Value.string x2] 43)).heap.size _) (Obj.cells #[Value.int IntKind.i64 y0, Value.slice A2 n2 c2, Value.string y2] 43)
  rw [h.block _ (by rw [World.size_alloc]; omega)]
  exact blk_new w _
 have k1 := blk_new (w.alloc (Obj.cells #[Value.int IntKind.i64 x0, Value.slice A1 n1 c1, Value.string x2] 43)) (Obj.cells #[Value.int IntKind.i64 y0, Value.slice A2 n2 c2, Value.string y2] 43)
 rw [World.size_alloc] at k1
 have hb0 : Below w.heap.size w ((w.alloc (Obj.cells #[Value.int IntKind.i64 x0, Value.slice A1 n1 c1, Value.string x2] 43)).alloc (Obj.cells #[Value.int IntKind.i64 y0, Value.slice A2 n2 c2, Value.string y2] 43)) := bAl (bAl (Below.refl _ _) _) _
 generalize (w.alloc (Obj.cells #[Value.int IntKind.i64 x0, Value.slice A1 n1 c1, Value.string x2] 43)).alloc (Obj.cells #[Value.int IntKind.i64 y0, Value.slice A2 n2 c2, Value.string y2] 43) = W at *
 have c0 : W.cell? ⟨w.heap.size, 0, none⟩ = some (.int .i64 x0) := (bkC k0 0).trans rfl
 have c1' : W.cell? ⟨w.heap.size, 2, none⟩ = some (.string x2) := (bkC k0 2).trans rfl
 have c2' : W.cell? ⟨w.heap.size + 1, 0, none⟩ = some (.int .i64 y0) := (bkC k1 0).trans rfl
 have c3' : W.cell? ⟨w.heap.size + 1, 2, none⟩ = some (.string y2) := (bkC k1 2).trans rfl
 have HB := aM hb0
 clear k0 k1 hb0
 go_region_held3 (fun w' => w'.cell? ⟨w.heap.size, 0, none⟩ = some (.int .i64 x0) ∧ w'.cell? ⟨w.heap.size, 2, none⟩ = some (.string x2) ∧ w'.cell? ⟨w.heap.size + 1, 0, none⟩ = some (.int .i64 y0) ∧ w'.cell? ⟨w.heap.size + 1, 2, none⟩ = some (.string y2)) (first | go_keep)
  (first | (go_at_call 81; (with_reducible refine (HC1.out _).mono ?_); rintro e w1 ⟨rfl, rfl⟩) | (go_at_call 82; (with_reducible refine (HC2.out _).mono ?_); rintro e w1 ⟨rfl, rfl⟩) | (go_at_call 80; (with_reducible refine (HOR.out _ _ ?s1).mono ?_); (case s1 => exact (by repeat (first | exact C_ints _ [p, q] (by simp) | (refine Kd.C_drewN ?_ _) | (refine Kd.C_drew ?_)))); rintro e w1 ⟨rfl, rfl⟩))
 go_wp2
 go_ret
 exact ⟨rfl, by repeat (first | exact HB.out | apply bAl | apply pbN | apply bD1)⟩
def upM (l : List Mp) (j : Nat) : Prop := j + 1 < l.length → ¬ orderM (rd_T43 l ((j + 1 : Nat) : Int)) (rd_T43 l (j : Int)) < 0
set_option maxHeartbeats 4000000 in
set_option maxRecDepth 100000 in
theorem isSorted_calls (A : Option Addr) (n : Nat) (l : List Mp) (w : World) (hr : Kd.C k43 w A l.length l) (hs : l.length < 1000000) :
  Calls Try.prog 62 #[.slice A l.length n, .func (.func 63) #[] #[]] w fun e w' => (∃ r : Bool, e = .returned (.bool r) ∧ (r = true ↔ ∀ j, upM l j)) ∧ Below w.heap.size w w' := by
 have HR := aM hr
 have HLM := aM hs
 have hw0 : wrap64 ((l.length : Int) - 1) = (l.length : Int) - 1 := by unfold wrap64; omega
 clear hr hs
 go_enter Try.func62, Try.ntmps62
 go_wp2
 go_loopw [5] (fun i wr => ∃ k : Nat, i = .int .i64 ((k : Int) - 1) ∧ Aside0 (k ≤ l.length) ∧ Aside0 (∀ j, k ≤ j + 1 → upM l j) ∧ Aside0 (Below w.heap.size w wr)) (fun i _ => (intOf i + 1).toNat)
 case atStart => exact ⟨l.length, by rw [hw0], ⟨Nat.le_refl _⟩, ⟨fun j hj h => by omega⟩, ⟨Below.refl _ _⟩⟩
 case round =>
  clear hw0
  obtain ⟨k, rfl, HK, HA, HB⟩ := hrel
  by_cases hlt : 2 ≤ k
  ·obtain ⟨m, rfl⟩ : ∃ m, k = m + 2 := ⟨k - 2, by omega⟩
   have ek : (((m + 2 : Nat) : Int) - 1) = ((m + 1 : Nat) : Int) := by omega
   rw [ek]
   have hlm : m + 2 ≤ l.length := HK.out
   obtain ⟨ad, E1, g1, e, x0, x1, x2, _, _⟩ := at_T43 (Kd.C_below HR.out HB.out) ((m + 1 : Nat) : Int) (by omega) (by omega)
   obtain ⟨ad2, E2, g2, e2, y0, y1, y2, _, _⟩ := at_T43 (Kd.C_below HR.out HB.out) (m : Int) (by omega) (by omega)
   cases e
   cases e2
   rw [Int.toNat_natCast] at x0 x1 x2 y0 y1 y2
   have hp1 : (0 ≤ ((m + 1 : Nat) : Int)) = True := eq_true (by omega)
   have hp2 : (((m + 1 : Nat) : Int) < (l.length : Int)) = True := eq_true (by omega)
   have hp3 : (0 ≤ (m : Int)) = True := eq_true (by omega)
   have hp4 : ((m : Int) < (l.length : Int)) = True := eq_true (by omega)
   have hp5 : (m + 1 < l.length) = True := eq_true (by omega)
   have hp6 : (m < l.length) = True := eq_true (by omega)
   have hd1 : decide (((m + 1 : Nat) : Int) > 0) = true := dT (by omega)
   have hw : wrap64 (((m + 1 : Nat) : Int) - 1) = (m : Int) := by have := HLM.out; unfold wrap64; omega
   have HAM : Aside0 (m + 1 < l.length) := ⟨by omega⟩
   have HUP : Aside0 (upM l m ↔ ¬ orderM (rd_T43 l ((m + 1 : Nat) : Int)) (rd_T43 l (m : Int)) < 0) := ⟨⟨fun h => h HAM.out, fun h _ => h⟩⟩
   clear hlt hlm ek
   generalize rd_T43 l ((m + 1 : Nat) : Int) = x at *
   generalize rd_T43 l (m : Int) = y at *
   have HO := aM (order_calls x y E1 x.f1.length g1 E2 y.f1.length g2)
   generalize orderM x y = o at *
   obtain ⟨i, hi⟩ : ∃ i : Int, i = ((m + 1 : Nat) : Int) := ⟨_, rfl⟩
   rw [← hi] at hp1 hp2 hd1 hw
   rw [← hi]
   have hti : i.toNat = m + 1 := by rw [hi, Int.toNat_natCast]
   have HI := aM hi
   have hw2 : IntKind.i64.wrap (i - 1) = (m : Int) := by rw [show i - 1 = (m : Int) by omega]; exact wrap_small _ (by omega) (by have := HLM.out; have := HAM.out; omega)
   have hq3 : (0 : Int) ≤ (m : Int) := by omega
   have hq4 : (m : Int) < (l.length : Int) := by have := HAM.out; omega
   clear hi
   cases hob : decide (o < 0) with
   | true =>
    have hob2 : (o < 0) = True := eq_true (oD hob)
    have HOB := aM (oD hob)
    go_wp2
    go_region_held3 (fun w' => w'.cell? (ad.add ((m + 1) * 3)) = some (.int .i64 x.f0) ∧ w'.cell? ⟨(ad.add ((m + 1) * 3)).block, (ad.add ((m + 1) * 3)).off + 1, none⟩ = some (.slice E1 x.f1.length g1) ∧ w'.cell? ⟨(ad.add ((m + 1) * 3)).block, (ad.add ((m + 1) * 3)).off + 2, none⟩ = some (.string x.f2) ∧ w'.cell? (ad.add (m * 3)) = some (.int .i64 y.f0) ∧ w'.cell? ⟨(ad.add (m * 3)).block, (ad.add (m * 3)).off + 1, none⟩ = some (.slice E2 y.f1.length g2) ∧ w'.cell? ⟨(ad.add (m * 3)).block, (ad.add (m * 3)).off + 2, none⟩ = some (.string y.f2)) (first | go_keep | (go_split_ands; refine ⟨?_, ?_, ?_, ?_, ?_, ?_⟩; (refine pcb hb ?_; assumption); (refine pcb hb ?_; assumption); (refine pcb hb ?_; assumption); (refine pcb hb ?_; assumption); (refine pcb hb ?_; assumption); (refine pcb hb ?_; assumption)))
     (first | (go_at_call 63; (with_reducible refine (HO.out _).mono ?_); rintro e w1 ⟨rfl, hb⟩; have HB1 := aM (bSp (show Below w.heap.size w _ from (by repeat (first | (with_reducible first | exact HB.out | apply bAl | apply pbN | apply bD1) | exact HB.out))) hb)))
    clear hb
    go_wp2
    go_ret
    exact ⟨⟨false, rfl, ⟨fun h => absurd h (by decide), fun h => by have h1 := HUP.out.1 (h m); have h2 := HOB.out; omega⟩⟩, HB1.out⟩
   | false =>
    have hob2 : (o < 0) = False := eq_false (of_decide_eq_false hob)
    have HOB := aM (of_decide_eq_false hob)
    go_wp2
    go_region_held3 (fun w' => w'.cell? (ad.add ((m + 1) * 3)) = some (.int .i64 x.f0) ∧ w'.cell? ⟨(ad.add ((m + 1) * 3)).block, (ad.add ((m + 1) * 3)).off + 1, none⟩ = some (.slice E1 x.f1.length g1) ∧ w'.cell? ⟨(ad.add ((m + 1) * 3)).block, (ad.add ((m + 1) * 3)).off + 2, none⟩ = some (.string x.f2) ∧ w'.cell? (ad.add (m * 3)) = some (.int .i64 y.f0) ∧ w'.cell? ⟨(ad.add (m * 3)).block, (ad.add (m * 3)).off + 1, none⟩ = some (.slice E2 y.f1.length g2) ∧ w'.cell? ⟨(ad.add (m * 3)).block, (ad.add (m * 3)).off + 2, none⟩ = some (.string y.f2)) (first | go_keep | (go_split_ands; refine ⟨?_, ?_, ?_, ?_, ?_, ?_⟩; (refine pcb hb ?_; assumption); (refine pcb hb ?_; assumption); (refine pcb hb ?_; assumption); (refine pcb hb ?_; assumption); (refine pcb hb ?_; assumption); (refine pcb hb ?_; assumption)))
     (first | (go_at_call 63; (with_reducible refine (HO.out _).mono ?_); rintro e w1 ⟨rfl, hb⟩; have HB1 := aM (bSp (show Below w.heap.size w _ from (by repeat (first | (with_reducible first | exact HB.out | apply bAl | apply pbN | apply bD1) | exact HB.out))) hb)))
    clear hb
    go_wp2
    go_roundw
    case rel => exact ⟨m + 1, by first | (congr 1; omega) | (rw [hw]; congr 1; omega), ⟨by have := HAM.out; omega⟩, ⟨fun j hj => by
     by_cases he : j = m
     ·subst he; exact HUP.out.2 (by have h2 := HOB.out; omega)
     ·exact HA.out j (by omega)⟩, HB1⟩
    case measure => (try rw [hw]); simp only [intOf]; have := HI.out; omega
  ·obtain ⟨i, hi⟩ : ∃ i : Int, i = (k : Int) - 1 := ⟨_, rfl⟩
   rw [← hi]
   have hd1 : decide (i > 0) = false := decide_eq_false (by omega)
   have hd2 : (0 < i) = False := eq_false (by omega)
   have hall : ∀ j, upM l j := fun j => HA.out j (by omega)
   have HALL := aM hall
   clear hall hlt hi
   go_wp2
   go_ret
   exact ⟨⟨true, rfl, ⟨fun _ => HALL.out, fun _ => rfl⟩⟩, HB.out⟩
set_option maxHeartbeats 1000000 in
theorem codeValid_calls (c : Int) (w : World) : Calls Try.prog 93 #[.int .i64 c] w fun e w' => e = .returned (.bool (codeB c)) ∧ Below w.heap.size w w' := by
 by_cases h0 : 0 ≤ c
 ·by_cases h1 : c ≤ 1114111
  ·have hc : codeB c = true := by unfold codeB; simp [h0, h1]
   have a1 : decide (c ≥ 0) = true := dT h0
   have a2 : decide (c ≤ 1114111) = true := dT h1
   rw [hc]
   clear hc h0 h1
   go_enter Try.func93, Try.ntmps93
   go_wp2
   go_ret
   exact ⟨rfl, Below.refl _ _⟩
  ·have hc : codeB c = false := by unfold codeB; simp [h0, h1]
   have a1 : decide (c ≥ 0) = true := dT h0
   have a2 : decide (c ≤ 1114111) = false := decide_eq_false h1
   rw [hc]
   clear hc h0 h1
   go_enter Try.func93, Try.ntmps93
   go_wp2
   go_ret
   exact ⟨rfl, Below.refl _ _⟩
 ·have hc : codeB c = false := by unfold codeB; simp [h0]
  have a1 : decide (c ≥ 0) = false := decide_eq_false h0
  rw [hc]
  clear hc h0
  go_enter Try.func93, Try.ntmps93
  go_wp2
  go_ret
  exact ⟨rfl, Below.refl _ _⟩
set_option maxHeartbeats 1000000 in
theorem codesFn_calls (c : Int) (w : World) : Calls Try.prog 92 #[.int .i64 c] w fun e w' => e = .returned (.bool (!codeB c)) ∧ Below w.heap.size w w' := by
 go_enter Try.func92, Try.ntmps92
 go_wp2_with (go_at_call 93; (with_reducible refine (codeValid_calls c _).mono ?_); rintro e w1 ⟨rfl, hb⟩; have HB := aM hb; clear hb)
 go_ret
 exact ⟨rfl, HB.out⟩
def badIdx (l : List Int) : Int := match l.findIdx? (fun c => !codeB c) with | some j => (j : Int) | none => -1
theorem badIdx_all (l : List Int) : decide (badIdx l ≥ 0) = !codesB l := by
 unfold badIdx codesB
 cases h : l.findIdx? (fun c => !codeB c) with
 | none =>
  rw [List.findIdx?_eq_none_iff] at h
  have : l.all codeB = true := List.all_eq_true.2 (fun x hx => by simpa using h x hx)
  rw [this]; rfl
 | some j =>
  obtain ⟨hj, h1, _⟩ := List.findIdx?_eq_some_iff_getElem.1 h
  have : l.all codeB = false := by
   rw [List.all_eq_false]
   exact ⟨l[j], List.getElem_mem hj, by simpa using h1⟩
  rw [this]
  simp
set_option maxHeartbeats 2000000 in
set_option maxRecDepth 100000 in
theorem indexCodes_calls (A : Option Addr) (n : Nat) (l : List Int) (w : World) (hr : Kd.C (Kd.int .i64) w A l.length l) (hc : l.length ≤ n) :
  Calls Try.prog 101 #[.slice A l.length n, .func (.func 92) #[] #[]] w fun e w' => e = .returned (.int .i64 (badIdx l)) ∧ Below w.heap.size w w' := by
 have HR := aM hr
 have HLM := aM (show l.length ≤ 9223372036854775807 from hr.2.1)
 clear hr hc
 go_enter Try.func101, Try.ntmps101
 go_wp2
 go_loopw [8] (fun i wr => ∃ k : Nat, i = .int .i64 k ∧ Aside0 (k ≤ l.length) ∧ Aside0 (∀ c ∈ l.take k, codeB c = true) ∧ Aside0 (Below w.heap.size w wr)) (fun i _ => l.length - (intOf i).toNat)
 case atStart => exact ⟨0, rfl, ⟨Nat.zero_le _⟩, ⟨fun x hx => by simp at hx⟩, ⟨Below.refl _ _⟩⟩
 case round =>
  obtain ⟨k, rfl, HK, HA, HB⟩ := hrel
  by_cases hlt : k < l.length
  ·obtain ⟨ad, e, h0⟩ := Kd.at_int (Kd.C_below HR.out HB.out) (k : Int) (by omega) (by omega)
   cases e
   rw [Int.toNat_natCast] at h0
   have hp1 : (0 ≤ (k : Int)) = True := eq_true (by omega)
   have hp2 : ((k : Int) < (l.length : Int)) = True := eq_true (by omega)
   have hdl : decide ((k : Int) < (l.length : Int)) = true := dT (by omega)
   have hw : wrap64 ((k : Int) + 1) = (k : Int) + 1 := by have := HLM.out; unfold wrap64; omega
   have hrd : l[k]? = some (rd l (k : Int)) := by unfold rd; rw [Int.toNat_natCast, List.getD_eq_getElem?_getD, List.getElem?_eq_getElem hlt]; rfl
   have hst : l.take (k + 1) = l.take k ++ [rd l (k : Int)] := by rw [List.take_add_one, hrd]; rfl
   have HST := aM hst
   have HLT := aM hlt
   have HRD := aM hrd
   clear hst hlt hrd
   generalize rd l (k : Int) = c at *
   cases hcb : codeB c with
   | true =>
    have HCB := aM hcb
    clear hcb
    go_wp2_with (go_at_call 92; (with_reducible refine (codesFn_calls c _).mono ?_); rw [HCB.out]; rintro e w1 ⟨rfl, hb⟩; have HB1 := aM (bSp HB.out hb); clear hb)
    go_roundw
    case rel => exact ⟨k + 1, by rw [hw]; rfl, HLT, ⟨fun x hx => by rw [HST.out] at hx; exact (List.mem_append.1 hx).elim (HA.out x) (fun h => by rw [List.mem_singleton.1 h]; exact HCB.out)⟩, HB1⟩
    case measure => rw [hw]; simp only [intOf]; have := HLT.out; omega
   | false =>
    have HCB := aM hcb
    have HBI : Aside0 (badIdx l = (k : Int)) := ⟨by
     have h : l.findIdx? (fun c => !codeB c) = some k := by
      rw [List.findIdx?_eq_some_iff_getElem]
      refine ⟨HLT.out, by have h2 := HRD.out; rw [List.getElem?_eq_getElem HLT.out] at h2; rw [Option.some.inj h2, hcb]; rfl, fun j hj => ?_⟩
      have := HA.out (l[j]'(Nat.lt_trans hj HLT.out)) (by rw [List.mem_take_iff_getElem]; exact ⟨j, by have := HLT.out; omega, rfl⟩)
      rw [this]; decide
     unfold badIdx
     rw [h]⟩
    clear hcb
    go_wp2_with (go_at_call 92; (with_reducible refine (codesFn_calls c _).mono ?_); rw [HCB.out]; rintro e w1 ⟨rfl, hb⟩; have HB1 := aM (bSp HB.out hb); clear hb)
    go_ret
    rw [HBI.out]
    exact ⟨rfl, HB1.out⟩
  ·obtain rfl : k = l.length := by have := HK.out; omega
   have hdl : decide ((l.length : Int) < (l.length : Int)) = false := decide_eq_false (by omega)
   have HBI : Aside0 (badIdx l = -1) := ⟨by
    have h : l.findIdx? (fun c => !codeB c) = none := by
     rw [List.findIdx?_eq_none_iff]
     intro x hx
     have := HA.out x (by rw [List.take_length]; exact hx)
     rw [this]; rfl
    unfold badIdx
    rw [h]⟩
   clear hlt
   go_wp2
   go_ret
   rw [HBI.out]
   exact ⟨rfl, HB.out⟩
set_option maxHeartbeats 1000000 in
theorem codes_calls (A : Option Addr) (n : Nat) (l : List Int) (w : World) (hr : Kd.C (Kd.int .i64) w A l.length l) (hc : l.length ≤ n) :
  Calls Try.prog 78 #[.slice A l.length n] w fun e w' => e = .returned (.bool (codesB l)) ∧ Below w.heap.size w w' := by
 have HC : Aside0 (Calls Try.prog 91 #[.slice A l.length n, .func (.func 92) #[] #[]] w fun e w' => e = .returned (.bool (!codesB l)) ∧ Below w.heap.size w w') := ⟨by
  have HI := aM (indexCodes_calls A n l w hr hc)
  have HD := aM (badIdx_all l)
  clear hr hc
  generalize badIdx l = j at *
  go_enter Try.func91, Try.ntmps91
  go_wp2_with (go_at_call 101; (with_reducible refine HI.out.mono ?_); rintro e w1 ⟨rfl, hb⟩; have HB := aM hb; clear hb)
  go_ret
  rw [← HD.out]
  exact ⟨rfl, HB.out⟩⟩
 clear hr hc
 go_enter Try.func78, Try.ntmps78
 go_wp2_with (go_at_call 91; (with_reducible refine HC.out.mono ?_); rintro e w1 ⟨rfl, hb⟩; have HB := aM hb; clear hb)
 go_ret
 refine ⟨?_, HB.out⟩
 cases codesB l <;> rfl
def good1 (x : Mp) : Bool := codeB x.f0 && codesB x.f1
def good2 (x : Mp) : Bool := decide (x.f1.length ≤ 64)
def good3 (x : Mp) : Bool := decide (x.f2.size = 0) || nameB x.f2
theorem allFalse {p : Mp → Bool} {l : List Mp} {x : Mp} (hx : x ∈ l) (h : p x = false) : l.all p = false := by
 rw [List.all_eq_false]
 exact ⟨x, hx, by rw [h]; decide⟩
theorem un1 {l : List Mp} {x : Mp} (hx : x ∈ l) (h : good1 x = false) : uncheckM l = 1 := by
 unfold uncheckM
 rw [show (l.all fun x => codeB x.f0 && codesB x.f1) = false from allFalse (p := good1) hx h]
 rfl
theorem un2 {l : List Mp} {x : Mp} (h1 : ∀ y ∈ l, good1 y = true) (hx : x ∈ l) (h : good2 x = false) : uncheckM l = 2 := by
 unfold uncheckM
 rw [show (l.all fun x => codeB x.f0 && codesB x.f1) = true from List.all_eq_true.2 h1, show (l.all fun x => decide (x.f1.length ≤ 64)) = false from allFalse (p := good2) hx h]
 rfl
theorem un3 {l : List Mp} {x : Mp} (h1 : ∀ y ∈ l, good1 y = true) (h2 : ∀ y ∈ l, good2 y = true) (hx : x ∈ l) (h : good3 x = false) : uncheckM l = 6 := by
 unfold uncheckM
 rw [show (l.all fun x => codeB x.f0 && codesB x.f1) = true from List.all_eq_true.2 h1, show (l.all fun x => decide (x.f1.length ≤ 64)) = true from List.all_eq_true.2 h2, show (l.all fun x => decide (x.f2.size = 0) || nameB x.f2) = false from allFalse (p := good3) hx h]
 rfl
theorem un4 {l : List Mp} (h1 : ∀ y ∈ l, good1 y = true) (h2 : ∀ y ∈ l, good2 y = true) (h3 : ∀ y ∈ l, good3 y = true) : uncheckM l = if twiceM l then 5 else 0 := by
 unfold uncheckM
 rw [show (l.all fun x => codeB x.f0 && codesB x.f1) = true from List.all_eq_true.2 h1, show (l.all fun x => decide (x.f1.length ≤ 64)) = true from List.all_eq_true.2 h2, show (l.all fun x => decide (x.f2.size = 0) || nameB x.f2) = true from List.all_eq_true.2 h3]
 rfl
theorem twiceM_iff : ∀ l : List Mp, twiceM l = false ↔ l.Pairwise (fun a b => sameK a b = false)
 | [] => by simp [twiceM]
 | x :: l => by
  rw [twiceM, List.pairwise_cons, Bool.or_eq_false_iff, twiceM_iff l, List.any_eq_false]
  simp
def kvs (l : List Mp) : KVs := l.map fun y => (y.f0, y.f2, Value.bool true)
theorem kvs_hit (l : List Mp) (x : Mp) : hitL (kvs l) x.f0 x.f2 = if l.any (fun y => sameK y x) then some (.bool true) else none := by
 unfold hitL kvs
 induction l with
 | nil => rfl
 | cons y l ih =>
  have hs : sameK y x = (decide (x.f0 = y.f0) && decide (x.f2 = y.f2)) := by
   unfold sameK
   rw [show decide (y.f0 = x.f0) = decide (x.f0 = y.f0) by simp [eq_comm], show decide (y.f2 = x.f2) = decide (x.f2 = y.f2) by simp [eq_comm]]
  rw [List.map_cons, List.find?_cons, List.any_cons, hs]
  cases hq : (decide (x.f0 = y.f0) && decide (x.f2 = y.f2)) with
  | true => rfl
  | false => exact ih
theorem zeroBool (w : World) : (zeroValue 4).run Try.prog w = .ok (.bool false) w := by kernel_rfl
theorem C_intsG (W : World) (g : Nat) (l : List Int) (hl : l.length ≤ 9223372036854775807) (hg : g = W.heap.size) : Kd.C (Kd.int .i64) (W.alloc (.cells (l.map (Value.int .i64)).toArray 3)) (some ⟨g, 0, none⟩) l.length l := by
 subst hg
 exact C_ints W l hl
theorem cellAlloc2 (wr : World) (cs : Array Value) (t : TypeId) (o2 : Obj) (j : Nat) (v : Value) (h : cs[j]? = some v) : ((wr.alloc (.cells cs t)).alloc o2).cell? ⟨wr.heap.size, j, none⟩ = some v := by
 have hb := bAl (Below.refl (wr.alloc (.cells cs t)).heap.size (wr.alloc (.cells cs t))) o2
 refine pcb hb ?_
 rw [bkC (blk_new wr _) j]
 exact h
theorem belowGrown {w w1 w2 : World} {g : Nat} (h : Below w.heap.size w w1) (hg : w1.grownBy w2 (some g)) (hl : w.heap.size ≤ g) : Below w.heap.size w w2 := h.grown hg h.size (fun k hk => by cases hk; exact hl)
set_option maxHeartbeats 8000000 in
set_option maxRecDepth 100000 in
theorem mcheck_calls (A : Option Addr) (n : Nat) (l : List Mp) (w : World) (hr : Kd.C k43 w A l.length l) (hs : l.length < 1000000) (hs2 : ∀ x ∈ l, x.f2.size < 1000000) :
  Calls Try.prog 61 #[.slice A l.length n] w fun e w' => e = .returned (.int .i64 (uncheckM l)) ∧ Below w.heap.size w w' := by
 have HR := aM hr
 have HLM := aM hs
 have HS2 := aM hs2
 have hmm := @run_makeMap Try.prog
 clear hr hs hs2
 go_enter Try.func61, Try.ntmps61
 go_wp2
 go_loopw [15] (fun i wr => ∃ k : Nat, i = .int .i64 k ∧ Aside0 (k ≤ l.length) ∧ Aside0 (∀ y ∈ l.take k, good1 y = true) ∧ Aside0 (Below w.heap.size w wr)) (fun i _ => l.length - (intOf i).toNat)
 case atStart => exact ⟨0, rfl, ⟨Nat.zero_le _⟩, ⟨fun x hx => by simp at hx⟩, ⟨Below.refl _ _⟩⟩
 case round =>
  obtain ⟨k, rfl, HK, HA, HB⟩ := hrel
  by_cases hlt : k < l.length
  ·obtain ⟨ad, E1, g1, e, x0, x1, x2, z1, z2⟩ := at_T43 (Kd.C_below HR.out HB.out) (k : Int) (by omega) (by omega)
   cases e
   rw [Int.toNat_natCast] at x0 x1 x2
   have hp1 : (0 ≤ (k : Int)) = True := eq_true (by omega)
   have hp2 : ((k : Int) < (l.length : Int)) = True := eq_true (by omega)
   have hdl : decide ((k : Int) < (l.length : Int)) = true := dT (by omega)
   have hw : wrap64 ((k : Int) + 1) = (k : Int) + 1 := by have := HLM.out; unfold wrap64; omega
   have hrd : l[k]? = some (rd_T43 l (k : Int)) := by unfold rd_T43; rw [Int.toNat_natCast, List.getD_eq_getElem?_getD, List.getElem?_eq_getElem hlt]; rfl
   have hst : l.take (k + 1) = l.take k ++ [rd_T43 l (k : Int)] := by rw [List.take_add_one, hrd]; rfl
   have HMEM : Aside0 (rd_T43 l (k : Int) ∈ l) := ⟨List.mem_of_getElem? hrd⟩
   have HST := aM hst
   have HLT := aM hlt
   have HE := aM z2
   have HL1 := aM z1
   clear hst hlt hrd z1 z2
   generalize rd_T43 l (k : Int) = x at *
   have HC1 := aM (fun (A : Option Addr) (W : World) (h : Kd.C (Kd.int .i64) W A 1 [x.f0]) => show Calls Try.prog 78 #[.slice A 1 1] W fun e w' => e = .returned (.bool (codeB x.f0)) ∧ Below W.heap.size W w' from by have h2 := codes_calls A 1 [x.f0] W h (by simp); rw [show codesB [x.f0] = codeB x.f0 by simp [codesB]] at h2; exact h2)
   have HC2 := aM (fun (W : World) (h : Kd.C (Kd.int .i64) W E1 x.f1.length x.f1) => codes_calls E1 g1 x.f1 W h HL1.out)
   cases hq1 : codeB x.f0 with
   | false =>
    have HU := aM (un1 HMEM.out (show good1 x = false by unfold good1; rw [hq1]; rfl))
    rw [hq1] at HC1
    clear hq1
    go_wp2_with (go_at_call 78; (with_reducible refine (HC1.out _ _ ?s1).mono ?_); (case s1 => exact (by repeat (first | exact C_intsG _ _ [x.f0] (by simp) (by simp [World.size_alloc]) | (refine Kd.C_drewN ?_ _) | (refine Kd.C_drew ?_)))); rintro e w1 ⟨rfl, hb⟩; have HB1 := aM (bSp (show Below w.heap.size w _ from (by repeat (first | (with_reducible first | exact HB.out | apply bAl | apply pbN | apply bD1) | exact HB.out))) hb); have hbw := aM (show Below wr.heap.size wr w1 from bSp (bAl (bAl (Below.refl _ _) _) _) hb); have m1 := pcb hb (cellAlloc2 wr _ _ _ 1 _ rfl); clear hb)
    go_ret
    rw [HU.out]
    exact ⟨rfl, HB1.out⟩
   | true =>
    rw [hq1] at HC1
    cases hq2 : codesB x.f1 with
    | false =>
     have HU := aM (un1 HMEM.out (show good1 x = false by unfold good1; rw [hq1, hq2]; rfl))
     rw [hq2] at HC2
     clear hq1 hq2
     go_wp2_with (first | (go_at_call 78; (with_reducible refine (HC1.out _ _ ?s1).mono ?_); (case s1 => exact (by repeat (first | exact C_intsG _ _ [x.f0] (by simp) (by simp [World.size_alloc]) | (refine Kd.C_drewN ?_ _) | (refine Kd.C_drew ?_)))); rintro e w1 ⟨rfl, hb⟩; have HB1 := aM (bSp (show Below w.heap.size w _ from (by repeat (first | (with_reducible first | exact HB.out | apply bAl | apply pbN | apply bD1) | exact HB.out))) hb); have hbw := aM (show Below wr.heap.size wr w1 from bSp (bAl (bAl (Below.refl _ _) _) _) hb); have m1 := pcb hb (cellAlloc2 wr _ _ _ 1 _ rfl); clear hb) | (go_at_call 78; (with_reducible refine (HC2.out _ ?s1).mono ?_); (case s1 => exact Kd.C_below HE.out hbw.out); rintro e w2 ⟨rfl, hb⟩; have HB2 := aM (bSp HB1.out hb); clear hb))
     go_ret
     rw [HU.out]
     exact ⟨rfl, HB2.out⟩
    | true =>
     have HQ := aM (show good1 x = true by unfold good1; rw [hq1, hq2]; rfl)
     rw [hq2] at HC2
     clear hq1 hq2
     go_wp2_with (first | (go_at_call 78; (with_reducible refine (HC1.out _ _ ?s1).mono ?_); (case s1 => exact (by repeat (first | exact C_intsG _ _ [x.f0] (by simp) (by simp [World.size_alloc]) | (refine Kd.C_drewN ?_ _) | (refine Kd.C_drew ?_)))); rintro e w1 ⟨rfl, hb⟩; have HB1 := aM (bSp (show Below w.heap.size w _ from (by repeat (first | (with_reducible first | exact HB.out | apply bAl | apply pbN | apply bD1) | exact HB.out))) hb); have hbw := aM (show Below wr.heap.size wr w1 from bSp (bAl (bAl (Below.refl _ _) _) _) hb); have m1 := pcb hb (cellAlloc2 wr _ _ _ 1 _ rfl); clear hb) | (go_at_call 78; (with_reducible refine (HC2.out _ ?s1).mono ?_); (case s1 => exact Kd.C_below HE.out hbw.out); rintro e w2 ⟨rfl, hb⟩; have HB2 := aM (bSp HB1.out hb); clear hb))
     go_roundw
     case rel => exact ⟨k + 1, by rw [hw]; rfl, HLT, ⟨fun y hy => by rw [HST.out] at hy; exact (List.mem_append.1 hy).elim (HA.out y) (fun h => by rw [List.mem_singleton.1 h]; exact HQ.out)⟩, HB2⟩
     case measure => rw [hw]; simp only [intOf]; have := HLT.out; omega
  ·obtain rfl : k = l.length := by have := HK.out; omega
   have hdl : decide ((l.length : Int) < (l.length : Int)) = false := decide_eq_false (by omega)
   rw [List.take_length] at HA
   clear hlt
   have H1 := HA
   go_wp2
   go_loopw [33] (fun i wr => ∃ k : Nat, i = .int .i64 k ∧ Aside0 (k ≤ l.length) ∧ Aside0 (∀ y ∈ l.take k, good2 y = true) ∧ Aside0 (Below w.heap.size w wr)) (fun i _ => l.length - (intOf i).toNat)
   case atStart => exact ⟨0, rfl, ⟨Nat.zero_le _⟩, ⟨fun x hx => by simp at hx⟩, HB⟩
   case round =>
    clear HB HA
    obtain ⟨k, rfl, HK, HA, HB⟩ := hrel
    by_cases hlt : k < l.length
    ·obtain ⟨ad, E1, g1, e, x0, x1, x2, z1, z2⟩ := at_T43 (Kd.C_below HR.out HB.out) (k : Int) (by omega) (by omega)
     cases e
     rw [Int.toNat_natCast] at x0 x1 x2
     have hp1 : (0 ≤ (k : Int)) = True := eq_true (by omega)
     have hp2 : ((k : Int) < (l.length : Int)) = True := eq_true (by omega)
     have hdl : decide ((k : Int) < (l.length : Int)) = true := dT (by omega)
     have hw : wrap64 ((k : Int) + 1) = (k : Int) + 1 := by have := HLM.out; unfold wrap64; omega
     have hrd : l[k]? = some (rd_T43 l (k : Int)) := by unfold rd_T43; rw [Int.toNat_natCast, List.getD_eq_getElem?_getD, List.getElem?_eq_getElem hlt]; rfl
     have hst : l.take (k + 1) = l.take k ++ [rd_T43 l (k : Int)] := by rw [List.take_add_one, hrd]; rfl
     have HMEM : Aside0 (rd_T43 l (k : Int) ∈ l) := ⟨List.mem_of_getElem? hrd⟩
     have HST := aM hst
     have HLT := aM hlt
     have HE := aM z2
     have HL1 := aM z1
     clear hst hlt hrd z1 z2
     generalize rd_T43 l (k : Int) = x at *
     by_cases hq : 64 < x.f1.length
     ·have HU := aM (un2 H1.out HMEM.out (show good2 x = false by unfold good2; rw [decide_eq_false (by omega)]))
      have y1 : decide ((x.f1.length : Int) > 64) = true := dT (by omega)
      have y2 : (64 < x.f1.length) = True := eq_true hq
      clear hq
      go_wp2
      go_ret
      rw [HU.out]
      exact ⟨rfl, bAl HB.out _⟩
     ·have HQ := aM (show good2 x = true by unfold good2; rw [dT (by omega)])
      have y1 : decide ((x.f1.length : Int) > 64) = false := decide_eq_false (by omega)
      have y2 : (64 < x.f1.length) = False := eq_false hq
      clear hq
      go_wp2
      go_roundw
      case rel => exact ⟨k + 1, by rw [hw]; rfl, HLT, ⟨fun y hy => by rw [HST.out] at hy; exact (List.mem_append.1 hy).elim (HA.out y) (fun h => by rw [List.mem_singleton.1 h]; exact HQ.out)⟩, ⟨bAl HB.out _⟩⟩
      case measure => rw [hw]; simp only [intOf]; have := HLT.out; omega
    ·obtain rfl : k = l.length := by have := HK.out; omega
     have hdl : decide ((l.length : Int) < (l.length : Int)) = false := decide_eq_false (by omega)
     rw [List.take_length] at HA
     clear hlt
     have H2 := HA
     go_wp2
     go_loopw [44] (fun i wr => ∃ k : Nat, i = .int .i64 k ∧ Aside0 (k ≤ l.length) ∧ Aside0 (∀ y ∈ l.take k, good3 y = true) ∧ Aside0 (Below w.heap.size w wr)) (fun i _ => l.length - (intOf i).toNat)
     case atStart => exact ⟨0, rfl, ⟨Nat.zero_le _⟩, ⟨fun x hx => by simp at hx⟩, HB⟩
     case round =>
      clear HB HA
      obtain ⟨k, rfl, HK, HA, HB⟩ := hrel
      by_cases hlt : k < l.length
      ·obtain ⟨ad, E1, g1, e, x0, x1, x2, z1, z2⟩ := at_T43 (Kd.C_below HR.out HB.out) (k : Int) (by omega) (by omega)
       cases e
       rw [Int.toNat_natCast] at x0 x1 x2
       have hp1 : (0 ≤ (k : Int)) = True := eq_true (by omega)
       have hp2 : ((k : Int) < (l.length : Int)) = True := eq_true (by omega)
       have hdl : decide ((k : Int) < (l.length : Int)) = true := dT (by omega)
       have hw : wrap64 ((k : Int) + 1) = (k : Int) + 1 := by have := HLM.out; unfold wrap64; omega
       have hrd : l[k]? = some (rd_T43 l (k : Int)) := by unfold rd_T43; rw [Int.toNat_natCast, List.getD_eq_getElem?_getD, List.getElem?_eq_getElem hlt]; rfl
       have hst : l.take (k + 1) = l.take k ++ [rd_T43 l (k : Int)] := by rw [List.take_add_one, hrd]; rfl
       have HMEM : Aside0 (rd_T43 l (k : Int) ∈ l) := ⟨List.mem_of_getElem? hrd⟩
       have HST := aM hst
       have HLT := aM hlt
       have HE := aM z2
       have HL1 := aM z1
       clear hst hlt hrd z1 z2
       generalize rd_T43 l (k : Int) = x at *
       by_cases h0 : x.f2.size = 0
       ·have a1 : (x.f2.toList == ([] : List UInt8)) = true := beq_iff_eq.mpr ((bytesEq_nil x.f2).2 h0)
        have a2 : (x.f2.toList != ([] : List UInt8)) = false := bne_eq_false_iff_eq.mpr ((bytesEq_nil x.f2).2 h0)
        have HQ := aM (show good3 x = true by unfold good3; rw [dT h0]; rfl)
        clear h0
        go_wp2
        go_roundw
        case rel => exact ⟨k + 1, by rw [hw]; rfl, HLT, ⟨fun y hy => by rw [HST.out] at hy; exact (List.mem_append.1 hy).elim (HA.out y) (fun h => by rw [List.mem_singleton.1 h]; exact HQ.out)⟩, ⟨bAl HB.out _⟩⟩
        case measure => rw [hw]; simp only [intOf]; have := HLT.out; omega
       ·have a1 : (x.f2.toList == ([] : List UInt8)) = false := beq_eq_false_iff_ne.mpr (fun h => h0 ((bytesEq_nil x.f2).1 h))
        have a2 : (x.f2.toList != ([] : List UInt8)) = true := bne_iff_ne.mpr (fun h => h0 ((bytesEq_nil x.f2).1 h))
        have hg : good3 x = nameB x.f2 := by unfold good3; rw [decide_eq_false h0]; rfl
        cases hnb : nameB x.f2 with
        | false =>
         have HNB := aM hnb
         have HU := aM (un3 H1.out H2.out HMEM.out (show good3 x = false by rw [hg, hnb]))
         clear hnb hg h0
         go_wp2_with (go_at_call 79; (with_reducible refine (isName_calls x.f2 _ (HS2.out _ HMEM.out)).mono ?_); rw [HNB.out]; rintro e w1 ⟨rfl, hb⟩; have HB1 := aM (bSp (show Below w.heap.size w _ from (by repeat (first | (with_reducible first | exact HB.out | apply bAl | apply pbN | apply bD1) | exact HB.out))) hb); clear hb)
         go_ret
         rw [HU.out]
         exact ⟨rfl, HB1.out⟩
        | true =>
         have HNB := aM hnb
         have HQ := aM (show good3 x = true by rw [hg, hnb])
         clear hnb hg h0
         go_wp2_with (go_at_call 79; (with_reducible refine (isName_calls x.f2 _ (HS2.out _ HMEM.out)).mono ?_); rw [HNB.out]; rintro e w1 ⟨rfl, hb⟩; have HB1 := aM (bSp (show Below w.heap.size w _ from (by repeat (first | (with_reducible first | exact HB.out | apply bAl | apply pbN | apply bD1) | exact HB.out))) hb); clear hb)
         go_roundw
         case rel => exact ⟨k + 1, by rw [hw]; rfl, HLT, ⟨fun y hy => by rw [HST.out] at hy; exact (List.mem_append.1 hy).elim (HA.out y) (fun h => by rw [List.mem_singleton.1 h]; exact HQ.out)⟩, HB1⟩
         case measure => rw [hw]; simp only [intOf]; have := HLT.out; omega
      ·obtain rfl : k = l.length := by have := HK.out; omega
       have hdl : decide ((l.length : Int) < (l.length : Int)) = false := decide_eq_false (by omega)
       rw [List.take_length] at HA
       clear hlt
       have H3 := HA
       go_upto_region 20 with (fail)
       have HMB : Aside0 (w.heap.size ≤ wr.heap.size) := ⟨HB.out.size⟩
       obtain ⟨mb, hmb⟩ : ∃ mb, mb = wr.heap.size := ⟨_, rfl⟩
       have HM0 := aM (MapKV.made wr)
       have HBM := aM (bAl HB.out (.map #[] 0))
       rw [← hmb] at HM0 HMB
       rw [← hmb]
       generalize wr.alloc (.map #[] 0) = wm at *
       clear hmb HB HA
       go_wp2
       go_loopw [61] (fun i w4 => ∃ k : Nat, i = .int .i64 k ∧ Aside0 (k ≤ l.length) ∧ Aside0 ((l.take k).Pairwise (fun a b => sameK a b = false)) ∧ Aside0 (MapKV w4 mb (kvs (l.take k))) ∧ Aside0 (Below w.heap.size w w4)) (fun i _ => l.length - (intOf i).toNat)
       case atStart => exact ⟨0, rfl, ⟨Nat.zero_le _⟩, ⟨by rw [List.take_zero]; exact List.Pairwise.nil⟩, HM0, HBM⟩
       case round =>
        obtain ⟨k, rfl, HK, HA, HM, HB4⟩ := hrel
        by_cases hlt : k < l.length
        ·obtain ⟨ad, E1, g1, e, x0, x1, x2, z1, z2⟩ := at_T43 (Kd.C_below HR.out HB4.out) (k : Int) (by omega) (by omega)
         cases e
         rw [Int.toNat_natCast] at x0 x1 x2
         have hp1 : (0 ≤ (k : Int)) = True := eq_true (by omega)
         have hp2 : ((k : Int) < (l.length : Int)) = True := eq_true (by omega)
         have hdl : decide ((k : Int) < (l.length : Int)) = true := dT (by omega)
         have hw : wrap64 ((k : Int) + 1) = (k : Int) + 1 := by have := HLM.out; unfold wrap64; omega
         have hrd : l[k]? = some (rd_T43 l (k : Int)) := by unfold rd_T43; rw [Int.toNat_natCast, List.getD_eq_getElem?_getD, List.getElem?_eq_getElem hlt]; rfl
         have hst : l.take (k + 1) = l.take k ++ [rd_T43 l (k : Int)] := by rw [List.take_add_one, hrd]; rfl
         have HMEM : Aside0 (rd_T43 l (k : Int) ∈ l) := ⟨List.mem_of_getElem? hrd⟩
         have HST := aM hst
         have HLT := aM hlt
         have HE := aM z2
         have HL1 := aM z1
         clear hst hlt hrd z1 z2
         generalize rd_T43 l (k : Int) = x at *
         have hkh := kvs_hit (l.take k) x
         cases hany : (l.take k).any (fun y => sameK y x) with
         | true =>
          rw [hany, if_pos rfl] at hkh
          have HIT := aM hkh
          have HU : Aside0 (uncheckM l = 5) := ⟨by
           rw [un4 H1.out H2.out H3.out, if_pos]
           cases ht : twiceM l with
           | true => rfl
           | false =>
            have hp := (twiceM_iff l).1 ht
            obtain ⟨y, hy, hyx⟩ := List.any_eq_true.1 hany
            rw [← List.take_append_drop (k + 1) l, HST.out] at hp
            have h2 := (List.pairwise_append.1 (List.pairwise_append.1 hp).1).2.2 y hy x (by simp)
            rw [hyx] at h2
            exact absurd h2 (by decide)⟩
          clear hkh hany
          go_wp2_with (at_lookup; refine wpList_lookupKV _ rfl (.tmp 70) (.tmp 71) 91 4 false rfl Try.underlying91 (.bool false) (zeroBool _) (HM.out.kept (bAl (bAl (Below.refl _ _) _) _)) (by rfl) x.f0 x.f2 (by rfl) (.bool true) (by rw [HIT.out]; rfl) ?_)
          go_ret
          rw [HU.out]
          exact ⟨rfl, bAl (bAl HB4.out _) _⟩
         | false =>
          rw [hany, if_neg (by decide)] at hkh
          have HIT := aM hkh
          have HPW : Aside0 ((l.take (k + 1)).Pairwise (fun a b => sameK a b = false)) := ⟨by
           rw [HST.out, List.pairwise_append]
           refine ⟨HA.out, List.pairwise_singleton _ _, fun a ha b hb => ?_⟩
           rw [List.mem_singleton.1 hb]
           have := List.any_eq_false.1 hany a ha
           simpa using this⟩
          have HKV : Aside0 (kvs (l.take (k + 1)) = kvs (l.take k) ++ [(x.f0, x.f2, .bool true)]) := ⟨by rw [HST.out]; unfold kvs; rw [List.map_append]; rfl⟩
          clear hkh hany
          go_wp2_with (first | (at_lookup; refine wpList_lookupKV _ rfl (.tmp 70) (.tmp 71) 91 4 false rfl Try.underlying91 (.bool false) (zeroBool _) (HM.out.kept (bAl (bAl (Below.refl _ _) _) _)) (by rfl) x.f0 x.f2 (by rfl) (.bool false) (by rw [HIT.out]; rfl) ?_) | (at_mapUpdate; refine wpList_updateKV _ rfl (.tmp 73) (.tmp 74) (.const (.bool true)) 91 4 rfl Try.underlying91 (HM.out.kept (bAl (bAl (Below.refl _ _) _) _)) (by rfl) x.f0 x.f2 (by rfl) (.bool true) (by rfl) HIT.out ?_; intro w5 hm hg; have HM5 := aM hm; have HB5 := aM (belowGrown (bAl (bAl HB4.out _) _) hg HMB.out); clear hm hg))
          go_roundw
          case rel => exact ⟨k + 1, by rw [hw]; rfl, HLT, HPW, ⟨by rw [HKV.out]; exact HM5.out⟩, HB5⟩
          case measure => rw [hw]; simp only [intOf]; have := HLT.out; omega
        ·obtain rfl : k = l.length := by have := HK.out; omega
         have hdl : decide ((l.length : Int) < (l.length : Int)) = false := decide_eq_false (by omega)
         rw [List.take_length] at HA
         have HU : Aside0 (uncheckM l = 0) := ⟨by rw [un4 H1.out H2.out H3.out, (twiceM_iff l).2 HA.out]; rfl⟩
         clear hlt
         go_wp2
         go_ret
         rw [HU.out]
         exact ⟨rfl, HB4.out⟩
theorem cb_swap : ∀ a b : List UInt8, Lib.compareBytes b a = - Lib.compareBytes a b
 | [], [] => rfl
 | [], _ :: _ => rfl
 | _ :: _, [] => rfl
 | a :: p, b :: q => by
  rw [Lib.compareBytes, Lib.compareBytes]
  by_cases h1 : a < b
  ·have h2 : ¬ b < a := by simp only [UInt8.lt_iff_toNat_lt] at *; omega
   rw [if_pos h1, if_neg h2, if_pos h1]; rfl
  ·by_cases h2 : b < a
   ·rw [if_pos h2, if_neg h1, if_pos h2]
   ·rw [if_neg h2, if_neg h1, if_neg h1, if_neg h2, cb_swap p q]
theorem cb_zero : ∀ a b : List UInt8, Lib.compareBytes a b = 0 → a = b
 | [], [], _ => rfl
 | [], _ :: _, h => by simp [Lib.compareBytes] at h
 | _ :: _, [], h => by simp [Lib.compareBytes] at h
 | a :: p, b :: q, h => by
  rw [Lib.compareBytes] at h
  by_cases h1 : a < b
  ·rw [if_pos h1] at h; omega
  ·by_cases h2 : b < a
   ·rw [if_neg h1, if_pos h2] at h; omega
   ·rw [if_neg h1, if_neg h2] at h
    have e : a = b := by
     apply UInt8.toNat_inj.1
     simp only [UInt8.lt_iff_toNat_lt] at h1 h2
     omega
    rw [e, cb_zero p q h]
theorem cb_less : ∀ a b : List UInt8, Op.bytesLess a b = decide (Lib.compareBytes a b < 0)
 | [], [] => rfl
 | [], _ :: _ => rfl
 | _ :: _, [] => rfl
 | a :: p, b :: q => by
  rw [Lib.compareBytes, Op.bytesLess]
  by_cases h1 : a < b
  ·rw [if_pos h1]
   simp [h1]
  ·by_cases h2 : b < a
   ·have h3 : a ≠ b := fun e => by
     subst e
     exact h1 h2
    rw [if_neg h1, if_pos h2]
    simp [h1, h3]
   ·have e : a = b := by
     apply UInt8.toNat_inj.1
     simp only [UInt8.lt_iff_toNat_lt] at h1 h2
     omega
    rw [if_neg h1, if_neg h2, cb_less p q]
    simp [h1, e]
theorem before_order (x y : Mp) : beforeM x y = decide (orderM x y < 0) := by
 unfold beforeM orderM cmpI
 rw [cb_less, Go.ByteArray.toList_eq, Go.ByteArray.toList_eq]
 by_cases h1 : x.f0 < y.f0
 ·simp [h1]
 ·by_cases h2 : x.f0 > y.f0
  ·have h3 : ¬ x.f0 = y.f0 := by omega
   simp [h1, h2, h3]
  ·have h3 : x.f0 = y.f0 := by omega
   simp [h3]
theorem order_swap (x y : Mp) : orderM y x = - orderM x y := by
 unfold orderM cmpI
 rw [cb_swap x.f2.data.toList y.f2.data.toList]
 by_cases h1 : x.f0 < y.f0
 ·have h2 : ¬ y.f0 < x.f0 := by omega
  simp [h1, h2]
 ·by_cases h2 : y.f0 < x.f0
  ·simp [h1, h2]
  ·simp [h1, h2]
theorem order_zero (x y : Mp) (h : orderM x y = 0) : sameK x y = true := by
 unfold orderM cmpI at h
 by_cases h1 : x.f0 < y.f0
 ·simp [h1] at h
 ·by_cases h2 : x.f0 > y.f0
  ·simp [h1, h2] at h
  ·simp only [h1, h2, if_false] at h
   have h3 : x.f2 = y.f2 := Go.WideShapes.bytes_inj (cb_zero _ _ (by simpa using h))
   unfold sameK
   rw [dT (by omega : x.f0 = y.f0), dT h3]
   rfl
/-- Of two that differ: ascending is not descending. -/
theorem before_iff (x y : Mp) (h : sameK x y = false) : beforeM x y = true ↔ ¬ orderM y x < 0 := by
 rw [before_order, decide_eq_true_iff, order_swap x y]
 have hn : orderM x y ≠ 0 := fun e => by rw [order_zero x y e] at h; exact absurd h (by decide)
 omega
theorem rdM_cons (x : Mp) (l : List Mp) (j : Nat) : rd_T43 (x :: l) ((j + 1 : Nat) : Int) = rd_T43 l (j : Int) := by
 unfold rd_T43
 rw [Int.toNat_natCast, Int.toNat_natCast]
 rfl
theorem sorted_up : ∀ l : List Mp, l.Pairwise (fun a b => sameK a b = false) → ((∀ j, upM l j) ↔ sortedM l = true)
 | [], _ => ⟨fun _ => rfl, fun _ j h => by simp at h⟩
 | [x], _ => ⟨fun _ => rfl, fun _ j h => by simp at h⟩
 | x :: y :: l, hp => by
  have hp2 := (List.pairwise_cons.1 hp).2
  have hxy := (List.pairwise_cons.1 hp).1 y List.mem_cons_self
  have ih := sorted_up (y :: l) hp2
  rw [sortedM, Bool.and_eq_true, ← ih, before_iff x y hxy]
  constructor
  ·intro h
   refine ⟨h 0 (by simp), fun j hj => ?_⟩
   have h2 := h (j + 1) (by simp at hj ⊢; omega)
   rw [rdM_cons, rdM_cons] at h2
   exact h2
  ·rintro ⟨h1, h2⟩ j hj
   cases j with
   | zero => exact h1
   | succ j =>
    rw [rdM_cons, rdM_cons]
    exact h2 j (by simp at hj ⊢; omega)
theorem un_pair {l : List Mp} (h : uncheckM l = 0) : l.Pairwise (fun a b => sameK a b = false) := by
 rw [← twiceM_iff]
 unfold uncheckM at h
 cases ht : twiceM l with
 | false => rfl
 | true =>
  rw [ht] at h
  split at h
  ·split at h
   ·split at h
    ·simp at h
    ·simp at h
   ·simp at h
  ·simp at h
set_option maxHeartbeats 2000000 in
set_option maxRecDepth 100000 in
theorem mCheck_calls (A : Option Addr) (n : Nat) (l : List Mp) (w : World) (hr : Kd.C k43 w A l.length l) (hs : l.length < 1000000) (hs2 : ∀ x ∈ l, x.f2.size < 1000000) :
  Calls Try.prog 43 #[.slice A l.length n] w fun e w' => e = .returned (.int .i64 (checkM l)) ∧ Below w.heap.size w w' := by
 have HC := aM (mcheck_calls A n l w hr hs hs2)
 have HR := aM hr
 have HS := aM hs
 clear hr hs hs2
 by_cases h0 : uncheckM l = 0
 ·have HP := aM (sorted_up l (un_pair h0))
  have hck : checkM l = if sortedM l then 0 else 4 := by unfold checkM; rw [if_pos h0]
  have HI := aM (fun W (h : Kd.C k43 W A l.length l) => isSorted_calls A n l W h HS.out)
  rw [h0] at HC
  rw [hck]
  clear h0 hck
  cases hsb : sortedM l with
  | true =>
   have HR1 : Aside0 (∀ r : Bool, (r = true ↔ ∀ j, upM l j) → r = true) := ⟨fun r h => h.2 (HP.out.2 hsb)⟩
   rw [if_pos rfl]
   clear hsb
   go_enter Try.func43, Try.ntmps43
   go_wp2_with (first | (go_at_call 61; (with_reducible refine HC.out.mono ?_); rintro e w1 ⟨rfl, hb⟩; have HB := aM hb; clear hb) | (go_at_call 62; (with_reducible refine (HI.out _ (Kd.C_below HR.out HB.out)).mono ?_); rintro e w2 ⟨⟨r, rfl, hr⟩, hb⟩; obtain rfl := HR1.out r hr; have HB2 := aM (bSp HB.out hb); clear hr hb))
   go_ret
   exact ⟨rfl, HB2.out⟩
  | false =>
   have HR1 : Aside0 (∀ r : Bool, (r = true ↔ ∀ j, upM l j) → r = false) := ⟨fun r h => by
    cases r with
    | false => rfl
    | true => have := HP.out.1 (h.1 rfl); rw [hsb] at this; exact this.symm⟩
   rw [if_neg (by decide)]
   clear hsb
   go_enter Try.func43, Try.ntmps43
   go_wp2_with (first | (go_at_call 61; (with_reducible refine HC.out.mono ?_); rintro e w1 ⟨rfl, hb⟩; have HB := aM hb; clear hb) | (go_at_call 62; (with_reducible refine (HI.out _ (Kd.C_below HR.out HB.out)).mono ?_); rintro e w2 ⟨⟨r, rfl, hr⟩, hb⟩; obtain rfl := HR1.out r hr; have HB2 := aM (bSp HB.out hb); clear hr hb))
   go_ret
   exact ⟨rfl, HB2.out⟩
 ·have hck : checkM l = uncheckM l := by unfold checkM; rw [if_neg h0]
  rw [hck]
  generalize uncheckM l = u at *
  have y1 : (u != 0) = true := by simpa using h0
  have y2 : (u == 0) = false := by simpa using h0
  have y3 : decide (u = 0) = false := decide_eq_false h0
  clear h0 hck
  go_enter Try.func43, Try.ntmps43
  go_wp2_with (go_at_call 61; (with_reducible refine HC.out.mono ?_); rintro e w1 ⟨rfl, hb⟩; have HB := aM hb; clear hb)
  go_ret
  exact ⟨rfl, HB.out⟩
/-- An empty row just made. -/
theorem R_empty {α : Type} (d : Kd α) (e : Nat) (w : World) (base : Nat) (ok : Nat → Prop) (hb : base ≤ w.heap.size) (hok : ok w.heap.size) : d.R e (w.alloc (.cells #[] e)) base ok (.slice (some ⟨w.heap.size, 0, none⟩) 0 0) [] := by
 refine ⟨fun k hk => ?_, [], ?_, Reps.none _ _⟩
 ·have : w.heap.size = k := by simpa [Value.ownBlock] using hk
  subst this; exact hok
 ·exact ⟨by simp, .inr ⟨w.heap.size, 0, #[], rfl, hb, heap_alloc_new w _, Nat.le_refl _, by simp [maxLen], by simp, by simp⟩⟩
theorem C_nil_of_none {α : Type} {d : Kd α} {w : World} {n : Nat} {l : List α} (h : d.C w none n l) : l = [] := by
 rcases Nat.eq_zero_or_pos n with h0 | h0
 ·exact List.eq_nil_of_length_eq_zero (h.1.trans h0)
 ·obtain ⟨ad, e, _⟩ := h.2.2 h0; cases e
def slices_Clone_int_int.f (l0 : List Int) : Option (List Int) := if l0.length < 1000000000 then some l0 else none
set_option maxHeartbeats 1000000 in
theorem slices_Clone_int_int.calls (A0 : Option Addr) (c0 : Nat) (l0 : List Int) (r : List Int) (w : World) (hr0 : Kd.C (Kd.int .i64) w A0 l0.length l0) (hc0 : l0.length ≤ c0) (h : slices_Clone_int_int.f l0 = some r) :
  Calls Try.prog 31 #[.slice A0 l0.length c0] w fun e w' => ∃ v0_ : Value, e = .returned (v0_) ∧ Kd.R (Kd.int .i64) 3 w' w.heap.size (fun _ => True) v0_ r ∧ Below w.heap.size w w' := by
 have hn : l0.length < 1000000000 ∧ l0 = r := by
  unfold slices_Clone_int_int.f at h
  by_cases hl : l0.length < 1000000000
  ·rw [if_pos hl] at h; exact ⟨hl, Option.some.inj h⟩
  ·rw [if_neg hl] at h; cases h
 obtain ⟨hl, rfl⟩ := hn
 clear h
 have HL := aM hl
 clear hl
 have hee : ∀ (w : World) (a : Option Addr) (n c : Nat), Sem.run Try.prog (binOp .eql 28 (.slice a n c) (.slice none 0 0)) w = .ok (.bool a.isNone) w := fun w a n c => Lib.run_eql_slice_nil w 28 3 a n c 0 0 Try.underlying28
 have HR := aM hr0
 have HB := aM (Below.refl w.heap.size w)
 clear hr0
 cases A0 with
 | none =>
  obtain rfl := C_nil_of_none HR.out
  go_enter Try.func31, Try.ntmps31
  go_wp2
  go_ret
  exact ⟨_, rfl, Kd.R_nil _ _ _ _ _, HB.out⟩
 | some a =>
  go_enter Try.func31, Try.ntmps31
  go_wp2_with (at_builtin; refine Kd.R_append_rows (Kd.int .i64) (w0 := w) w.heap.size rfl (.tmp 5) (.tmp 6) 28 3 (.int .i64 0) 8 rfl Try.underlying28 info3 rfl (by decide) (by omega) (.slice (some ⟨w.heap.size, 0, none⟩) 0 0) [] l0 (some a) _ _ (fun _ => True) (fun _ => False) rfl rfl ?aO ?aR (fun _ _ h => h) (fun _ h => h.elim) ?aF ?aB ?aS ?aL ?_; (case aO => exact R_empty _ _ _ _ _ (Nat.le_refl _) trivial); (case aR => exact Kd.C_alloc HR.out _); (case aF => exact (fun _ _ => trivial)); (case aB => exact bAl HB.out _); (case aS => simp); (case aL => have := HL.out; simp; omega); intro v1 w1 ho hb hg hat; have HO := aM ho; have HB1 := aM hb; clear ho hb hg hat)
  go_ret
  exact ⟨_, rfl, HO.out, HB1.out⟩
/-- An entry of the index of a mapping. -/
def entM (w : World) (y : Mp) (p : Int × ByteArray × Value) : Prop := p.1 = y.f0 ∧ p.2.1 = y.f2 ∧ ∃ E g, p.2.2 = .slice E y.f1.length g ∧ y.f1.length ≤ g ∧ Kd.C (Kd.int .i64) w E y.f1.length y.f1
def EntsM (w : World) : List Mp → KVs → Prop
 | [], [] => True
 | y :: l, p :: L => entM w y p ∧ EntsM w l L
 | _, _ => False
theorem EntsM.below {w w' : World} (hb : Below w.heap.size w w') : ∀ {l : List Mp} {L : KVs}, EntsM w l L → EntsM w' l L
 | [], [], _ => trivial
 | [], _ :: _, h => h.elim
 | _ :: _, [], h => h.elim
 | y :: l, p :: L, h => by
  obtain ⟨⟨h1, h2, E, g, h3, h4, h5⟩, h6⟩ := h
  exact ⟨⟨h1, h2, E, g, h3, h4, Kd.C_below h5 hb⟩, EntsM.below hb h6⟩
theorem EntsM.snoc {w : World} {y : Mp} {p : Int × ByteArray × Value} (hy : entM w y p) : ∀ {l : List Mp} {L : KVs}, EntsM w l L → EntsM w (l ++ [y]) (L ++ [p])
 | [], [], _ => ⟨hy, trivial⟩
 | [], _ :: _, h => h.elim
 | _ :: _, [], h => h.elim
 | x :: l, q :: L, h => ⟨h.1, EntsM.snoc hy h.2⟩
theorem ent_hit {w : World} (c : Int) (t : ByteArray) : ∀ {l : List Mp} {L : KVs}, EntsM w l L →
  (hitL L c t = none ∧ findM l c t = none) ∨ ∃ xs E g, hitL L c t = some (.slice E xs.length g) ∧ findM l c t = some xs ∧ xs.length ≤ g ∧ Kd.C (Kd.int .i64) w E xs.length xs
 | [], [], _ => .inl ⟨rfl, rfl⟩
 | [], _ :: _, h => h.elim
 | _ :: _, [], h => h.elim
 | y :: l, p :: L, h => by
  have ih := ent_hit c t h.2
  obtain ⟨h1, h2, E, g, h3, h4, h5⟩ := h.1
  have e : (decide (c = p.1) && decide (t = p.2.1)) = (decide (y.f0 = c) && decide (y.f2 = t)) := by
   rw [h1, h2, show decide (c = y.f0) = decide (y.f0 = c) by simp [eq_comm], show decide (t = y.f2) = decide (y.f2 = t) by simp [eq_comm]]
  unfold hitL findM at *
  rw [List.find?_cons, List.find?_cons, e]
  cases hq : (decide (y.f0 = c) && decide (y.f2 = t)) with
  | true => exact .inr ⟨y.f1, E, g, by simp [h3], rfl, h4, h5⟩
  | false => exact ih
theorem ent_get {w : World} {l : List Mp} {L : KVs} (c : Int) (t : ByteArray) (h : EntsM w l L) : ∃ E g, (hitL L c t).getD (.slice none 0 0) = .slice E ((findM l c t).getD []).length g ∧ (hitL L c t).isSome = (findM l c t).isSome ∧ ((findM l c t).getD []).length ≤ g ∧ Kd.C (Kd.int .i64) w E ((findM l c t).getD []).length ((findM l c t).getD []) := by
 rcases ent_hit c t h with ⟨h1, h2⟩ | ⟨xs, E, g, h1, h2, h3, h4⟩
 ·exact ⟨none, 0, by rw [h1, h2]; rfl, by rw [h1, h2]; rfl, by rw [h2]; exact Nat.le_refl _, by rw [h2]; exact Kd.C_nil _ _⟩
 ·exact ⟨E, g, by rw [h1, h2]; rfl, by rw [h1, h2]; rfl, by rw [h2]; exact h3, by rw [h2]; exact h4⟩
theorem ent_none {w : World} {l : List Mp} {L : KVs} (h : EntsM w l L) (x : Mp) (hx : ∀ y ∈ l, sameK y x = false) : hitL L x.f0 x.f2 = none := by
 rcases ent_hit x.f0 x.f2 h with ⟨h1, _⟩ | ⟨xs, E, g, _, h2, _⟩
 ·exact h1
 ·unfold findM at h2
  obtain ⟨y, hy, _⟩ := Option.map_eq_some_iff.1 h2
  have hm := List.mem_of_find?_eq_some hy
  have hp := List.find?_some hy
  have := hx y hm
  unfold sameK at this
  rw [this] at hp
  exact absurd hp (by decide)
theorem zeroInts (w : World) : (zeroValue 28).run Try.prog w = .ok (.slice none 0 0) w := by kernel_rfl
def idxM (l : List Mp) : List Mp := if checkM l = 0 then l else []
theorem check_un {l : List Mp} (h : checkM l = 0) : uncheckM l = 0 := by
 unfold checkM at h
 by_cases h0 : uncheckM l = 0
 ·exact h0
 ·rw [if_neg h0] at h; exact absurd h h0
set_option maxHeartbeats 4000000 in
set_option maxRecDepth 100000 in
theorem mIndex_calls (A : Option Addr) (n : Nat) (l : List Mp) (w : World) (hr : Kd.C k43 w A l.length l) (hs : l.length < 1000000) (hs2 : ∀ x ∈ l, x.f2.size < 1000000) :
  Calls Try.prog 73 #[.slice A l.length n] w fun e w' => ∃ mb L, e = .returned (.map (some mb)) ∧ MapKV w' mb L ∧ EntsM w (idxM l) L ∧ w.heap.size ≤ mb ∧ Below w.heap.size w w' := by
 have HC := aM (fun (W : World) (h : Kd.C k43 W A l.length l) => mCheck_calls A n l W h hs hs2)
 have HR := aM hr
 have HLM := aM hs
 have hmm := @run_makeMap Try.prog
 clear hr hs hs2
 have HMB := aM (Nat.le_refl w.heap.size)
 have HM0 := aM (MapKV.made w)
 have HBM := aM (bAl (Below.refl w.heap.size w) (.map #[] 0))
 by_cases h0 : checkM l = 0
 ·have HPW := aM (un_pair (check_un h0))
  have hid : idxM l = l := by unfold idxM; rw [if_pos h0]
  rw [hid]
  rw [h0] at HC
  clear h0 hid
  go_enter Try.func73, Try.ntmps73
  go_wp2_with (go_at_call 43; (with_reducible refine (HC.out _ (Kd.C_below HR.out HBM.out)).mono ?_); rintro e w1 ⟨rfl, hb⟩; have HM1 := aM (HM0.out.kept hb); have HB1 := aM (bSp HBM.out hb); clear hb)
  generalize hmb : w.heap.size = mb at HM1
  have HMB2 : Aside0 (w.heap.size ≤ mb) := ⟨by omega⟩
  generalize w.alloc (.map #[] 0) = wa at *
  go_loopw [12] (fun i w4 => ∃ (k : Nat) (L : KVs), i = .int .i64 k ∧ Aside0 (k ≤ l.length) ∧ Aside0 (MapKV w4 mb L) ∧ Aside0 (EntsM w (l.take k) L) ∧ Aside0 (Below w.heap.size w w4)) (fun i _ => l.length - (intOf i).toNat)
  case atStart => exact ⟨0, [], rfl, ⟨Nat.zero_le _⟩, HM1, ⟨by rw [List.take_zero]; trivial⟩, HB1⟩
  case round =>
   obtain ⟨k, L, rfl, HK, HM, HEN, HB4⟩ := hrel
   by_cases hlt : k < l.length
   ·obtain ⟨ad, E1, g1, e, x0, x1, x2, z1, z2⟩ := at_T43 HR.out (k : Int) (by omega) (by omega)
    cases e
    rw [Int.toNat_natCast] at x0 x1 x2
    replace x0 := pcb HB4.out x0
    replace x1 := pcb HB4.out x1
    replace x2 := pcb HB4.out x2
    have hp1 : (0 ≤ (k : Int)) = True := eq_true (by omega)
    have hp2 : ((k : Int) < (l.length : Int)) = True := eq_true (by omega)
    have hdl : decide ((k : Int) < (l.length : Int)) = true := dT (by omega)
    have hw : wrap64 ((k : Int) + 1) = (k : Int) + 1 := by have := HLM.out; unfold wrap64; omega
    have hrd : l[k]? = some (rd_T43 l (k : Int)) := by unfold rd_T43; rw [Int.toNat_natCast, List.getD_eq_getElem?_getD, List.getElem?_eq_getElem hlt]; rfl
    have hst : l.take (k + 1) = l.take k ++ [rd_T43 l (k : Int)] := by rw [List.take_add_one, hrd]; rfl
    have HMEM : Aside0 (rd_T43 l (k : Int) ∈ l) := ⟨List.mem_of_getElem? hrd⟩
    have HST := aM hst
    have HLT := aM hlt
    have HE := aM z2
    have HL1 := aM z1
    clear hst hlt hrd z1 z2
    generalize rd_T43 l (k : Int) = x at *
    have HNO : Aside0 (hitL L x.f0 x.f2 = none) := ⟨ent_none HEN.out x (fun y hy => by
     have hp := HPW.out
     rw [← List.take_append_drop (k + 1) l, HST.out] at hp
     exact (List.pairwise_append.1 (List.pairwise_append.1 hp).1).2.2 y hy x (by simp))⟩
    go_wp2_with (at_mapUpdate; refine wpList_updateKV _ rfl (.tmp 16) (.tmp 21) (.tmp 23) 83 28 rfl Try.underlying83 (HM.out.kept (bAl (Below.refl _ _) _)) (by rfl) x.f0 x.f2 (by rfl) (.slice E1 x.f1.length g1) (by rfl) HNO.out ?_; intro w5 hm hg; have HM5 := aM hm; have HG5 := aM hg; have HB5 := aM (belowGrown (bAl HB4.out _) hg HMB2.out); clear hm hg)
    go_roundw
    case rel => exact ⟨k + 1, _, by rw [hw]; rfl, HLT, HM5, ⟨by rw [HST.out]; exact HEN.out.snoc ⟨rfl, rfl, E1, g1, rfl, HL1.out, HE.out⟩⟩, HB5⟩
    case measure => rw [hw]; simp only [intOf]; have := HLT.out; omega
   ·obtain rfl : k = l.length := by have := HK.out; omega
    have hdl : decide ((l.length : Int) < (l.length : Int)) = false := decide_eq_false (by omega)
    rw [List.take_length] at HEN
    clear hlt
    go_wp2
    go_ret
    exact ⟨mb, L, rfl, HM.out, HEN.out, HMB2.out, HB4.out⟩
 ·have hid : idxM l = [] := by unfold idxM; rw [if_neg h0]
  rw [hid]
  generalize checkM l = u at *
  have y1 : (u != 0) = true := by simpa using h0
  have y2 : (u == 0) = false := by simpa using h0
  have y3 : decide (u = 0) = false := decide_eq_false h0
  clear h0 hid
  go_enter Try.func73, Try.ntmps73
  go_wp2_with (go_at_call 43; (with_reducible refine (HC.out _ (Kd.C_below HR.out HBM.out)).mono ?_); rintro e w1 ⟨rfl, hb⟩; have HM1 := aM (HM0.out.kept hb); have HB1 := aM (bSp HBM.out hb); clear hb)
  go_ret
  exact ⟨w.heap.size, [], rfl, HM1.out, trivial, Nat.le_refl _, HB1.out⟩
set_option maxHeartbeats 4000000 in
set_option maxRecDepth 100000 in
theorem mGet_calls (A : Option Addr) (n : Nat) (l : List Mp) (c : Int) (t : ByteArray) (w : World) (hr : Kd.C k43 w A l.length l) (hs : l.length < 1000000) (hs2 : ∀ x ∈ l, x.f2.size < 1000000 ∧ x.f1.length < 1000000) :
  Calls Try.prog 56 #[.slice A l.length n, .int .i64 c, .string t] w fun e w' => ∃ v, e = .returned (.tuple #[v, .bool (getP l c t).2]) ∧ Kd.R (Kd.int .i64) 3 w' w.heap.size (fun _ => True) v (getP l c t).1 ∧ Below w.heap.size w w' := by
 have HI := aM (mIndex_calls A n l w hr hs (fun x hx => (hs2 x hx).1))
 have HLL : Aside0 (∀ xs, findM (idxM l) c t = some xs → xs.length < 1000000) := ⟨fun xs h => by
  unfold findM at h
  obtain ⟨y, hy, rfl⟩ := Option.map_eq_some_iff.1 h
  have hm := List.mem_of_find?_eq_some hy
  unfold idxM at hm
  split at hm
  ·exact (hs2 y hm).2
  ·simp at hm⟩
 have hgp : getP l c t = ((findM (idxM l) c t).getD [], (findM (idxM l) c t).isSome) := by
  unfold getP getM idxM
  by_cases h0 : checkM l = 0
  ·rw [if_pos h0, if_pos h0]
   cases findM l c t <;> rfl
  ·rw [if_neg h0, if_neg h0]; rfl
 rw [hgp]
 have HLX : Aside0 (((findM (idxM l) c t).getD []).length < 1000000) := ⟨by
  cases h : findM (idxM l) c t with
  | none => decide
  | some xs => exact HLL.out xs h⟩
 have HEG := aM (fun (W : World) (L : KVs) (h : EntsM W (idxM l) L) => ent_get c t h)
 clear hr hs hs2 hgp HLL
 generalize (findM (idxM l) c t).getD [] = xs at *
 generalize (findM (idxM l) c t).isSome = b at *
 have HCL : Aside0 (slices_Clone_int_int.f xs = some xs) := ⟨by unfold slices_Clone_int_int.f; rw [if_pos (by have := HLX.out; omega)]⟩
 go_enter Try.func56, Try.ntmps56
 go_wp2_with (first | (go_at_call 73; (with_reducible refine HI.out.mono ?_); rintro e w1 ⟨mb, L, rfl, hm, he, hlb, hb⟩; obtain ⟨E, g, h1, h2, h3, h4⟩ := HEG.out _ _ he; have HM := aM hm; have H1 := aM h1; have H2 := aM h2; have H3 := aM h3; have H4 := aM (Kd.C_below h4 hb); have HB := aM hb; clear hm he hlb hb h1 h2 h3 h4) | (at_lookup; refine wpList_lookupKV _ rfl (.tmp 12) (.tmp 15) 83 28 true rfl Try.underlying83 (.slice none 0 0) (zeroInts _) HM.out (by rfl) c t (by rfl) (.tuple #[.slice E xs.length g, .bool b]) (by rw [H1.out, H2.out]; rfl) ?_) | (go_at_call 31; (with_reducible refine (slices_Clone_int_int.calls E g xs xs _ H4.out H3.out HCL.out).mono ?_); rintro e w2 ⟨v2, rfl, hv, hb⟩; have HV := aM (Kd.R_lower hv HB.out.size); have HB2 := aM (bSp HB.out hb); clear hv hb))
 go_ret2
 exact ⟨v2, rfl, HV.out, HB2.out⟩
theorem okM_spec {l : List Mp} (h : okM l = true) : l.length < 100000 ∧ ∀ x ∈ l, x.f1.length < 100000 ∧ x.f2.size < 100000 := by
 unfold okM at h
 simpa using h
def mapping_Get.f (l0 : List Mp) (a1 : Int) (a2 : ByteArray) : Option (List Int × Bool) := if okM l0 = true then some (getP l0 a1 a2) else none
theorem mapping_Get.calls (A0 : Option Addr) (c0 : Nat) (l0 : List Mp) (a1 : Int) (a2 : ByteArray) (r1 : List Int) (r2 : Bool) (w : World) (hr0 : Kd.C k43 w A0 l0.length l0) (hc0 : l0.length ≤ c0) (h : mapping_Get.f l0 a1 a2 = some (r1, r2)) :
  Calls Try.prog 56 #[.slice A0 l0.length c0, .int .i64 a1, .string a2] w fun e w' => ∃ v0_ : Value, e = .returned (.tuple #[v0_, .bool r2]) ∧ Kd.R (Kd.int .i64) 3 w' w.heap.size (fun _ => True) v0_ r1 ∧ Below w.heap.size w w' := by
 unfold mapping_Get.f at h
 split at h
 ·rename_i hok
  injection h with h
  obtain ⟨o1, o2⟩ := okM_spec hok
  have hg := mGet_calls A0 c0 l0 a1 a2 w hr0 (by omega) (fun x hx => by have := o2 x hx; omega)
  rw [h] at hg
  exact hg
 ·cases h
end Go.Proofs.Ythnkmcfhpjmihaa.Q
end
