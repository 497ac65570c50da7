/- Chapter 3: the reader of bits: New, what is no more taken, Filled. | Maps as lists of entries: of whatever program, key and element. | Some of the old blocks may have turned, no others; sums and pieces of 32 bits. | Chapter 14: tables read one behind the other: the program. | A load of a great array in a drawn region. -/
import Derived.Test.YtpjopeojeglogaaCw07
import Derived.Maps.Keyed
import Derived.WideKeyEntry
import Derived.Deep.RegionLaw
import Derived.Deep.CutRange
import Derived.Deep.Cut
import Derived.BigRegion
import Derived.Lib.SliceRun
import Derived.Test.YtpjopeojeglogaaCw00
import Derived.Test.YtpjopeojeglogaaCw02
import Derived.Great.BuildSlice
import Derived.Test.YtpjopeojeglogaaCw05
import Derived.BigQuiet
namespace Go.Proofs.Ytpjopeojeglogaa
open Go.RowKit Tt
set_option linter.unusedVariables false
set_option linter.unusedSimpArgs false

theorem rtake_no (rb : Nat) (a : Option Addr) (n c : Nat) (D : List Int) (i k : Nat) (w : World) (h : Rb w rb a n c D i) (hk : k ≤ 16) (hi : 8 * n < i + k) :
    Calls Try.prog 142 #[.pointer (some ⟨rb, 0, none⟩), .int .i64 k] w fun e w' => e = .returned (.tuple #[.int .i64 0, .bool false]) ∧ Qt w w' := by
  have hL := left_any rb a n c D i w h; have d1 : decide ((k : Int) < 0) = false := by simp
  have d2 : decide ((16 : Int) < k) = false := by simp; omega
  have hle := h.le; have d3 : decide ((8 * n - i : Nat) < k) = true := by simp; omega
  obtain ⟨L, hLe⟩ : ∃ L : Nat, 8 * n - i = L := ⟨_, rfl⟩; rw [hLe] at hL d3; have h' := Lib.hid h; have hL' := Lib.hid hL; have hi' := Lib.hid hi; have hLe' := Lib.hid hLe; clear h hL hi hLe
  go_enter Try.func142, Try.ntmps142
  go_wp2_with fail
  refine (hL'.out).mono ?_; rintro e w1 ⟨rfl, hq⟩; have hq' := Lib.hid hq; clear hq
  go_wp2
  go_ret2
  exact ⟨rfl, hq'.out⟩
/-- are fewer than 8 bits left, all of them 1? -/
def filledS (D : List Int) (i m : Nat) : Bool := decide (m - i < 8) && (List.range (m - i)).all fun j => decide (bitA D (i + j) ≠ 0)
set_option maxRecDepth 20000 in
set_option maxHeartbeats 1000000 in
theorem filled_any (rb : Nat) (a : Option Addr) (n c : Nat) (D : List Int) (i : Nat) (w : World) (h : Rb w rb a n c D i) :
    Calls Try.prog 87 #[.pointer (some ⟨rb, 0, none⟩)] w fun e w' => e = .returned (.bool (filledS D i (8 * n))) ∧ Qt w w' := by
  have hn := h.n1; have hL := left_any rb a n c D i w h; obtain ⟨L, hLe⟩ : ∃ L : Nat, 8 * n - i = L := ⟨_, rfl⟩; rw [hLe] at hL
  by_cases h8 : 8 ≤ L
  · have d3 : decide (8 ≤ L) = true := by simp; omega
    have d4 : decide ((8 : Int) ≤ L) = true := by simp; omega
    have hf : filledS D i (8 * n) = false := by unfold filledS; rw [decide_eq_false (by omega)]; rfl
    have h' := Lib.hid h; have hL' := Lib.hid hL; have hLe' := Lib.hid hLe; have h8' := Lib.hid h8; have hf' := Lib.hid hf; clear h hL hLe h8 hf
    go_enter Try.func87, Try.ntmps87
    go_wp2_with fail
    refine (hL'.out).mono ?_; rintro e w1 ⟨rfl, hq⟩; have hq' := Lib.hid hq; clear hq
    go_wp2
    go_ret
    exact ⟨ret_bool hf'.out.symm, hq'.out⟩
  · have d3 : decide (8 ≤ L) = false := by simp; omega
    have d4 : decide ((8 : Int) ≤ L) = false := by simp; omega
    have hi := h.le; have h' := Lib.hid h; have hL' := Lib.hid hL; have hLe' := Lib.hid hLe; clear h hL hLe
    go_enter Try.func87, Try.ntmps87
    go_wp2_with fail
    refine (hL'.out).mono ?_; rintro e w1 ⟨rfl, hq⟩; have c1 := (h'.out.qt hq).blk.cell (i := 1) rfl; have hq' := Lib.hid hq; clear hq
    go_wp2
    go_loopw [3] (fun kv wr => ∃ k : Nat, i ≤ k ∧ k ≤ 8 * n ∧ kv = .int .i64 k ∧ Hid (∀ j, j < k - i → bitA D (i + j) ≠ 0) ∧ Hid (Qt w wr)) (fun kv _ => 8 * n - (intOf kv).toNat)
    case atStart => exact ⟨i, by omega, hi, rfl, Lib.hid (fun j hj => by omega), hq'⟩
    case round =>
      obtain ⟨k, hik, hk, rfl, hall, hqr⟩ := hrel; have hr := h'.out.qt hqr.out; have c0 := hr.blk.cell (i := 0) rfl
      by_cases hlt : k < 8 * n
      · have hi2 : k ≤ 8000000 := by omega
        obtain ⟨bb, of, rfl, hbb, f⟩ := hr.sl.at (show k / 8 < n by omega); have f0 := f (k / 8) _ (ints_get (by rw [hr.sl.ilen]; omega)); have h7 := and7 k (by omega); have hg := hr.byt.get (k / 8); have hd := div_byte hg.1 hg.2 (7 - k % 8); have hv := and1_u8 hd.1 hd.2; have he : bits .and .u8 (D.getD (k / 8) 0 / 2 ^ (7 - k % 8)) 1 = bitA D k := hv; rw [List.getD_eq_getElem?_getD] at he f0; clear f hg hd hv hr; have hw : IntKind.i64.wrap ((k : Int) + 1) = k + 1 := by rw [IntKind.wrap_i64]; omega
        by_cases hb : bitA D k = 0
        · have hc : (bits .and .u8 (D[k / 8]?.getD 0 / 2 ^ (7 - k % 8)) 1 == 0) = true := by rw [he, hb]; rfl
          have hf : filledS D i (8 * n) = false := by
            unfold filledS; rw [Bool.and_eq_false_iff]
            right
            rw [List.all_eq_false]; refine ⟨k - i, by simp; omega, ?_⟩; rw [show i + (k - i) = k by omega, hb]
            simp
          clear he hb; have hf' := Lib.hid hf; clear hf
          go_wp2
          go_ret
          exact ⟨ret_bool hf'.out.symm, hqr.out⟩
        · have hc : (bits .and .u8 (D[k / 8]?.getD 0 / 2 ^ (7 - k % 8)) 1 == 0) = false := by rw [he]; simpa using hb
          have hall2 : ∀ j, j < (k + 1) - i → bitA D (i + j) ≠ 0 := fun j hj => by
            rcases Nat.lt_or_ge j (k - i) with h1 | h1
            · exact hall.out j h1
            · rw [show i + j = k by omega]; exact hb
          clear he hb; have hall2' := Lib.hid hall2; clear hall2
          go_wp2
          go_roundw
          case rel => exact ⟨k + 1, by omega, by omega, by go_num, hall2', hqr⟩
          case measure => simp [intOf]; omega
      · obtain rfl : k = 8 * n := by omega
        have hf : filledS D i (8 * n) = true := by
          unfold filledS; rw [Bool.and_eq_true, decide_eq_true_eq, List.all_eq_true]; refine ⟨by have := hLe'.out; omega, fun j hj => ?_⟩; rw [decide_eq_true_eq]; exact hall.out j (by simpa using hj)
        clear hr; have hf' := Lib.hid hf; clear hf
        go_wp2
        go_ret
        exact ⟨ret_bool hf'.out.symm, hqr.out⟩
end Go.Proofs.Ytpjopeojeglogaa

namespace Tt
open Go Go.RowKit
set_option linter.unusedVariables false
set_option linter.unusedSimpArgs false

/-- block b is a map that has the entries l -/
def AM (P : Program) (k : TypeId) (w : World) (b : Nat) (l : List (Value × Value)) : Prop :=
  ∃ (es : Array MapEntry) (clock : Nat), w.heap[b]? = some (.map es clock) ∧ es.toList.map (fun e => (e.key, e.val)) = l ∧ (∀ x ∈ l, ∃ kl, keyOf P k x.1 = some kl) ∧ clock = es.size ∧ ∀ (i : Nat) e, es[i]? = some e → e.born = i
section
variable {P : Program} {k e t : TypeId} {w w' : World} {b : Nat} {l : List (Value × Value)}
theorem AM.lt (h : AM P k w b l) : b < w.heap.size := by
  obtain ⟨es, clock, h1, _⟩ := h; exact (Array.getElem?_eq_some_iff.1 h1).1
theorem AM.same (h : AM P k w b l) (hb : w'.heap[b]? = w.heap[b]?) : AM P k w' b l := by
  obtain ⟨es, clock, h1, h2⟩ := h; exact ⟨es, clock, by rw [hb]; exact h1, h2⟩
theorem AM.late (h : AM P k w b l) (hb : Below w.heap.size w w') : AM P k w' b l := h.same (hb.block b h.lt)
theorem AM.but {g : Nat} (h : AM P k w b l) (hb : But g w w') (hg : b ≠ g) : AM P k w' b l := h.same (hb.block b h.lt hg)
theorem AM.made (P : Program) (k : TypeId) (w : World) : AM P k (w.alloc (.map #[] 0)) w.heap.size [] := ⟨#[], 0, heap_new w _, rfl, fun x hx => (by cases hx), rfl, fun i e he => (by simp at he)⟩
theorem AM.keyed {es : Array MapEntry} (h2 : es.toList.map (fun e => (e.key, e.val)) = l) (h3 : ∀ x ∈ l, ∃ kl, keyOf P k x.1 = some kl) : ∀ e ∈ es.toList, ∃ kl, keyOf P k e.key = some kl := fun e he =>
  h3 (e.key, e.val) (by rw [← h2]; exact List.mem_map.2 ⟨e, he, rfl⟩)
/-- 'v, ok := m[x]' -/
theorem AM.look (K : Maps.Keyed P k) (ht : P.underlying t = some (.map k e)) (h : AM P k w b l) {x z : Value} {kl : Lit} (hx : keyOf P k x = some kl) (hz : (zeroValue e).run P w = .ok z w) :
    ((∀ y ∈ l, y.1 ≠ x) ∧ (Instr.lookup t (.map (some b)) x true).run P w = .ok (.tuple #[z, .bool false]) w) ∨ ∃ v, (x, v) ∈ l ∧ (Instr.lookup t (.map (some b)) x true).run P w = .ok (.tuple #[v, .bool true]) w := by
  obtain ⟨es, clock, h1, h2, h3, h4, h5⟩ := h
  rcases K.find w hx es.toList (AM.keyed h2 h3) with ⟨f1, f2⟩ | ⟨j, en, f1, f2, f3⟩
  · left
    refine ⟨fun y hy he => ?_, by simp [Instr.lookup, run_underlying ht, MapKept.run_getObj_map h1, K.check w _ hx, f1, hz, Result.andThen]⟩; rw [← h2] at hy; obtain ⟨en, hen, rfl⟩ := List.mem_map.1 hy; exact f2 en hen he
  · right
    refine ⟨en.val, ?_, by simp [Instr.lookup, run_underlying ht, MapKept.run_getObj_map h1, K.check w _ hx, f1, Result.andThen]⟩; rw [← h2]; exact List.mem_map.2 ⟨en, List.mem_of_getElem? f2, by rw [f3]⟩
theorem setB_size (w : World) (b : Nat) (o : Obj) : (ChangeMaps.setBlock w b o).heap.size = w.heap.size := by simp [ChangeMaps.setBlock]
theorem setB_but (w : World) (b : Nat) (o : Obj) : But b w (ChangeMaps.setBlock w b o) :=
  ⟨rfl, rfl, rfl, by rw [setB_size]; exact Nat.le_refl _, fun j _ hj => by simp [ChangeMaps.setBlock, Ne.symm hj]⟩
theorem AM.push (h2 : ∀ x ∈ l, ∃ kl, keyOf P k x.1 = some kl) {es : Array MapEntry} {clock : Nat} (h3 : es.toList.map (fun e => (e.key, e.val)) = l) (h4 : clock = es.size) (h5 : ∀ (i : Nat) e, es[i]? = some e → e.born = i) (hb : b < w.heap.size) {x v : Value} {kl : Lit} (hx : keyOf P k x = some kl) :
    AM P k (ChangeMaps.setBlock w b (.map (es.push ⟨x, v, clock⟩) (clock + 1))) b (l ++ [(x, v)]) :=
  ⟨es.push ⟨x, v, clock⟩, clock + 1, by simp [ChangeMaps.setBlock, hb], by rw [← h3]; simp, fun y hy => by
    rcases List.mem_append.1 hy with hy | hy
    · exact h2 y hy
    · obtain rfl : y = (x, v) := by simpa using hy
      exact ⟨kl, hx⟩, by simp [h4], fun i e he => by
    rcases Nat.lt_or_ge i es.size with hi | hi
    · rw [Array.getElem?_push_lt hi] at he
      exact h5 i e (by rw [← he]; simp [hi])
    · have hi2 : i = es.size := by
        have := (Array.getElem?_eq_some_iff.1 he).1
        simp at this
        omega
      subst hi2; rw [Array.getElem?_push_size] at he; have hbn : e.born = clock := congrArg MapEntry.born (Option.some.inj he).symm; exact hbn.trans h4⟩
/-- the entry of a new key -/
theorem AM.entry (K : Maps.Keyed P k) (ht : P.underlying t = some (.map k e)) (h : AM P k w b l) {x z : Value} {kl : Lit} (hx : keyOf P k x = some kl) (hz : (zeroValue e).run P w = .ok z w) (hno : ∀ y ∈ l, y.1 ≠ x) :
    ∃ w', (Instr.mapEntry t (.map (some b)) x).run P w = .ok (.tuple #[z, .int .i64 l.length]) w' ∧ AM P k w' b (l ++ [(x, z)]) ∧ But b w w' ∧ w'.heap.size = w.heap.size := by
  have hlt := h.lt; obtain ⟨es, clock, h1, h2, h3, h4, h5⟩ := h
  have hnone : (Instr.findKey k x es.toList).run P w = .ok none w := by
    rcases K.find w hx es.toList (AM.keyed h2 h3) with ⟨f1, _⟩ | ⟨j, en, _, f2, f3⟩
    · exact f1
    · exact absurd f3 (hno (en.key, en.val) (by rw [← h2]; exact List.mem_map.2 ⟨en, List.mem_of_getElem? f2, rfl⟩))
  have hl : clock = l.length := by rw [← h2, h4]; simp
  have hrun : (Instr.mapEntry t (.map (some b)) x).run P w = .ok (.tuple #[z, .int .i64 l.length]) (ChangeMaps.setBlock w b (.map (es.push ⟨x, z, clock⟩) (clock + 1))) := by
    rw [← hl]
    simp [Instr.mapEntry, run_underlying ht, MapKept.run_getObj_map h1, K.check w false hx, hnone, hz, MapKept.run_setObj_map _ h1, Result.andThen, ChangeMaps.setBlock, goInt]
  exact ⟨_, hrun, AM.push h3 h2 h4 h5 hlt hx, setB_but _ _ _, setB_size _ _ _⟩
/-- what an entry's stamp gets -/
theorem AM.store (h : AM P k w b l) {i : Nat} (hi : i < l.length) (v : Value) :
    ∃ w', (Instr.entryStore t (.map (some b)) (.int .i64 i) v).run P w = .ok () w' ∧ AM P k w' b (l.set i (l[i].1, v)) ∧ But b w w' ∧ w'.heap.size = w.heap.size := by
  have hlt := h.lt; obtain ⟨es, clock, h1, h2, h3, h4, h5⟩ := h; have hsz : es.size = l.length := by rw [← h2]; simp
  have hidx : es.findIdx? (fun e => ((e.born : Nat) : Int) == ((i : Nat) : Int)) = some i := by
    rw [WideElems.findIdx_arr, List.findIdx?_eq_some_iff_getElem]; refine ⟨by simp; omega, ?_, fun j hj => ?_⟩
    · have := h5 i es[i] (by simp [show i < es.size by omega])
      simp [this]
    · have := h5 j es[j] (by simp [show j < es.size by omega])
      simp [this]
      omega
  have hrun : (Instr.entryStore t (.map (some b)) (.int .i64 i) v).run P w = .ok () (ChangeMaps.setBlock w b (.map (es.modify i fun e => { e with val := v }) clock)) := by
    simp [Instr.entryStore, MapKept.run_getObj_map h1, asInt, asIntOf, hidx, MapKept.run_setObj_map _ h1, Result.andThen, ChangeMaps.setBlock]
  have hget : ∀ j e, (es.modify i fun e => { e with val := v })[j]? = some e → ∃ e0, es[j]? = some e0 ∧ e.key = e0.key ∧ e.born = e0.born ∧ e.val = if j = i then v else e0.val := fun j e he => by
    rw [Array.getElem?_modify] at he
    by_cases hj : i = j
    · subst hj
      rw [if_pos rfl] at he; obtain ⟨e0, h0, rfl⟩ := Option.map_eq_some_iff.1 he; exact ⟨e0, h0, rfl, rfl, by rw [if_pos rfl]⟩
    · rw [if_neg hj] at he
      exact ⟨e, he, rfl, rfl, by rw [if_neg (fun h => hj h.symm)]⟩
  refine ⟨_, hrun, ⟨es.modify i fun e => { e with val := v }, clock, by simp [ChangeMaps.setBlock, hlt], ?_, fun y hy => ?_, by simp [h4], fun j e he => ?_⟩, setB_but _ _ _, setB_size _ _ _⟩
  · apply List.ext_getElem (by simp [hsz])
    intro j hj1 hj2; have hj : j < es.size := by simpa using hj1
    have hlj : l[j]'(by omega) = (es[j].key, es[j].val) := by
      simp only [← h2, List.getElem_map, Array.getElem_toList]
    simp only [List.getElem_map, Array.getElem_toList, Array.getElem_modify, List.getElem_set]
    by_cases hji : i = j
    · subst hji
      rw [if_pos rfl, if_pos rfl, hlj]
    · rw [if_neg hji, if_neg hji, hlj]
  · obtain ⟨j, hj, rfl⟩ := List.mem_iff_getElem.1 hy
    rw [List.getElem_set]
    split
    · exact h3 l[i] (List.getElem_mem _)
    · exact h3 _ (List.getElem_mem _)
  · obtain ⟨e0, h0, _, hb, _⟩ := hget j e he
    rw [hb]; exact h5 j e0 h0
end
section
variable {P : Program} {k e t : TypeId} {w : World} {ops : Array Oper} {rest : List Oper} {o : Oper} {a : Act} {Q : Exit → Act → World → Prop} {b : Nat} {l : List (Value × Value)}
theorem wpList_entry_am (K : Maps.Keyed P k) (ht : P.underlying t = some (.map k e)) (hw : Region.wanted o (yielded ops a.tmps) = true) (m x : Operand) (hop : o.op = Op.mapEntry t m x) (hm : a.eval m = .map (some b)) (h : AM P k w b l) (X z : Value) {kl : Lit} (hx : a.eval x = X) (hk : keyOf P k X = some kl) (hz : ∀ W, (zeroValue e).run P W = .ok z W) (hno : ∀ y ∈ l, y.1 ≠ X)
    (hK : ∀ w', AM P k w' b (l ++ [(X, z)]) → But b w w' → w'.heap.size = w.heap.size → wpList P ops Q rest (a.put o.dst (.tuple #[z, .int .i64 l.length])) w') : wpList P ops Q (o :: rest) a w := by
  refine wpList_want hw fun K' hK' => ?_; obtain ⟨w', hrun, r1, r2, r3⟩ := h.entry K ht hk (hz w) hno; unfold Oper.wp
  simp [execOp, hop, hm, hx, hrun, Result.andThen]
  exact hK' _ _ (hK w' r1 r2 r3)
theorem wpList_store_am (hw : Region.wanted o (yielded ops a.tmps) = true) (m s v : Operand) (hop : o.op = Op.entryStore t m s v) (hm : a.eval m = .map (some b)) (h : AM P k w b l) (i : Nat) (V : Value) (hi : i < l.length) (hs : a.eval s = .int .i64 i) (hv : a.eval v = V)
    (hK : ∀ w', AM P k w' b (l.set i (l[i].1, V)) → But b w w' → w'.heap.size = w.heap.size → wpList P ops Q rest (a.put o.dst undef) w') : wpList P ops Q (o :: rest) a w := by
  refine wpList_want hw fun K' hK' => ?_; obtain ⟨w', hrun, r1, r2, r3⟩ := h.store (t := t) hi V; unfold Oper.wp
  simp [execOp, hop, hm, hs, hv, hrun, Result.andThen]
  exact hK' _ _ (hK w' r1 r2 r3)
end
end Tt

namespace Tt
open Go Go.RowKit
set_option linter.unusedVariables false
set_option linter.unusedSimpArgs false

structure Mo (S : Nat → Prop) (w w' : World) : Prop where
  os : w'.os = w.os
  tape : w'.tape = w.tape
  output : w'.output = w.output
  size : w.heap.size ≤ w'.heap.size
  block : ∀ k, k < w.heap.size → ¬ S k → w'.heap[k]? = w.heap[k]?
/-- these, and what is new since w -/
def Sx (S : Nat → Prop) (w w' : World) : Nat → Prop := fun k => S k ∨ (w.heap.size ≤ k ∧ k < w'.heap.size)
theorem Mo.refl (S : Nat → Prop) (w : World) : Mo S w w := ⟨rfl, rfl, rfl, Nat.le_refl _, fun _ _ _ => rfl⟩
theorem Mo.trans {S S' : Nat → Prop} {w w' w'' : World} (h : Mo S w w') (k : Mo S' w' w'') (hS : ∀ i, i < w.heap.size → S' i → S i) : Mo S w w'' :=
  ⟨k.os.trans h.os, k.tape.trans h.tape, k.output.trans h.output, Nat.le_trans h.size k.size, fun i hi hn => (k.block i (Nat.lt_of_lt_of_le hi h.size) fun e => hn (hS i hi e)).trans (h.block i hi hn)⟩
theorem Sx.old {S : Nat → Prop} {w w' : World} {i : Nat} (hi : i < w.heap.size) (h : Sx S w w' i) : S i := by
  rcases h with h | h
  · exact h
  · omega
theorem Sx.mono {S : Nat → Prop} {w w' w'' : World} {i : Nat} (h : Sx S w w' i) (hs : w'.heap.size ≤ w''.heap.size) : Sx S w w'' i := by
  rcases h with h | h
  · exact .inl h
  · exact .inr ⟨h.1, by omega⟩
theorem Sx.twice {S : Nat → Prop} {w w' w'' : World} {i : Nat} (h : Sx (Sx S w w') w' w'' i) (h1 : w.heap.size ≤ w'.heap.size) (h2 : w'.heap.size ≤ w''.heap.size) : Sx S w w'' i := by
  rcases h with h | h
  · exact h.mono h2
  · exact .inr ⟨by omega, h.2⟩
theorem Mo.more {S : Nat → Prop} {w w' w'' : World} (h : Mo S w w') (k : Mo (Sx S w w') w' w'') : Mo S w w'' := h.trans k fun _ hi e => e.old hi
theorem Mo.of_below {S : Nat → Prop} {w w' : World} (h : Below w.heap.size w w') : Mo S w w' := ⟨h.os, h.tape, h.output, h.size, fun k hk _ => h.block k hk⟩
theorem Mo.of_but {S : Nat → Prop} {g : Nat} {w w' : World} (h : But g w w') (hg : S g) : Mo S w w' := ⟨h.os, h.tape, h.output, h.size, fun k hk hn => h.block k hk (fun e => hn (e ▸ hg))⟩
theorem Mo.of_grown {S : Nat → Prop} {w w' : World} {row : Option Nat} (h : w.grownBy w' row) (hr : ∀ k, row = some k → S k) : Mo S w w' :=
  ⟨h.os, h.tape, h.output, h.size, fun k hk hn => h.block k hk (fun e => hn (hr k e.symm))⟩
theorem Mo.alloc {S : Nat → Prop} {w w' : World} (h : Mo S w w') (o : Obj) : Mo S w (w'.alloc o) := h.trans (S' := S) (Mo.of_below ((Below.refl _ _).alloc (Nat.le_refl _) _)) fun _ _ e => e
theorem Mo.set {S : Nat → Prop} {w w' : World} (h : Mo S w w') {g : Nat} (hg : S g ∨ w.heap.size ≤ g) (i : Nat) (v : Value) : Mo S w (w'.setCell ⟨g, i, none⟩ v) :=
  ⟨h.os, h.tape, h.output, by have := h.size; simpa using this, fun k hk hn => (Below.heap_setCell w' ⟨g, i, none⟩ v k (by
    show k ≠ g
    rintro rfl
    rcases hg with hg | hg
    · exact hn hg
    · omega)).trans (h.block k hk hn)⟩
theorem Mo.below {S : Nat → Prop} {B : Nat} {w w' : World} (h : Mo S w w') (hB : B ≤ w.heap.size) (hS : ∀ k, k < B → ¬ S k) : Below B w w' := ⟨h.os, h.tape, h.output, h.size, fun k hk => h.block k (by omega) (hS k hk)⟩
theorem Mo.cell {S : Nat → Prop} {w w' : World} (h : Mo S w w') {p : Addr} (h1 : p.block < w.heap.size) (h2 : ¬ S p.block) : w'.cell? p = w.cell? p := by
  unfold World.cell?; rw [h.block _ h1 h2]
theorem Sl.mo {S : Nat → Prop} {w w' : World} {a : Option Addr} {n cap sz : Nat} {cs : List Value} (h : Sl w a n cap sz cs) (m : Mo S w w') (ha : ∀ x, a = some x → ¬ S x.block) : Sl w' a n cap sz cs :=
  ⟨h.len, h.le, h.max, fun i hi => by
    obtain ⟨g, off, e, hlt, hc⟩ := h.lies i hi; exact ⟨g, off, e, Nat.lt_of_lt_of_le hlt m.size, fun j v hv => by rw [m.cell (p := ⟨g, off + j, none⟩) hlt (show ¬ S g from ha _ e)]; exact hc j v hv⟩, h.fit⟩
theorem Blk.mo {S : Nat → Prop} {w w' : World} {g : Nat} {T : TypeId} {cs : Array Value} (h : Blk w g T cs) (m : Mo S w w') (hg : ¬ S g) : Blk w' g T cs := (m.block g h.lt hg).trans h
theorem AM.mo {S : Nat → Prop} {P : Program} {k : TypeId} {w w' : World} {b : Nat} {l : List (Value × Value)} (h : AM P k w b l) (m : Mo S w w') (hg : ¬ S b) : AM P k w' b l := h.same (m.block b h.lt hg)
theorem own_mo {S : Nat → Prop} {w w' : World} {B : Nat} {E : TypeId} {sz : Nat} {v : Value} {n : Nat} {xs : List Value} (h : w.ownsRow B E sz v n xs) (m : Mo S w w') (hv : ∀ k, v.ownBlock = some k → ¬ S k) : w'.ownsRow B E sz v n xs := by
  obtain ⟨hl, hr⟩ := h; refine ⟨hl, ?_⟩
  rcases hr with hn | ⟨g, cap, cur, rfl, hB, hg, r⟩
  · exact .inl hn
  · exact .inr ⟨g, cap, cur, rfl, hB, by rw [m.block g (Array.getElem?_eq_some_iff.1 hg).1 (hv g rfl)]; exact hg, r⟩
theorem or_u32 (a b : Nat) (ha : a < 4294967296) (hb : b < 4294967296) : bits .or .u32 (a : Int) (b : Int) = ((a ||| b : Nat) : Int) := by
  have hx : a ||| b < 2 ^ 32 := Nat.or_lt_two_pow (by omega) (by omega)
  have h1 : (BitVec.ofInt 32 (a : Int)).toNat = a := by rw [BitVec.ofInt_natCast, BitVec.toNat_ofNat]; exact Nat.mod_eq_of_lt (by omega)
  have h2 : (BitVec.ofInt 32 (b : Int)).toNat = b := by rw [BitVec.ofInt_natCast, BitVec.toNat_ofNat]; exact Nat.mod_eq_of_lt (by omega)
  show IntKind.u32.wrap ((BitVec.ofInt 32 (a : Int) ||| BitVec.ofInt 32 (b : Int)).toNat : Int) = _
  rw [BitVec.toNat_or, h1, h2, IntKind.wrap_u32]
  omega
theorem and_u32 (a b : Nat) (ha : a < 4294967296) (hb : b < 4294967296) : bits .and .u32 (a : Int) (b : Int) = ((a &&& b : Nat) : Int) := by
  have hx : a &&& b < 2 ^ 32 := Nat.and_lt_two_pow _ (by omega); have h1 : (BitVec.ofInt 32 (a : Int)).toNat = a := by rw [BitVec.ofInt_natCast, BitVec.toNat_ofNat]; exact Nat.mod_eq_of_lt (by omega)
  have h2 : (BitVec.ofInt 32 (b : Int)).toNat = b := by rw [BitVec.ofInt_natCast, BitVec.toNat_ofNat]; exact Nat.mod_eq_of_lt (by omega)
  show IntKind.u32.wrap ((BitVec.ofInt 32 (a : Int) &&& BitVec.ofInt 32 (b : Int)).toNat : Int) = _
  rw [BitVec.toNat_and, h1, h2, IntKind.wrap_u32]
  omega
theorem low_u32 {x : Int} {k : Nat} (h0 : 0 ≤ x) (h1 : x < 4294967296) (hk : k ≤ 31) : bits .and .u32 x ((2 ^ k - 1) % 4294967296) = x % 2 ^ k := by
  obtain ⟨a, rfl⟩ : ∃ a : Nat, x = a := ⟨x.toNat, by omega⟩; have hp : 2 ^ k ≤ 2 ^ 31 := Nat.pow_le_pow_right (by decide) hk; have hq : 0 < 2 ^ k := Nat.pow_pos (by decide)
  have e : ((2 : Int) ^ k - 1) % 4294967296 = ((2 ^ k - 1 : Nat) : Int) := by
    have e1 : ((2 ^ k : Nat) : Int) = (2 : Int) ^ k := by simp
    rw [← e1]
    omega
  rw [e, and_u32 a _ (by omega) (by omega), Nat.and_two_pow_sub_one_eq_mod]
  simp
/-- what is put behind r, of k bits -/
theorem put_u32 {r v : Int} {m k : Nat} (h0 : 0 ≤ r) (h1 : r < 2 ^ m) (hm : m < 8) (hk : k ≤ 16) :
    bits .or .u32 (r * 2 ^ k % 4294967296) (bits .and .u32 (v % 4294967296) ((2 ^ k - 1) % 4294967296)) = r * 2 ^ k + v % 2 ^ k := by
  rw [low_u32 (Int.emod_nonneg _ (by decide)) (Int.emod_lt_of_pos _ (by decide)) (by omega)]; obtain ⟨a, rfl⟩ : ∃ a : Nat, r = a := ⟨r.toNat, by omega⟩; have hd : (2 : Int) ^ k ∣ 4294967296 := ⟨2 ^ (32 - k), by rw [← Int.pow_add, show k + (32 - k) = 32 by omega]; rfl⟩; rw [Int.emod_emod_of_dvd _ hd]; have hq : (0 : Int) < 2 ^ k := Int.pow_pos (by decide); have h2 := Int.emod_nonneg v (Int.ne_of_gt hq); have h3 := Int.emod_lt_of_pos v hq; obtain ⟨b, hb⟩ : ∃ b : Nat, v % 2 ^ k = b := ⟨(v % 2 ^ k).toNat, by omega⟩; rw [hb] at h2 h3 ⊢; have e1 : ((2 ^ k : Nat) : Int) = (2 : Int) ^ k := by simp
  have e2 : ((2 ^ m : Nat) : Int) = (2 : Int) ^ m := by simp
  rw [← e1] at h3 ⊢; rw [← e2] at h1; have hbn : b < 2 ^ k := by omega
  have han : a < 2 ^ m := by omega
  have hm7 : 2 ^ m ≤ 2 ^ 7 := Nat.pow_le_pow_right (by decide) (by omega); have hk16 : 2 ^ k ≤ 2 ^ 16 := Nat.pow_le_pow_right (by decide) hk; have hle : a * 2 ^ k ≤ 2 ^ 7 * 2 ^ 16 := Nat.mul_le_mul (by omega) hk16
  have e3 : ((a : Int) * ((2 ^ k : Nat) : Int)) % 4294967296 = ((a * 2 ^ k : Nat) : Int) := by
    rw [← Int.natCast_mul]
    omega
  rw [e3, or_u32 _ _ (by omega) (by omega), Nat.mul_comm a, ← Nat.two_pow_add_eq_or_of_lt hbn a, Nat.mul_comm]
  simp [Int.natCast_add, Int.natCast_mul]
end Tt

namespace Tt
open Go Go.RowKit
set_option linter.unusedVariables false
set_option linter.unusedSimpArgs false
theorem fill_one (sz : Nat) (Z B : Array Value) (hZ : Z.size = sz) (hB : B.size = sz) : Instr.fill (fun i => some (i * sz, sz)) Z [(0, .agg B)] = some B := by
  simp only [Instr.fill, Value.cells, Nat.zero_mul, Nat.zero_add]; rw [if_neg (by simp [hZ, hB])]
  congr 1
  apply Array.ext'
  have hF : Array.foldl (fun cs (x : Value × Nat) => cs.setIfInBounds x.snd x.fst) Z B.zipIdx = List.foldl (fun cs (x : Value × Nat) => cs.setIfInBounds (0 + x.snd) x.fst) Z (B.toList.zipIdx) := by
    rw [← Array.foldl_toList]
    simp
  rw [hF, fold_set 0 B.toList 0 Z (by simp [hZ, hB])]
  simp [hZ, hB]
section
variable {P : Program} {ops : Array Oper} {rest : List Oper} {o : Oper} {a : Act} {w : World} {Q : Exit → Act → World → Prop}
theorem wpList_buildOne (hg : o.guard = none) (t e : TypeId) (x : Operand) (ho : o.op = .buildSlice t 1 #[(0, x)]) (B : Array Value) (hx : a.eval x = .agg B) (ie : TypeInfo) (z : Value) (sz : Nat) (hu : P.underlying t = some (.slice e)) (hie : P.info? e = some ie) (hz : ie.zero = some z) (hsz : ie.size = sz) (h0 : 0 < sz) (h1 : sz ≤ 1000) (hB : B.size = sz)
    (h : wpList P ops Q rest (a.put o.dst (.slice (some ⟨w.heap.size, 0, none⟩) 1 1)) (w.alloc (.cells B e))) : wpList P ops Q (o :: rest) a w := by
  subst hsz; refine wpList_buildSlice hg t e 1 #[(0, x)] ho B ie z hu hie hz (by omega) (by omega) ?_ h; have e1 : (#[(0, x)].map fun (i, x) => (i, a.eval x)).toList = [(0, Value.agg B)] := by simp [hx]
  rw [e1]; exact fill_one ie.size _ B (by simp) hB
end
end Tt
namespace Go.Proofs.Ytpjopeojeglogaa
open Go.RowKit Tt
set_option linter.unusedVariables false
set_option linter.unusedSimpArgs false

def sliceLen : Value → Nat
  | .slice _ m _ => m
  | _ => 0
theorem info_ofz {T : TypeId} {sz by_ : Nat} (h1 : (Try.prog.info? T).map (fun i => (i.size, i.bytes)) = some (sz, by_)) (h2 : (Try.prog.info? T).map (fun i => i.zero.map (fun z => z.cells.size)) = some (some sz)) :
    ∃ (i : TypeInfo) (z : Value), Try.prog.info? T = some i ∧ i.zero = some z ∧ i.size = sz ∧ i.bytes = by_ ∧ z.cells.size = sz := by
  cases hi : Try.prog.info? T with
  | none => rw [hi] at h1; cases h1
  | some i =>
    rw [hi] at h1 h2; simp only [Option.map_some, Option.some.injEq, Prod.mk.injEq] at h1 h2
    cases hz : i.zero with
    | none => rw [hz] at h2; cases h2
    | some z =>
      rw [hz] at h2; simp only [Option.map_some, Option.some.injEq] at h2; exact ⟨i, z, rfl, hz, h1.1, h1.2, h2⟩
end Go.Proofs.Ytpjopeojeglogaa

namespace Tt
open Go Go.RowKit Go.BigFrame
set_option linter.unusedVariables false
set_option linter.unusedSimpArgs false
section
variable {P : Program} {ops : Array Oper} {rest : List Oper} {o : Oper} {a : Act} {C : World → Prop} {Q : Act → Prop}
theorem quiet_load_at {K : Act → Prop} (ty : TypeId) (x : Operand) (ho : o.op = .load ty x) (g f : Nat) (hx : a.eval x = .pointer (some ⟨g, f, none⟩)) (cs : List Value) (A : Array Value) (hA : cs.toArray = A) (d : TypeDesc) (hc : ∀ w, C w → ∀ j v, cs[j]? = some v → w.cell? ⟨g, f + j, none⟩ = some v)
    (hu : P.underlying ty = some d) (hd : isAggD d = true) (z : Nat) (hi : (P.info? ty).map (·.size) = some z) (hz : cs.length = z) (hk : K (a.put o.dst (.agg A))) : o.quiet P a C K :=
  ⟨.agg A, fun w hw => by
    unfold Oper.quietAt execOp; simp only [ho, hx, Instr.loadAt, Instr.sureAddr, Sem.run_bind, Sem.run_pure, Result.andThen_ok, run_loadVar_at w g f ty cs d (hc w hw) hu hd (by rw [hz]; exact hi), hA]; exact ⟨rfl, rfl⟩, hk⟩
theorem wpQuiet_load_at (hg : o.guard = none) (ty : TypeId) (x : Operand) (ho : o.op = .load ty x) (g f : Nat) (hx : a.eval x = .pointer (some ⟨g, f, none⟩)) (cs : List Value) (A : Array Value) (hA : cs.toArray = A) (d : TypeDesc) (hc : ∀ w, C w → ∀ j v, cs[j]? = some v → w.cell? ⟨g, f + j, none⟩ = some v)
    (hu : P.underlying ty = some d) (hd : isAggD d = true) (z : Nat) (hi : (P.info? ty).map (·.size) = some z) (hz : cs.length = z) (h : wpQuiet P ops C Q rest (a.put o.dst (.agg A))) : wpQuiet P ops C Q (o :: rest) a :=
  wpQuiet_want (by simp [Region.wanted, hg]) fun K hK => quiet_load_at ty x ho g f hx cs A hA d hc hu hd z hi hz (hK _ h)
end
end Tt
