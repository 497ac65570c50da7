/- Frames: what came in, as the walks take it; the witness of a row that lists a variable. | More general words: a row that the call made and writes; a copy into it; bytes of a conversion. | A block of cells that is known whole (a struct variable). | Only one of the old blocks has turned. -/
import Derived.ProofKit
import Derived.OpenShut
import Derived.ShutString
import Derived.ChangeOld
import Derived.Below
import Derived.SizedLaws
import Derived.LaidMore
import Derived.LaidLaws
import Derived.Stop.Joined
import Derived.Deep.DeepHandedRow
import Derived.Deep.Matrix
import Derived.Test.YtpjopeojeglogaaCa00
import Derived.Test.YtpjopeojeglogaaRows
import Derived.Laws.CopyOwn
import Derived.ArgAppend
import Derived.Laws.ResultCell
import Derived.Laws.Rows
import Derived.StillTail
import Derived.StillTailTactics
import Derived.BigQuiet
import Derived.Deep.RegionLaw
import Derived.Deep.CutRange
import Derived.Deep.Cut
import Derived.BigRegion
import Derived.Lib.SliceRun
namespace Tt
open Go Go.RowKit Go.ChangeShapes Go.WideShapes Go.ChangeAt
set_option linter.unusedVariables false

theorem cell_spot {w : World} {a : Addr} {v : Value} (h : w.cell? a = some v) : a = ⟨a.block, a.off, none⟩ ∧ a.block < w.heap.size := by
  refine ⟨?_, World.block_lt_of_cell? w a h⟩; obtain ⟨b, o, s⟩ := a
  cases s with
  | none => rfl
  | some x => simp [World.cell?] at h; split at h <;> simp_all
theorem add_zero_addr (a : Addr) : a.add 0 = a := rfl
theorem mk_add (b o n : Nat) : (⟨b, o, none⟩ : Addr).add n = ⟨b, o + n, none⟩ := by
  unfold Addr.add
  split
  · next h => rw [h, Nat.add_zero]
  · rfl

/-- A row of cells behind an address reads as a slice. -/
theorem Sl.of_cells {w : World} {x : Addr} {n c : Nat} {vs : List Value} (hn : n ≤ c) (hc : c ≤ maxLen) (hl : vs.length = c) (h : ∀ i v, vs[i]? = some v → w.cell? (x.add i) = some v) : Sl w (some x) n c 1 (vs.take n) := by
  refine ⟨by rw [List.length_take]; omega, hn, hc, fun i hi => ?_, fun he => by cases he⟩; have h0 := h 0 _ (List.getElem?_eq_getElem (show 0 < vs.length by omega)); rw [add_zero_addr] at h0; obtain ⟨e, hlt⟩ := cell_spot h0; refine ⟨x.block, x.off, by rw [← e], hlt, fun j v hj => ?_⟩
  have hj' : vs[j]? = some v := by
    rw [List.getElem?_take] at hj
    split at hj
    · exact hj
    · cases hj
  have := h j v hj'; rw [e, mk_add] at this; exact this

theorem Sl.of_ints {w : World} {k : IntKind} {x : Addr} {n c : Nat} {zs : List Int} (hn : n ≤ c) (hc : c ≤ maxLen) (hl : zs.length = c) (h : ∀ i, i < zs.length → w.cell? (x.add i) = some (.int k (zs.getD i 0))) : Sl w (some x) n c 1 (ints k (zs.take n)) := by
  have := Sl.of_cells (vs := ints k zs) hn hc (by rw [ints_len, hl]) (fun i v hv => by
    have hi : i < zs.length := by
      have := (List.getElem?_eq_some_iff.1 hv).1
      rwa [ints_len] at this
    rw [ints_get hi] at hv; rw [h i hi]; exact hv)
  rwa [show (ints k zs).take n = ints k (zs.take n) by simp [ints, List.map_take]] at this
section
variable {H : Type} {enc : TypeId × Value → H}
end
end Tt

namespace Tt
open Go Go.RowKit

/-- Block g is a row of one-cell elements of type E, holding the numbers 'l'. -/
def Row (w : World) (g : Nat) (E : TypeId) (k : IntKind) (l : List Int) : Prop := w.heap[g]? = some (.cells (ints k l).toArray E (0, 0))
theorem Row.own {w : World} {g B : Nat} {E : TypeId} {k : IntKind} {l : List Int} {n : Nat} (h : Row w g E k l) (hl : l.length = n) (hB : B ≤ g) (hm : n ≤ maxLen) : w.ownsRow B E 1 (.slice (some ⟨g, 0, none⟩) n n) n (ints k l) :=
  ⟨by rw [ints_len, hl, Nat.mul_one], .inr ⟨g, n, _, rfl, hB, h, Nat.le_refl _, hm, by simp [ints_len, hl], by simp; rw [List.take_of_length_le (by rw [ints_len, hl]; exact Nat.le_refl _)]⟩⟩
theorem Row.of_own {w : World} {g B : Nat} {E : TypeId} {k : IntKind} {l : List Int} {n : Nat} (h : w.ownsRow B E 1 (.slice (some ⟨g, 0, none⟩) n n) n (ints k l)) : Row w g E k l := by
  rcases h.2 with ⟨hv, _⟩ | ⟨g', cap, cur, hv, _, hg, _, _, hcs, htk⟩
  · cases hv
  · injection hv with h1 h2 h3
    injection h1 with h1; injection h1 with h1; subst h1 h3; unfold Row; rw [hg, ← htk, List.take_of_length_le (by rw [Array.length_toList, hcs]; exact Nat.le_refl _)]
theorem Row.cell {w : World} {g : Nat} {E : TypeId} {k : IntKind} {l : List Int} (h : Row w g E k l) {i : Nat} (hi : i < l.length) : w.cell? ⟨g, i, none⟩ = some (.int k (l.getD i 0)) := by
  unfold World.cell?; rw [h]
  simpa using ints_get (k := k) hi
theorem Row.frozen {w : World} {g : Nat} {E : TypeId} {k : IntKind} {l : List Int} (h : Row w g E k l) (i : Nat) : w.frozen? ⟨g, i, none⟩ = false := by
  unfold World.frozen?; rw [h]
  simp
theorem Row.set {w : World} {g : Nat} {E : TypeId} {k : IntKind} {l : List Int} (h : Row w g E k l) (i : Nat) (v : Int) : Row (w.setCell ⟨g, i, none⟩ (.int k v)) g E k (l.set i v) := by
  unfold Row at *
  simp [World.setCell, Array.getElem?_modify, h, ints, List.map_set]
theorem Sl.new' {b : Nat} (w : World) (E : TypeId) (sz n : Nat) (cur : Array Value) (fz : Nat × Nat) (hb : b = w.heap.size) (hn : n ≤ 9223372036854775807) (hs : cur.size = n * sz) :
    Sl (w.alloc (.cells cur E fz)) (some ⟨b, 0, none⟩) n n sz cur.toList := by rw [hb]; exact Sl.new w E sz n cur fz hn hs

section
variable {P : Program} {w : World} {ops : Array Oper} {rest : List Oper} {o : Oper} {a : Act} {Q : Exit → Act → World → Prop}
/-- An operation that is wanted, guarded or not. -/
theorem wpList_want (hw : Region.wanted o (yielded ops a.tmps) = true) (h : ∀ K : Act → World → Prop, (∀ a w, wpList P ops Q rest a w → K a w) → o.wp P a w K Q) : wpList P ops Q (o :: rest) a w :=
  wpList_step fun K hK => by rw [if_pos hw]; exact h K hK

end
end Tt

namespace Tt
open Go Go.RowKit
set_option linter.unusedVariables false

def Blk (w : World) (g : Nat) (T : TypeId) (cs : Array Value) : Prop := w.heap[g]? = some (.cells cs T (0, 0))
theorem Blk.lt {w : World} {g : Nat} {T : TypeId} {cs : Array Value} (h : Blk w g T cs) : g < w.heap.size := (Array.getElem?_eq_some_iff.1 h).1
theorem Blk.cell {w : World} {g : Nat} {T : TypeId} {cs : Array Value} (h : Blk w g T cs) {i : Nat} {v : Value} (hv : cs[i]? = some v) : w.cell? ⟨g, i, none⟩ = some v := by
  unfold World.cell?; rw [h]
  simpa using hv
theorem Blk.frozen {w : World} {g : Nat} {T : TypeId} {cs : Array Value} (h : Blk w g T cs) (i : Nat) : w.frozen? ⟨g, i, none⟩ = false := by
  unfold World.frozen?; rw [h]
  simp
theorem Blk.mono {B : Nat} {w w' : World} {g : Nat} {T : TypeId} {cs : Array Value} (h : Blk w g T cs) (hb : Below B w w') (hg : g < B) : Blk w' g T cs := (hb.block g hg).trans h
theorem Blk.late {w w' : World} {g : Nat} {T : TypeId} {cs : Array Value} (h : Blk w g T cs) (hb : Below w.heap.size w w') : Blk w' g T cs := h.mono hb h.lt
theorem Blk.set {w : World} {g : Nat} {T : TypeId} {cs : Array Value} (h : Blk w g T cs) (i : Nat) (v : Value) : Blk (w.setCell ⟨g, i, none⟩ v) g T (cs.setIfInBounds i v) := by
  unfold Blk at *
  simp [World.setCell, Array.getElem?_modify, h]
theorem Blk.set_other {w : World} {g g' : Nat} {T : TypeId} {cs : Array Value} (h : Blk w g T cs) (hne : g ≠ g') (i : Nat) (v : Value) : Blk (w.setCell ⟨g', i, none⟩ v) g T cs :=
  (Below.heap_setCell w ⟨g', i, none⟩ v g hne).trans h
theorem Blk.new (w : World) (T : TypeId) (cs : Array Value) : Blk (w.alloc (.cells cs T (0, 0))) w.heap.size T cs := heap_new w _
theorem Blk.alloc {w : World} {g : Nat} {T : TypeId} {cs : Array Value} (h : Blk w g T cs) (o : Obj) : Blk (w.alloc o) g T cs := (heap_old w o h.lt).trans h
theorem own_set_other {w : World} {B : Nat} {E : TypeId} {sz : Nat} {v : Value} {n : Nat} {xs : List Value} (h : w.ownsRow B E sz v n xs) {g : Nat} (hg : g < B) (i : Nat) (u : Value) : (w.setCell ⟨g, i, none⟩ u).ownsRow B E sz v n xs :=
  own_above h fun k hk _ => Below.heap_setCell w ⟨g, i, none⟩ u k (by show k ≠ g; omega)
end Tt

namespace Tt
open Go Go.RowKit
set_option linter.unusedVariables false

structure But (b : Nat) (w w' : World) : Prop where
  os : w'.os = w.os
  tape : w'.tape = w.tape
  output : w'.output = w.output
  size : w.heap.size ≤ w'.heap.size
  block : ∀ k, k < w.heap.size → k ≠ b → w'.heap[k]? = w.heap[k]?
theorem But.refl (b : Nat) (w : World) : But b w w := ⟨rfl, rfl, rfl, Nat.le_refl _, fun _ _ _ => rfl⟩
theorem But.trans {b : Nat} {w w' w'' : World} (h : But b w w') (k : But b w' w'') : But b w w'' :=
  ⟨k.os.trans h.os, k.tape.trans h.tape, k.output.trans h.output, Nat.le_trans h.size k.size, fun i hi hb => (k.block i (Nat.lt_of_lt_of_le hi h.size) hb).trans (h.block i hi hb)⟩
theorem But.of_below {b : Nat} {w w' : World} (h : Below w.heap.size w w') : But b w w' := ⟨h.os, h.tape, h.output, h.size, fun k hk _ => h.block k hk⟩
theorem But.below {b : Nat} {w w' : World} (h : But b w w') {B : Nat} (h1 : B ≤ b) (h2 : B ≤ w.heap.size) : Below B w w' := ⟨h.os, h.tape, h.output, h.size, fun k hk => h.block k (by omega) (by omega)⟩
theorem But.cell {b : Nat} {w w' : World} (h : But b w w') {p : Addr} (h1 : p.block < w.heap.size) (h2 : p.block ≠ b) : w'.cell? p = w.cell? p := by
  unfold World.cell?; rw [h.block _ h1 h2]
theorem But.set {b : Nat} {w w' : World} (h : But b w w') (i : Nat) (v : Value) : But b w (w'.setCell ⟨b, i, none⟩ v) :=
  h.trans ⟨rfl, rfl, rfl, by simp, fun k _ hk => Below.heap_setCell w' ⟨b, i, none⟩ v k hk⟩
end Tt
