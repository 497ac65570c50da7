/- More general words: a row that the call made and writes; a copy into it; bytes of a conversion. | A block of cells that is known whole (a struct variable). | Only one of the old blocks has turned. | Sub-slices, with what block they lie in; stores. -/
import Derived.Laws.CopyOwn
import Derived.ArgAppend
import Derived.Test.YtpjopeojeglogaaCc00
import Derived.Laws.ResultCell
import Derived.Laws.Rows
import Derived.StillTail
import Derived.StillTailTactics
import Derived.BigQuiet
import Derived.Deep.RegionLaw
import Derived.Deep.CutRange
import Derived.Deep.Cut
import Derived.BigRegion
import Derived.Lib.SliceRun
namespace Tt
open Go Go.RowKit

/-- Block g is a row of one-cell elements of type E, holding the numbers 'l'. -/
def Row (w : World) (g : Nat) (E : TypeId) (k : IntKind) (l : List Int) : Prop := w.heap[g]? = some (.cells (ints k l).toArray E (0, 0))
theorem Row.own {w : World} {g B : Nat} {E : TypeId} {k : IntKind} {l : List Int} {n : Nat} (h : Row w g E k l) (hl : l.length = n) (hB : B ≤ g) (hm : n ≤ maxLen) : w.ownsRow B E 1 (.slice (some ⟨g, 0, none⟩) n n) n (ints k l) :=
  ⟨by rw [ints_len, hl, Nat.mul_one], .inr ⟨g, n, _, rfl, hB, h, Nat.le_refl _, hm, by simp [ints_len, hl], by simp; rw [List.take_of_length_le (by rw [ints_len, hl]; exact Nat.le_refl _)]⟩⟩
theorem Row.of_own {w : World} {g B : Nat} {E : TypeId} {k : IntKind} {l : List Int} {n : Nat} (h : w.ownsRow B E 1 (.slice (some ⟨g, 0, none⟩) n n) n (ints k l)) : Row w g E k l := by
  rcases h.2 with ⟨hv, _⟩ | ⟨g', cap, cur, hv, _, hg, _, _, hcs, htk⟩
  · cases hv
  · injection hv with h1 h2 h3
    injection h1 with h1; injection h1 with h1; subst h1 h3; unfold Row; rw [hg, ← htk, List.take_of_length_le (by rw [Array.length_toList, hcs]; exact Nat.le_refl _)]
theorem Row.cell {w : World} {g : Nat} {E : TypeId} {k : IntKind} {l : List Int} (h : Row w g E k l) {i : Nat} (hi : i < l.length) : w.cell? ⟨g, i, none⟩ = some (.int k (l.getD i 0)) := by
  unfold World.cell?; rw [h]
  simpa using ints_get (k := k) hi
theorem Row.frozen {w : World} {g : Nat} {E : TypeId} {k : IntKind} {l : List Int} (h : Row w g E k l) (i : Nat) : w.frozen? ⟨g, i, none⟩ = false := by
  unfold World.frozen?; rw [h]
  simp
theorem Row.set {w : World} {g : Nat} {E : TypeId} {k : IntKind} {l : List Int} (h : Row w g E k l) (i : Nat) (v : Int) : Row (w.setCell ⟨g, i, none⟩ (.int k v)) g E k (l.set i v) := by
  unfold Row at *
  simp [World.setCell, Array.getElem?_modify, h, ints, List.map_set]
theorem Sl.new' {b : Nat} (w : World) (E : TypeId) (sz n : Nat) (cur : Array Value) (fz : Nat × Nat) (hb : b = w.heap.size) (hn : n ≤ 9223372036854775807) (hs : cur.size = n * sz) :
    Sl (w.alloc (.cells cur E fz)) (some ⟨b, 0, none⟩) n n sz cur.toList := by rw [hb]; exact Sl.new w E sz n cur fz hn hs

section
variable {P : Program} {w : World} {ops : Array Oper} {rest : List Oper} {o : Oper} {a : Act} {Q : Exit → Act → World → Prop}
/-- An operation that is wanted, guarded or not. -/
theorem wpList_want (hw : Region.wanted o (yielded ops a.tmps) = true) (h : ∀ K : Act → World → Prop, (∀ a w, wpList P ops Q rest a w → K a w) → o.wp P a w K Q) : wpList P ops Q (o :: rest) a w :=
  wpList_step fun K hK => by rw [if_pos hw]; exact h K hK

end
end Tt

namespace Tt
open Go Go.RowKit
set_option linter.unusedVariables false

def Blk (w : World) (g : Nat) (T : TypeId) (cs : Array Value) : Prop := w.heap[g]? = some (.cells cs T (0, 0))
theorem Blk.lt {w : World} {g : Nat} {T : TypeId} {cs : Array Value} (h : Blk w g T cs) : g < w.heap.size := (Array.getElem?_eq_some_iff.1 h).1
theorem Blk.cell {w : World} {g : Nat} {T : TypeId} {cs : Array Value} (h : Blk w g T cs) {i : Nat} {v : Value} (hv : cs[i]? = some v) : w.cell? ⟨g, i, none⟩ = some v := by
  unfold World.cell?; rw [h]
  simpa using hv
theorem Blk.frozen {w : World} {g : Nat} {T : TypeId} {cs : Array Value} (h : Blk w g T cs) (i : Nat) : w.frozen? ⟨g, i, none⟩ = false := by
  unfold World.frozen?; rw [h]
  simp
theorem Blk.mono {B : Nat} {w w' : World} {g : Nat} {T : TypeId} {cs : Array Value} (h : Blk w g T cs) (hb : Below B w w') (hg : g < B) : Blk w' g T cs := (hb.block g hg).trans h
theorem Blk.late {w w' : World} {g : Nat} {T : TypeId} {cs : Array Value} (h : Blk w g T cs) (hb : Below w.heap.size w w') : Blk w' g T cs := h.mono hb h.lt
theorem Blk.set {w : World} {g : Nat} {T : TypeId} {cs : Array Value} (h : Blk w g T cs) (i : Nat) (v : Value) : Blk (w.setCell ⟨g, i, none⟩ v) g T (cs.setIfInBounds i v) := by
  unfold Blk at *
  simp [World.setCell, Array.getElem?_modify, h]
theorem Blk.set_other {w : World} {g g' : Nat} {T : TypeId} {cs : Array Value} (h : Blk w g T cs) (hne : g ≠ g') (i : Nat) (v : Value) : Blk (w.setCell ⟨g', i, none⟩ v) g T cs :=
  (Below.heap_setCell w ⟨g', i, none⟩ v g hne).trans h
theorem Blk.new (w : World) (T : TypeId) (cs : Array Value) : Blk (w.alloc (.cells cs T (0, 0))) w.heap.size T cs := heap_new w _
theorem Blk.alloc {w : World} {g : Nat} {T : TypeId} {cs : Array Value} (h : Blk w g T cs) (o : Obj) : Blk (w.alloc o) g T cs := (heap_old w o h.lt).trans h
theorem own_set_other {w : World} {B : Nat} {E : TypeId} {sz : Nat} {v : Value} {n : Nat} {xs : List Value} (h : w.ownsRow B E sz v n xs) {g : Nat} (hg : g < B) (i : Nat) (u : Value) : (w.setCell ⟨g, i, none⟩ u).ownsRow B E sz v n xs :=
  own_above h fun k hk _ => Below.heap_setCell w ⟨g, i, none⟩ u k (by show k ≠ g; omega)
theorem results_blk_tmp {P : Program} {fn : Func} {p u : Tmp} {ty : TypeId} (h : fn.results = #[.cell p ty, .tmp u]) (tmps : Array Value) (w : World) (g : Nat) (t : TypeId) (cs : Array Value) (d : TypeDesc)
    (hp : tmps.getD p undef = .pointer (some ⟨g, 0, none⟩)) (hg : Blk w g t cs)
    (hu : P.underlying ty = some d) (hd : (match d with | .struct _ | .array _ _ => true | _ => false) = true) (hi : (P.info? ty).map (·.size) = some cs.size) :
    (results fn tmps).run P w = .ok (.tuple #[.agg cs, tmps.getD u undef]) w := by
  rw [results_cell_tmp h, hp]
  simp [asAddr, Result.andThen, run_loadVar_row w g t ty cs (0, 0) d hg hu hd hi]
end Tt

namespace Tt
open Go Go.RowKit
set_option linter.unusedVariables false

structure But (b : Nat) (w w' : World) : Prop where
  os : w'.os = w.os
  tape : w'.tape = w.tape
  output : w'.output = w.output
  size : w.heap.size ≤ w'.heap.size
  block : ∀ k, k < w.heap.size → k ≠ b → w'.heap[k]? = w.heap[k]?
theorem But.refl (b : Nat) (w : World) : But b w w := ⟨rfl, rfl, rfl, Nat.le_refl _, fun _ _ _ => rfl⟩
theorem But.trans {b : Nat} {w w' w'' : World} (h : But b w w') (k : But b w' w'') : But b w w'' :=
  ⟨k.os.trans h.os, k.tape.trans h.tape, k.output.trans h.output, Nat.le_trans h.size k.size, fun i hi hb => (k.block i (Nat.lt_of_lt_of_le hi h.size) hb).trans (h.block i hi hb)⟩
theorem But.of_below {b : Nat} {w w' : World} (h : Below w.heap.size w w') : But b w w' := ⟨h.os, h.tape, h.output, h.size, fun k hk _ => h.block k hk⟩
theorem But.below {b : Nat} {w w' : World} (h : But b w w') {B : Nat} (h1 : B ≤ b) (h2 : B ≤ w.heap.size) : Below B w w' := ⟨h.os, h.tape, h.output, h.size, fun k hk => h.block k (by omega) (by omega)⟩
theorem But.cell {b : Nat} {w w' : World} (h : But b w w') {p : Addr} (h1 : p.block < w.heap.size) (h2 : p.block ≠ b) : w'.cell? p = w.cell? p := by
  unfold World.cell?; rw [h.block _ h1 h2]
theorem But.set {b : Nat} {w w' : World} (h : But b w w') (i : Nat) (v : Value) : But b w (w'.setCell ⟨b, i, none⟩ v) :=
  h.trans ⟨rfl, rfl, rfl, by simp, fun k _ hk => Below.heap_setCell w' ⟨b, i, none⟩ v k hk⟩
theorem Sl.but {w w' : World} {a : Option Addr} {n cap sz b : Nat} {cs : List Value} (h : Sl w a n cap sz cs) (hb : But b w w') (ha : ∀ x, a = some x → x.block ≠ b) : Sl w' a n cap sz cs :=
  ⟨h.len, h.le, h.max, fun i hi => by
    obtain ⟨g, off, e, hlt, hc⟩ := h.lies i hi; have hg : g ≠ b := ha _ e; exact ⟨g, off, e, Nat.lt_of_lt_of_le hlt hb.size, fun j v hv => by rw [hb.cell (p := ⟨g, off + j, none⟩) hlt hg]; exact hc j v hv⟩, h.fit⟩
theorem Blk.but {b : Nat} {w w' : World} {g : Nat} {T : TypeId} {cs : Array Value} (h : Blk w g T cs) (hb : But b w w') (hg : g ≠ b) : Blk w' g T cs := (hb.block g h.lt hg).trans h
theorem own_but {b : Nat} {w w' : World} {B : Nat} {E : TypeId} {sz : Nat} {v : Value} {n : Nat} {xs : List Value} (h : w.ownsRow B E sz v n xs) (hb : But b w w') (hv : v.ownBlock ≠ some b) : w'.ownsRow B E sz v n xs := by
  obtain ⟨hl, hr⟩ := h; refine ⟨hl, ?_⟩
  rcases hr with hn | ⟨g, cap, cur, rfl, hB, hg, r⟩
  · exact .inl hn
  · exact .inr ⟨g, cap, cur, rfl, hB, by rw [hb.block g (Array.getElem?_eq_some_iff.1 hg).1 (fun e => hv (by rw [e]; rfl))]; exact hg, r⟩
end Tt

namespace Tt
open Go Go.RowKit
set_option linter.unusedVariables false

theorem add_block (a : Addr) (k : Nat) : (a.add k).block = a.block := by
  unfold Addr.add
  split <;> rfl
/-- the slice value lies where the other one does -/
def In (a2 a : Option Addr) : Prop := ∀ x, a2 = some x → ∃ y, a = some y ∧ y.block = x.block
theorem In.ne {a2 a : Option Addr} {g : Nat} (h : In a2 a) (ha : ∀ x, a = some x → x.block ≠ g) : ∀ x, a2 = some x → x.block ≠ g := fun x hx => by
  obtain ⟨y, h1, h2⟩ := h x hx; rw [← h2]; exact ha y h1
theorem In.sub (a : Option Addr) (c l k : Nat) : In (if c = l then a else a.map (·.add k)) a := fun x hx => by
  split at hx
  · exact ⟨x, hx, rfl⟩
  · cases a with
    | none => cases hx
    | some y =>
      simp only [Option.map_some, Option.some.injEq] at hx; exact ⟨y, rfl, by rw [← hx, add_block]⟩
section
variable {P : Program} {T E : TypeId} {sz : Nat} (ht : P.underlying T = some (.slice E)) (hE : ∀ w, (Go.sizeOf E).run P w = .ok sz w)
include ht hE
theorem sub_h {w : World} {a : Option Addr} {n c : Nat} {cs : List Value} (h : Sl w a n c sz cs) (hi : Int) (h1 : 0 ≤ hi) (h2 : hi ≤ n) (n2 : Nat) (hn2 : (n2 : Int) = hi) :
    ∃ a2, (∀ W, (Instr.sliceAt T (.slice a n c) none (some (.int .i64 hi)) none).run P W = .ok (.slice a2 n2 c) W) ∧ Sl w a2 n2 c sz (cs.take (n2 * sz)) ∧ In a2 a := by
  have he : P.elem T = E := by unfold Program.elem; rw [ht]
  have hle := h.le; have hs := sl_sub h 0 hi.toNat (by omega) (by omega) n2 c (by omega) (by omega); rw [Nat.zero_mul, List.drop_zero] at hs; refine ⟨_, fun W => ?_, hs, In.sub _ _ _ _⟩; rw [run_sliceAt_slice (h := by rw [he]; exact ht), run_slice_h (ht := by rw [he]; exact ht) (h0 := h1) (h2 := by omega), he, hE]; simp only [Result.andThen, sliced, Nat.zero_mul]
  congr 2; omega
theorem sub_l {w : World} {a : Option Addr} {n c : Nat} {cs : List Value} (h : Sl w a n c sz cs) (l : Int) (h0 : 0 ≤ l) (h1 : l ≤ n) (n2 c2 : Nat) (hn2 : (n2 : Int) = n - l) (hc2 : (c2 : Int) = c - l) :
    ∃ a2, (∀ W, (Instr.sliceAt T (.slice a n c) (some (.int .i64 l)) none none).run P W = .ok (.slice a2 n2 c2) W) ∧ Sl w a2 n2 c2 sz (cs.drop (l.toNat * sz)) ∧ In a2 a := by
  have he : P.elem T = E := by unfold Program.elem; rw [ht]
  have hle := h.le; have hs := sl_sub h l.toNat n (by omega) (by omega) n2 c2 (by omega) (by omega); rw [List.take_of_length_le (by rw [List.length_drop, h.len, show n2 = n - l.toNat by omega, Nat.sub_mul]; omega)] at hs; refine ⟨_, fun W => ?_, hs, In.sub _ _ _ _⟩; rw [run_sliceAt_slice (h := by rw [he]; exact ht), run_slice_l (ht := by rw [he]; exact ht) (h0 := h0) (h1 := by omega), he, hE]; simp only [Result.andThen, sliced]
  congr 2 <;> omega
end
end Tt
