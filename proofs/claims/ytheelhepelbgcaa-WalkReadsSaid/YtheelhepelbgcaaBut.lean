/- Only one of the old blocks has turned. -/
import Derived.Test.YtheelhepelbgcaaL6
namespace Tt
open Go Go.RowKit
set_option linter.unusedVariables false

structure But (b : Nat) (w w' : World) : Prop where
  os : w'.os = w.os
  tape : w'.tape = w.tape
  output : w'.output = w.output
  size : w.heap.size ≤ w'.heap.size
  block : ∀ k, k < w.heap.size → k ≠ b → w'.heap[k]? = w.heap[k]?
theorem But.refl (b : Nat) (w : World) : But b w w := ⟨rfl, rfl, rfl, Nat.le_refl _, fun _ _ _ => rfl⟩
theorem But.trans {b : Nat} {w w' w'' : World} (h : But b w w') (k : But b w' w'') : But b w w'' :=
  ⟨k.os.trans h.os, k.tape.trans h.tape, k.output.trans h.output, Nat.le_trans h.size k.size, fun i hi hb => (k.block i (Nat.lt_of_lt_of_le hi h.size) hb).trans (h.block i hi hb)⟩
theorem But.of_below {b : Nat} {w w' : World} (h : Below w.heap.size w w') : But b w w' := ⟨h.os, h.tape, h.output, h.size, fun k hk _ => h.block k hk⟩
theorem But.later {b : Nat} {w w' w'' : World} (h : But b w w') (k : Below w'.heap.size w' w'') : But b w w'' := h.trans (But.of_below k)
theorem But.alloc {b : Nat} {w w' : World} (h : But b w w') (o : Obj) : But b w (w'.alloc o) := h.trans (But.of_below ((Below.refl _ _).alloc (Nat.le_refl _) _))
theorem But.below {b : Nat} {w w' : World} (h : But b w w') {B : Nat} (h1 : B ≤ b) (h2 : B ≤ w.heap.size) : Below B w w' := ⟨h.os, h.tape, h.output, h.size, fun k hk => h.block k (by omega) (by omega)⟩
theorem But.cell {b : Nat} {w w' : World} (h : But b w w') {p : Addr} (h1 : p.block < w.heap.size) (h2 : p.block ≠ b) : w'.cell? p = w.cell? p := by
  unfold World.cell?; rw [h.block _ h1 h2]
theorem But.frozen {b : Nat} {w w' : World} (h : But b w w') {p : Addr} (h1 : p.block < w.heap.size) (h2 : p.block ≠ b) : w'.frozen? p = w.frozen? p := by
  unfold World.frozen?; rw [h.block _ h1 h2]
theorem But.set {b : Nat} {w w' : World} (h : But b w w') (i : Nat) (v : Value) : But b w (w'.setCell ⟨b, i, none⟩ v) :=
  h.trans ⟨rfl, rfl, rfl, by simp, fun k _ hk => Below.heap_setCell w' ⟨b, i, none⟩ v k hk⟩
/-- a store into a block that is new -/
theorem But.set_new {b : Nat} {w w' : World} (h : But b w w') {g : Nat} (hg : w.heap.size ≤ g) (i : Nat) (v : Value) : But b w (w'.setCell ⟨g, i, none⟩ v) :=
  ⟨h.os, h.tape, h.output, by have := h.size; simpa using this, fun k hk hb => (Below.heap_setCell w' ⟨g, i, none⟩ v k (by show k ≠ g; omega)).trans (h.block k hk hb)⟩
theorem But.qt {b : Nat} {w w' w'' : World} (h : But b w w') (q : Qt w' w'') : But b w w'' := h.later (q.below _)
theorem Sl.but {w w' : World} {a : Option Addr} {n cap sz b : Nat} {cs : List Value} (h : Sl w a n cap sz cs) (hb : But b w w') (ha : ∀ x, a = some x → x.block ≠ b) : Sl w' a n cap sz cs :=
  ⟨h.len, h.le, h.max, fun i hi => by
    obtain ⟨g, off, e, hlt, hc⟩ := h.lies i hi
    have hg : g ≠ b := ha _ e
    exact ⟨g, off, e, Nat.lt_of_lt_of_le hlt hb.size, fun j v hv => by rw [hb.cell (p := ⟨g, off + j, none⟩) hlt hg]; exact hc j v hv⟩, h.fit⟩
theorem Blk.but {b : Nat} {w w' : World} {g : Nat} {T : TypeId} {cs : Array Value} (h : Blk w g T cs) (hb : But b w w') (hg : g ≠ b) : Blk w' g T cs := (hb.block g h.lt hg).trans h
theorem own_but {b : Nat} {w w' : World} {B : Nat} {E : TypeId} {sz : Nat} {v : Value} {n : Nat} {xs : List Value} (h : w.ownsRow B E sz v n xs) (hb : But b w w') (hv : v.ownBlock ≠ some b) : w'.ownsRow B E sz v n xs := by
  obtain ⟨hl, hr⟩ := h
  refine ⟨hl, ?_⟩
  rcases hr with hn | ⟨g, cap, cur, rfl, hB, hg, r⟩
  · exact .inl hn
  · exact .inr ⟨g, cap, cur, rfl, hB, by rw [hb.block g (Array.getElem?_eq_some_iff.1 hg).1 (fun e => hv (by rw [e]; rfl))]; exact hg, r⟩
end Tt
