/- Rows that are owned, of elements of more cells; worlds in which a cell holds a value. -/
import Derived.Test.YtheelhepelbgcaaL9
import Derived.Test.YtheelhepelbgcaaL8
namespace Tt
open Go Go.RowKit
set_option linter.unusedVariables false

theorem own_put {w : World} {B : Nat} {E : TypeId} {sz g n c m : Nat} {xs : List Value} (h : w.ownsRow B E sz (.slice (some ⟨g, 0, none⟩) n c) m xs) (i : Nat) (u : Value) : (w.setCell ⟨g, i, none⟩ u).ownsRow B E sz (.slice (some ⟨g, 0, none⟩) n c) m (xs.set i u) := by
  obtain ⟨hl, hr⟩ := h
  refine ⟨by rw [List.length_set]; exact hl, ?_⟩
  rcases hr with ⟨hv, _⟩ | ⟨g', cap, cur, hv, hB, hg, hnc, hcm, hcs, htk⟩
  · cases hv
  · injection hv with h1 h2 h3
    injection h1 with h1
    injection h1 with h1
    subst h1
    refine .inr ⟨g, cap, cur.setIfInBounds i u, by rw [h2, h3], hB, by simp [World.setCell, Array.getElem?_modify, hg], hnc, hcm, by simp [hcs], ?_⟩
    rw [← htk]
    simp [List.take_set]
theorem own_at {w : World} {B : Nat} {E : TypeId} {sz : Nat} {a : Option Addr} {n c m : Nat} {xs : List Value} (h : w.ownsRow B E sz (.slice a n c) m xs) {i : Nat} (hi : i < n) :
    ∃ g, a = some ⟨g, 0, none⟩ ∧ B ≤ g ∧ g < w.heap.size ∧ (∀ j, w.frozen? ⟨g, j, none⟩ = false) ∧ ∀ j v, xs[j]? = some v → w.cell? ⟨g, j, none⟩ = some v := by
  obtain ⟨hs, hm⟩ := Sl.of_own h
  subst hm
  obtain ⟨b, off, rfl, hlt, hc⟩ := hs.at hi
  rcases h.2 with ⟨hv, _⟩ | ⟨g, cap, cur, hv, hB, hg, _⟩
  · cases hv
  · injection hv with h1 h2 h3
    injection h1 with h1
    injection h1 with h1 h4
    subst h1 h4
    exact ⟨b, rfl, hB, hlt, fun j => by simp [World.frozen?, hg], fun j v hj => by have := hc j v hj; rwa [Nat.zero_add] at this⟩
theorem own_ne {w : World} {B : Nat} {E : TypeId} {sz : Nat} {v : Value} {n : Nat} {xs : List Value} (h : w.ownsRow B E sz v n xs) {g : Nat} (hg : g < B) : v.ownBlock ≠ some g := fun e => by
  have := (h.lt g e).1
  omega
theorem cell_worlds (p : Addr) (v : Value) (w : World) (h : w.cell? p = some v) : ∃ (S : Type) (f : S → World), Nonempty S ∧ (∀ s, (f s).cell? p = some v) ∧ ∀ W, W.cell? p = some v → ∃ s, W = f s :=
  ⟨{W : World // W.cell? p = some v}, Subtype.val, ⟨⟨w, h⟩⟩, fun s => s.2, fun W h => ⟨⟨W, h⟩, rfl⟩⟩
theorem grown_at {wr W w5 : World} {B : Nat} {E : TypeId} {sz : Nat} {v : Value} {n : Nat} {xs : List Value} (hown : wr.ownsRow B E sz v n xs) (hg : W.grownBy w5 v.ownBlock) {g i : Nat} {u : Value} (hge : wr.heap.size ≤ g) (hlt : g < W.heap.size) (hc : W.cell? ⟨g, i, none⟩ = some u) : w5.cell? ⟨g, i, none⟩ = some u := by
  unfold World.cell? at hc ⊢
  rw [hg.block g hlt (fun e => by have := (hown.lt g e.symm).2; omega)]
  exact hc
theorem new_at2 (wr : World) (cs : Array Value) (T : TypeId) (q : Obj) {i : Nat} {u : Value} (h : cs[i]? = some u) : ((wr.alloc (.cells cs T)).alloc q).cell? ⟨wr.heap.size, i, none⟩ = some u := by
  unfold World.cell?
  rw [heap_old _ _ (show wr.heap.size < (wr.alloc (.cells cs T)).heap.size by simp), heap_new]
  exact h
theorem set_twice (w : World) (g o : Nat) (v v' : Value) : (w.setCell ⟨g, o, none⟩ v).setCell ⟨g, o, none⟩ v' = w.setCell ⟨g, o, none⟩ v' := by
  simp only [World.setCell]
  congr 1
  apply Array.ext_getElem?
  intro i
  simp only [Array.getElem?_modify]
  split
  · cases w.heap[i]? with
    | none => rfl
    | some x => cases x <;> simp
  · rfl
end Tt
