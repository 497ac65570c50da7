/- A block of cells that is known whole (a struct variable). -/
import Derived.Test.YtheelhepelbgcaaL5
import Derived.Laws.ResultCell
import Derived.Laws.Rows
namespace Tt
open Go Go.RowKit
set_option linter.unusedVariables false

def Blk (w : World) (g : Nat) (T : TypeId) (cs : Array Value) : Prop := w.heap[g]? = some (.cells cs T (0, 0))
theorem Blk.lt {w : World} {g : Nat} {T : TypeId} {cs : Array Value} (h : Blk w g T cs) : g < w.heap.size := (Array.getElem?_eq_some_iff.1 h).1
theorem Blk.cell {w : World} {g : Nat} {T : TypeId} {cs : Array Value} (h : Blk w g T cs) {i : Nat} {v : Value} (hv : cs[i]? = some v) : w.cell? ⟨g, i, none⟩ = some v := by
  unfold World.cell?
  rw [h]
  simpa using hv
theorem Blk.frozen {w : World} {g : Nat} {T : TypeId} {cs : Array Value} (h : Blk w g T cs) (i : Nat) : w.frozen? ⟨g, i, none⟩ = false := by
  unfold World.frozen?
  rw [h]
  simp
theorem Blk.mono {B : Nat} {w w' : World} {g : Nat} {T : TypeId} {cs : Array Value} (h : Blk w g T cs) (hb : Below B w w') (hg : g < B) : Blk w' g T cs := (hb.block g hg).trans h
theorem Blk.late {w w' : World} {g : Nat} {T : TypeId} {cs : Array Value} (h : Blk w g T cs) (hb : Below w.heap.size w w') : Blk w' g T cs := h.mono hb h.lt
theorem Blk.set {w : World} {g : Nat} {T : TypeId} {cs : Array Value} (h : Blk w g T cs) (i : Nat) (v : Value) : Blk (w.setCell ⟨g, i, none⟩ v) g T (cs.setIfInBounds i v) := by
  unfold Blk at *
  simp [World.setCell, Array.getElem?_modify, h]
theorem Blk.set_other {w : World} {g g' : Nat} {T : TypeId} {cs : Array Value} (h : Blk w g T cs) (hne : g ≠ g') (i : Nat) (v : Value) : Blk (w.setCell ⟨g', i, none⟩ v) g T cs :=
  (Below.heap_setCell w ⟨g', i, none⟩ v g hne).trans h
theorem Blk.new (w : World) (T : TypeId) (cs : Array Value) : Blk (w.alloc (.cells cs T (0, 0))) w.heap.size T cs := heap_new w _
theorem Blk.alloc {w : World} {g : Nat} {T : TypeId} {cs : Array Value} (h : Blk w g T cs) (o : Obj) : Blk (w.alloc o) g T cs := (heap_old w o h.lt).trans h
theorem own_set_other {w : World} {B : Nat} {E : TypeId} {sz : Nat} {v : Value} {n : Nat} {xs : List Value} (h : w.ownsRow B E sz v n xs) {g : Nat} (hg : g < B) (i : Nat) (u : Value) : (w.setCell ⟨g, i, none⟩ u).ownsRow B E sz v n xs :=
  own_above h fun k hk _ => Below.heap_setCell w ⟨g, i, none⟩ u k (by show k ≠ g; omega)
/-- What lies above a block stays, whatever is stored in that block. -/
theorem sl_set_other {w : World} {a : Option Addr} {n c sz B : Nat} {cs : List Value} (h : Sl w a n c sz cs) (ha : ∀ x, a = some x → B ≤ x.block) {g : Nat} (hg : g < B) (i : Nat) (u : Value) : Sl (w.setCell ⟨g, i, none⟩ u) a n c sz cs :=
  ⟨h.len, h.le, h.max, fun k hk => by
    obtain ⟨b, o, rfl, hb, hc⟩ := h.lies k hk
    have hbB := ha _ rfl
    refine ⟨b, o, rfl, by simpa using hb, fun j v hj => ?_⟩
    have hne : (⟨g, i, none⟩ : Addr) ≠ ⟨b, o + j, none⟩ := by intro he; injection he with h1 _; simp only at hbB; omega
    exact (World.cell?_setCell_other _ _ _ _ hne).trans (hc j v hj), h.fit⟩
theorem sl_set3 {w : World} {a : Option Addr} {n c sz B : Nat} {cs : List Value} (h : Sl w a n c sz cs) (ha : ∀ x, a = some x → B ≤ x.block) {g : Nat} (hg : g < B) (x y z : Value) : Sl (((w.setCell ⟨g, 0, none⟩ x).setCell ⟨g, 1, none⟩ y).setCell ⟨g, 2, none⟩ z) a n c sz cs :=
  sl_set_other (sl_set_other (sl_set_other h ha hg 0 x) ha hg 1 y) ha hg 2 z
/-- Three cells stored, one behind the other. -/
theorem Blk.set3 {w : World} {g : Nat} {T : TypeId} {x y z : Value} (h : Blk w g T #[x, y, z]) (a b c : Value) : Blk (((w.setCell ⟨g, 0, none⟩ a).setCell ⟨g, 1, none⟩ b).setCell ⟨g, 2, none⟩ c) g T #[a, b, c] := ((h.set 0 a).set 1 b).set 2 c
theorem below_set3 {B : Nat} {a w : World} (h : Below B a w) {g : Nat} (hg : B ≤ g) (x y z : Value) : Below B a (((w.setCell ⟨g, 0, none⟩ x).setCell ⟨g, 1, none⟩ y).setCell ⟨g, 2, none⟩ z) := ((h.setCell hg _).setCell hg _).setCell hg _
theorem own_set3 {w : World} {B : Nat} {E : TypeId} {sz : Nat} {v : Value} {n : Nat} {xs : List Value} (h : w.ownsRow B E sz v n xs) {g : Nat} (hg : g < B) (x y z : Value) : (((w.setCell ⟨g, 0, none⟩ x).setCell ⟨g, 1, none⟩ y).setCell ⟨g, 2, none⟩ z).ownsRow B E sz v n xs := own_set_other (own_set_other (own_set_other h hg 0 x) hg 1 y) hg 2 z
theorem Blk.set4 {w : World} {g : Nat} {T : TypeId} {x y z u : Value} (h : Blk w g T #[x, y, z, u]) (a b c d : Value) : Blk ((((w.setCell ⟨g, 0, none⟩ a).setCell ⟨g, 1, none⟩ b).setCell ⟨g, 2, none⟩ c).setCell ⟨g, 3, none⟩ d) g T #[a, b, c, d] := (((h.set 0 a).set 1 b).set 2 c).set 3 d
theorem below_set4 {B : Nat} {a w : World} (h : Below B a w) {g : Nat} (hg : B ≤ g) (x y z u : Value) : Below B a ((((w.setCell ⟨g, 0, none⟩ x).setCell ⟨g, 1, none⟩ y).setCell ⟨g, 2, none⟩ z).setCell ⟨g, 3, none⟩ u) := (below_set3 h hg x y z).setCell hg _
theorem sl_set4 {w : World} {a : Option Addr} {n c sz B : Nat} {cs : List Value} (h : Sl w a n c sz cs) (ha : ∀ x, a = some x → B ≤ x.block) {g : Nat} (hg : g < B) (x y z u : Value) : Sl ((((w.setCell ⟨g, 0, none⟩ x).setCell ⟨g, 1, none⟩ y).setCell ⟨g, 2, none⟩ z).setCell ⟨g, 3, none⟩ u) a n c sz cs :=
  sl_set_other (sl_set3 h ha hg x y z) ha hg 3 u
theorem results_blk_tmp {P : Program} {fn : Func} {p u : Tmp} {ty : TypeId} (h : fn.results = #[.cell p ty, .tmp u]) (tmps : Array Value) (w : World) (g : Nat) (t : TypeId) (cs : Array Value) (d : TypeDesc)
    (hp : tmps.getD p undef = .pointer (some ⟨g, 0, none⟩)) (hg : Blk w g t cs)
    (hu : P.underlying ty = some d) (hd : (match d with | .struct _ | .array _ _ => true | _ => false) = true) (hi : (P.info? ty).map (·.size) = some cs.size) :
    (results fn tmps).run P w = .ok (.tuple #[.agg cs, tmps.getD u undef]) w := by
  rw [results_cell_tmp h, hp]
  simp [asAddr, Result.andThen, run_loadVar_row w g t ty cs (0, 0) d hg hu hd hi]
/-- A drawn region whose operations yield the same values in every world of a class, and leave it. -/
theorem wp_quiet_in {P : Program} {S : Type} (f : S → World) {id : Nat} {Q : Exit → Act → World → Prop} {a : Act} {w : World} {l : List Oper} (hm : P.follows .mixedOrders = true) (hB : Region.lexB .any l.toArray = true)
    (hC : ∃ s, w.drew = f s) (h : wpQuiet P l.toArray (fun W => ∃ s, W = f s) (fun a' => ∀ s, Q .normal a' (f s)) l a) : (Code.region id l.toArray true).wp P Q a w := by
  refine wp_region_quiet (C := fun W => ∃ s, W = f s) hm hB hC ?_
  have : (fun a' => ∀ s, Q .normal a' (f s)) = (fun a' => ∀ w', (∃ s, w' = f s) → Q .normal a' w') := by
    funext a'
    apply propext
    exact ⟨fun h w' ⟨s, e⟩ => e ▸ h s, fun h s => h _ ⟨s, rfl⟩⟩
  rw [this] at h
  simpa using h
theorem later_worlds (w : World) : ∃ (S : Type) (f : S → World), Nonempty S ∧ (∀ s, Below w.heap.size w (f s)) ∧ ∀ W, Below w.heap.size w W → ∃ s, W = f s :=
  ⟨{W // Below w.heap.size w W}, Subtype.val, ⟨⟨w, Below.refl _ _⟩⟩, fun s => s.2, fun W h => ⟨⟨W, h⟩, rfl⟩⟩
end Tt
