/- Chapter 5: the zigzag: the document's Before, Place; what the copies are step by step (plain). | Boxes: a few blocks laid one behind the other: of whatever program. | Chapter 5: the document's To, From. -/
import Derived.Test.YtpjopeojeglogaaCc01
import Derived.Test.YtpjopeojeglogaaCc12
import Derived.Test.YtpjopeojeglogaaCc03
import Derived.ArgAppend
import Derived.Test.YtpjopeojeglogaaCc04
namespace Go.Proofs.Ytpjopeojeglogaa
open Go.RowKit Tt
set_option linter.unusedVariables false
set_option linter.unusedSimpArgs false

/-- a copy by places, and one to places, when n numbers have been copied -/
def gath (p : List Nat) (t : List Int) (n : Nat) : List Int := (List.range 64).map fun j => if j < n then t.getD (p.getD j 0) 0 else 0
def scat (p : List Nat) (t : List Int) (n : Nat) : List Int := (List.range 64).map fun j => if p.getD j 0 < n then t.getD (p.getD j 0) 0 else 0
theorem gath_len (p : List Nat) (t : List Int) (n : Nat) : (gath p t n).length = 64 := by simp [gath]
theorem scat_len (p : List Nat) (t : List Int) (n : Nat) : (scat p t n).length = 64 := by simp [scat]
theorem gath_get (p : List Nat) (t : List Int) (n : Nat) {j : Nat} (hj : j < 64) : (gath p t n).getD j 0 = if j < n then t.getD (p.getD j 0) 0 else 0 := by
  unfold gath; rw [List.getD_eq_getElem?_getD, List.getElem?_map, List.getElem?_range hj]
  rfl
theorem scat_get (p : List Nat) (t : List Int) (n : Nat) {j : Nat} (hj : j < 64) : (scat p t n).getD j 0 = if p.getD j 0 < n then t.getD (p.getD j 0) 0 else 0 := by
  unfold scat; rw [List.getD_eq_getElem?_getD, List.getElem?_map, List.getElem?_range hj]
  rfl
theorem set_get {l : List Int} {i j : Nat} (hi : i < l.length) (x : Int) : (l.set i x).getD j 0 = if j = i then x else l.getD j 0 := by
  rw [List.getD_eq_getElem?_getD, List.getElem?_set, List.getD_eq_getElem?_getD]
  by_cases h : i = j
  · subst h; simp [hi]
  · simp [h, Ne.symm h]
theorem zeros64 (p : List Nat) (t : List Int) : gath p t 0 = List.replicate 64 0 ∧ scat p t 0 = List.replicate 64 0 := by
  constructor
  · refine ext64 (gath_len _ _ _) (by simp) fun i hi => ?_
    rw [gath_get _ _ _ hi, if_neg (by omega), List.getD_eq_getElem?_getD, List.getElem?_replicate, if_pos hi]; rfl
  · refine ext64 (scat_len _ _ _) (by simp) fun i hi => ?_
    rw [scat_get _ _ _ hi, if_neg (by omega), List.getD_eq_getElem?_getD, List.getElem?_replicate, if_pos hi]; rfl
theorem gath_step (p : List Nat) (t : List Int) {n : Nat} (hn : n < 64) : (gath p t n).set n (t.getD (p.getD n 0) 0) = gath p t (n + 1) := by
  refine ext64 (by rw [List.length_set, gath_len]) (gath_len _ _ _) fun i hi => ?_; rw [set_get (by rw [gath_len]; exact hn), gath_get _ _ _ hi, gath_get _ _ _ hi]
  by_cases h : i = n
  · subst h; rw [if_pos rfl, if_pos (by omega)]
  · rw [if_neg h]
    by_cases h2 : i < n
    · rw [if_pos h2, if_pos (by omega)]
    · rw [if_neg h2, if_neg (by omega)]
theorem scat_step (p q : List Nat) (t : List Int) {n : Nat} (hn : n < 64) (hq : q.getD n 0 < 64) (h1 : p.getD (q.getD n 0) 0 = n) (h2 : ∀ i, i < 64 → q.getD (p.getD i 0) 0 = i) : (scat p t n).set (q.getD n 0) (t.getD n 0) = scat p t (n + 1) := by
  refine ext64 (by rw [List.length_set, scat_len]) (scat_len _ _ _) fun i hi => ?_; rw [set_get (by rw [scat_len]; exact hq), scat_get _ _ _ hi, scat_get _ _ _ hi]
  by_cases h : i = q.getD n 0
  · rw [if_pos h, h, h1, if_pos (by omega)]
  · have hne : p.getD i 0 ≠ n := fun e => h (by rw [← h2 i hi, e])
    rw [if_neg h]
    by_cases h3 : p.getD i 0 < n
    · rw [if_pos h3, if_pos (by omega)]
    · rw [if_neg h3, if_neg (by omega)]
theorem gath_toZ (t : List Int) : gath zzL t 64 = toZ t := ext64 (gath_len _ _ _) (toZ_len _) fun i hi => by rw [gath_get _ _ _ hi, toZ_get _ hi, if_pos hi]
theorem scat_frZ (t : List Int) : scat zzI t 64 = frZ t := ext64 (scat_len _ _ _) (frZ_len _) fun i hi => by rw [scat_get _ _ _ hi, frZ_get _ hi, if_pos (zz_lt i hi).2.1]
end Go.Proofs.Ytpjopeojeglogaa

namespace Tt
open Go Go.RowKit
theorem three_boxes (w : World) (T : TypeId) (a : Array Value) (U : TypeId) (b : Array Value) (V : TypeId) (c : Array Value) : ∃ WC, ((w.alloc (.cells a T)).alloc (.cells b U)).alloc (.cells c V) = WC ∧ Blk WC w.heap.size T a ∧ Blk WC (w.heap.size + 1) U b ∧ Blk WC (w.heap.size + 2) V c ∧ Below w.heap.size w WC ∧ WC.heap.size = w.heap.size + 3 := by
  have hA := Blk.new w T a; have hB := Blk.new (w.alloc (.cells a T)) U b; have hC := Blk.new ((w.alloc (.cells a T)).alloc (.cells b U)) V c; rw [show (w.alloc (.cells a T)).heap.size = w.heap.size + 1 by simp] at hB; rw [show ((w.alloc (.cells a T)).alloc (.cells b U)).heap.size = w.heap.size + 2 by simp] at hC; exact ⟨_, rfl, (hA.alloc _).alloc _, hB.alloc _, hC, (((Below.refl w.heap.size w).alloc (Nat.le_refl _) _).alloc (by simp) _).alloc (by simp <;> omega) _, by simp⟩
theorem two_boxes (w : World) (T : TypeId) (a : Array Value) (U : TypeId) (b : Array Value) : ∃ WC, (w.alloc (.cells a T)).alloc (.cells b U) = WC ∧ Blk WC w.heap.size T a ∧ Blk WC (w.heap.size + 1) U b ∧ Below w.heap.size w WC ∧ WC.heap.size = w.heap.size + 2 := by
  have hA := Blk.new w T a; have hB := Blk.new (w.alloc (.cells a T)) U b; rw [show (w.alloc (.cells a T)).heap.size = w.heap.size + 1 by simp] at hB; exact ⟨_, rfl, hA.alloc _, hB, ((Below.refl w.heap.size w).alloc (Nat.le_refl _) _).alloc (by simp) _, by simp⟩
end Tt

namespace Go.Proofs.Ytpjopeojeglogaa
open Go.RowKit Tt
set_option linter.unusedVariables false
set_option linter.unusedSimpArgs false
def z64 : Array Value := #[.int .i64 0, .int .i64 0, .int .i64 0, .int .i64 0, .int .i64 0, .int .i64 0, .int .i64 0, .int .i64 0, .int .i64 0, .int .i64 0, .int .i64 0, .int .i64 0, .int .i64 0, .int .i64 0, .int .i64 0, .int .i64 0, .int .i64 0, .int .i64 0, .int .i64 0, .int .i64 0, .int .i64 0, .int .i64 0, .int .i64 0, .int .i64 0, .int .i64 0, .int .i64 0, .int .i64 0, .int .i64 0, .int .i64 0, .int .i64 0, .int .i64 0, .int .i64 0, .int .i64 0, .int .i64 0, .int .i64 0, .int .i64 0, .int .i64 0, .int .i64 0, .int .i64 0, .int .i64 0, .int .i64 0, .int .i64 0, .int .i64 0, .int .i64 0, .int .i64 0, .int .i64 0, .int .i64 0, .int .i64 0, .int .i64 0, .int .i64 0, .int .i64 0, .int .i64 0, .int .i64 0, .int .i64 0, .int .i64 0, .int .i64 0, .int .i64 0, .int .i64 0, .int .i64 0, .int .i64 0, .int .i64 0, .int .i64 0, .int .i64 0, .int .i64 0]
/-- a block of 64 numbers -/
def B64 (w : World) (g : Nat) (T : TypeId) (l : List Int) : Prop := l.length = 64 ∧ Blk w g T (ints .i64 l).toArray
theorem B64.cell {w : World} {g : Nat} {T : TypeId} {l : List Int} (h : B64 w g T l) {i : Nat} (hi : i < 64) : w.cell? ⟨g, i, none⟩ = some (.int .i64 (l.getD i 0)) := h.2.cell (by
  simp only [List.getElem?_toArray]; exact ints_get (by rw [h.1]; exact hi))
theorem B64.frozen {w : World} {g : Nat} {T : TypeId} {l : List Int} (h : B64 w g T l) (i : Nat) : w.frozen? ⟨g, i, none⟩ = false := h.2.frozen i
theorem B64.set {w : World} {g : Nat} {T : TypeId} {l : List Int} (h : B64 w g T l) (i : Nat) (x : Int) : B64 (w.setCell ⟨g, i, none⟩ (.int .i64 x)) g T (l.set i x) := by
  refine ⟨by rw [List.length_set]; exact h.1, ?_⟩; have := h.2.set i (.int .i64 x); rw [List.setIfInBounds_toArray] at this; unfold ints at this ⊢; rw [List.map_set]; exact this
theorem B64.set_other {w : World} {g g' : Nat} {T : TypeId} {l : List Int} (h : B64 w g T l) (hne : g ≠ g') (i : Nat) (v : Value) : B64 (w.setCell ⟨g', i, none⟩ v) g T l := ⟨h.1, h.2.set_other hne i v⟩
theorem B64.late {w w' : World} {g : Nat} {T : TypeId} {l : List Int} (h : B64 w g T l) (hb : Below w.heap.size w w') : B64 w' g T l := ⟨h.1, h.2.late hb⟩
theorem infoA : (Try.prog.info? 129).map (·.size) = some 64 := by kernel_rfl
theorem ints_one' {l : List Int} : (ints .i64 l).toArray.all (·.oneCell') = true := by
  rw [Array.all_eq_true_iff_forall_mem]; intro x hx; exact ints_one x (by simpa using hx)
theorem ints_size {l : List Int} (h : l.length = 64) : (ints .i64 l).toArray.size = 64 := by simp [ints, h]
/-- the result, handed back out of its cell -/
theorem ret64 {fn : Func} {p : Tmp} (h : fn.results = #[.cell p 129]) {tmps : Array Value} {w : World} {g : Nat} {l : List Int} (hp : tmps.getD p undef = .pointer (some ⟨g, 0, none⟩)) (hb : B64 w g 129 l) :
    (results fn tmps).run Try.prog w = .ok (.agg (ints .i64 l).toArray) w :=
  results_cell_row h tmps w g _ _ (0, 0) _ hp hb.2 Try.underlying129 rfl (by rw [ints_size hb.1]; exact infoA)
end Go.Proofs.Ytpjopeojeglogaa
