/- Rows of structs: the cells of each, one behind the other (any program). -/
import Derived.Test.YtheelhepelbgcaaL11
namespace Tt
open Go Go.RowKit
set_option linter.unusedVariables false

/-- the cells of a row, each element's by f -/
def fl {α : Type} (f : α → List Value) (l : List α) : List Value := l.flatMap f
section
variable {α : Type} {f : α → List Value} {k : Nat}
theorem fl_nil : fl f [] = [] := rfl
theorem fl_cons (x : α) (r : List α) : fl f (x :: r) = f x ++ fl f r := rfl
theorem fl_append (x y : List α) : fl f (x ++ y) = fl f x ++ fl f y := by simp [fl]
theorem fl_snoc (x : List α) (y : α) : fl f (x ++ [y]) = fl f x ++ f y := by rw [fl_append]; simp [fl]
theorem fl_len (hf : ∀ x, (f x).length = k) : ∀ (l : List α), (fl f l).length = l.length * k
  | [] => by simp [fl]
  | x :: r => by rw [fl_cons, List.length_append, fl_len hf r, hf x, List.length_cons, Nat.succ_mul, Nat.add_comm]
theorem fl_get (hf : ∀ x, (f x).length = k) (d : α) : ∀ {l : List α} {i j : Nat}, i < l.length → j < k → (fl f l)[i * k + j]? = (f (l.getD i d))[j]?
  | x :: r, 0, j, _, hj => by rw [fl_cons, List.getElem?_append_left (by rw [hf x]; omega), Nat.zero_mul, Nat.zero_add]; rfl
  | x :: r, i + 1, j, hi, hj => by
    have e : (i + 1) * k + j - k = i * k + j := by rw [Nat.succ_mul]; omega
    rw [fl_cons, List.getElem?_append_right (by rw [hf x, Nat.succ_mul]; omega), hf x, e, fl_get hf d (by simpa using hi) hj]
    rfl
theorem fl_one (h1 : ∀ x, ∀ u ∈ f x, u.oneCell' = true) {l : List α} : ∀ u ∈ fl f l, u.oneCell' = true := by
  intro u hu
  obtain ⟨x, _, hx⟩ := List.mem_flatMap.1 hu
  exact h1 x u hx
theorem Sl.flen {w : World} {a : Option Addr} {n c : Nat} {l : List α} (hf : ∀ x, (f x).length = k) (hk : 0 < k) (h : Sl w a n c k (fl f l)) : l.length = n := by
  have := h.len
  rw [fl_len hf] at this
  exact Nat.eq_of_mul_eq_mul_right hk this
/-- an element of a row that is read: its cells -/
theorem Sl.elem {w : World} {a : Option Addr} {n c : Nat} {l : List α} (hf : ∀ x, (f x).length = k) (hk : 0 < k) (d : α) (h : Sl w a n c k (fl f l)) {i : Nat} (hi : i < n) :
    ∃ b o, a = some ⟨b, o, none⟩ ∧ b < w.heap.size ∧ ∀ j v, (f (l.getD i d))[j]? = some v → w.cell? ⟨b, o + i * k + j, none⟩ = some v := by
  have hl := h.flen hf hk
  obtain ⟨b, o, rfl, hb, hc⟩ := h.at hi
  refine ⟨b, o, rfl, hb, fun j v hj => ?_⟩
  have hjk : j < k := by
    have := (List.getElem?_eq_some_iff.1 hj).1
    rwa [hf] at this
  have := hc (i * k + j) v ((fl_get hf d (by omega) hjk).trans hj)
  rwa [← Nat.add_assoc] at this
end
end Tt
