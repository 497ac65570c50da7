/- Chapter 29: the plain model: starts, places, and what they tell. -/
import Derived.Test.YthcecnolmhillaaL6
namespace Go.Proofs.Ythcecnolmhillaa
open Go.RowKit Tt
set_option linter.unusedVariables false

/-- may these lengths be, from here on? -/
def startsB : Int → List Int → Bool
  | _, [] => true
  | acc, n :: r => decide (1 ≤ n) && decide (acc + n ≤ 4294967295) && startsB (acc + n) r
/-- where each begins, and where the last one ends -/
def sums : Int → List Int → List Int
  | acc, [] => [acc]
  | acc, n :: r => acc :: sums (acc + n) r
theorem sums_len : ∀ (acc : Int) (xs : List Int), (sums acc xs).length = xs.length + 1
  | _, [] => rfl
  | acc, n :: r => by simp [sums, sums_len]
/-- the sum of the first k -/
def upto (xs : List Int) (k : Nat) : Int := (xs.take k).foldl (· + ·) 0
theorem foldl_add : ∀ (xs : List Int) (a : Int), xs.foldl (· + ·) a = a + xs.foldl (· + ·) 0
  | [], a => by simp
  | x :: r, a => by
    simp only [List.foldl_cons]
    rw [foldl_add r (a + x), foldl_add r (0 + x)]
    omega
theorem upto_zero (xs : List Int) : upto xs 0 = 0 := rfl
theorem upto_succ {xs : List Int} {k : Nat} (h : k < xs.length) : upto xs (k + 1) = upto xs k + xs.getD k 0 := by
  unfold upto
  rw [List.take_add_one, List.getElem?_eq_getElem h, List.foldl_append, List.getD_eq_getElem?_getD, List.getElem?_eq_getElem h]
  rfl
/-- the first k lengths may be -/
def okTo (xs : List Int) (k : Nat) : Prop := ∀ i, i < k → 1 ≤ xs.getD i 0 ∧ upto xs (i + 1) ≤ 4294967295
theorem okTo_succ {xs : List Int} {k : Nat} (h : okTo xs k) (h1 : 1 ≤ xs.getD k 0) (h2 : upto xs (k + 1) ≤ 4294967295) : okTo xs (k + 1) := fun i hi => by
  rcases Nat.lt_or_ge i k with h3 | h3
  · exact h i h3
  · obtain rfl : i = k := by omega
    exact ⟨h1, h2⟩
theorem upto_nonneg {xs : List Int} {k : Nat} (hk : k ≤ xs.length) (h : okTo xs k) : 0 ≤ upto xs k ∧ upto xs k ≤ 4294967295 := by
  induction k with
  | zero => exact ⟨Int.le_refl _, (by decide : (0 : Int) ≤ 4294967295)⟩
  | succ k ih =>
    have h1 := ih (by omega) (fun i hi => h i (by omega))
    have h2 := h k (by omega)
    refine ⟨?_, h2.2⟩
    rw [upto_succ (by omega)]
    omega
/-- all starts of k lengths -/
def starts (xs : List Int) (k : Nat) : List Int := (List.range (k + 1)).map (upto xs)
theorem starts_succ (xs : List Int) (k : Nat) : starts xs (k + 1) = starts xs k ++ [upto xs (k + 1)] := by
  unfold starts
  rw [List.range_succ, List.map_append]
  rfl
instance (xs : List Int) (k : Nat) : Decidable (okTo xs k) := inferInstanceAs (Decidable (∀ i, i < k → 1 ≤ xs.getD i 0 ∧ upto xs (i + 1) ≤ 4294967295))
def startsOk (xs : List Int) : Bool := decide (okTo xs xs.length)
/-- what Starts answers -/
def startsV (xs : List Int) : List Int := if startsOk xs = true then starts xs xs.length else []
theorem starts_len (xs : List Int) (k : Nat) : (starts xs k).length = k + 1 := by simp [starts]
theorem starts_get {xs : List Int} {k i : Nat} (h : i < k + 1) : (starts xs k).getD i 0 = upto xs i := by
  simp [starts, h]
end Go.Proofs.Ythcecnolmhillaa
