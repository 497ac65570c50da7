/- Sub-slices, with what block they lie in; stores. -/
import Derived.Test.YtheelhepelbgcaaBut
namespace Tt
open Go Go.RowKit
set_option linter.unusedVariables false

theorem add_block (a : Addr) (k : Nat) : (a.add k).block = a.block := by
  unfold Addr.add
  split <;> rfl
/-- the slice value lies where the other one does -/
def In (a2 a : Option Addr) : Prop := ∀ x, a2 = some x → ∃ y, a = some y ∧ y.block = x.block
theorem In.ne {a2 a : Option Addr} {g : Nat} (h : In a2 a) (ha : ∀ x, a = some x → x.block ≠ g) : ∀ x, a2 = some x → x.block ≠ g := fun x hx => by
  obtain ⟨y, h1, h2⟩ := h x hx
  rw [← h2]
  exact ha y h1
theorem In.sub (a : Option Addr) (c l k : Nat) : In (if c = l then a else a.map (·.add k)) a := fun x hx => by
  split at hx
  · exact ⟨x, hx, rfl⟩
  · cases a with
    | none => cases hx
    | some y =>
      simp only [Option.map_some, Option.some.injEq] at hx
      exact ⟨y, rfl, by rw [← hx, add_block]⟩
section
variable {P : Program} {T E : TypeId} {sz : Nat} (ht : P.underlying T = some (.slice E)) (hE : ∀ w, (Go.sizeOf E).run P w = .ok sz w)
include ht hE
theorem sub_lh {w : World} {a : Option Addr} {n c : Nat} {cs : List Value} (h : Sl w a n c sz cs) (l hi : Int) (h0 : 0 ≤ l) (h1 : l ≤ hi) (h2 : hi ≤ n) (n2 c2 : Nat) (hn2 : (n2 : Int) = hi - l) (hc2 : (c2 : Int) = c - l) :
    ∃ a2, (∀ W, (Instr.sliceAt T (.slice a n c) (some (.int .i64 l)) (some (.int .i64 hi)) none).run P W = .ok (.slice a2 n2 c2) W) ∧ Sl w a2 n2 c2 sz ((cs.drop (l.toNat * sz)).take (n2 * sz)) ∧ In a2 a := by
  have he : P.elem T = E := by unfold Program.elem; rw [ht]
  have hle := h.le
  refine ⟨_, fun W => ?_, sl_sub h l.toNat hi.toNat (by omega) (by omega) n2 c2 (by omega) (by omega), In.sub _ _ _ _⟩
  rw [run_sliceAt_slice (h := by rw [he]; exact ht), run_slice_lh (ht := by rw [he]; exact ht) (h0 := h0) (h1 := h1) (h2 := by omega), he, hE]
  simp only [Result.andThen, sliced]
  congr 2 <;> omega
theorem sub_h {w : World} {a : Option Addr} {n c : Nat} {cs : List Value} (h : Sl w a n c sz cs) (hi : Int) (h1 : 0 ≤ hi) (h2 : hi ≤ n) (n2 : Nat) (hn2 : (n2 : Int) = hi) :
    ∃ a2, (∀ W, (Instr.sliceAt T (.slice a n c) none (some (.int .i64 hi)) none).run P W = .ok (.slice a2 n2 c) W) ∧ Sl w a2 n2 c sz (cs.take (n2 * sz)) ∧ In a2 a := by
  have he : P.elem T = E := by unfold Program.elem; rw [ht]
  have hle := h.le
  have hs := sl_sub h 0 hi.toNat (by omega) (by omega) n2 c (by omega) (by omega)
  rw [Nat.zero_mul, List.drop_zero] at hs
  refine ⟨_, fun W => ?_, hs, In.sub _ _ _ _⟩
  rw [run_sliceAt_slice (h := by rw [he]; exact ht), run_slice_h (ht := by rw [he]; exact ht) (h0 := h1) (h2 := by omega), he, hE]
  simp only [Result.andThen, sliced, Nat.zero_mul]
  congr 2; omega
theorem sub_l {w : World} {a : Option Addr} {n c : Nat} {cs : List Value} (h : Sl w a n c sz cs) (l : Int) (h0 : 0 ≤ l) (h1 : l ≤ n) (n2 c2 : Nat) (hn2 : (n2 : Int) = n - l) (hc2 : (c2 : Int) = c - l) :
    ∃ a2, (∀ W, (Instr.sliceAt T (.slice a n c) (some (.int .i64 l)) none none).run P W = .ok (.slice a2 n2 c2) W) ∧ Sl w a2 n2 c2 sz (cs.drop (l.toNat * sz)) ∧ In a2 a := by
  have he : P.elem T = E := by unfold Program.elem; rw [ht]
  have hle := h.le
  have hs := sl_sub h l.toNat n (by omega) (by omega) n2 c2 (by omega) (by omega)
  rw [List.take_of_length_le (by rw [List.length_drop, h.len, show n2 = n - l.toNat by omega, Nat.sub_mul]; omega)] at hs
  refine ⟨_, fun W => ?_, hs, In.sub _ _ _ _⟩
  rw [run_sliceAt_slice (h := by rw [he]; exact ht), run_slice_l (ht := by rw [he]; exact ht) (h0 := h0) (h1 := by omega), he, hE]
  simp only [Result.andThen, sliced]
  congr 2 <;> omega
end
theorem below_worlds (B : Nat) (w : World) : ∃ (S : Type) (f : S → World), Nonempty S ∧ (∀ s, Below B w (f s)) ∧ ∀ W, Below B w W → ∃ s, W = f s :=
  ⟨{W // Below B w W}, Subtype.val, ⟨⟨w, Below.refl _ _⟩⟩, fun s => s.2, fun W h => ⟨⟨W, h⟩, rfl⟩⟩
end Tt
