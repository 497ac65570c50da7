/- Words on bits: or, and, xor of two numbers from 0 on; numbers out of bytes. -/
import Derived.Test.YtheelhepelbgcaaL6
import Derived.Laws.Bits64
namespace Tt
open Go Go.RowKit
set_option linter.unusedVariables false

theorem or_i64 (a b : Nat) (ha : a < 9223372036854775808) (hb : b < 9223372036854775808) : bits .or .i64 (a : Int) (b : Int) = ((a ||| b : Nat) : Int) := by
  have hx : a ||| b < 2 ^ 63 := Nat.or_lt_two_pow (by omega) (by omega)
  have h1 : (BitVec.ofInt 64 (a : Int)).toNat = a := by rw [BitVec.ofInt_natCast, BitVec.toNat_ofNat]; exact Nat.mod_eq_of_lt (by omega)
  have h2 : (BitVec.ofInt 64 (b : Int)).toNat = b := by rw [BitVec.ofInt_natCast, BitVec.toNat_ofNat]; exact Nat.mod_eq_of_lt (by omega)
  show IntKind.i64.wrap ((BitVec.ofInt 64 (a : Int) ||| BitVec.ofInt 64 (b : Int)).toNat : Int) = _
  rw [BitVec.toNat_or, h1, h2, IntKind.wrap_i64]
  omega
theorem and_i64 (a b : Nat) (ha : a < 9223372036854775808) (hb : b < 9223372036854775808) : bits .and .i64 (a : Int) (b : Int) = ((a &&& b : Nat) : Int) := by
  have hx : a &&& b < 2 ^ 63 := Nat.and_lt_two_pow _ (by omega)
  have h1 : (BitVec.ofInt 64 (a : Int)).toNat = a := by rw [BitVec.ofInt_natCast, BitVec.toNat_ofNat]; exact Nat.mod_eq_of_lt (by omega)
  have h2 : (BitVec.ofInt 64 (b : Int)).toNat = b := by rw [BitVec.ofInt_natCast, BitVec.toNat_ofNat]; exact Nat.mod_eq_of_lt (by omega)
  show IntKind.i64.wrap ((BitVec.ofInt 64 (a : Int) &&& BitVec.ofInt 64 (b : Int)).toNat : Int) = _
  rw [BitVec.toNat_and, h1, h2, IntKind.wrap_i64]
  omega
/-- a number moved up by 8 bits, and a byte -/
theorem or_byte {N B : Int} (h0 : 0 ≤ N) (h1 : N < 36028797018963968) (h2 : 0 ≤ B) (h3 : B < 256) : bits .or .i64 (N * 256) B = N * 256 + B := by
  obtain ⟨a, rfl⟩ : ∃ a : Nat, N = a := ⟨N.toNat, by omega⟩
  obtain ⟨b, rfl⟩ : ∃ b : Nat, B = b := ⟨B.toNat, by omega⟩
  have h := or_i64 (a * 256) b (by omega) (by omega)
  have h4 := Nat.two_pow_add_eq_or_of_lt (i := 8) (b := b) (by omega) a
  have h5 : (2 ^ 8 * a : Nat) = a * 256 := by omega
  rw [h5] at h4
  rw [← h4] at h
  rw [show ((a * 256 : Nat) : Int) = (a : Int) * 256 by omega, show ((a * 256 + b : Nat) : Int) = (a : Int) * 256 + b by omega] at h
  exact h
/-- the number that bytes are, the first one the highest -/
def be (l : List Int) : Int := l.foldl (fun n b => n * 256 + b) 0
theorem be_snoc (l : List Int) (b : Int) : be (l ++ [b]) = be l * 256 + b := by unfold be; rw [List.foldl_append]; rfl
theorem take_snoc' {l : List Int} {j : Nat} (h : j < l.length) : l.take (j + 1) = l.take j ++ [l.getD j 0] := by
  rw [List.take_add_one, List.getElem?_eq_getElem h, List.getD_eq_getElem?_getD, List.getElem?_eq_getElem h]
  rfl
theorem be_take {l : List Int} {j : Nat} (h : j < l.length) : be (l.take (j + 1)) = be (l.take j) * 256 + l.getD j 0 := by rw [take_snoc' h, be_snoc]
theorem be_bound {l : List Int} (h : Byt l) : ∀ {j : Nat}, j ≤ l.length → 0 ≤ be (l.take j) ∧ be (l.take j) < 256 ^ j
  | 0, _ => by simp [be]
  | j + 1, hj => by
    have h1 := be_bound h (j := j) (by omega)
    have h2 := h.get j
    rw [be_take (by omega), Int.pow_succ]
    omega
end Tt
