import Derived.Test.YtheelhepelbgcaaL4
import Derived.Deep.QuietTactic
import Derived.BigQuiet
import Derived.Shelf.Bytes.SlIndexAt
import Derived.Lib.BytesEntry
/- Chapter 18: kinds of values, and which may be; what a row of numbers holds. -/
namespace Go.Proofs.Ytheelhepelbgcaa
open Go.RowKit Tt
set_option linter.unusedVariables false

def kindL : List (Int × Int × Int) := [(0, 0, 0), (1, 1, 1), (1, 1, 1), (2, 2, 1), (4, 4, 1), (8, 4, 3), (1, 1, 2), (1, 1, 1), (2, 2, 2), (4, 4, 2), (8, 4, 4), (4, 4, 5), (8, 8, 5)]
def kindS (n : Int) : Int × Int × Int := if n < 0 ∨ 12 < n then (0, 0, 0) else kindL.getD n.toNat (0, 0, 0)
theorem kindS_out {n : Int} (h : n < 0 ∨ 12 < n) : kindS n = (0, 0, 0) := if_pos h
theorem kindS_size (n : Int) : 0 ≤ (kindS n).1 ∧ (kindS n).1 ≤ 8 := by
  unfold kindS
  split
  · exact ⟨by decide, by decide⟩
  · have : ∀ x ∈ kindL, 0 ≤ x.1 ∧ x.1 ≤ 8 := by decide
    rw [List.getD_eq_getElem?_getD]
    cases h : kindL[n.toNat]? with
    | none => exact ⟨by decide, by decide⟩
    | some x => exact this x (List.mem_of_getElem? h)


set_option maxRecDepth 100000 in
set_option maxHeartbeats 1000000 in
theorem indexbyte_any (a : Option Addr) (n c : Nat) (x : List Int) (cv : Int) (w : World) (hs : Sl w a n c 1 (ints .u8 x)) :
    Calls Try.prog 94 #[.slice a n c, .int .u8 cv] w fun e w' => e = .returned (.int .i64 (Lib.indexByte (Lib.bytesOf x) cv.toNat.toUInt8)) ∧ w = w' := by
  have hl := hs.ilen
  cases a with
  | none =>
    have h1 := hs.fit rfl
    have h2 := hs.le
    subst h1
    obtain rfl : n = 0 := by omega
    obtain rfl : x = [] := List.eq_nil_of_length_eq_zero hl
    go_enter Try.func94, Try.ntmps94
    go_wp2
    rw [run_callFunc_extern Try.func99 (by kernel_rfl) (by kernel_rfl) (by kernel_rfl) (e := Extern.BytealgIndexByte.indexByte) (by kernel_rfl), Lib.run_indexByteNil w 0 0 cv]
    simp only [Result.andThen]
    rw [Oper.upon_value]
    go_wp2
    go_ret
    exact ⟨rfl, rfl⟩
  | some y =>
    have hc : ∀ i, i < n → w.cell? (y.add i) = some (.int .u8 (x.getD i 0)) := fun i hi => by
      obtain ⟨b, off, e, _, hc⟩ := hs.at hi
      injection e with e
      subst e
      rw [Addr.add_lit]
      exact hc i _ (ints_get (by omega))
    go_enter Try.func94, Try.ntmps94
    go_wp2
    rw [run_callFunc_extern Try.func99 (by kernel_rfl) (by kernel_rfl) (by kernel_rfl) (e := Extern.BytealgIndexByte.indexByte) (by kernel_rfl), Lib.run_indexByteAt w y n c x hl hc cv]
    simp only [Result.andThen]
    rw [Oper.upon_value]
    go_wp2
    go_ret
    exact ⟨rfl, rfl⟩
end Go.Proofs.Ytheelhepelbgcaa
