import Derived.Test.YtnhcmibngcmebaaL4
import Derived.Deep.QuietTactic
import Derived.BigQuiet
import Derived.Shelf.Bytes.SlIndexAt
import Derived.Lib.BytesEntry
/- Chapter 18: kinds of values, and which may be; what a row of numbers holds. -/
namespace Go.Proofs.Ytnhcmibngcmebaa
open Go.RowKit Tt
set_option linter.unusedVariables false

def kindL : List (Int × Int × Int) := [(0, 0, 0), (1, 1, 1), (1, 1, 1), (2, 2, 1), (4, 4, 1), (8, 4, 3), (1, 1, 2), (1, 1, 1), (2, 2, 2), (4, 4, 2), (8, 4, 4), (4, 4, 5), (8, 8, 5)]
def kindS (n : Int) : Int × Int × Int := if n < 0 ∨ 12 < n then (0, 0, 0) else kindL.getD n.toNat (0, 0, 0)
theorem kindS_out {n : Int} (h : n < 0 ∨ 12 < n) : kindS n = (0, 0, 0) := if_pos h
theorem kindS_size (n : Int) : 0 ≤ (kindS n).1 ∧ (kindS n).1 ≤ 8 := by
  unfold kindS
  split
  · exact ⟨by decide, by decide⟩
  · have : ∀ x ∈ kindL, 0 ≤ x.1 ∧ x.1 ≤ 8 := by decide
    rw [List.getD_eq_getElem?_getD]
    cases h : kindL[n.toNat]? with
    | none => exact ⟨by decide, by decide⟩
    | some x => exact this x (List.mem_of_getElem? h)

theorem cint_idx (a : Option Addr) (n c : Nat) (l : List Int) (x : Int) (w : World) (hs : Sl w a n c 1 (ints .i64 l)) :
    Calls Try.prog 81 #[.slice a n c, .int .i64 x] w fun e w' => ∃ k : Int, e = .returned (.int .i64 k) ∧ (0 ≤ k ↔ x ∈ l) ∧ w = w' := by
  have hl := hs.ilen
  have hm := hs.max
  have hle := hs.le
  have Hl := Lib.hid hl
  clear hl
  go_enter Try.func81, Try.ntmps81
  go_wp2
  go_loopw [8] (fun i wr => ∃ k : Nat, k ≤ n ∧ i = .int .i64 k ∧ Hid (∀ j, j < k → l.getD j 0 ≠ x) ∧ Hid (wr = w)) (fun i _ => n - (intOf i).toNat)
  case atStart => exact ⟨0, by omega, rfl, Lib.hid (fun j hj => by omega), Lib.hid rfl⟩
  case round =>
    obtain ⟨k, hk, rfl, hno, hw⟩ := hrel
    obtain rfl := hw.out.symm
    clear hw
    by_cases hlt : k < n
    · obtain ⟨b, off, rfl, hbx, hc⟩ := hs.at hlt
      have f1 := hc k _ (ints_get (by rw [Hl.out]; exact hlt))
      clear hc
      obtain ⟨y, hy⟩ : ∃ y, l.getD k 0 = y := ⟨_, rfl⟩
      rw [hy] at f1
      have Hy := Lib.hid hy
      clear hy
      cases hcmp : (x == y)
      · go_wp2
        go_roundw
        case rel =>
          refine ⟨k + 1, by omega, by go_num, Lib.hid (fun j hj => ?_), Lib.hid trivial⟩
          rcases Nat.lt_or_ge j k with h | h
          · exact hno.out j h
          · obtain rfl : j = k := by omega
            rw [Hy.out]
            intro he
            rw [he] at hcmp
            simp at hcmp
        case measure => simp [intOf]; omega
      · go_wp2
        go_ret
        refine ⟨k, rfl, ⟨fun _ => ?_, fun _ => by omega⟩, rfl⟩
        simp at hcmp
        have : l.getD k 0 ∈ l := by
          rw [List.getD_eq_getElem?_getD, List.getElem?_eq_getElem (by rw [Hl.out]; exact hlt)]; exact List.getElem_mem _
        rw [Hy.out, ← hcmp] at this
        exact this
    · go_wp2
      go_ret
      refine ⟨-1, rfl, ⟨fun h => by omega, fun h => ?_⟩, rfl⟩
      exfalso
      obtain ⟨i, hi, he⟩ := List.mem_iff_getElem.1 h
      refine hno.out i (by rw [Hl.out] at hi; omega) ?_
      rw [List.getD_eq_getElem?_getD, List.getElem?_eq_getElem hi]
      exact he
theorem cint_any (a : Option Addr) (n c : Nat) (l : List Int) (x : Int) (w : World) (hs : Sl w a n c 1 (ints .i64 l)) :
    Calls Try.prog 63 #[.slice a n c, .int .i64 x] w fun e w' => e = .returned (.bool (l.contains x)) ∧ w = w' := by
  have hi := cint_idx a n c l x w hs
  obtain ⟨r, hr⟩ : ∃ r, l.contains x = r := ⟨_, rfl⟩
  rw [hr]
  have Hr := Lib.hid hr
  clear hr
  go_enter Try.func63, Try.ntmps63
  go_wp2_with fail
  refine hi.mono ?_
  rintro e w2 ⟨k, rfl, hk, rfl⟩
  have hkr : decide (0 ≤ k) = r := by
    rw [← Hr.out, Bool.eq_iff_iff, decide_eq_true_iff, List.contains_iff_mem]
    exact hk
  clear hk hi
  go_wp2
  go_ret
  exact ⟨ret_bool rfl, rfl⟩

set_option maxRecDepth 100000 in
set_option maxHeartbeats 1000000 in
theorem indexbyte_any (a : Option Addr) (n c : Nat) (x : List Int) (cv : Int) (w : World) (hs : Sl w a n c 1 (ints .u8 x)) :
    Calls Try.prog 80 #[.slice a n c, .int .u8 cv] w fun e w' => e = .returned (.int .i64 (Lib.indexByte (Lib.bytesOf x) cv.toNat.toUInt8)) ∧ w = w' := by
  have hl := hs.ilen
  cases a with
  | none =>
    have h1 := hs.fit rfl
    have h2 := hs.le
    subst h1
    obtain rfl : n = 0 := by omega
    obtain rfl : x = [] := List.eq_nil_of_length_eq_zero hl
    go_enter Try.func80, Try.ntmps80
    go_wp2
    rw [run_callFunc_extern Try.func97 (by kernel_rfl) (by kernel_rfl) (by kernel_rfl) (e := Extern.BytealgIndexByte.indexByte) (by kernel_rfl), Lib.run_indexByteNil w 0 0 cv]
    simp only [Result.andThen]
    rw [Oper.upon_value]
    go_wp2
    go_ret
    exact ⟨rfl, rfl⟩
  | some y =>
    have hc : ∀ i, i < n → w.cell? (y.add i) = some (.int .u8 (x.getD i 0)) := fun i hi => by
      obtain ⟨b, off, e, _, hc⟩ := hs.at hi
      injection e with e
      subst e
      rw [Addr.add_lit]
      exact hc i _ (ints_get (by omega))
    go_enter Try.func80, Try.ntmps80
    go_wp2
    rw [run_callFunc_extern Try.func97 (by kernel_rfl) (by kernel_rfl) (by kernel_rfl) (e := Extern.BytealgIndexByte.indexByte) (by kernel_rfl), Lib.run_indexByteAt w y n c x hl hc cv]
    simp only [Result.andThen]
    rw [Oper.upon_value]
    go_wp2
    go_ret
    exact ⟨rfl, rfl⟩
end Go.Proofs.Ytnhcmibngcmebaa
