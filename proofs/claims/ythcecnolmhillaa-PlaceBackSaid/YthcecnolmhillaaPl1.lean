/- Chapter 29: Starts: each length is added to what was told ahead of it. -/
import Derived.Test.YthcecnolmhillaaPlaceP
import Derived.RangeFuncBox
namespace Go.Proofs.Ythcecnolmhillaa
open Go.RowKit Tt
set_option linter.unusedVariables false

def offB (n : Int) : Bool := decide (0 ≤ n) && decide (n ≤ 4294967295)
theorem off_any (n : Int) (w : World) : Calls Try.prog 22 #[.int .i64 n] w fun e w' => e = .returned (.bool (offB n)) ∧ w = w' := by
  by_cases h1 : 0 ≤ n
  · have d1 : decide (0 ≤ n) = true := decide_eq_true h1
    by_cases h2 : n ≤ 4294967295
    · have d2 : decide (n ≤ 4294967295) = true := decide_eq_true h2
      have e : offB n = true := by unfold offB; rw [d1, d2]; rfl
      rw [e]
      go_enter Try.func22, Try.ntmps22
      go_wp2
      go_ret
      exact ⟨rfl, rfl⟩
    · have d2 : decide (n ≤ 4294967295) = false := decide_eq_false h2
      have e : offB n = false := by unfold offB; rw [d1, d2]; rfl
      rw [e]
      go_enter Try.func22, Try.ntmps22
      go_wp2
      go_ret
      exact ⟨rfl, rfl⟩
  · have d1 : decide (0 ≤ n) = false := decide_eq_false h1
    have e : offB n = false := by unfold offB; rw [d1]; rfl
    rw [e]
    go_enter Try.func22, Try.ntmps22
    go_wp2
    go_ret
    exact ⟨rfl, rfl⟩

/-- Add, of an offset and anything -/
theorem add_any (a b : Int) (w : World) (h0 : 0 ≤ a) (h1 : a ≤ 4294967295) :
    Calls Try.prog 18 #[.int .i64 a, .int .i64 b] w fun e w' => e = .returned (.tuple #[.int .i64 (if (offB b && offB (a + b)) = true then a + b else 0), .bool (offB b && offB (a + b))]) ∧ w = w' := by
  have ea : offB a = true := by unfold offB; rw [decide_eq_true h0, decide_eq_true h1]; rfl
  have Ea := Lib.hid ea
  by_cases h2 : offB b = true
  · have hb2 := h2
    unfold offB at hb2
    rw [Bool.and_eq_true, decide_eq_true_iff, decide_eq_true_iff] at hb2
    have hw : IntKind.i64.wrap (a + b) = a + b := by rw [IntKind.wrap_i64]; omega
    obtain ⟨s, hs⟩ : ∃ s, a + b = s := ⟨_, rfl⟩
    rw [h2, hs]
    replace hw : IntKind.i64.wrap (a + b) = s := hw.trans hs
    have Eb := Lib.hid h2
    have Hs := Lib.hid hs
    clear h2 ea hb2 hs h0 h1
    obtain ⟨r, hr⟩ : ∃ r, offB s = r := ⟨_, rfl⟩
    have Er := Lib.hid hr
    rw [hr]
    clear hr
    cases r
    · go_enter Try.func18, Try.ntmps18
      go_wp2_with (go_at_call 22; refine (off_any _ _).mono ?_; (first | rw [Ea.out] | rw [Eb.out] | rw [Er.out]); rintro e w' ⟨rfl, rfl⟩)
      go_ret2
      exact ⟨rfl, rfl⟩
    · go_enter Try.func18, Try.ntmps18
      go_wp2_with (go_at_call 22; refine (off_any _ _).mono ?_; (first | rw [Ea.out] | rw [Eb.out] | rw [Er.out]); rintro e w' ⟨rfl, rfl⟩)
      go_ret2
      exact ⟨rfl, rfl⟩
  · have h2 : offB b = false := by simpa using h2
    rw [h2]
    have Eb := Lib.hid h2
    clear h2 ea h0 h1
    go_enter Try.func18, Try.ntmps18
    go_wp2_with (go_at_call 22; refine (off_any _ _).mono ?_; (first | rw [Ea.out] | rw [Eb.out]); rintro e w' ⟨rfl, rfl⟩)
    go_ret2
    exact ⟨rfl, rfl⟩
end Go.Proofs.Ythcecnolmhillaa
