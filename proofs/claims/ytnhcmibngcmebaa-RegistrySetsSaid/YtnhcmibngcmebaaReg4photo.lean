import Derived.Test.YtnhcmibngcmebaaRegQ
import Derived.Test.YtnhcmibngcmebaaRegE
namespace Go.Proofs.Ytnhcmibngcmebaa
open Go.RowKit Tt
set_option linter.unusedVariables false
attribute [-go_sem] run_eql_struct

set_option maxHeartbeats 4000000 in
theorem rphoto_any (tag : Int) (w : World) : Calls Try.prog 36 #[.int .i64 tag] w fun e w' => ∃ a n c, e = .returned (.tuple #[.slice a n c, .int .i64 (look photoT tag).2]) ∧ Sl w' a n c 1 (ints .i64 (look photoT tag).1) ∧ Below w.heap.size w w' := by
  by_cases h33434 : tag = 33434
  · subst h33434
    have e : look photoT 33434 = ([5], 1) := by decide
    rw [e]
    go_enter Try.func36, Try.ntmps36
    go_wp2
    go_ret2
    exact ⟨_, _, _, rfl, Sl.new w 3 1 1 #[.int .i64 5] (0, 0) (by decide) rfl, (Below.refl _ _).alloc (Nat.le_refl _) _⟩
  by_cases h33437 : tag = 33437
  · subst h33437
    have e : look photoT 33437 = ([5], 1) := by decide
    rw [e]
    go_enter Try.func36, Try.ntmps36
    go_wp2
    go_ret2
    exact ⟨_, _, _, rfl, Sl.new w 3 1 1 #[.int .i64 5] (0, 0) (by decide) rfl, (Below.refl _ _).alloc (Nat.le_refl _) _⟩
  by_cases h37378 : tag = 37378
  · subst h37378
    have e : look photoT 37378 = ([5], 1) := by decide
    rw [e]
    go_enter Try.func36, Try.ntmps36
    go_wp2
    go_ret2
    exact ⟨_, _, _, rfl, Sl.new w 3 1 1 #[.int .i64 5] (0, 0) (by decide) rfl, (Below.refl _ _).alloc (Nat.le_refl _) _⟩
  by_cases h37386 : tag = 37386
  · subst h37386
    have e : look photoT 37386 = ([5], 1) := by decide
    rw [e]
    go_enter Try.func36, Try.ntmps36
    go_wp2
    go_ret2
    exact ⟨_, _, _, rfl, Sl.new w 3 1 1 #[.int .i64 5] (0, 0) (by decide) rfl, (Below.refl _ _).alloc (Nat.le_refl _) _⟩
  by_cases h34850 : tag = 34850
  · subst h34850
    have e : look photoT 34850 = ([3], 1) := by decide
    rw [e]
    go_enter Try.func36, Try.ntmps36
    go_wp2
    go_ret2
    exact ⟨_, _, _, rfl, Sl.new w 3 1 1 #[.int .i64 3] (0, 0) (by decide) rfl, (Below.refl _ _).alloc (Nat.le_refl _) _⟩
  by_cases h37383 : tag = 37383
  · subst h37383
    have e : look photoT 37383 = ([3], 1) := by decide
    rw [e]
    go_enter Try.func36, Try.ntmps36
    go_wp2
    go_ret2
    exact ⟨_, _, _, rfl, Sl.new w 3 1 1 #[.int .i64 3] (0, 0) (by decide) rfl, (Below.refl _ _).alloc (Nat.le_refl _) _⟩
  by_cases h37384 : tag = 37384
  · subst h37384
    have e : look photoT 37384 = ([3], 1) := by decide
    rw [e]
    go_enter Try.func36, Try.ntmps36
    go_wp2
    go_ret2
    exact ⟨_, _, _, rfl, Sl.new w 3 1 1 #[.int .i64 3] (0, 0) (by decide) rfl, (Below.refl _ _).alloc (Nat.le_refl _) _⟩
  by_cases h37385 : tag = 37385
  · subst h37385
    have e : look photoT 37385 = ([3], 1) := by decide
    rw [e]
    go_enter Try.func36, Try.ntmps36
    go_wp2
    go_ret2
    exact ⟨_, _, _, rfl, Sl.new w 3 1 1 #[.int .i64 3] (0, 0) (by decide) rfl, (Below.refl _ _).alloc (Nat.le_refl _) _⟩
  by_cases h40961 : tag = 40961
  · subst h40961
    have e : look photoT 40961 = ([3], 1) := by decide
    rw [e]
    go_enter Try.func36, Try.ntmps36
    go_wp2
    go_ret2
    exact ⟨_, _, _, rfl, Sl.new w 3 1 1 #[.int .i64 3] (0, 0) (by decide) rfl, (Below.refl _ _).alloc (Nat.le_refl _) _⟩
  by_cases h41986 : tag = 41986
  · subst h41986
    have e : look photoT 41986 = ([3], 1) := by decide
    rw [e]
    go_enter Try.func36, Try.ntmps36
    go_wp2
    go_ret2
    exact ⟨_, _, _, rfl, Sl.new w 3 1 1 #[.int .i64 3] (0, 0) (by decide) rfl, (Below.refl _ _).alloc (Nat.le_refl _) _⟩
  by_cases h36864 : tag = 36864
  · subst h36864
    have e : look photoT 36864 = ([7], 4) := by decide
    rw [e]
    go_enter Try.func36, Try.ntmps36
    go_wp2
    go_ret2
    exact ⟨_, _, _, rfl, Sl.new w 3 1 1 #[.int .i64 7] (0, 0) (by decide) rfl, (Below.refl _ _).alloc (Nat.le_refl _) _⟩
  by_cases h37121 : tag = 37121
  · subst h37121
    have e : look photoT 37121 = ([7], 4) := by decide
    rw [e]
    go_enter Try.func36, Try.ntmps36
    go_wp2
    go_ret2
    exact ⟨_, _, _, rfl, Sl.new w 3 1 1 #[.int .i64 7] (0, 0) (by decide) rfl, (Below.refl _ _).alloc (Nat.le_refl _) _⟩
  by_cases h40960 : tag = 40960
  · subst h40960
    have e : look photoT 40960 = ([7], 4) := by decide
    rw [e]
    go_enter Try.func36, Try.ntmps36
    go_wp2
    go_ret2
    exact ⟨_, _, _, rfl, Sl.new w 3 1 1 #[.int .i64 7] (0, 0) (by decide) rfl, (Below.refl _ _).alloc (Nat.le_refl _) _⟩
  by_cases h37377 : tag = 37377
  · subst h37377
    have e : look photoT 37377 = ([10], 1) := by decide
    rw [e]
    go_enter Try.func36, Try.ntmps36
    go_wp2
    go_ret2
    exact ⟨_, _, _, rfl, Sl.new w 3 1 1 #[.int .i64 10] (0, 0) (by decide) rfl, (Below.refl _ _).alloc (Nat.le_refl _) _⟩
  by_cases h37380 : tag = 37380
  · subst h37380
    have e : look photoT 37380 = ([10], 1) := by decide
    rw [e]
    go_enter Try.func36, Try.ntmps36
    go_wp2
    go_ret2
    exact ⟨_, _, _, rfl, Sl.new w 3 1 1 #[.int .i64 10] (0, 0) (by decide) rfl, (Below.refl _ _).alloc (Nat.le_refl _) _⟩
  by_cases h36867 : tag = 36867
  · subst h36867
    have e : look photoT 36867 = ([2], 20) := by decide
    rw [e]
    go_enter Try.func36, Try.ntmps36
    go_wp2
    go_ret2
    exact ⟨_, _, _, rfl, Sl.new w 3 1 1 #[.int .i64 2] (0, 0) (by decide) rfl, (Below.refl _ _).alloc (Nat.le_refl _) _⟩
  by_cases h36868 : tag = 36868
  · subst h36868
    have e : look photoT 36868 = ([2], 20) := by decide
    rw [e]
    go_enter Try.func36, Try.ntmps36
    go_wp2
    go_ret2
    exact ⟨_, _, _, rfl, Sl.new w 3 1 1 #[.int .i64 2] (0, 0) (by decide) rfl, (Below.refl _ _).alloc (Nat.le_refl _) _⟩
  by_cases h40962 : tag = 40962
  · subst h40962
    have e : look photoT 40962 = ([3, 4], 1) := by decide
    rw [e]
    go_enter Try.func36, Try.ntmps36
    go_wp2
    go_ret2
    exact ⟨_, _, _, rfl, Sl.new w 3 1 2 #[.int .i64 3, .int .i64 4] (0, 0) (by decide) rfl, (Below.refl _ _).alloc (Nat.le_refl _) _⟩
  by_cases h40963 : tag = 40963
  · subst h40963
    have e : look photoT 40963 = ([3, 4], 1) := by decide
    rw [e]
    go_enter Try.func36, Try.ntmps36
    go_wp2
    go_ret2
    exact ⟨_, _, _, rfl, Sl.new w 3 1 2 #[.int .i64 3, .int .i64 4] (0, 0) (by decide) rfl, (Below.refl _ _).alloc (Nat.le_refl _) _⟩
  by_cases h34855 : tag = 34855
  · subst h34855
    have e : look photoT 34855 = ([3], 0) := by decide
    rw [e]
    go_enter Try.func36, Try.ntmps36
    go_wp2
    go_ret2
    exact ⟨_, _, _, rfl, Sl.new w 3 1 1 #[.int .i64 3] (0, 0) (by decide) rfl, (Below.refl _ _).alloc (Nat.le_refl _) _⟩
  by_cases h37510 : tag = 37510
  · subst h37510
    have e : look photoT 37510 = ([7], 0) := by decide
    rw [e]
    go_enter Try.func36, Try.ntmps36
    go_wp2
    go_ret2
    exact ⟨_, _, _, rfl, Sl.new w 3 1 1 #[.int .i64 7] (0, 0) (by decide) rfl, (Below.refl _ _).alloc (Nat.le_refl _) _⟩
  by_cases h37520 : tag = 37520
  · subst h37520
    have e : look photoT 37520 = ([2], 0) := by decide
    rw [e]
    go_enter Try.func36, Try.ntmps36
    go_wp2
    go_ret2
    exact ⟨_, _, _, rfl, Sl.new w 3 1 1 #[.int .i64 2] (0, 0) (by decide) rfl, (Below.refl _ _).alloc (Nat.le_refl _) _⟩
  by_cases h41728 : tag = 41728
  · subst h41728
    have e : look photoT 41728 = ([7], 1) := by decide
    rw [e]
    go_enter Try.func36, Try.ntmps36
    go_wp2
    go_ret2
    exact ⟨_, _, _, rfl, Sl.new w 3 1 1 #[.int .i64 7] (0, 0) (by decide) rfl, (Below.refl _ _).alloc (Nat.le_refl _) _⟩
  by_cases h42016 : tag = 42016
  · subst h42016
    have e : look photoT 42016 = ([2], 33) := by decide
    rw [e]
    go_enter Try.func36, Try.ntmps36
    go_wp2
    go_ret2
    exact ⟨_, _, _, rfl, Sl.new w 3 1 1 #[.int .i64 2] (0, 0) (by decide) rfl, (Below.refl _ _).alloc (Nat.le_refl _) _⟩
  by_cases h42034 : tag = 42034
  · subst h42034
    have e : look photoT 42034 = ([5], 4) := by decide
    rw [e]
    go_enter Try.func36, Try.ntmps36
    go_wp2
    go_ret2
    exact ⟨_, _, _, rfl, Sl.new w 3 1 1 #[.int .i64 5] (0, 0) (by decide) rfl, (Below.refl _ _).alloc (Nat.le_refl _) _⟩
  have e : look photoT tag = ([], -1) := look_none (by intro r hr; simp only [photoT, List.mem_cons, List.not_mem_nil, or_false] at hr; rcases hr with rfl | rfl | rfl | rfl | rfl | rfl | rfl | rfl | rfl | rfl | rfl | rfl | rfl | rfl | rfl | rfl | rfl | rfl | rfl | rfl | rfl | rfl | rfl | rfl | rfl <;> (intro he; simp at he; omega))
  rw [e]
  go_enter Try.func36, Try.ntmps36
  go_wp2
  go_ret2
  exact ⟨_, _, _, rfl, Sl.nil _ _, Below.refl _ _⟩
end Go.Proofs.Ytnhcmibngcmebaa
