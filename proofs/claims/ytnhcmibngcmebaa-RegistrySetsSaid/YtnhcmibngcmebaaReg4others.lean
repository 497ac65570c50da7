import Derived.Test.YtnhcmibngcmebaaRegQ
import Derived.Test.YtnhcmibngcmebaaRegE
namespace Go.Proofs.Ytnhcmibngcmebaa
open Go.RowKit Tt
set_option linter.unusedVariables false
attribute [-go_sem] run_eql_struct

set_option maxHeartbeats 4000000 in
theorem roth3_any (tag : Int) (w : World) : Calls Try.prog 37 #[.int .i64 3, .int .i64 tag] w fun e w' => ∃ a n c, e = .returned (.tuple #[.slice a n c, .int .i64 (look gpsT tag).2]) ∧ Sl w' a n c 1 (ints .i64 (look gpsT tag).1) ∧ Below w.heap.size w w' := by
  have E := eq_two
  by_cases h0 : tag = 0
  · subst h0
    have e : look gpsT 0 = ([1], 4) := by decide
    rw [e]
    go_enter Try.func37, Try.ntmps37
    go_wp2
    go_ret2
    exact ⟨_, _, _, rfl, Sl.new w 3 1 1 #[.int .i64 1] (0, 0) (by decide) rfl, (Below.refl _ _).alloc (Nat.le_refl _) _⟩
  by_cases h5 : tag = 5
  · subst h5
    have e : look gpsT 5 = ([1], 1) := by decide
    rw [e]
    go_enter Try.func37, Try.ntmps37
    go_wp2
    go_ret2
    exact ⟨_, _, _, rfl, Sl.new w 3 1 1 #[.int .i64 1] (0, 0) (by decide) rfl, (Below.refl _ _).alloc (Nat.le_refl _) _⟩
  by_cases h6 : tag = 6
  · subst h6
    have e : look gpsT 6 = ([5], 1) := by decide
    rw [e]
    go_enter Try.func37, Try.ntmps37
    go_wp2
    go_ret2
    exact ⟨_, _, _, rfl, Sl.new w 3 1 1 #[.int .i64 5] (0, 0) (by decide) rfl, (Below.refl _ _).alloc (Nat.le_refl _) _⟩
  by_cases h1 : tag = 1
  · subst h1
    have e : look gpsT 1 = ([2], 2) := by decide
    rw [e]
    go_enter Try.func37, Try.ntmps37
    go_wp2
    go_ret2
    exact ⟨_, _, _, rfl, Sl.new w 3 1 1 #[.int .i64 2] (0, 0) (by decide) rfl, (Below.refl _ _).alloc (Nat.le_refl _) _⟩
  by_cases h3 : tag = 3
  · subst h3
    have e : look gpsT 3 = ([2], 2) := by decide
    rw [e]
    go_enter Try.func37, Try.ntmps37
    go_wp2
    go_ret2
    exact ⟨_, _, _, rfl, Sl.new w 3 1 1 #[.int .i64 2] (0, 0) (by decide) rfl, (Below.refl _ _).alloc (Nat.le_refl _) _⟩
  by_cases h2 : tag = 2
  · subst h2
    have e : look gpsT 2 = ([5], 3) := by decide
    rw [e]
    go_enter Try.func37, Try.ntmps37
    go_wp2
    go_ret2
    exact ⟨_, _, _, rfl, Sl.new w 3 1 1 #[.int .i64 5] (0, 0) (by decide) rfl, (Below.refl _ _).alloc (Nat.le_refl _) _⟩
  by_cases h4 : tag = 4
  · subst h4
    have e : look gpsT 4 = ([5], 3) := by decide
    rw [e]
    go_enter Try.func37, Try.ntmps37
    go_wp2
    go_ret2
    exact ⟨_, _, _, rfl, Sl.new w 3 1 1 #[.int .i64 5] (0, 0) (by decide) rfl, (Below.refl _ _).alloc (Nat.le_refl _) _⟩
  by_cases h7 : tag = 7
  · subst h7
    have e : look gpsT 7 = ([5], 3) := by decide
    rw [e]
    go_enter Try.func37, Try.ntmps37
    go_wp2
    go_ret2
    exact ⟨_, _, _, rfl, Sl.new w 3 1 1 #[.int .i64 5] (0, 0) (by decide) rfl, (Below.refl _ _).alloc (Nat.le_refl _) _⟩
  by_cases h18 : tag = 18
  · subst h18
    have e : look gpsT 18 = ([2], 0) := by decide
    rw [e]
    go_enter Try.func37, Try.ntmps37
    go_wp2
    go_ret2
    exact ⟨_, _, _, rfl, Sl.new w 3 1 1 #[.int .i64 2] (0, 0) (by decide) rfl, (Below.refl _ _).alloc (Nat.le_refl _) _⟩
  by_cases h29 : tag = 29
  · subst h29
    have e : look gpsT 29 = ([2], 11) := by decide
    rw [e]
    go_enter Try.func37, Try.ntmps37
    go_wp2
    go_ret2
    exact ⟨_, _, _, rfl, Sl.new w 3 1 1 #[.int .i64 2] (0, 0) (by decide) rfl, (Below.refl _ _).alloc (Nat.le_refl _) _⟩
  have f0 : (tag == 0) = false := by simp [h0]
  have f5 : (tag == 5) = false := by simp [h5]
  have f6 : (tag == 6) = false := by simp [h6]
  have f1 : (tag == 1) = false := by simp [h1]
  have f3 : (tag == 3) = false := by simp [h3]
  have f2 : (tag == 2) = false := by simp [h2]
  have f4 : (tag == 4) = false := by simp [h4]
  have f7 : (tag == 7) = false := by simp [h7]
  have f18 : (tag == 18) = false := by simp [h18]
  have f29 : (tag == 29) = false := by simp [h29]
  have e : look gpsT tag = ([], -1) := look_none (by intro r hr; simp only [gpsT, List.mem_cons, List.not_mem_nil, or_false] at hr; rcases hr with rfl | rfl | rfl | rfl | rfl | rfl | rfl | rfl | rfl | rfl <;> (intro he; simp at he; omega))
  rw [e]
  go_enter Try.func37, Try.ntmps37
  go_wp2
  go_ret2
  exact ⟨_, _, _, rfl, Sl.nil _ _, Below.refl _ _⟩
set_option maxHeartbeats 4000000 in
theorem roth4_any (tag : Int) (w : World) : Calls Try.prog 37 #[.int .i64 4, .int .i64 tag] w fun e w' => ∃ a n c, e = .returned (.tuple #[.slice a n c, .int .i64 (look interT tag).2]) ∧ Sl w' a n c 1 (ints .i64 (look interT tag).1) ∧ Below w.heap.size w w' := by
  have E := eq_two
  by_cases h1 : tag = 1
  · subst h1
    have e : look interT 1 = ([2], 4) := by decide
    rw [e]
    go_enter Try.func37, Try.ntmps37
    go_wp2
    go_ret2
    exact ⟨_, _, _, rfl, Sl.new w 3 1 1 #[.int .i64 2] (0, 0) (by decide) rfl, (Below.refl _ _).alloc (Nat.le_refl _) _⟩
  by_cases h2 : tag = 2
  · subst h2
    have e : look interT 2 = ([7], 4) := by decide
    rw [e]
    go_enter Try.func37, Try.ntmps37
    go_wp2
    go_ret2
    exact ⟨_, _, _, rfl, Sl.new w 3 1 1 #[.int .i64 7] (0, 0) (by decide) rfl, (Below.refl _ _).alloc (Nat.le_refl _) _⟩
  have f1 : (tag == 1) = false := by simp [h1]
  have f2 : (tag == 2) = false := by simp [h2]
  have e : look interT tag = ([], -1) := look_none (by intro r hr; simp only [interT, List.mem_cons, List.not_mem_nil, or_false] at hr; rcases hr with rfl | rfl <;> (intro he; simp at he; omega))
  rw [e]
  go_enter Try.func37, Try.ntmps37
  go_wp2
  go_ret2
  exact ⟨_, _, _, rfl, Sl.nil _ _, Below.refl _ _⟩
set_option maxHeartbeats 4000000 in
theorem roth5_any (tag : Int) (w : World) : Calls Try.prog 37 #[.int .i64 5, .int .i64 tag] w fun e w' => ∃ a n c, e = .returned (.tuple #[.slice a n c, .int .i64 (look viewT tag).2]) ∧ Sl w' a n c 1 (ints .i64 (look viewT tag).1) ∧ Below w.heap.size w w' := by
  have E := eq_two
  by_cases h45056 : tag = 45056
  · subst h45056
    have e : look viewT 45056 = ([7], 4) := by decide
    rw [e]
    go_enter Try.func37, Try.ntmps37
    go_wp2
    go_ret2
    exact ⟨_, _, _, rfl, Sl.new w 3 1 1 #[.int .i64 7] (0, 0) (by decide) rfl, (Below.refl _ _).alloc (Nat.le_refl _) _⟩
  by_cases h45313 : tag = 45313
  · subst h45313
    have e : look viewT 45313 = ([4], 1) := by decide
    rw [e]
    go_enter Try.func37, Try.ntmps37
    go_wp2
    go_ret2
    exact ⟨_, _, _, rfl, Sl.new w 3 1 1 #[.int .i64 4] (0, 0) (by decide) rfl, (Below.refl _ _).alloc (Nat.le_refl _) _⟩
  by_cases h45569 : tag = 45569
  · subst h45569
    have e : look viewT 45569 = ([4], 1) := by decide
    rw [e]
    go_enter Try.func37, Try.ntmps37
    go_wp2
    go_ret2
    exact ⟨_, _, _, rfl, Sl.new w 3 1 1 #[.int .i64 4] (0, 0) (by decide) rfl, (Below.refl _ _).alloc (Nat.le_refl _) _⟩
  by_cases h45570 : tag = 45570
  · subst h45570
    have e : look viewT 45570 = ([4], 1) := by decide
    rw [e]
    go_enter Try.func37, Try.ntmps37
    go_wp2
    go_ret2
    exact ⟨_, _, _, rfl, Sl.new w 3 1 1 #[.int .i64 4] (0, 0) (by decide) rfl, (Below.refl _ _).alloc (Nat.le_refl _) _⟩
  by_cases h45572 : tag = 45572
  · subst h45572
    have e : look viewT 45572 = ([5], 1) := by decide
    rw [e]
    go_enter Try.func37, Try.ntmps37
    go_wp2
    go_ret2
    exact ⟨_, _, _, rfl, Sl.new w 3 1 1 #[.int .i64 5] (0, 0) (by decide) rfl, (Below.refl _ _).alloc (Nat.le_refl _) _⟩
  by_cases h45574 : tag = 45574
  · subst h45574
    have e : look viewT 45574 = ([5], 1) := by decide
    rw [e]
    go_enter Try.func37, Try.ntmps37
    go_wp2
    go_ret2
    exact ⟨_, _, _, rfl, Sl.new w 3 1 1 #[.int .i64 5] (0, 0) (by decide) rfl, (Below.refl _ _).alloc (Nat.le_refl _) _⟩
  by_cases h45573 : tag = 45573
  · subst h45573
    have e : look viewT 45573 = ([10], 1) := by decide
    rw [e]
    go_enter Try.func37, Try.ntmps37
    go_wp2
    go_ret2
    exact ⟨_, _, _, rfl, Sl.new w 3 1 1 #[.int .i64 10] (0, 0) (by decide) rfl, (Below.refl _ _).alloc (Nat.le_refl _) _⟩
  by_cases h45576 : tag = 45576
  · subst h45576
    have e : look viewT 45576 = ([10], 1) := by decide
    rw [e]
    go_enter Try.func37, Try.ntmps37
    go_wp2
    go_ret2
    exact ⟨_, _, _, rfl, Sl.new w 3 1 1 #[.int .i64 10] (0, 0) (by decide) rfl, (Below.refl _ _).alloc (Nat.le_refl _) _⟩
  have f45056 : (tag == 45056) = false := by simp [h45056]
  have f45313 : (tag == 45313) = false := by simp [h45313]
  have f45569 : (tag == 45569) = false := by simp [h45569]
  have f45570 : (tag == 45570) = false := by simp [h45570]
  have f45572 : (tag == 45572) = false := by simp [h45572]
  have f45574 : (tag == 45574) = false := by simp [h45574]
  have f45573 : (tag == 45573) = false := by simp [h45573]
  have f45576 : (tag == 45576) = false := by simp [h45576]
  have e : look viewT tag = ([], -1) := look_none (by intro r hr; simp only [viewT, List.mem_cons, List.not_mem_nil, or_false] at hr; rcases hr with rfl | rfl | rfl | rfl | rfl | rfl | rfl | rfl <;> (intro he; simp at he; omega))
  rw [e]
  go_enter Try.func37, Try.ntmps37
  go_wp2
  go_ret2
  exact ⟨_, _, _, rfl, Sl.nil _ _, Below.refl _ _⟩
set_option maxHeartbeats 4000000 in
theorem roth_any (dir tag : Int) (w : World) (h3 : dir ≠ 3) (h4 : dir ≠ 4) (h5 : dir ≠ 5) : Calls Try.prog 37 #[.int .i64 dir, .int .i64 tag] w fun e w' => e = .returned (.tuple #[.slice none 0 0, .int .i64 (-1)]) ∧ w = w' := by
  have E := eq_two
  have f3 : (dir == 3) = false := by simp [h3]
  have f4 : (dir == 4) = false := by simp [h4]
  have f5 : (dir == 5) = false := by simp [h5]
  go_enter Try.func37, Try.ntmps37
  go_wp2
  go_ret2
  exact ⟨rfl, rfl⟩
end Go.Proofs.Ytnhcmibngcmebaa
