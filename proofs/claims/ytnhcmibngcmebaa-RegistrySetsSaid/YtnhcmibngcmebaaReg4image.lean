import Derived.Test.YtnhcmibngcmebaaRegQ
import Derived.Test.YtnhcmibngcmebaaRegE
namespace Go.Proofs.Ytnhcmibngcmebaa
open Go.RowKit Tt
set_option linter.unusedVariables false
attribute [-go_sem] run_eql_struct

set_option maxHeartbeats 4000000 in
theorem rimage_any (tag : Int) (w : World) : Calls Try.prog 35 #[.int .i64 tag] w fun e w' => ∃ a n c, e = .returned (.tuple #[.slice a n c, .int .i64 (look imageT tag).2]) ∧ Sl w' a n c 1 (ints .i64 (look imageT tag).1) ∧ Below w.heap.size w w' := by
  by_cases h256 : tag = 256
  · subst h256
    have e : look imageT 256 = ([3, 4], 1) := by decide
    rw [e]
    go_enter Try.func35, Try.ntmps35
    go_wp2
    go_ret2
    exact ⟨_, _, _, rfl, Sl.new w 3 1 2 #[.int .i64 3, .int .i64 4] (0, 0) (by decide) rfl, (Below.refl _ _).alloc (Nat.le_refl _) _⟩
  by_cases h257 : tag = 257
  · subst h257
    have e : look imageT 257 = ([3, 4], 1) := by decide
    rw [e]
    go_enter Try.func35, Try.ntmps35
    go_wp2
    go_ret2
    exact ⟨_, _, _, rfl, Sl.new w 3 1 2 #[.int .i64 3, .int .i64 4] (0, 0) (by decide) rfl, (Below.refl _ _).alloc (Nat.le_refl _) _⟩
  by_cases h259 : tag = 259
  · subst h259
    have e : look imageT 259 = ([3], 1) := by decide
    rw [e]
    go_enter Try.func35, Try.ntmps35
    go_wp2
    go_ret2
    exact ⟨_, _, _, rfl, Sl.new w 3 1 1 #[.int .i64 3] (0, 0) (by decide) rfl, (Below.refl _ _).alloc (Nat.le_refl _) _⟩
  by_cases h274 : tag = 274
  · subst h274
    have e : look imageT 274 = ([3], 1) := by decide
    rw [e]
    go_enter Try.func35, Try.ntmps35
    go_wp2
    go_ret2
    exact ⟨_, _, _, rfl, Sl.new w 3 1 1 #[.int .i64 3] (0, 0) (by decide) rfl, (Below.refl _ _).alloc (Nat.le_refl _) _⟩
  by_cases h296 : tag = 296
  · subst h296
    have e : look imageT 296 = ([3], 1) := by decide
    rw [e]
    go_enter Try.func35, Try.ntmps35
    go_wp2
    go_ret2
    exact ⟨_, _, _, rfl, Sl.new w 3 1 1 #[.int .i64 3] (0, 0) (by decide) rfl, (Below.refl _ _).alloc (Nat.le_refl _) _⟩
  by_cases h531 : tag = 531
  · subst h531
    have e : look imageT 531 = ([3], 1) := by decide
    rw [e]
    go_enter Try.func35, Try.ntmps35
    go_wp2
    go_ret2
    exact ⟨_, _, _, rfl, Sl.new w 3 1 1 #[.int .i64 3] (0, 0) (by decide) rfl, (Below.refl _ _).alloc (Nat.le_refl _) _⟩
  by_cases h270 : tag = 270
  · subst h270
    have e : look imageT 270 = ([2], 0) := by decide
    rw [e]
    go_enter Try.func35, Try.ntmps35
    go_wp2
    go_ret2
    exact ⟨_, _, _, rfl, Sl.new w 3 1 1 #[.int .i64 2] (0, 0) (by decide) rfl, (Below.refl _ _).alloc (Nat.le_refl _) _⟩
  by_cases h271 : tag = 271
  · subst h271
    have e : look imageT 271 = ([2], 0) := by decide
    rw [e]
    go_enter Try.func35, Try.ntmps35
    go_wp2
    go_ret2
    exact ⟨_, _, _, rfl, Sl.new w 3 1 1 #[.int .i64 2] (0, 0) (by decide) rfl, (Below.refl _ _).alloc (Nat.le_refl _) _⟩
  by_cases h272 : tag = 272
  · subst h272
    have e : look imageT 272 = ([2], 0) := by decide
    rw [e]
    go_enter Try.func35, Try.ntmps35
    go_wp2
    go_ret2
    exact ⟨_, _, _, rfl, Sl.new w 3 1 1 #[.int .i64 2] (0, 0) (by decide) rfl, (Below.refl _ _).alloc (Nat.le_refl _) _⟩
  by_cases h305 : tag = 305
  · subst h305
    have e : look imageT 305 = ([2], 0) := by decide
    rw [e]
    go_enter Try.func35, Try.ntmps35
    go_wp2
    go_ret2
    exact ⟨_, _, _, rfl, Sl.new w 3 1 1 #[.int .i64 2] (0, 0) (by decide) rfl, (Below.refl _ _).alloc (Nat.le_refl _) _⟩
  by_cases h315 : tag = 315
  · subst h315
    have e : look imageT 315 = ([2], 0) := by decide
    rw [e]
    go_enter Try.func35, Try.ntmps35
    go_wp2
    go_ret2
    exact ⟨_, _, _, rfl, Sl.new w 3 1 1 #[.int .i64 2] (0, 0) (by decide) rfl, (Below.refl _ _).alloc (Nat.le_refl _) _⟩
  by_cases h33432 : tag = 33432
  · subst h33432
    have e : look imageT 33432 = ([2], 0) := by decide
    rw [e]
    go_enter Try.func35, Try.ntmps35
    go_wp2
    go_ret2
    exact ⟨_, _, _, rfl, Sl.new w 3 1 1 #[.int .i64 2] (0, 0) (by decide) rfl, (Below.refl _ _).alloc (Nat.le_refl _) _⟩
  by_cases h306 : tag = 306
  · subst h306
    have e : look imageT 306 = ([2], 20) := by decide
    rw [e]
    go_enter Try.func35, Try.ntmps35
    go_wp2
    go_ret2
    exact ⟨_, _, _, rfl, Sl.new w 3 1 1 #[.int .i64 2] (0, 0) (by decide) rfl, (Below.refl _ _).alloc (Nat.le_refl _) _⟩
  by_cases h282 : tag = 282
  · subst h282
    have e : look imageT 282 = ([5], 1) := by decide
    rw [e]
    go_enter Try.func35, Try.ntmps35
    go_wp2
    go_ret2
    exact ⟨_, _, _, rfl, Sl.new w 3 1 1 #[.int .i64 5] (0, 0) (by decide) rfl, (Below.refl _ _).alloc (Nat.le_refl _) _⟩
  by_cases h283 : tag = 283
  · subst h283
    have e : look imageT 283 = ([5], 1) := by decide
    rw [e]
    go_enter Try.func35, Try.ntmps35
    go_wp2
    go_ret2
    exact ⟨_, _, _, rfl, Sl.new w 3 1 1 #[.int .i64 5] (0, 0) (by decide) rfl, (Below.refl _ _).alloc (Nat.le_refl _) _⟩
  have e : look imageT tag = ([], -1) := look_none (by intro r hr; simp only [imageT, List.mem_cons, List.not_mem_nil, or_false] at hr; rcases hr with rfl | rfl | rfl | rfl | rfl | rfl | rfl | rfl | rfl | rfl | rfl | rfl | rfl | rfl | rfl <;> (intro he; simp at he; omega))
  rw [e]
  go_enter Try.func35, Try.ntmps35
  go_wp2
  go_ret2
  exact ⟨_, _, _, rfl, Sl.nil _ _, Below.refl _ _⟩
end Go.Proofs.Ytnhcmibngcmebaa
