/- Chapter 29: Find, of two small streams, one behind the other. -/
import Derived.Test.YthcecnolmhillaaPl14
namespace Go.Proofs.Ythcecnolmhillaa
open Go.RowKit Tt
attribute [local go_sem] Oper.semAt_some
set_option linter.unusedVariables false
set_option linter.unusedSimpArgs false

theorem imagesfn_any (a : Option Addr) (n c : Nat) (w : World) : Calls Try.prog 20 #[.slice a n c] w fun e w' => e = .returned (.func (.func 23) #[] #[.pointer (some ⟨w.heap.size, 0, none⟩)]) ∧ w' = w.alloc (.cells #[.slice a n c] 40) := by
  go_enter Try.func20, Try.ntmps20
  go_wp2
  go_ret
  exact ⟨rfl, rfl⟩

def reps (k : Nat) : List Int := (List.range k).flatMap fun _ => core15
theorem reps_succ (k : Nat) : reps (k + 1) = reps k ++ core15 := by simp [reps, List.range_succ]
theorem reps_len : ∀ k, (reps k).length = 15 * k
  | 0 => rfl
  | k + 1 => by rw [reps_succ, List.length_append, reps_len k]; rfl
set_option maxHeartbeats 1000000 in
theorem core_any (w : World) : Calls Try.prog 15 #[.int .i64 2] w fun e w' => ∃ a c, e = .returned (.slice a 30 c) ∧ Sl w' a 30 c 1 (ints .u8 core30) ∧ Below w.heap.size w w' := by
  obtain ⟨i0, hi, hz0, hz1, hz2⟩ := info_parts infoB
  go_enter Try.func15, Try.ntmps15
  go_wp2
  go_loopw [3, 4] (fun v i wr => ∃ (k : Nat) (a4 : Option Addr) (c4 : Nat), k ≤ 2 ∧ i = .int .i64 k ∧ v = .slice a4 (15 * k) c4 ∧ Hid (wr.ownsRow w.heap.size 5 1 (.slice a4 (15 * k) c4) (15 * k) (ints .u8 (reps k))) ∧ Hid (Below w.heap.size w wr)) (fun _ i _ => 2 - (intOf i).toNat)
  case atStart => exact ⟨0, none, 0, by omega, rfl, rfl, Lib.hid (own_nil _ _ _ _), Lib.hid (Below.refl _ _)⟩
  case round =>
    obtain ⟨k, a4, c4, hk, rfl, rfl, hown, hb⟩ := hrel
    by_cases hlt : k < 2
    · have d1 : decide ((k : Int) < 2) = true := by simp; omega
      obtain ⟨p, hp⟩ : ∃ p, 15 * k = p := ⟨_, rfl⟩
      rw [hp] at hown ⊢
      have hp2 : 15 * (k + 1) = p + 15 := by omega
      have hp' := Lib.hid hp
      have hp2' := Lib.hid hp2
      clear hp hp2
      go_wp2_with (at_builtin; refine wpList_app rfl _ _ 40 rfl w.heap.size 5 i0 _ 1 1 Try.underlying40 hi hz0 hz1 hz2 rfl (by decide) _ p _ rfl (World.ownsRow.alloc hown.out _) _ 15 15 (ints .u8 core15) rfl (Sl.new' _ 5 1 15 (ints .u8 core15).toArray (0, 0) (by simp) (by omega) rfl) ints_one (by have := hp'.out; omega) (by decide) (by have := hb.out.size; simp; omega) ?_; intro a5 c5 w5 ob hb5 hg5; have Ob := Lib.hid ob; have Hb5 := Lib.hid ((hb.out.alloc hb.out.size _).trans hb5); clear ob hb5 hg5)
      go_roundw
      case rel => exact ⟨k + 1, a5, c5, by omega, by go_num, by rw [hp2'.out], Lib.hid (by rw [hp2'.out, reps_succ, ints_append]; exact Ob.out), Hb5⟩
      case measure => simp [intOf]; omega
    · obtain rfl : k = 2 := by omega
      have hS := Lib.hid (Sl.of_own hown.out).1
      go_wp2
      go_ret
      exact ⟨_, _, rfl, hS.out, hb.out⟩
end Go.Proofs.Ythcecnolmhillaa
