/- Chapter 1: may; Get. -/
import Derived.Test.YthcecnolmhillaaPl2
namespace Go.Proofs.Ythcecnolmhillaa
open Go.RowKit Tt
set_option linter.unusedVariables false

def mayB (size order : Int) : Bool := (size == 1 || size == 2 || size == 4) && (order == 1 || order == 2)
theorem omay1_any (n size : Int) (g : Nat) (w : World) (h : w.cell? ⟨g, 0, none⟩ = some (.int .i64 size)) :
    Calls Try.prog 38 #[.int .i64 n, .pointer (some ⟨g, 0, none⟩)] w fun e w' => e = .returned (.bool (n == size)) ∧ w = w' := by
  go_enter Try.func38, Try.ntmps38
  go_wp2
  go_ret
  exact ⟨rfl, rfl⟩
set_option maxRecDepth 20000 in
set_option maxHeartbeats 1000000 in
theorem omay_any (size order : Int) (w : World) :
    Calls Try.prog 35 #[.int .i64 size, .int .i64 order] w fun e w' => e = .returned (.bool (mayB size order)) ∧ Below w.heap.size w w' := by
  obtain ⟨W1, hW1⟩ : ∃ W1, W1 = (w.alloc (.cells #[.int .i64 size] 3)).alloc (.cells #[.int .i64 1, .int .i64 2, .int .i64 4] 71) := ⟨_, rfl⟩
  have hb1 : Below w.heap.size w W1 := by rw [hW1]; exact ((Below.refl _ _).alloc (Nat.le_refl _) _).alloc (by simp) _
  have hc : W1.cell? ⟨w.heap.size, 0, none⟩ = some (.int .i64 size) := by
    rw [hW1]; unfold World.cell?
    rw [heap_old _ _ (by simp), heap_new]; rfl
  have hsl : Sl W1 (some ⟨w.heap.size + 1, 0, none⟩) 3 3 1 (ints .i64 [1, 2, 4]) := by
    rw [hW1]
    exact Sl.new' _ _ 1 3 #[.int .i64 1, .int .i64 2, .int .i64 4] (0, 0) (by simp) (by omega) rfl
  have HC := Lib.hid (containsfn_any 38 (.inr rfl) (.pointer (some ⟨w.heap.size, 0, none⟩)) _ 3 3 [1, 2, 4] (fun k W => W = W1) (fun k W => W = W1) (fun k => ([1, 2, 4] : List Int).getD k 0 == size) W1 (by omega) rfl
    (fun k W h => by rw [h]; exact hsl)
    (fun k W hk hall h => by subst h; exact (omay1_any _ size _ _ hc).mono fun e w' ⟨h1, h2⟩ => ⟨h1, fun _ => h2.symm, fun _ => h2.symm⟩))
  obtain ⟨r, hr⟩ : ∃ r, mayB size order = r := ⟨_, rfl⟩
  rw [hr]
  have Hb := Lib.hid hb1
  clear hc hsl hb1
  go_enter Try.func35, Try.ntmps35
  go_upto_region 2 with fail
  rw [← hW1]
  have hW1' := Lib.hid hW1
  have hr' := Lib.hid hr
  clear hW1 hr
  go_wp2_with fail
  refine HC.out.mono ?_
  rintro e w2 ⟨j, hall, h⟩
  have hsz : (e = .returned (.bool (size == 1 || size == 2 || size == 4))) ∧ w2 = W1 := by
    rcases h with ⟨h1, h2, rfl, h3⟩ | ⟨rfl, rfl, h3⟩
    · refine ⟨?_, h3⟩
      congr 2
      have h4 := beq_iff_eq.1 h2
      have : j = 0 ∨ j = 1 ∨ j = 2 := by omega
      rcases this with rfl | rfl | rfl <;> simp at h4 <;> simp [← h4]
    · refine ⟨?_, h3⟩
      congr 2
      have h0 := hall 0 (by omega)
      have h1 := hall 1 (by omega)
      have h2 := hall 2 (by omega)
      simp at h0 h1 h2
      symm
      simp
      omega
  obtain ⟨rfl, rfl⟩ := hsz
  clear hall h
  have hr2 := hr'.out
  unfold mayB at hr2
  generalize (size == 1 || size == 2 || size == 4) = s at *
  have h1 : ∃ b, (order == 1) = b := ⟨_, rfl⟩
  have h2 : ∃ b, (order == 2) = b := ⟨_, rfl⟩
  obtain ⟨b1, h1⟩ := h1
  obtain ⟨b2, h2⟩ := h2
  rw [h1, h2] at hr2
  have hr2' := Lib.hid hr2
  clear hr2
  cases s <;> cases b1 <;> cases b2
  all_goals
    go_wp2
    go_ret
    exact ⟨by rw [← hr2'.out]; rfl, Hb.out⟩
end Go.Proofs.Ythcecnolmhillaa
