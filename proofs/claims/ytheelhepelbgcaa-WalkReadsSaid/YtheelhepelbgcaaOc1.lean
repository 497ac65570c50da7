/- Chapter 1: may; Get. -/
import Derived.Test.YtheelhepelbgcaaFn
namespace Go.Proofs.Ytheelhepelbgcaa
open Go.RowKit Tt
set_option linter.unusedVariables false

def mayB (size order : Int) : Bool := (size == 1 || size == 2 || size == 4) && (order == 1 || order == 2)
theorem omay1_any (n size : Int) (g : Nat) (w : World) (h : w.cell? ⟨g, 0, none⟩ = some (.int .i64 size)) :
    Calls Try.prog 91 #[.int .i64 n, .pointer (some ⟨g, 0, none⟩)] w fun e w' => e = .returned (.bool (n == size)) ∧ w = w' := by
  go_enter Try.func91, Try.ntmps91
  go_wp2
  go_ret
  exact ⟨rfl, rfl⟩
set_option maxRecDepth 20000 in
set_option maxHeartbeats 1000000 in
theorem omay_any (size order : Int) (w : World) :
    Calls Try.prog 75 #[.int .i64 size, .int .i64 order] w fun e w' => e = .returned (.bool (mayB size order)) ∧ Below w.heap.size w w' := by
  obtain ⟨W1, hW1⟩ : ∃ W1, W1 = (w.alloc (.cells #[.int .i64 size] 3)).alloc (.cells #[.int .i64 1, .int .i64 2, .int .i64 4] 136) := ⟨_, rfl⟩
  have hb1 : Below w.heap.size w W1 := by rw [hW1]; exact ((Below.refl _ _).alloc (Nat.le_refl _) _).alloc (by simp) _
  have hc : W1.cell? ⟨w.heap.size, 0, none⟩ = some (.int .i64 size) := by
    rw [hW1]; unfold World.cell?
    rw [heap_old _ _ (by simp), heap_new]; rfl
  have hsl : Sl W1 (some ⟨w.heap.size + 1, 0, none⟩) 3 3 1 (ints .i64 [1, 2, 4]) := by
    rw [hW1]
    exact Sl.new' _ _ 1 3 #[.int .i64 1, .int .i64 2, .int .i64 4] (0, 0) (by simp) (by omega) rfl
  have hany : ([1, 2, 4] : List Int).any (fun n => n == size) = (size == 1 || size == 2 || size == 4) := by
    simp only [List.any_cons, List.any_nil, Bool.or_false]
    rw [show ((1 : Int) == size) = (size == 1) by exact Bool.beq_comm .., show ((2 : Int) == size) = (size == 2) by exact Bool.beq_comm .., show ((4 : Int) == size) = (size == 4) by exact Bool.beq_comm .., Bool.or_assoc]
  have hc1 : w.heap.size < W1.heap.size := by rw [hW1]; simp; omega
  have HC := ihas_any 91 rfl (.pointer (some ⟨w.heap.size, 0, none⟩)) _ 3 3 [1, 2, 4] (fun n => n == size) W1 hsl
    (fun W x hb => (omay1_any x size _ _ (late hb hc1 hc)).mono fun e w' ⟨h1, h2⟩ => ⟨h1, by rw [h2]; exact Below.refl _ _⟩)
  rw [hany] at HC
  have HC := Lib.hid HC
  obtain ⟨r, hr⟩ : ∃ r, mayB size order = r := ⟨_, rfl⟩
  rw [hr]
  have Hb := Lib.hid hb1
  clear hc hsl hb1 hany hc1
  go_enter Try.func75, Try.ntmps75
  go_upto_region 2 with fail
  rw [← hW1]
  have hW1' := Lib.hid hW1
  have hr' := Lib.hid hr
  clear hW1 hr
  go_wp2_with fail
  refine HC.out.mono ?_
  rintro e w2 ⟨rfl, hb2⟩
  have Hb := Lib.hid (Hb.out.trans (hb2.mono Hb.out.size))
  clear hb2
  have hr2 := hr'.out
  unfold mayB at hr2
  generalize (size == 1 || size == 2 || size == 4) = s at *
  have h1 : ∃ b, (order == 1) = b := ⟨_, rfl⟩
  have h2 : ∃ b, (order == 2) = b := ⟨_, rfl⟩
  obtain ⟨b1, h1⟩ := h1
  obtain ⟨b2, h2⟩ := h2
  rw [h1, h2] at hr2
  have hr2' := Lib.hid hr2
  clear hr2
  cases s <;> cases b1 <;> cases b2
  all_goals
    go_wp2
    go_ret
    exact ⟨by rw [← hr2'.out]; rfl, Hb.out⟩
end Go.Proofs.Ytheelhepelbgcaa
