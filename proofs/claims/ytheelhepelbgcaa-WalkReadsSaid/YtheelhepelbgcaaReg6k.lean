import Derived.Test.YtheelhepelbgcaaTy0
import Derived.Laws.Tables
namespace Go.Proofs.Ytheelhepelbgcaa
open Go.RowKit Tt
set_option linter.unusedVariables false

def kindCells : Array Value := #[.int .i64 0, .int .i64 0, .int .i64 0, .int .i64 1, .int .i64 1, .int .i64 1, .int .i64 1, .int .i64 1, .int .i64 1, .int .i64 2, .int .i64 2, .int .i64 1, .int .i64 4, .int .i64 4, .int .i64 1, .int .i64 8, .int .i64 4, .int .i64 3, .int .i64 1, .int .i64 1, .int .i64 2, .int .i64 1, .int .i64 1, .int .i64 1, .int .i64 2, .int .i64 2, .int .i64 2, .int .i64 4, .int .i64 4, .int .i64 2, .int .i64 8, .int .i64 4, .int .i64 4, .int .i64 4, .int .i64 4, .int .i64 5, .int .i64 8, .int .i64 8, .int .i64 5]
theorem wpList_built {P : Program} {ops : Array Oper} {rest : List Oper} {o : Oper} {a : Act} {w : World} {Q : Exit → Act → World → Prop} (hg : o.guard = none) (t : TypeId) (parts : Array (Nat × Operand)) (ho : o.op = .build t parts) (cells : Array Value)
    (hf : P.built t (parts.map fun (i, x) => (i, a.eval x)).toList = some cells)
    (h : wpList P ops Q rest (a.put o.dst (.agg cells)) w) : wpList P ops Q (o :: rest) a w :=
  wpList_build hg t parts ho (by rw [hf]; rfl) (by rw [hf]; exact h)
theorem setRow_below {B : Nat} {w w' : World} (h : Below B w w') {g : Nat} (hg : B ≤ g) (cs : Array Value) : Below B w (w'.setRow g cs) :=
  ⟨h.os, h.tape, h.output, by rw [setRow_size]; exact h.size, fun k hk => by rw [setRow_other _ _ _ _ (by omega)]; exact h.block k hk⟩

set_option maxRecDepth 100000 in
set_option maxHeartbeats 1000000 in
theorem kinds_any (w : World) : Calls Try.prog 93 #[] w fun e w' => e = .returned (.agg kindCells) ∧ Below w.heap.size w w' := by
  have ki : (Try.prog.info? 138).map (·.size) = some kindCells.size := by kernel_rfl
  have ka : kindCells.all (·.oneCell') = true := by kernel_rfl
  go_enter Try.func93, Try.ntmps93
  go_wp2_with (first
    | (refine wpList_built rfl 138 _ rfl kindCells (by kernel_rfl) ?_)
    | (refine wpList_store_row rfl 138 (.tmp 0) (.tmp 13) rfl w.heap.size kindCells rfl rfl 138 _ (heap_new w _) ki rfl ka ?_))
  refine bodyPost_ret (results_cell_row rfl _ _ w.heap.size 138 kindCells (0, 0) _ rfl (setRow_heap _ _ _ _ _ _ (heap_new w _)) Try.underlying138 rfl ki) rfl ?_
  exact ⟨rfl, setRow_below ((Below.refl _ _).alloc (Nat.le_refl _) _) (Nat.le_refl _) _⟩

theorem kind_at {n : Int} (h0 : 0 ≤ n) (h1 : n ≤ 12) (W : World) : (Instr.index 138 (.agg kindCells) (.int .i64 n)).run Try.prog W = .ok (.agg #[.int .i64 (kindS n).1, .int .i64 (kindS n).2.1, .int .i64 (kindS n).2.2]) W := by
  rcases (by omega : n = 0 ∨ n = 1 ∨ n = 2 ∨ n = 3 ∨ n = 4 ∨ n = 5 ∨ n = 6 ∨ n = 7 ∨ n = 8 ∨ n = 9 ∨ n = 10 ∨ n = 11 ∨ n = 12) with rfl | rfl | rfl | rfl | rfl | rfl | rfl | rfl | rfl | rfl | rfl | rfl | rfl
  all_goals kernel_rfl

set_option maxHeartbeats 1000000 in
theorem kind_any (n : Int) (w : World) : Calls Try.prog 79 #[.int .i64 n] w fun e w' => e = .returned (.agg #[.int .i64 (kindS n).1, .int .i64 (kindS n).2.1, .int .i64 (kindS n).2.2]) ∧ Below w.heap.size w w' := by
  by_cases h : n < 0 ∨ 12 < n
  · rw [kindS_out h]
    by_cases h0 : n < 0
    · go_enter Try.func79, Try.ntmps79
      go_wp2
      refine bodyPost_ret (results_cell_row rfl _ _ w.heap.size 131 #[.int .i64 0, .int .i64 0, .int .i64 0] (0, 0) _ rfl (heap_new w _) Try.underlying131 rfl (by kernel_rfl)) rfl ?_
      exact ⟨rfl, (Below.refl _ _).alloc (Nat.le_refl _) _⟩
    · have h1 : 12 < n := by omega
      go_enter Try.func79, Try.ntmps79
      go_wp2
      refine bodyPost_ret (results_cell_row rfl _ _ w.heap.size 131 #[.int .i64 0, .int .i64 0, .int .i64 0] (0, 0) _ rfl (heap_new w _) Try.underlying131 rfl (by kernel_rfl)) rfl ?_
      exact ⟨rfl, (Below.refl _ _).alloc (Nat.le_refl _) _⟩
  · have hidx := fun W => kind_at (n := n) (by omega) (by omega) W
    have h0 : ¬ n < 0 := by omega
    have h1 : ¬ 12 < n := by omega
    obtain ⟨s, p, i, hk⟩ : ∃ s p i, kindS n = (s, p, i) := ⟨_, _, _, rfl⟩
    rw [hk] at hidx ⊢
    simp only at hidx ⊢
    clear h hk
    go_enter Try.func79, Try.ntmps79
    go_wp2_with fail
    refine (kinds_any _).mono ?_
    rintro e w1 ⟨rfl, hb⟩
    have hg : w1.heap[w.heap.size]? = _ := (hb.block w.heap.size (by simp)).trans (heap_new w _)
    generalize kindCells = kc at *
    have kall : (#[.int .i64 s, .int .i64 p, .int .i64 i] : Array Value).all (·.oneCell') = true := by simp [Value.oneCell']
    have kinf : (Try.prog.info? 131).map (·.size) = some (#[.int .i64 s, .int .i64 p, .int .i64 i] : Array Value).size := by kernel_rfl
    have Kall := Lib.hid kall
    have Kinf := Lib.hid kinf
    have Hg := Lib.hid hg
    clear kall kinf hg
    go_wp2_with (refine wpList_store_row rfl 131 (.tmp 2) (.tmp 12) rfl w.heap.size #[.int .i64 s, .int .i64 p, .int .i64 i] rfl rfl 131 _ Hg.out Kinf.out rfl Kall.out ?_)
    refine bodyPost_ret (results_cell_row rfl _ _ w.heap.size 131 #[.int .i64 s, .int .i64 p, .int .i64 i] (0, 0) _ rfl (setRow_heap _ _ _ _ _ _ Hg.out) Try.underlying131 rfl (by kernel_rfl)) rfl ?_
    exact ⟨rfl, setRow_below (((Below.refl w.heap.size w).alloc (Nat.le_refl _) _).trans (hb.mono (by simp))) (Nat.le_refl _) _⟩
end Go.Proofs.Ytheelhepelbgcaa
