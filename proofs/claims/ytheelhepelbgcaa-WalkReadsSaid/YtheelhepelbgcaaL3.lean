/- More general words: clear of a row that the call owns. -/
import Derived.Test.YtheelhepelbgcaaL2
import Derived.Lib.SliceRun
namespace Tt
open Go Go.RowKit
set_option linter.unusedVariables false
set_option linter.unusedSimpArgs false

theorem setCells_block (g : Nat) (t : TypeId) (fz : Nat × Nat) : ∀ (vs : List Value) (o : Nat) (w : World) (cur : Array Value), w.heap[g]? = some (.cells cur t fz) → ∃ cur' : Array Value, (w.setCells g o vs).heap[g]? = some (.cells cur' t fz) ∧ cur'.size = cur.size
  | [], _, _, cur, h => ⟨cur, h, rfl⟩
  | v :: r, o, w, cur, h => by
    have h1 : (w.setCell ⟨g, o, none⟩ v).heap[g]? = some (.cells (cur.modify o fun _ => v) t fz) ∨ ∃ c2 : Array Value, (w.setCell ⟨g, o, none⟩ v).heap[g]? = some (.cells c2 t fz) ∧ c2.size = cur.size := by
      right
      simp [World.setCell, Array.getElem?_modify, h]
    rcases h1 with h1 | ⟨c2, h1, h2⟩
    · obtain ⟨cur', h3, h4⟩ := setCells_block g t fz r (o + 1) _ _ h1
      exact ⟨cur', h3, by rw [h4]; simp⟩
    · obtain ⟨cur', h3, h4⟩ := setCells_block g t fz r (o + 1) _ _ h1
      exact ⟨cur', h3, by rw [h4, h2]⟩
theorem setCells_other (g : Nat) : ∀ (vs : List Value) (o : Nat) (w : World) (k : Nat), k ≠ g → (w.setCells g o vs).heap[k]? = w.heap[k]?
  | [], _, _, _, _ => rfl
  | v :: r, o, w, k, h => (setCells_other g r (o + 1) _ k h).trans (Below.heap_setCell _ _ _ _ h)

theorem below_cells {B : Nat} {a : World} (b : Nat) (hb : B ≤ b) : ∀ (vs : List Value) (o : Nat) {w : World}, Below B a w → Below B a (w.setCells b o vs)
  | [], _, _, h => h
  | v :: r, o, _, h => below_cells b hb r (o + 1) (h.setCell (p := ⟨b, o, none⟩) hb v)

/-- What the call owns stays its own behind writes of cells, whatever it then holds. -/
theorem own_cleared {w : World} {B : Nat} {E : TypeId} {sz : Nat} {v : Value} {n : Nat} {xs : List Value} (h : w.ownsRow B E sz v n xs) (g o : Nat) (vs : List Value) : ∃ xs', (w.setCells g o vs).ownsRow B E sz v n xs' := by
  obtain ⟨hl, hr⟩ := h
  rcases hr with hn | ⟨g', cap, cur, hv, hB, hg, hnc, hcm, hcs, htk⟩
  · exact ⟨xs, hl, .inl hn⟩
  · rcases Nat.decEq g' g with hne | rfl
    · exact ⟨xs, hl, .inr ⟨g', cap, cur, hv, hB, (setCells_other g vs o w g' hne).trans hg, hnc, hcm, hcs, htk⟩⟩
    · obtain ⟨cur', h1, h2⟩ := setCells_block g' E (0, 0) vs o w cur hg
      refine ⟨cur'.toList.take (n * sz), ?_, .inr ⟨g', cap, cur', hv, hB, h1, hnc, hcm, by rw [h2, hcs], rfl⟩⟩
      have := Nat.mul_le_mul_right sz hnc
      rw [List.length_take, Array.length_toList, h2, hcs]
      omega
/-- What is of another element type stays as it is. -/
theorem own_kept {w : World} {B B' : Nat} {E E' : TypeId} {sz sz' : Nat} {v v' : Value} {n n' : Nat} {xs xs' : List Value} (h : w.ownsRow B E sz v n xs) (h' : w.ownsRow B' E' sz' v' n' xs') (hE : E ≠ E') {g : Nat} (hg' : v'.ownBlock = some g) (o : Nat) (vs : List Value) : (w.setCells g o vs).ownsRow B E sz v n xs := by
  have hap := own_apart h h' hE
  obtain ⟨hl, hr⟩ := h
  rcases hr with hn | ⟨g1, cap, cur, hv, hB, hg, r⟩
  · exact ⟨hl, .inl hn⟩
  · refine ⟨hl, .inr ⟨g1, cap, cur, hv, hB, (setCells_other g vs o w g1 ?_).trans hg, r⟩⟩
    rintro rfl
    subst hv
    rcases hap with h1 | h1
    · cases h1
    · exact h1 hg'.symm

section
variable {P : Program} {w : World} {ops : Array Oper} {rest : List Oper} {o : Oper} {a : Act} {Q : Exit → Act → World → Prop}
/-- 'clear(s)' of a row that the call owns. -/
theorem wpList_clear (hw : Region.wanted o (yielded ops a.tmps) = true) (s : Operand) (t : TypeId)
    (ho : o.op = .call { callee := .builtin .clear, args := #[s], argTypes := #[t] }) (hd : o.dst = none)
    (E : TypeId) (z : Value) (ht : P.underlying t = some (.slice E)) (hv : ∀ w, (zeroValue E).run P w = .ok z w) (hz : z.cells = #[z]) (h1 : z.oneCell' = true)
    (ad : Option Addr) (n c : Nat) (B : Nat) (xs : List Value) (hs : a.eval s = .slice ad n c) (hown : w.ownsRow B E 1 (.slice ad n c) n xs)
    (h : ∀ w', (w' = w ∨ ∃ g vs, (Value.slice ad n c).ownBlock = some g ∧ B ≤ g ∧ w' = w.setCells g 0 vs) → wpList P ops Q rest a w') : wpList P ops Q (o :: rest) a w := by
  have hrun : ∃ w', (w' = w ∨ ∃ g vs, (Value.slice ad n c).ownBlock = some g ∧ B ≤ g ∧ w' = w.setCells g 0 vs) ∧ (Builtin.clear_ #[t] o.type #[.slice ad n c]).run P w = .ok (.tuple #[]) w' := by
    cases ad with
    | none => exact ⟨w, .inl rfl, by simp [Builtin.clear_, run_underlying ht]⟩
    | some q =>
      rcases hown.2 with ⟨hv', _⟩ | ⟨g, cap, cur, hv', hB, hg, hnc, hcm, hcs, htk⟩
      · cases hv'
      · injection hv' with e1 e2 e3
        injection e1 with e1
        subst e1 e3
        rcases Nat.eq_zero_or_pos n with h0 | h0
        · subst h0
          exact ⟨w, .inl rfl, by simp [Builtin.clear_, run_underlying ht]⟩
        · refine ⟨_, .inr ⟨g, _, rfl, hB, rfl⟩, Lib.run_clear_slice w t E o.type z ht hv hz h1 g 0 n c h0 (fun j hj => ?_) (fun j hj => ?_)⟩
          · have : j < cur.size := by omega
            simp [World.cell?, hg, this]
          · simp [World.frozen?, hg]
  obtain ⟨w', hw', hr⟩ := hrun
  refine wpList_want hw fun K hK => ?_
  unfold Oper.wp
  simp [execOp, ho, resolve, invoke, builtin, hs, hr, Result.andThen, hd]
  have e : a.put o.dst (.tuple #[]) = a := by rw [hd]; rfl
  have h3 := hK _ _ (h w' hw')
  rw [← e] at h3
  exact h3
end
end Tt
