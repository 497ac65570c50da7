/- Chapter 12: a block read: the program. -/
import Derived.Test.YtpjopeojeglogaaCo27
namespace Go.Proofs.Ytpjopeojeglogaa
open Go.RowKit Tt
set_option linter.unusedVariables false
set_option linter.unusedSimpArgs false

theorem codC_snoc (l : List Cod) (x : Cod) : codC (l ++ [x]) = codC l ++ ints .i64 (cdL x) := by unfold codC; rw [List.map_append, List.flatten_append]; simp
theorem blk_neT {w : World} {g g' : Nat} {T T' : TypeId} {cs cs' : Array Value} (h : Blk w g T cs) (h' : Blk w g' T' cs') (hT : T ≠ T') : g ≠ g' := by
  rintro rfl; have h1 : w.heap[g]? = some (.cells cs T) := h; have h2 : w.heap[g]? = some (.cells cs' T') := h'; rw [h1] at h2; injection h2 with h2; injection h2 with _ h2; exact hT h2
theorem symbR_wf {p : PtM} {ac : Nat} {B : List Int} {x : Cod} {k : Nat} (h : symbR p ac B = some (x, k)) (hm : hMay p.2.2.1.1.1 p.2.2.1.1.2 = true) (hm2 : hMay p.2.2.2.1.1 p.2.2.2.1.2 = true) (hac : ac ≤ 1) (hB : BitL B) : ∀ y ∈ cdL x, (Lit.int .i64 y).wf = true := by
  unfold symbR at h; obtain ⟨y, hy, h2⟩ := Option.bind_eq_some_iff.1 h
  have hys : 0 ≤ y.1 ∧ y.1 ≤ 255 := by
    split at hy
    · exact nextS_sym hm hy
    · exact nextS_sym hm2 hy
  split at h2
  · cases h2
  · rename_i hn
    injection h2 with h2; injection h2 with h2 _; have hb := numL_bound _ ((hB.drop y.2).take (y.1 % 16).toNat); have hlen : ((B.drop y.2).take (y.1 % 16).toNat).length ≤ 11 := by rw [List.length_take]; omega
    have h11 : (2 : Int) ^ ((B.drop y.2).take (y.1 % 16).toNat).length ≤ 2 ^ 11 := by exact_mod_cast Nat.pow_le_pow_right (by decide : 0 < 2) hlen
    intro z hz; rw [← h2] at hz; have : z = (ac : Int) ∨ z = y.1 ∨ z = numL ((B.drop y.2).take (y.1 % 16).toNat) ∨ z = y.1 % 16 := by simpa [cdL] using hz
    rcases this with rfl | rfl | rfl | rfl
    · exact wf_of (by omega) (by omega)
    · exact wf_of (by omega) (by omega)
    · exact wf_of (by omega) (by omega)
    · exact wf_of (by omega) (by omega)
/-- what is read of a block is one -/
theorem blkL_ok (l : List Cod) : ∀ (k : Nat) (b : List Int) (u : Nat) (q : List Int × Nat), b.length = 64 → (∀ y ∈ b, -100000 ≤ y ∧ y ≤ 100000) → blkL l k b u = .ok q → q.1.length = 64 ∧ ∀ y ∈ q.1, -100000 ≤ y ∧ y ≤ 100000 := by
  induction l with
  | nil =>
    intro k b u q h1 h2 h; unfold blkL at h
    split at h
    · injection h with h; rw [← h]; exact ⟨h1, h2⟩
    · cases h
  | cons x l ih =>
    intro k b u q h1 h2 h; unfold blkL at h
    split at h
    · injection h with h; rw [← h]; exact ⟨h1, h2⟩
    · split at h
      · cases h
      · rename_i v hv
        split at h
        · injection h with h; rw [← h]; exact ⟨h1, h2⟩
        · split at h
          · cases h
          · refine ih _ _ _ q (by rw [List.length_set]; exact h1) (fun y hy => ?_) h
            rcases List.mem_or_eq_of_mem_set hy with hy | rfl
            · exact h2 y hy
            · obtain ⟨ho, hvv⟩ := symV_some hv
              have h3 := valueS_range hvv; have h4 : (2 : Int) ^ x.2.2.2.toNat ≤ 2 ^ 15 := by exact_mod_cast Nat.pow_le_pow_right (by decide : 0 < 2) (show x.2.2.2.toNat ≤ 15 by omega)
              omega
theorem blockS_ok {l : List Cod} {last : Int} {q : List Int × Nat} (h : blockS l last = .ok q) : q.1.length = 64 ∧ ∀ y ∈ q.1, (Lit.int .i64 y).wf = true := by
  unfold blockS at h
  split at h
  · cases h
  · rename_i hn
    have hsl := size_ok hn
    cases l with
    | nil => cases h
    | cons x l =>
      simp only at h
      cases hv : symV x 0 11 with
      | none => rw [hv] at h; cases h
      | some v =>
        rw [hv] at h; simp only at h
        split at h
        · obtain ⟨ho, hvv⟩ := symV_some hv
          have h3 := valueS_range hvv; have h4 : (2 : Int) ^ x.2.2.2.toNat ≤ 2 ^ 15 := by exact_mod_cast Nat.pow_le_pow_right (by decide : 0 < 2) (show x.2.2.2.toNat ≤ 15 by omega)
          have := blkL_ok l 1 _ 1 q (by rw [List.length_set, List.length_replicate]) (fun y hy => ?_) h
          · exact ⟨this.1, fun y hy => wf_of (by have := this.2 y hy; omega) (by have := this.2 y hy; omega)⟩
          · rcases List.mem_or_eq_of_mem_set hy with hy | rfl
            · rw [List.eq_of_mem_replicate hy]; omega
            · omega
        · cases h
end Go.Proofs.Ytpjopeojeglogaa
