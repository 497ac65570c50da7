import Derived.Test.YtnhcmibngcmebaaReg1
import Derived.Test.YtnhcmibngcmebaaRegP
namespace Go.Proofs.Ytnhcmibngcmebaa
open Go.RowKit Tt
set_option linter.unusedVariables false

def ents (dir : Int) (ts : List (Int × List Int × Int)) : List Ent := ts.map fun t => ((dir, t.1), (t.2.1, t.2.2))
theorem put_at (b : Nat) (dir : Int) (ts : List (Int × List Int × Int)) (hnd : (ts.map (·.1)).Nodup) (l : List Ent) (hd : (Lit.int .i64 dir).wf = true) (hl : ∀ x ∈ l, x.1.1 ≠ dir) (k : Nat) (tag count : Int) (types : List Int) (hk : ts[k]? = some (tag, types, count)) (ht : (Lit.int .i64 tag).wf = true)
    (a : Option Addr) (n c : Nat) (w : World) (hr : Rules w b (l ++ ents dir (ts.take k))) (hs : Sl w a n c 1 (ints .i64 types)) :
    Calls Try.prog 57 #[.agg #[.map (some b), .int .i64 dir], .int .i64 tag, .int .i64 count, .slice a n c] w fun e w' => e = .returned (.tuple #[]) ∧ Rules w' b (l ++ ents dir (ts.take (k + 1))) ∧ But b w w' := by
  have hkl : k < ts.length := (List.getElem?_eq_some_iff.1 hk).1
  have hke : ts[k] = (tag, types, count) := (List.getElem?_eq_some_iff.1 hk).2
  have hno : ∀ x ∈ l ++ ents dir (ts.take k), x.1 ≠ (dir, tag) := by
    intro x hx he
    rcases List.mem_append.1 hx with h | h
    · exact hl x h (by rw [he])
    · unfold ents at h
      obtain ⟨y, hy, rfl⟩ := List.mem_map.1 h
      simp at he
      obtain ⟨i, hi, hie⟩ := List.mem_iff_getElem.1 hy
      rw [List.length_take] at hi
      rw [List.getElem_take] at hie
      have hp := List.pairwise_iff_getElem.1 hnd i k (by simp; omega) (by simpa using hkl) (by omega)
      simp [hie, hke, he] at hp
  have e : l ++ ents dir (ts.take (k + 1)) = l ++ ents dir (ts.take k) ++ [((dir, tag), (types, count))] := by
    rw [List.take_add_one, hk]
    simp [ents]
  rw [e]
  exact put_any b dir tag count a n c types _ w hr hd ht hno hs

end Go.Proofs.Ytnhcmibngcmebaa
