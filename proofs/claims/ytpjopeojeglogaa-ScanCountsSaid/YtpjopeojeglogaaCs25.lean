/- clear of a whole block of single cells: what it then holds. -/
import Derived.Lib.SliceRun
import Derived.Test.YtpjopeojeglogaaCs18
import Derived.Test.YtpjopeojeglogaaCs00
namespace Tt
open Go
set_option linter.unusedVariables false
set_option linter.unusedSimpArgs false
def setL (cs : Array Value) : Nat → List Value → Array Value
  | _, [] => cs
  | o, v :: r => setL (cs.setIfInBounds o v) (o + 1) r
theorem setL_get : ∀ (vs : List Value) (cs : Array Value) (o j : Nat), o + vs.length ≤ cs.size → (setL cs o vs)[j]? = if o ≤ j ∧ j < o + vs.length then vs[j - o]? else cs[j]?
  | [], cs, o, j, h => by rw [if_neg (by simp)]; rfl
  | v :: r, cs, o, j, h => by
    rw [List.length_cons] at h
    show (setL (cs.setIfInBounds o v) (o + 1) r)[j]? = _
    rw [setL_get r (cs.setIfInBounds o v) (o + 1) j (by rw [Array.size_setIfInBounds]; omega), List.length_cons]
    by_cases h1 : o + 1 ≤ j ∧ j < o + 1 + r.length
    · rw [if_pos h1, if_pos (by omega), show j - o = (j - (o + 1)) + 1 by omega, List.getElem?_cons_succ]
    · rw [if_neg h1]
      by_cases h2 : j = o
      · subst h2
        rw [if_pos (by omega), Nat.sub_self, List.getElem?_cons_zero, Array.getElem?_setIfInBounds_self_of_lt (by omega)]
      · rw [if_neg (by omega), Array.getElem?_setIfInBounds_ne (by omega)]
theorem setL_all (cs : Array Value) (z : Value) (n : Nat) (h : cs.size = n) : setL cs 0 (List.replicate n z) = Array.replicate n z := by
  refine Array.ext_getElem? fun j => ?_; rw [setL_get _ _ _ _ (by rw [List.length_replicate, Nat.zero_add, h]; exact Nat.le_refl _), List.length_replicate, Nat.zero_add, Nat.sub_zero]
  by_cases hj : j < n
  · rw [if_pos ⟨Nat.zero_le _, hj⟩, List.getElem?_replicate, if_pos hj, Array.getElem?_replicate, if_pos hj]
  · rw [if_neg (by omega), Array.getElem?_replicate, if_neg hj, Array.getElem?_eq_none (by omega)]
theorem blk_setL {g : Nat} {T : TypeId} : ∀ (vs : List Value) (o : Nat) {w : World} {cs : Array Value}, Blk w g T cs → Blk (w.setCells g o vs) g T (setL cs o vs)
  | [], _, _, _, h => h
  | v :: r, o, _, _, h => blk_setL r (o + 1) (h.set o v)
theorem but_setL {g : Nat} : ∀ (vs : List Value) (o : Nat) {w w' : World}, But g w w' → But g w (w'.setCells g o vs)
  | [], _, _, _, h => h
  | v :: r, o, _, _, h => but_setL r (o + 1) (h.set o v)
section
variable {P : Program} {w : World} {ops : Array Oper} {rest : List Oper} {o : Oper} {a : Act} {Q : Exit → Act → World → Prop}
theorem wpList_clear_blk (hw : Region.wanted o (yielded ops a.tmps) = true) (s : Operand) (t : TypeId)
    (ho : o.op = .call { callee := .builtin .clear, args := #[s], argTypes := #[t] }) (hd : o.dst = none)
    (E : TypeId) (z : Value) (ht : P.underlying t = some (.slice E)) (hv : ∀ w, (zeroValue E).run P w = .ok z w) (hz : z.cells = #[z]) (h1 : z.oneCell' = true)
    (g n : Nat) (cs : Array Value) (hs : a.eval s = .slice (some ⟨g, 0, none⟩) n n) (hb : Blk w g E cs) (hn : cs.size = n) (h0 : 0 < n)
    (h : ∀ w', But g w w' → Blk w' g E (Array.replicate n z) → wpList P ops Q rest a w') : wpList P ops Q (o :: rest) a w := by
  have hr : (Builtin.clear_ #[t] o.type #[.slice (some ⟨g, 0, none⟩) n n]).run P w = .ok (.tuple #[]) (w.setCells g 0 (List.replicate n z)) := by
    refine Lib.run_clear_slice w t E o.type z ht hv hz h1 g 0 n n h0 (fun j hj => ?_) (fun j hj => ?_)
    · have hj2 : j < cs.size := by omega
      unfold Blk at hb
      simp [World.cell?, hb, hj2]
    · unfold Blk at hb
      simp [World.frozen?, hb]
  have h2 := h _ (but_setL (List.replicate n z) 0 (But.refl g w)) (by rw [← setL_all cs z n hn]; exact blk_setL _ 0 hb); refine wpList_want hw fun K hK => ?_; unfold Oper.wp
  simp [execOp, ho, resolve, invoke, builtin, hs, hr, Result.andThen, hd]
  have e : a.put o.dst (.tuple #[]) = a := by rw [hd]; rfl
  have h3 := hK _ _ h2; rw [← e] at h3; exact h3
end
end Tt
