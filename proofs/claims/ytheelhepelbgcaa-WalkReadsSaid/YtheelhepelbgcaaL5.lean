/- A drawn region whose first operations only read, the last ones in one forced order: one walk. -/
import Derived.Test.YtheelhepelbgcaaL4
import Derived.StillTail
import Derived.StillTailTactics
import Derived.BigQuiet
namespace Tt
open Go Go.RowKit
set_option linter.unusedVariables false

theorem still_of_quiet {P : Program} {o : Oper} {a : Act} {w : World} {K K' : Act → Prop} (h : ∀ a, K a → K' a) (hh : o.quiet P a (fun w' => w' = w) K) : o.still P a w K' := by
  obtain ⟨v, h1, h2⟩ := hh
  have h3 := h1 w rfl
  unfold Oper.quietAt at h3
  unfold Oper.still
  generalize (execOp a.eval o).run P w = r at *
  cases r with
  | ok n w' =>
    cases n <;> simp only [Oper.quietUpon, Oper.stillUpon] at h3 ⊢
    case enter f args => exact ⟨h3.1, v, h3.2, h _ h2⟩
    case value u => exact ⟨h3.1, by rw [h3.2]; exact h _ h2⟩
    case skip => exact ⟨h3.1, by have h2' := h _ h2; rw [h3.2] at h2'; exact h2'⟩
  | halt x w' => simp only [Oper.quietUpon] at h3

theorem wpStill_of_quiet {P : Program} {ops : Array Oper} {w : World} {Q : Act → Prop} : ∀ (l : List Oper) (a : Act), wpQuiet P ops (fun w' => w' = w) Q l a → wpStill P ops w Q l a
  | [], a, h => h
  | o :: rest, a, h => by
    unfold wpQuiet at h
    unfold wpStill
    split
    · rename_i hw
      rw [if_pos hw] at h
      exact still_of_quiet (fun a => wpStill_of_quiet rest a) h
    · rename_i hw
      rw [if_neg hw] at h
      exact wpStill_of_quiet rest _ h

theorem wp_quiet_tail {P : Program} {id : Nat} {Q : Exit → Act → World → Prop} {a : Act} {w : World} {l : List Oper} (n : Nat) (hm : P.follows .mixedOrders = true) (hB : Region.lexTailB .any l.toArray n = true)
    (l1 l2 : List Oper) (h1 : l.take n = l1) (h2 : l.drop n = l2)
    (h : wpQuiet P l.toArray (fun w' => w' = w.drew) (fun a' => wpList P l.toArray Q l2 a' w.drew) l1 a) : (Code.region id l.toArray true).wp P Q a w := by
  subst h1 h2
  exact wp_region_still_tail n hm hB (wpStill_of_quiet _ _ h)
end Tt
