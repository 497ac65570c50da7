/- Chapter 14: quantisation tables' bytes: the document. -/
import Derived.Test.YtpjopeojeglogaaCd22
namespace Go.Proofs.Ytpjopeojeglogaa
open Go.RowKit Tt
set_option linter.unusedVariables false
set_option linter.unusedSimpArgs false

theorem own_neB {w : World} {B : Nat} {E T : TypeId} {sz : Nat} {v : Value} {n g : Nat} {xs : List Value} {cs : Array Value} (h : w.ownsRow B E sz v n xs) (hb : Blk w g T cs) (hE : E ≠ T) : v.ownBlock ≠ some g := fun e => by
  rcases h.2 with ⟨rfl, _⟩ | ⟨g', cap, cur, rfl, _, hg, _⟩
  · cases e
  · injection e with e
    obtain rfl : g' = g := e; unfold Blk at hb; rw [hg] at hb; injection hb with hb; injection hb with _ h2 _; exact hE h2
end Go.Proofs.Ytpjopeojeglogaa
