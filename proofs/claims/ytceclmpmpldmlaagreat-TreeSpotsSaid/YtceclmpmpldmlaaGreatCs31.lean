/- Chapter 22, the plain walk: what is read depends on the bytes that are taken alone; what holds of all spots. | Chapter 21: two trees that have the shapes have the same bytes just if they are the same; the other order. Plain. -/
import Derived.Test.YtceclmpmpldmlaaGreatCs29
namespace Go.Proofs.YtceclmpmpldmlaaGreat
open Go.RowKit Tt
set_option linter.unusedVariables false
set_option linter.unusedSimpArgs false

/-- what taking keeps -/
structure Keeps (n : Nat) (P : St → Prop) : Prop where
  take : ∀ x s s', 1 ≤ x.2.2.2.2 → takeS n x s = .ok s' → P s → P s'
  free : ∀ s s', s'.spots = s.spots → P s → P s'
section
variable {z : List Int} {P : St → Prop} (hP : Keeps z.length P)
include hP
end
section
variable {z z2 : List Int}
end
end Go.Proofs.YtceclmpmpldmlaaGreat

namespace Go.Proofs.YtceclmpmpldmlaaGreat
open Go.RowKit Tt
set_option linter.unusedVariables false
set_option linter.unusedSimpArgs false

theorem wrtS_len {f : Nat} {o : Int} {ds : List (DirT f)} {L : List Shp} (hb : ∀ d ∈ ds, bytD f d) : (wrtS f o ds L).length = if checkS f o ds L = 0 then (longT f ds).toNat else 0 := by
  unfold wrtS
  split
  · rename_i h
    exact treeW_len h hb
  · rfl
end Go.Proofs.YtceclmpmpldmlaaGreat
