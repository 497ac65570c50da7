/-
  NARROWER THAN 'FOR EVERY INPUT', by the rows' own cells (each row's printed sentence says how): TreeWrites: loops · TreeOrders: loops · TreeChecks: loops · TreeSpots: loops · WalkBack: loops.
  DERIVED. THE GIVEN ROWS OF THIS SEAT. 6 by the template 'for every input the law returns true; each argument reads behind the call as it read before'; 0 by the template 'total and deterministic' (their statements: YtilennmeiaehnaaGreatTotals.lean).
  GIVEN WITH THE SEED: the statements are not yours to turn. If you find one false, say at which input.
  Laid BY PROGRAM, IN A SANDBOX (cutbox-rows.mjs): the forced cells as the released guide's own fill.sh prints them over the translation b68cbad9e8118b6c… (all of the seat's roots in one cut). By AI agents, Wed Nov 11 2026. No macro, syntax, notation, axiom, sorry.
-/
import Derived.Test.YtilennmeiaehnaaGreatChecked
import GoSem.Claim
import GoSem.ClaimJoined
import GoSem.ClaimMapViews
import Derived.JoinedTies
import Derived.KernelRfl
namespace Go.Proofs.YtilennmeiaehnaaGreat
/- THE CELL 'sum', in the pinned program and in every row, IS THE sha256 OF THE DUMP (.gsa) THAT YtilennmeiaehnaaGreatProg.lean LOADS. Nothing in Lean hashes anything: it is a label: what it is worth is what the hold of that sum in a sandbox is worth. -/
noncomputable def Tryz.pinned : Pinned := { name := "ytilennmeiaehnaagreat", sum := "b68cbad9e8118b6cb2da2e806e51a71c999fa9a8eaaf23b410ecc21eb23a295c", checked := Tryz.checked }
namespace Rows
def none {H : Type} : Left H := { results := [], args := [] }

/-- 'tintypelaw21.TreeWrites': WHATEVER THE INPUT: true; the input reads as it did. -/
def treeWritesSpec : ChangeSpec := { name := "treeWrites", fn := fun _ => fun
  | [d1, d2] => { results := [.lit (.bool true)], args := [d1, d2] }
  | _ => none }
def treeWritesRow : OpenClaim := { program := "ytilennmeiaehnaagreat", sum := "b68cbad9e8118b6cb2da2e806e51a71c999fa9a8eaaf23b410ecc21eb23a295c", func := "tintype/tintypelaw21.TreeWrites", spec := "treeWrites", inPlace := ["internal/bytealg.IndexByte"], unfollowed := true, recurses := true, loops := true, apart := false }
def TreeWritesSaid : Prop := treeWritesRow.holds Tryz.pinned (OpenSpec.ofChange treeWritesSpec)

/-- ITS FALSE NEIGHBOUR: 'it returns false'. Refute it at one input. -/
def treeWritesWrong : ChangeSpec := { name := "treeWrites", fn := fun _ => fun
  | [d1, d2] => { results := [.lit (.bool false)], args := [d1, d2] }
  | _ => none }
def TreeWritesWrongFalsely : Prop := treeWritesRow.holds Tryz.pinned (OpenSpec.ofChange treeWritesWrong)

/-- 'tintypelaw21.TreeOrders': WHATEVER THE INPUT: true; the input reads as it did. -/
def treeOrdersSpec : ChangeSpec := { name := "treeOrders", fn := fun _ => fun
  | [d1, d2, d3] => { results := [.lit (.bool true)], args := [d1, d2, d3] }
  | _ => none }
def treeOrdersRow : OpenClaim := { program := "ytilennmeiaehnaagreat", sum := "b68cbad9e8118b6cb2da2e806e51a71c999fa9a8eaaf23b410ecc21eb23a295c", func := "tintype/tintypelaw21.TreeOrders", spec := "treeOrders", inPlace := ["internal/bytealg.IndexByte"], unfollowed := true, recurses := true, loops := true, apart := false }
def TreeOrdersSaid : Prop := treeOrdersRow.holds Tryz.pinned (OpenSpec.ofChange treeOrdersSpec)

/-- ITS FALSE NEIGHBOUR: 'it returns false'. Refute it at one input. -/
def treeOrdersWrong : ChangeSpec := { name := "treeOrders", fn := fun _ => fun
  | [d1, d2, d3] => { results := [.lit (.bool false)], args := [d1, d2, d3] }
  | _ => none }
def TreeOrdersWrongFalsely : Prop := treeOrdersRow.holds Tryz.pinned (OpenSpec.ofChange treeOrdersWrong)

/-- 'tintypelaw21.TreeChecks': WHATEVER THE INPUT: true; the input reads as it did. -/
def treeChecksSpec : ChangeSpec := { name := "treeChecks", fn := fun _ => fun
  | [d1, d2, d3] => { results := [.lit (.bool true)], args := [d1, d2, d3] }
  | _ => none }
def treeChecksRow : OpenClaim := { program := "ytilennmeiaehnaagreat", sum := "b68cbad9e8118b6cb2da2e806e51a71c999fa9a8eaaf23b410ecc21eb23a295c", func := "tintype/tintypelaw21.TreeChecks", spec := "treeChecks", inPlace := ["internal/bytealg.IndexByte"], unfollowed := true, recurses := true, loops := true, apart := false }
def TreeChecksSaid : Prop := treeChecksRow.holds Tryz.pinned (OpenSpec.ofChange treeChecksSpec)

/-- ITS FALSE NEIGHBOUR: 'it returns false'. Refute it at one input. -/
def treeChecksWrong : ChangeSpec := { name := "treeChecks", fn := fun _ => fun
  | [d1, d2, d3] => { results := [.lit (.bool false)], args := [d1, d2, d3] }
  | _ => none }
def TreeChecksWrongFalsely : Prop := treeChecksRow.holds Tryz.pinned (OpenSpec.ofChange treeChecksWrong)

/-- 'tintypelaw21.TreeSpots': WHATEVER THE INPUT: true; the input reads as it did. -/
def treeSpotsSpec : ChangeSpec := { name := "treeSpots", fn := fun _ => fun
  | [d1, d2, d3, d4] => { results := [.lit (.bool true)], args := [d1, d2, d3, d4] }
  | _ => none }
def treeSpotsRow : OpenClaim := { program := "ytilennmeiaehnaagreat", sum := "b68cbad9e8118b6cb2da2e806e51a71c999fa9a8eaaf23b410ecc21eb23a295c", func := "tintype/tintypelaw21.TreeSpots", spec := "treeSpots", inPlace := ["internal/bytealg.IndexByte"], unfollowed := true, recurses := true, loops := true, apart := false }
def TreeSpotsSaid : Prop := treeSpotsRow.holds Tryz.pinned (OpenSpec.ofChange treeSpotsSpec)

/-- ITS FALSE NEIGHBOUR: 'it returns false'. Refute it at one input. -/
def treeSpotsWrong : ChangeSpec := { name := "treeSpots", fn := fun _ => fun
  | [d1, d2, d3, d4] => { results := [.lit (.bool false)], args := [d1, d2, d3, d4] }
  | _ => none }
def TreeSpotsWrongFalsely : Prop := treeSpotsRow.holds Tryz.pinned (OpenSpec.ofChange treeSpotsWrong)

/-- 'tintypelaw22.WalkBack': WHATEVER THE INPUT: true; the input reads as it did. -/
def walkBackSpec : ChangeSpec := { name := "walkBack", fn := fun _ => fun
  | [d1, d2, d3] => { results := [.lit (.bool true)], args := [d1, d2, d3] }
  | _ => none }
def walkBackRow : OpenClaim := { program := "ytilennmeiaehnaagreat", sum := "b68cbad9e8118b6cb2da2e806e51a71c999fa9a8eaaf23b410ecc21eb23a295c", func := "tintype/tintypelaw22.WalkBack", spec := "walkBack", inPlace := ["internal/bytealg.IndexByte"], unfollowed := true, recurses := true, loops := true, apart := false }
def WalkBackSaid : Prop := walkBackRow.holds Tryz.pinned (OpenSpec.ofChange walkBackSpec)

/-- ITS FALSE NEIGHBOUR: 'it returns false'. Refute it at one input. -/
def walkBackWrong : ChangeSpec := { name := "walkBack", fn := fun _ => fun
  | [d1, d2, d3] => { results := [.lit (.bool false)], args := [d1, d2, d3] }
  | _ => none }
def WalkBackWrongFalsely : Prop := walkBackRow.holds Tryz.pinned (OpenSpec.ofChange walkBackWrong)

/-- 'tintypelaw22.WalkAgain': WHATEVER THE INPUT: true; the input reads as it did. -/
def walkAgainSpec : ChangeSpec := { name := "walkAgain", fn := fun _ => fun
  | [d1, d2] => { results := [.lit (.bool true)], args := [d1, d2] }
  | _ => none }
def walkAgainRow : OpenClaim := { program := "ytilennmeiaehnaagreat", sum := "b68cbad9e8118b6cb2da2e806e51a71c999fa9a8eaaf23b410ecc21eb23a295c", func := "tintype/tintypelaw22.WalkAgain", spec := "walkAgain", inPlace := ["internal/bytealg.IndexByte"], unfollowed := true, recurses := true, apart := false }
def WalkAgainSaid : Prop := walkAgainRow.holds Tryz.pinned (OpenSpec.ofChange walkAgainSpec)

/-- ITS FALSE NEIGHBOUR: 'it returns false'. Refute it at one input. -/
def walkAgainWrong : ChangeSpec := { name := "walkAgain", fn := fun _ => fun
  | [d1, d2] => { results := [.lit (.bool false)], args := [d1, d2] }
  | _ => none }
def WalkAgainWrongFalsely : Prop := walkAgainRow.holds Tryz.pinned (OpenSpec.ofChange walkAgainWrong)

/- THE SECOND FORM. 'bulk': how many values and letters a reading holds, each counted each time it is reached (what is shared counts as often as it is met; a slice's spare places count too). A statement '..UptoSaid' is the law's where the arguments, and the package variables that the reading takes, are together of bulk at most 1048576: NARROWER than '..Said'. Prove '..Said' where nothing that the law and all that it calls make is longer than what came in: it says more and counts as full. Else prove '..UptoSaid'. A law counts once. -/
mutual
def uptoBulk {H : Type} : DataW H → Nat
  | .lit (.string bytes) => bytes.length + 1
  | .lit _ => 1
  | .nil => 1
  | .ptr d => uptoBulk d + 1
  | .slice elems spare => uptoBulkAll elems + uptoBulkAll spare + 1
  | .agg parts => uptoBulkAll parts + 1
  | .iface _ d => uptoBulk d + 1
  | .map entries => uptoBulkEntries entries + 1
  | .held _ => 1
def uptoBulkAll {H : Type} : List (DataW H) → Nat
  | [] => 0
  | d :: r => uptoBulk d + uptoBulkAll r
def uptoBulkEntries {H : Type} : List (Lit × DataW H) → Nat
  | [] => 0
  | x :: r => uptoBulkEntry x + uptoBulkEntries r
def uptoBulkEntry {H : Type} : Lit × DataW H → Nat
  | (.string bytes, d) => bytes.length + uptoBulk d + 1
  | (_, d) => uptoBulk d + 1
 end
def uptoSmall : (H : Type) → List (DataW H) → Bool := fun _ ds => decide (uptoBulkAll ds ≤ 1048576)
def OpenSpec.upto (s : _root_.Go.ChangeSpec) : _root_.Go.OpenSpec := { _root_.Go.OpenSpec.ofChange s with cond := some uptoSmall }

/-- 'tintypelaw21.TreeWrites', WHERE WHAT IT READS IS OF BULK AT MOST 1048576: true; the input reads as it did. -/
def treeWritesUptoRow : OpenClaim := { program := "ytilennmeiaehnaagreat", sum := "b68cbad9e8118b6cb2da2e806e51a71c999fa9a8eaaf23b410ecc21eb23a295c", func := "tintype/tintypelaw21.TreeWrites", spec := "treeWrites", inPlace := ["internal/bytealg.IndexByte"], unfollowed := true, recurses := true, loops := true, apart := false, narrowed := true }
def TreeWritesUptoSaid : Prop := treeWritesUptoRow.holds Tryz.pinned (OpenSpec.upto treeWritesSpec)

/-- 'tintypelaw21.TreeOrders', WHERE WHAT IT READS IS OF BULK AT MOST 1048576: true; the input reads as it did. -/
def treeOrdersUptoRow : OpenClaim := { program := "ytilennmeiaehnaagreat", sum := "b68cbad9e8118b6cb2da2e806e51a71c999fa9a8eaaf23b410ecc21eb23a295c", func := "tintype/tintypelaw21.TreeOrders", spec := "treeOrders", inPlace := ["internal/bytealg.IndexByte"], unfollowed := true, recurses := true, loops := true, apart := false, narrowed := true }
def TreeOrdersUptoSaid : Prop := treeOrdersUptoRow.holds Tryz.pinned (OpenSpec.upto treeOrdersSpec)

/-- 'tintypelaw21.TreeChecks', WHERE WHAT IT READS IS OF BULK AT MOST 1048576: true; the input reads as it did. -/
def treeChecksUptoRow : OpenClaim := { program := "ytilennmeiaehnaagreat", sum := "b68cbad9e8118b6cb2da2e806e51a71c999fa9a8eaaf23b410ecc21eb23a295c", func := "tintype/tintypelaw21.TreeChecks", spec := "treeChecks", inPlace := ["internal/bytealg.IndexByte"], unfollowed := true, recurses := true, loops := true, apart := false, narrowed := true }
def TreeChecksUptoSaid : Prop := treeChecksUptoRow.holds Tryz.pinned (OpenSpec.upto treeChecksSpec)

/-- 'tintypelaw21.TreeSpots', WHERE WHAT IT READS IS OF BULK AT MOST 1048576: true; the input reads as it did. -/
def treeSpotsUptoRow : OpenClaim := { program := "ytilennmeiaehnaagreat", sum := "b68cbad9e8118b6cb2da2e806e51a71c999fa9a8eaaf23b410ecc21eb23a295c", func := "tintype/tintypelaw21.TreeSpots", spec := "treeSpots", inPlace := ["internal/bytealg.IndexByte"], unfollowed := true, recurses := true, loops := true, apart := false, narrowed := true }
def TreeSpotsUptoSaid : Prop := treeSpotsUptoRow.holds Tryz.pinned (OpenSpec.upto treeSpotsSpec)

/-- 'tintypelaw22.WalkBack', WHERE WHAT IT READS IS OF BULK AT MOST 1048576: true; the input reads as it did. -/
def walkBackUptoRow : OpenClaim := { program := "ytilennmeiaehnaagreat", sum := "b68cbad9e8118b6cb2da2e806e51a71c999fa9a8eaaf23b410ecc21eb23a295c", func := "tintype/tintypelaw22.WalkBack", spec := "walkBack", inPlace := ["internal/bytealg.IndexByte"], unfollowed := true, recurses := true, loops := true, apart := false, narrowed := true }
def WalkBackUptoSaid : Prop := walkBackUptoRow.holds Tryz.pinned (OpenSpec.upto walkBackSpec)

/-- 'tintypelaw22.WalkAgain', WHERE WHAT IT READS IS OF BULK AT MOST 1048576: true; the input reads as it did. -/
def walkAgainUptoRow : OpenClaim := { program := "ytilennmeiaehnaagreat", sum := "b68cbad9e8118b6cb2da2e806e51a71c999fa9a8eaaf23b410ecc21eb23a295c", func := "tintype/tintypelaw22.WalkAgain", spec := "walkAgain", inPlace := ["internal/bytealg.IndexByte"], unfollowed := true, recurses := true, apart := false, narrowed := true }
def WalkAgainUptoSaid : Prop := walkAgainUptoRow.holds Tryz.pinned (OpenSpec.upto walkAgainSpec)

end Rows
end Go.Proofs.YtilennmeiaehnaaGreat
