/-
  NARROWER THAN 'FOR EVERY INPUT', by the rows' own cells (each row's printed sentence says how): TreeSpots: loops · ExifReads: loops.
  DERIVED. THE GIVEN ROWS OF THIS SEAT. 5 by the template 'for every input the law returns true; each argument reads behind the call as it read before'; 0 by the template 'total and deterministic' (their statements: YtceclmpmpldmlaaGreatTotals.lean).
  GIVEN WITH THE SEED: the statements are not yours to turn. If you find one false, say at which input.
  Laid BY PROGRAM, IN A SANDBOX (cutbox-rows.mjs): the forced cells as the released guide's own fill.sh prints them over the translation 5a02e35f12d9c054… (all of the seat's roots in one cut). By AI agents, Wed Nov 11 2026. No macro, syntax, notation, axiom, sorry.
-/
import Derived.Test.YtceclmpmpldmlaaGreatChecked
import GoSem.Claim
import GoSem.ClaimJoined
import GoSem.ClaimMapViews
import Derived.JoinedTies
import Derived.KernelRfl
namespace Go.Proofs.YtceclmpmpldmlaaGreat
/- THE CELL 'sum', in the pinned program and in every row, IS THE sha256 OF THE DUMP (.gsa) THAT YtceclmpmpldmlaaGreatProg.lean LOADS. Nothing in Lean hashes anything: it is a label: what it is worth is what the hold of that sum in a sandbox is worth. -/
noncomputable def Tryz.pinned : Pinned := { name := "ytceclmpmpldmlaagreat", sum := "5a02e35f12d9c05492c051c779e10340e13bbc9aa281bee38efb82a5d983fd7f", checked := Tryz.checked }
namespace Rows
def none {H : Type} : Left H := { results := [], args := [] }

/-- 'tintypelaw21.TreeSpots': WHATEVER THE INPUT: true; the input reads as it did. -/
def treeSpotsSpec : ChangeSpec := { name := "treeSpots", fn := fun _ => fun
  | [d1, d2, d3, d4] => { results := [.lit (.bool true)], args := [d1, d2, d3, d4] }
  | _ => none }
def treeSpotsRow : OpenClaim := { program := "ytceclmpmpldmlaagreat", sum := "5a02e35f12d9c05492c051c779e10340e13bbc9aa281bee38efb82a5d983fd7f", func := "tintype/tintypelaw21.TreeSpots", spec := "treeSpots", inPlace := ["internal/bytealg.IndexByte"], unfollowed := true, recurses := true, loops := true, plainKeys := false, apart := false }
def TreeSpotsSaid : Prop := treeSpotsRow.holds Tryz.pinned (OpenSpec.ofChange treeSpotsSpec)

/-- ITS FALSE NEIGHBOUR: 'it returns false'. Refute it at one input. -/
def treeSpotsWrong : ChangeSpec := { name := "treeSpots", fn := fun _ => fun
  | [d1, d2, d3, d4] => { results := [.lit (.bool false)], args := [d1, d2, d3, d4] }
  | _ => none }
def TreeSpotsWrongFalsely : Prop := treeSpotsRow.holds Tryz.pinned (OpenSpec.ofChange treeSpotsWrong)

/-- 'tintypelaw24.ExifTells': WHATEVER THE INPUT: true; the input reads as it did. -/
def exifTellsSpec : ChangeSpec := { name := "exifTells", fn := fun _ => fun
  | [d1, d2] => { results := [.lit (.bool true)], args := [d1, d2] }
  | _ => none }
def exifTellsRow : OpenClaim := { program := "ytceclmpmpldmlaagreat", sum := "5a02e35f12d9c05492c051c779e10340e13bbc9aa281bee38efb82a5d983fd7f", func := "tintype/tintypelaw24.ExifTells", spec := "exifTells", inPlace := ["internal/bytealg.IndexByte", "slices.overlaps[tintype/api.Tag]"], unfollowed := true, recurses := true, plainKeys := false, apart := false }
def ExifTellsSaid : Prop := exifTellsRow.holds Tryz.pinned (OpenSpec.ofChange exifTellsSpec)

/-- ITS FALSE NEIGHBOUR: 'it returns false'. Refute it at one input. -/
def exifTellsWrong : ChangeSpec := { name := "exifTells", fn := fun _ => fun
  | [d1, d2] => { results := [.lit (.bool false)], args := [d1, d2] }
  | _ => none }
def ExifTellsWrongFalsely : Prop := exifTellsRow.holds Tryz.pinned (OpenSpec.ofChange exifTellsWrong)

/-- 'tintypelaw24.ExifReads': WHATEVER THE INPUT: true; the input reads as it did. -/
def exifReadsSpec : ChangeSpec := { name := "exifReads", fn := fun _ => fun
  | [d1, d2] => { results := [.lit (.bool true)], args := [d1, d2] }
  | _ => none }
def exifReadsRow : OpenClaim := { program := "ytceclmpmpldmlaagreat", sum := "5a02e35f12d9c05492c051c779e10340e13bbc9aa281bee38efb82a5d983fd7f", func := "tintype/tintypelaw24.ExifReads", spec := "exifReads", inPlace := ["internal/bytealg.IndexByte", "slices.overlaps[tintype/api.Tag]"], unfollowed := true, recurses := true, loops := true, plainKeys := false, apart := false }
def ExifReadsSaid : Prop := exifReadsRow.holds Tryz.pinned (OpenSpec.ofChange exifReadsSpec)

/-- ITS FALSE NEIGHBOUR: 'it returns false'. Refute it at one input. -/
def exifReadsWrong : ChangeSpec := { name := "exifReads", fn := fun _ => fun
  | [d1, d2] => { results := [.lit (.bool false)], args := [d1, d2] }
  | _ => none }
def ExifReadsWrongFalsely : Prop := exifReadsRow.holds Tryz.pinned (OpenSpec.ofChange exifReadsWrong)

/-- 'tintypelaw24.ExifAgain': WHATEVER THE INPUT: true; the input reads as it did. -/
def exifAgainSpec : ChangeSpec := { name := "exifAgain", fn := fun _ => fun
  | [d] => { results := [.lit (.bool true)], args := [d] }
  | _ => none }
def exifAgainRow : OpenClaim := { program := "ytceclmpmpldmlaagreat", sum := "5a02e35f12d9c05492c051c779e10340e13bbc9aa281bee38efb82a5d983fd7f", func := "tintype/tintypelaw24.ExifAgain", spec := "exifAgain", inPlace := ["internal/bytealg.IndexByte", "slices.overlaps[tintype/api.Tag]"], unfollowed := true, recurses := true, plainKeys := false, apart := false }
def ExifAgainSaid : Prop := exifAgainRow.holds Tryz.pinned (OpenSpec.ofChange exifAgainSpec)

/-- ITS FALSE NEIGHBOUR: 'it returns false'. Refute it at one input. -/
def exifAgainWrong : ChangeSpec := { name := "exifAgain", fn := fun _ => fun
  | [d] => { results := [.lit (.bool false)], args := [d] }
  | _ => none }
def ExifAgainWrongFalsely : Prop := exifAgainRow.holds Tryz.pinned (OpenSpec.ofChange exifAgainWrong)

/-- 'tintypelaw24.ExifBack': WHATEVER THE INPUT: true; the input reads as it did. -/
def exifBackSpec : ChangeSpec := { name := "exifBack", fn := fun _ => fun
  | [d1, d2] => { results := [.lit (.bool true)], args := [d1, d2] }
  | _ => none }
def exifBackRow : OpenClaim := { program := "ytceclmpmpldmlaagreat", sum := "5a02e35f12d9c05492c051c779e10340e13bbc9aa281bee38efb82a5d983fd7f", func := "tintype/tintypelaw24.ExifBack", spec := "exifBack", inPlace := ["internal/bytealg.IndexByte", "slices.overlaps[tintype/api.Tag]"], unfollowed := true, recurses := true, plainKeys := false, apart := false }
def ExifBackSaid : Prop := exifBackRow.holds Tryz.pinned (OpenSpec.ofChange exifBackSpec)

/-- ITS FALSE NEIGHBOUR: 'it returns false'. Refute it at one input. -/
def exifBackWrong : ChangeSpec := { name := "exifBack", fn := fun _ => fun
  | [d1, d2] => { results := [.lit (.bool false)], args := [d1, d2] }
  | _ => none }
def ExifBackWrongFalsely : Prop := exifBackRow.holds Tryz.pinned (OpenSpec.ofChange exifBackWrong)

/- THE SECOND FORM. 'bulk': how many values and letters a reading holds, each counted each time it is reached (what is shared counts as often as it is met; a slice's spare places count too). A statement '..UptoSaid' is the law's where the arguments, and the package variables that the reading takes, are together of bulk at most 1048576: NARROWER than '..Said'. Prove '..Said' where nothing that the law and all that it calls make is longer than what came in: it says more and counts as full. Else prove '..UptoSaid'. A law counts once. -/
mutual
def uptoBulk {H : Type} : DataW H → Nat
  | .lit (.string bytes) => bytes.length + 1
  | .lit _ => 1
  | .nil => 1
  | .ptr d => uptoBulk d + 1
  | .slice elems spare => uptoBulkAll elems + uptoBulkAll spare + 1
  | .agg parts => uptoBulkAll parts + 1
  | .iface _ d => uptoBulk d + 1
  | .map entries => uptoBulkEntries entries + 1
  | .held _ => 1
def uptoBulkAll {H : Type} : List (DataW H) → Nat
  | [] => 0
  | d :: r => uptoBulk d + uptoBulkAll r
def uptoBulkEntries {H : Type} : List (Lit × DataW H) → Nat
  | [] => 0
  | x :: r => uptoBulkEntry x + uptoBulkEntries r
def uptoBulkEntry {H : Type} : Lit × DataW H → Nat
  | (.string bytes, d) => bytes.length + uptoBulk d + 1
  | (_, d) => uptoBulk d + 1
 end
def uptoSmall : (H : Type) → List (DataW H) → Bool := fun _ ds => decide (uptoBulkAll ds ≤ 1048576)
def OpenSpec.upto (s : _root_.Go.ChangeSpec) : _root_.Go.OpenSpec := { _root_.Go.OpenSpec.ofChange s with cond := some uptoSmall }

/-- 'tintypelaw21.TreeSpots', WHERE WHAT IT READS IS OF BULK AT MOST 1048576: true; the input reads as it did. -/
def treeSpotsUptoRow : OpenClaim := { program := "ytceclmpmpldmlaagreat", sum := "5a02e35f12d9c05492c051c779e10340e13bbc9aa281bee38efb82a5d983fd7f", func := "tintype/tintypelaw21.TreeSpots", spec := "treeSpots", inPlace := ["internal/bytealg.IndexByte"], unfollowed := true, recurses := true, loops := true, plainKeys := false, apart := false, narrowed := true }
def TreeSpotsUptoSaid : Prop := treeSpotsUptoRow.holds Tryz.pinned (OpenSpec.upto treeSpotsSpec)

/-- 'tintypelaw24.ExifTells', WHERE WHAT IT READS IS OF BULK AT MOST 1048576: true; the input reads as it did. -/
def exifTellsUptoRow : OpenClaim := { program := "ytceclmpmpldmlaagreat", sum := "5a02e35f12d9c05492c051c779e10340e13bbc9aa281bee38efb82a5d983fd7f", func := "tintype/tintypelaw24.ExifTells", spec := "exifTells", inPlace := ["internal/bytealg.IndexByte", "slices.overlaps[tintype/api.Tag]"], unfollowed := true, recurses := true, plainKeys := false, apart := false, narrowed := true }
def ExifTellsUptoSaid : Prop := exifTellsUptoRow.holds Tryz.pinned (OpenSpec.upto exifTellsSpec)

/-- 'tintypelaw24.ExifReads', WHERE WHAT IT READS IS OF BULK AT MOST 1048576: true; the input reads as it did. -/
def exifReadsUptoRow : OpenClaim := { program := "ytceclmpmpldmlaagreat", sum := "5a02e35f12d9c05492c051c779e10340e13bbc9aa281bee38efb82a5d983fd7f", func := "tintype/tintypelaw24.ExifReads", spec := "exifReads", inPlace := ["internal/bytealg.IndexByte", "slices.overlaps[tintype/api.Tag]"], unfollowed := true, recurses := true, loops := true, plainKeys := false, apart := false, narrowed := true }
def ExifReadsUptoSaid : Prop := exifReadsUptoRow.holds Tryz.pinned (OpenSpec.upto exifReadsSpec)

/-- 'tintypelaw24.ExifAgain', WHERE WHAT IT READS IS OF BULK AT MOST 1048576: true; the input reads as it did. -/
def exifAgainUptoRow : OpenClaim := { program := "ytceclmpmpldmlaagreat", sum := "5a02e35f12d9c05492c051c779e10340e13bbc9aa281bee38efb82a5d983fd7f", func := "tintype/tintypelaw24.ExifAgain", spec := "exifAgain", inPlace := ["internal/bytealg.IndexByte", "slices.overlaps[tintype/api.Tag]"], unfollowed := true, recurses := true, plainKeys := false, apart := false, narrowed := true }
def ExifAgainUptoSaid : Prop := exifAgainUptoRow.holds Tryz.pinned (OpenSpec.upto exifAgainSpec)

/-- 'tintypelaw24.ExifBack', WHERE WHAT IT READS IS OF BULK AT MOST 1048576: true; the input reads as it did. -/
def exifBackUptoRow : OpenClaim := { program := "ytceclmpmpldmlaagreat", sum := "5a02e35f12d9c05492c051c779e10340e13bbc9aa281bee38efb82a5d983fd7f", func := "tintype/tintypelaw24.ExifBack", spec := "exifBack", inPlace := ["internal/bytealg.IndexByte", "slices.overlaps[tintype/api.Tag]"], unfollowed := true, recurses := true, plainKeys := false, apart := false, narrowed := true }
def ExifBackUptoSaid : Prop := exifBackUptoRow.holds Tryz.pinned (OpenSpec.upto exifBackSpec)

end Rows
end Go.Proofs.YtceclmpmpldmlaaGreat
