/-
  No cell of these rows narrows 'for every input' (looked for: loops, veiled, ifaces, maps, wideKeys, modest, calm, conditions, laid).
  DERIVED. THE GIVEN ROWS OF THIS SEAT. 13 by the template 'for every input the law returns true; each argument reads behind the call as it read before'; 0 by the template 'total and deterministic' (their statements: YtpjopeojeglogaaTotals.lean).
  GIVEN WITH THE SEED: the statements are not yours to turn. If you find one false, say at which input.
  Laid BY PROGRAM, IN A SANDBOX (cutbox-rows.mjs): the forced cells as the released guide's own fill.sh prints them over the translation 2d6bb53c9d89aa0f… (all of the seat's roots in one cut). By AI agents, Wed Nov 11 2026. No macro, syntax, notation, axiom, sorry.
-/
import Derived.Test.YtpjopeojeglogaaChecked
import GoSem.Claim
import GoSem.ClaimJoined
import GoSem.ClaimMapViews
import Derived.JoinedTies
import Derived.KernelRfl
namespace Go.Proofs.Ytpjopeojeglogaa
/- THE CELL 'sum', in the pinned program and in every row, IS THE sha256 OF THE DUMP (.gsa) THAT YtpjopeojeglogaaProg.lean LOADS. Nothing in Lean hashes anything: it is a label: what it is worth is what the hold of that sum in a sandbox is worth. -/
noncomputable def Try.pinned : Pinned := { name := "ytpjopeojeglogaa", sum := "2d6bb53c9d89aa0fe7a0e64660588a054deaff6b44da16855be14202c3dd1f22", checked := Try.checked }
namespace Rows
def none {H : Type} : Left H := { results := [], args := [] }

/-- 'tintypelaw12.ScanWrites': WHATEVER THE INPUT: true; the input reads as it did. -/
def scanWritesSpec : ChangeSpec := { name := "scanWrites", fn := fun _ => fun
  | [d1, d2] => { results := [.lit (.bool true)], args := [d1, d2] }
  | _ => none }
def scanWritesRow : OpenClaim := { program := "ytpjopeojeglogaa", sum := "2d6bb53c9d89aa0fe7a0e64660588a054deaff6b44da16855be14202c3dd1f22", func := "tintype/tintypelaw12.ScanWrites", spec := "scanWrites", unfollowed := true, recurses := true, plainKeys := false, apart := false }
def ScanWritesSaid : Prop := scanWritesRow.holds Try.pinned (OpenSpec.ofChange scanWritesSpec)

/-- ITS FALSE NEIGHBOUR: 'it returns false'. Refute it at one input. -/
def scanWritesWrong : ChangeSpec := { name := "scanWrites", fn := fun _ => fun
  | [d1, d2] => { results := [.lit (.bool false)], args := [d1, d2] }
  | _ => none }
def ScanWritesWrongFalsely : Prop := scanWritesRow.holds Try.pinned (OpenSpec.ofChange scanWritesWrong)

/-- 'tintypelaw12.ScanReads': WHATEVER THE INPUT: true; the input reads as it did. -/
def scanReadsSpec : ChangeSpec := { name := "scanReads", fn := fun _ => fun
  | [d1, d2] => { results := [.lit (.bool true)], args := [d1, d2] }
  | _ => none }
def scanReadsRow : OpenClaim := { program := "ytpjopeojeglogaa", sum := "2d6bb53c9d89aa0fe7a0e64660588a054deaff6b44da16855be14202c3dd1f22", func := "tintype/tintypelaw12.ScanReads", spec := "scanReads", unfollowed := true, recurses := true, plainKeys := false, apart := false }
def ScanReadsSaid : Prop := scanReadsRow.holds Try.pinned (OpenSpec.ofChange scanReadsSpec)

/-- ITS FALSE NEIGHBOUR: 'it returns false'. Refute it at one input. -/
def scanReadsWrong : ChangeSpec := { name := "scanReads", fn := fun _ => fun
  | [d1, d2] => { results := [.lit (.bool false)], args := [d1, d2] }
  | _ => none }
def ScanReadsWrongFalsely : Prop := scanReadsRow.holds Try.pinned (OpenSpec.ofChange scanReadsWrong)

/-- 'tintypelaw12.ScanOrder': WHATEVER THE INPUT: true; the input reads as it did. -/
def scanOrderSpec : ChangeSpec := { name := "scanOrder", fn := fun _ => fun
  | [d] => { results := [.lit (.bool true)], args := [d] }
  | _ => none }
def scanOrderRow : OpenClaim := { program := "ytpjopeojeglogaa", sum := "2d6bb53c9d89aa0fe7a0e64660588a054deaff6b44da16855be14202c3dd1f22", func := "tintype/tintypelaw12.ScanOrder", spec := "scanOrder", unfollowed := true, recurses := true, plainKeys := false, apart := false }
def ScanOrderSaid : Prop := scanOrderRow.holds Try.pinned (OpenSpec.ofChange scanOrderSpec)

/-- ITS FALSE NEIGHBOUR: 'it returns false'. Refute it at one input. -/
def scanOrderWrong : ChangeSpec := { name := "scanOrder", fn := fun _ => fun
  | [d] => { results := [.lit (.bool false)], args := [d] }
  | _ => none }
def ScanOrderWrongFalsely : Prop := scanOrderRow.holds Try.pinned (OpenSpec.ofChange scanOrderWrong)

/-- 'tintypelaw12.ScanCounts': WHATEVER THE INPUT: true; the input reads as it did. -/
def scanCountsSpec : ChangeSpec := { name := "scanCounts", fn := fun _ => fun
  | [d1, d2, d3, d4] => { results := [.lit (.bool true)], args := [d1, d2, d3, d4] }
  | _ => none }
def scanCountsRow : OpenClaim := { program := "ytpjopeojeglogaa", sum := "2d6bb53c9d89aa0fe7a0e64660588a054deaff6b44da16855be14202c3dd1f22", func := "tintype/tintypelaw12.ScanCounts", spec := "scanCounts", unfollowed := true, recurses := true, plainKeys := false, apart := false }
def ScanCountsSaid : Prop := scanCountsRow.holds Try.pinned (OpenSpec.ofChange scanCountsSpec)

/-- ITS FALSE NEIGHBOUR: 'it returns false'. Refute it at one input. -/
def scanCountsWrong : ChangeSpec := { name := "scanCounts", fn := fun _ => fun
  | [d1, d2, d3, d4] => { results := [.lit (.bool false)], args := [d1, d2, d3, d4] }
  | _ => none }
def ScanCountsWrongFalsely : Prop := scanCountsRow.holds Try.pinned (OpenSpec.ofChange scanCountsWrong)

/-- 'tintypelaw14.TablesWrite': WHATEVER THE INPUT: true; the input reads as it did. -/
def tablesWriteSpec : ChangeSpec := { name := "tablesWrite", fn := fun _ => fun
  | [d] => { results := [.lit (.bool true)], args := [d] }
  | _ => none }
def tablesWriteRow : OpenClaim := { program := "ytpjopeojeglogaa", sum := "2d6bb53c9d89aa0fe7a0e64660588a054deaff6b44da16855be14202c3dd1f22", func := "tintype/tintypelaw14.TablesWrite", spec := "tablesWrite", unfollowed := true, recurses := true, plainKeys := false, apart := false }
def TablesWriteSaid : Prop := tablesWriteRow.holds Try.pinned (OpenSpec.ofChange tablesWriteSpec)

/-- ITS FALSE NEIGHBOUR: 'it returns false'. Refute it at one input. -/
def tablesWriteWrong : ChangeSpec := { name := "tablesWrite", fn := fun _ => fun
  | [d] => { results := [.lit (.bool false)], args := [d] }
  | _ => none }
def TablesWriteWrongFalsely : Prop := tablesWriteRow.holds Try.pinned (OpenSpec.ofChange tablesWriteWrong)

/-- 'tintypelaw14.TablesRead': WHATEVER THE INPUT: true; the input reads as it did. -/
def tablesReadSpec : ChangeSpec := { name := "tablesRead", fn := fun _ => fun
  | [d] => { results := [.lit (.bool true)], args := [d] }
  | _ => none }
def tablesReadRow : OpenClaim := { program := "ytpjopeojeglogaa", sum := "2d6bb53c9d89aa0fe7a0e64660588a054deaff6b44da16855be14202c3dd1f22", func := "tintype/tintypelaw14.TablesRead", spec := "tablesRead", unfollowed := true, recurses := true, plainKeys := false, apart := false }
def TablesReadSaid : Prop := tablesReadRow.holds Try.pinned (OpenSpec.ofChange tablesReadSpec)

/-- ITS FALSE NEIGHBOUR: 'it returns false'. Refute it at one input. -/
def tablesReadWrong : ChangeSpec := { name := "tablesRead", fn := fun _ => fun
  | [d] => { results := [.lit (.bool false)], args := [d] }
  | _ => none }
def TablesReadWrongFalsely : Prop := tablesReadRow.holds Try.pinned (OpenSpec.ofChange tablesReadWrong)

/-- 'tintypelaw14.TablesBytes': WHATEVER THE INPUT: true; the input reads as it did. -/
def tablesBytesSpec : ChangeSpec := { name := "tablesBytes", fn := fun _ => fun
  | [d1, d2] => { results := [.lit (.bool true)], args := [d1, d2] }
  | _ => none }
def tablesBytesRow : OpenClaim := { program := "ytpjopeojeglogaa", sum := "2d6bb53c9d89aa0fe7a0e64660588a054deaff6b44da16855be14202c3dd1f22", func := "tintype/tintypelaw14.TablesBytes", spec := "tablesBytes", unfollowed := true, recurses := true, plainKeys := false, apart := false }
def TablesBytesSaid : Prop := tablesBytesRow.holds Try.pinned (OpenSpec.ofChange tablesBytesSpec)

/-- ITS FALSE NEIGHBOUR: 'it returns false'. Refute it at one input. -/
def tablesBytesWrong : ChangeSpec := { name := "tablesBytes", fn := fun _ => fun
  | [d1, d2] => { results := [.lit (.bool false)], args := [d1, d2] }
  | _ => none }
def TablesBytesWrongFalsely : Prop := tablesBytesRow.holds Try.pinned (OpenSpec.ofChange tablesBytesWrong)

/-- 'tintypelaw14.TablesBack': WHATEVER THE INPUT: true; the input reads as it did. -/
def tablesBackSpec : ChangeSpec := { name := "tablesBack", fn := fun _ => fun
  | [d] => { results := [.lit (.bool true)], args := [d] }
  | _ => none }
def tablesBackRow : OpenClaim := { program := "ytpjopeojeglogaa", sum := "2d6bb53c9d89aa0fe7a0e64660588a054deaff6b44da16855be14202c3dd1f22", func := "tintype/tintypelaw14.TablesBack", spec := "tablesBack", unfollowed := true, recurses := true, plainKeys := false, apart := false }
def TablesBackSaid : Prop := tablesBackRow.holds Try.pinned (OpenSpec.ofChange tablesBackSpec)

/-- ITS FALSE NEIGHBOUR: 'it returns false'. Refute it at one input. -/
def tablesBackWrong : ChangeSpec := { name := "tablesBack", fn := fun _ => fun
  | [d] => { results := [.lit (.bool false)], args := [d] }
  | _ => none }
def TablesBackWrongFalsely : Prop := tablesBackRow.holds Try.pinned (OpenSpec.ofChange tablesBackWrong)

/-- 'tintypelaw04.PrefixBuilds': WHATEVER THE INPUT: true; the input reads as it did. -/
def prefixBuildsSpec : ChangeSpec := { name := "prefixBuilds", fn := fun _ => fun
  | [d] => { results := [.lit (.bool true)], args := [d] }
  | _ => none }
def prefixBuildsRow : OpenClaim := { program := "ytpjopeojeglogaa", sum := "2d6bb53c9d89aa0fe7a0e64660588a054deaff6b44da16855be14202c3dd1f22", func := "tintype/tintypelaw04.PrefixBuilds", spec := "prefixBuilds", unfollowed := true, recurses := true, plainKeys := false, apart := false }
def PrefixBuildsSaid : Prop := prefixBuildsRow.holds Try.pinned (OpenSpec.ofChange prefixBuildsSpec)

/-- ITS FALSE NEIGHBOUR: 'it returns false'. Refute it at one input. -/
def prefixBuildsWrong : ChangeSpec := { name := "prefixBuilds", fn := fun _ => fun
  | [d] => { results := [.lit (.bool false)], args := [d] }
  | _ => none }
def PrefixBuildsWrongFalsely : Prop := prefixBuildsRow.holds Try.pinned (OpenSpec.ofChange prefixBuildsWrong)

/-- 'tintypelaw04.PrefixBest': WHATEVER THE INPUT: true; the input reads as it did. -/
def prefixBestSpec : ChangeSpec := { name := "prefixBest", fn := fun _ => fun
  | [d1, d2] => { results := [.lit (.bool true)], args := [d1, d2] }
  | _ => none }
def prefixBestRow : OpenClaim := { program := "ytpjopeojeglogaa", sum := "2d6bb53c9d89aa0fe7a0e64660588a054deaff6b44da16855be14202c3dd1f22", func := "tintype/tintypelaw04.PrefixBest", spec := "prefixBest", unfollowed := true, recurses := true, plainKeys := false, apart := false }
def PrefixBestSaid : Prop := prefixBestRow.holds Try.pinned (OpenSpec.ofChange prefixBestSpec)

/-- ITS FALSE NEIGHBOUR: 'it returns false'. Refute it at one input. -/
def prefixBestWrong : ChangeSpec := { name := "prefixBest", fn := fun _ => fun
  | [d1, d2] => { results := [.lit (.bool false)], args := [d1, d2] }
  | _ => none }
def PrefixBestWrongFalsely : Prop := prefixBestRow.holds Try.pinned (OpenSpec.ofChange prefixBestWrong)

/-- 'tintypelaw04.PrefixTells': WHATEVER THE INPUT: true; the input reads as it did. -/
def prefixTellsSpec : ChangeSpec := { name := "prefixTells", fn := fun _ => fun
  | [d1, d2, d3] => { results := [.lit (.bool true)], args := [d1, d2, d3] }
  | _ => none }
def prefixTellsRow : OpenClaim := { program := "ytpjopeojeglogaa", sum := "2d6bb53c9d89aa0fe7a0e64660588a054deaff6b44da16855be14202c3dd1f22", func := "tintype/tintypelaw04.PrefixTells", spec := "prefixTells", unfollowed := true, recurses := true, plainKeys := false, apart := false }
def PrefixTellsSaid : Prop := prefixTellsRow.holds Try.pinned (OpenSpec.ofChange prefixTellsSpec)

/-- ITS FALSE NEIGHBOUR: 'it returns false'. Refute it at one input. -/
def prefixTellsWrong : ChangeSpec := { name := "prefixTells", fn := fun _ => fun
  | [d1, d2, d3] => { results := [.lit (.bool false)], args := [d1, d2, d3] }
  | _ => none }
def PrefixTellsWrongFalsely : Prop := prefixTellsRow.holds Try.pinned (OpenSpec.ofChange prefixTellsWrong)

/-- 'tintypelaw04.PrefixReads': WHATEVER THE INPUT: true; the input reads as it did. -/
def prefixReadsSpec : ChangeSpec := { name := "prefixReads", fn := fun _ => fun
  | [d1, d2] => { results := [.lit (.bool true)], args := [d1, d2] }
  | _ => none }
def prefixReadsRow : OpenClaim := { program := "ytpjopeojeglogaa", sum := "2d6bb53c9d89aa0fe7a0e64660588a054deaff6b44da16855be14202c3dd1f22", func := "tintype/tintypelaw04.PrefixReads", spec := "prefixReads", unfollowed := true, recurses := true, plainKeys := false, apart := false }
def PrefixReadsSaid : Prop := prefixReadsRow.holds Try.pinned (OpenSpec.ofChange prefixReadsSpec)

/-- ITS FALSE NEIGHBOUR: 'it returns false'. Refute it at one input. -/
def prefixReadsWrong : ChangeSpec := { name := "prefixReads", fn := fun _ => fun
  | [d1, d2] => { results := [.lit (.bool false)], args := [d1, d2] }
  | _ => none }
def PrefixReadsWrongFalsely : Prop := prefixReadsRow.holds Try.pinned (OpenSpec.ofChange prefixReadsWrong)

/-- 'tintypelaw04.PrefixBack': WHATEVER THE INPUT: true; the input reads as it did. -/
def prefixBackSpec : ChangeSpec := { name := "prefixBack", fn := fun _ => fun
  | [d1, d2] => { results := [.lit (.bool true)], args := [d1, d2] }
  | _ => none }
def prefixBackRow : OpenClaim := { program := "ytpjopeojeglogaa", sum := "2d6bb53c9d89aa0fe7a0e64660588a054deaff6b44da16855be14202c3dd1f22", func := "tintype/tintypelaw04.PrefixBack", spec := "prefixBack", unfollowed := true, recurses := true, plainKeys := false, apart := false }
def PrefixBackSaid : Prop := prefixBackRow.holds Try.pinned (OpenSpec.ofChange prefixBackSpec)

/-- ITS FALSE NEIGHBOUR: 'it returns false'. Refute it at one input. -/
def prefixBackWrong : ChangeSpec := { name := "prefixBack", fn := fun _ => fun
  | [d1, d2] => { results := [.lit (.bool false)], args := [d1, d2] }
  | _ => none }
def PrefixBackWrongFalsely : Prop := prefixBackRow.holds Try.pinned (OpenSpec.ofChange prefixBackWrong)

/- THE SECOND FORM. 'bulk': how many values and letters a reading holds, each counted each time it is reached (what is shared counts as often as it is met; a slice's spare places count too). A statement '..UptoSaid' is the law's where the arguments, and the package variables that the reading takes, are together of bulk at most 1048576: NARROWER than '..Said'. Prove '..Said' where nothing that the law and all that it calls make is longer than what came in: it says more and counts as full. Else prove '..UptoSaid'. A law counts once. -/
mutual
def uptoBulk {H : Type} : DataW H → Nat
  | .lit (.string bytes) => bytes.length + 1
  | .lit _ => 1
  | .nil => 1
  | .ptr d => uptoBulk d + 1
  | .slice elems spare => uptoBulkAll elems + uptoBulkAll spare + 1
  | .agg parts => uptoBulkAll parts + 1
  | .iface _ d => uptoBulk d + 1
  | .map entries => uptoBulkEntries entries + 1
  | .held _ => 1
def uptoBulkAll {H : Type} : List (DataW H) → Nat
  | [] => 0
  | d :: r => uptoBulk d + uptoBulkAll r
def uptoBulkEntries {H : Type} : List (Lit × DataW H) → Nat
  | [] => 0
  | x :: r => uptoBulkEntry x + uptoBulkEntries r
def uptoBulkEntry {H : Type} : Lit × DataW H → Nat
  | (.string bytes, d) => bytes.length + uptoBulk d + 1
  | (_, d) => uptoBulk d + 1
 end
def uptoSmall : (H : Type) → List (DataW H) → Bool := fun _ ds => decide (uptoBulkAll ds ≤ 1048576)
def OpenSpec.upto (s : _root_.Go.ChangeSpec) : _root_.Go.OpenSpec := { _root_.Go.OpenSpec.ofChange s with cond := some uptoSmall }

/-- 'tintypelaw12.ScanWrites', WHERE WHAT IT READS IS OF BULK AT MOST 1048576: true; the input reads as it did. -/
def scanWritesUptoRow : OpenClaim := { program := "ytpjopeojeglogaa", sum := "2d6bb53c9d89aa0fe7a0e64660588a054deaff6b44da16855be14202c3dd1f22", func := "tintype/tintypelaw12.ScanWrites", spec := "scanWrites", unfollowed := true, recurses := true, plainKeys := false, apart := false, narrowed := true }
def ScanWritesUptoSaid : Prop := scanWritesUptoRow.holds Try.pinned (OpenSpec.upto scanWritesSpec)

/-- 'tintypelaw12.ScanReads', WHERE WHAT IT READS IS OF BULK AT MOST 1048576: true; the input reads as it did. -/
def scanReadsUptoRow : OpenClaim := { program := "ytpjopeojeglogaa", sum := "2d6bb53c9d89aa0fe7a0e64660588a054deaff6b44da16855be14202c3dd1f22", func := "tintype/tintypelaw12.ScanReads", spec := "scanReads", unfollowed := true, recurses := true, plainKeys := false, apart := false, narrowed := true }
def ScanReadsUptoSaid : Prop := scanReadsUptoRow.holds Try.pinned (OpenSpec.upto scanReadsSpec)

/-- 'tintypelaw12.ScanOrder', WHERE WHAT IT READS IS OF BULK AT MOST 1048576: true; the input reads as it did. -/
def scanOrderUptoRow : OpenClaim := { program := "ytpjopeojeglogaa", sum := "2d6bb53c9d89aa0fe7a0e64660588a054deaff6b44da16855be14202c3dd1f22", func := "tintype/tintypelaw12.ScanOrder", spec := "scanOrder", unfollowed := true, recurses := true, plainKeys := false, apart := false, narrowed := true }
def ScanOrderUptoSaid : Prop := scanOrderUptoRow.holds Try.pinned (OpenSpec.upto scanOrderSpec)

/-- 'tintypelaw12.ScanCounts', WHERE WHAT IT READS IS OF BULK AT MOST 1048576: true; the input reads as it did. -/
def scanCountsUptoRow : OpenClaim := { program := "ytpjopeojeglogaa", sum := "2d6bb53c9d89aa0fe7a0e64660588a054deaff6b44da16855be14202c3dd1f22", func := "tintype/tintypelaw12.ScanCounts", spec := "scanCounts", unfollowed := true, recurses := true, plainKeys := false, apart := false, narrowed := true }
def ScanCountsUptoSaid : Prop := scanCountsUptoRow.holds Try.pinned (OpenSpec.upto scanCountsSpec)

/-- 'tintypelaw14.TablesWrite', WHERE WHAT IT READS IS OF BULK AT MOST 1048576: true; the input reads as it did. -/
def tablesWriteUptoRow : OpenClaim := { program := "ytpjopeojeglogaa", sum := "2d6bb53c9d89aa0fe7a0e64660588a054deaff6b44da16855be14202c3dd1f22", func := "tintype/tintypelaw14.TablesWrite", spec := "tablesWrite", unfollowed := true, recurses := true, plainKeys := false, apart := false, narrowed := true }
def TablesWriteUptoSaid : Prop := tablesWriteUptoRow.holds Try.pinned (OpenSpec.upto tablesWriteSpec)

/-- 'tintypelaw14.TablesRead', WHERE WHAT IT READS IS OF BULK AT MOST 1048576: true; the input reads as it did. -/
def tablesReadUptoRow : OpenClaim := { program := "ytpjopeojeglogaa", sum := "2d6bb53c9d89aa0fe7a0e64660588a054deaff6b44da16855be14202c3dd1f22", func := "tintype/tintypelaw14.TablesRead", spec := "tablesRead", unfollowed := true, recurses := true, plainKeys := false, apart := false, narrowed := true }
def TablesReadUptoSaid : Prop := tablesReadUptoRow.holds Try.pinned (OpenSpec.upto tablesReadSpec)

/-- 'tintypelaw14.TablesBytes', WHERE WHAT IT READS IS OF BULK AT MOST 1048576: true; the input reads as it did. -/
def tablesBytesUptoRow : OpenClaim := { program := "ytpjopeojeglogaa", sum := "2d6bb53c9d89aa0fe7a0e64660588a054deaff6b44da16855be14202c3dd1f22", func := "tintype/tintypelaw14.TablesBytes", spec := "tablesBytes", unfollowed := true, recurses := true, plainKeys := false, apart := false, narrowed := true }
def TablesBytesUptoSaid : Prop := tablesBytesUptoRow.holds Try.pinned (OpenSpec.upto tablesBytesSpec)

/-- 'tintypelaw14.TablesBack', WHERE WHAT IT READS IS OF BULK AT MOST 1048576: true; the input reads as it did. -/
def tablesBackUptoRow : OpenClaim := { program := "ytpjopeojeglogaa", sum := "2d6bb53c9d89aa0fe7a0e64660588a054deaff6b44da16855be14202c3dd1f22", func := "tintype/tintypelaw14.TablesBack", spec := "tablesBack", unfollowed := true, recurses := true, plainKeys := false, apart := false, narrowed := true }
def TablesBackUptoSaid : Prop := tablesBackUptoRow.holds Try.pinned (OpenSpec.upto tablesBackSpec)

/-- 'tintypelaw04.PrefixBuilds', WHERE WHAT IT READS IS OF BULK AT MOST 1048576: true; the input reads as it did. -/
def prefixBuildsUptoRow : OpenClaim := { program := "ytpjopeojeglogaa", sum := "2d6bb53c9d89aa0fe7a0e64660588a054deaff6b44da16855be14202c3dd1f22", func := "tintype/tintypelaw04.PrefixBuilds", spec := "prefixBuilds", unfollowed := true, recurses := true, plainKeys := false, apart := false, narrowed := true }
def PrefixBuildsUptoSaid : Prop := prefixBuildsUptoRow.holds Try.pinned (OpenSpec.upto prefixBuildsSpec)

/-- 'tintypelaw04.PrefixBest', WHERE WHAT IT READS IS OF BULK AT MOST 1048576: true; the input reads as it did. -/
def prefixBestUptoRow : OpenClaim := { program := "ytpjopeojeglogaa", sum := "2d6bb53c9d89aa0fe7a0e64660588a054deaff6b44da16855be14202c3dd1f22", func := "tintype/tintypelaw04.PrefixBest", spec := "prefixBest", unfollowed := true, recurses := true, plainKeys := false, apart := false, narrowed := true }
def PrefixBestUptoSaid : Prop := prefixBestUptoRow.holds Try.pinned (OpenSpec.upto prefixBestSpec)

/-- 'tintypelaw04.PrefixTells', WHERE WHAT IT READS IS OF BULK AT MOST 1048576: true; the input reads as it did. -/
def prefixTellsUptoRow : OpenClaim := { program := "ytpjopeojeglogaa", sum := "2d6bb53c9d89aa0fe7a0e64660588a054deaff6b44da16855be14202c3dd1f22", func := "tintype/tintypelaw04.PrefixTells", spec := "prefixTells", unfollowed := true, recurses := true, plainKeys := false, apart := false, narrowed := true }
def PrefixTellsUptoSaid : Prop := prefixTellsUptoRow.holds Try.pinned (OpenSpec.upto prefixTellsSpec)

/-- 'tintypelaw04.PrefixReads', WHERE WHAT IT READS IS OF BULK AT MOST 1048576: true; the input reads as it did. -/
def prefixReadsUptoRow : OpenClaim := { program := "ytpjopeojeglogaa", sum := "2d6bb53c9d89aa0fe7a0e64660588a054deaff6b44da16855be14202c3dd1f22", func := "tintype/tintypelaw04.PrefixReads", spec := "prefixReads", unfollowed := true, recurses := true, plainKeys := false, apart := false, narrowed := true }
def PrefixReadsUptoSaid : Prop := prefixReadsUptoRow.holds Try.pinned (OpenSpec.upto prefixReadsSpec)

/-- 'tintypelaw04.PrefixBack', WHERE WHAT IT READS IS OF BULK AT MOST 1048576: true; the input reads as it did. -/
def prefixBackUptoRow : OpenClaim := { program := "ytpjopeojeglogaa", sum := "2d6bb53c9d89aa0fe7a0e64660588a054deaff6b44da16855be14202c3dd1f22", func := "tintype/tintypelaw04.PrefixBack", spec := "prefixBack", unfollowed := true, recurses := true, plainKeys := false, apart := false, narrowed := true }
def PrefixBackUptoSaid : Prop := prefixBackUptoRow.holds Try.pinned (OpenSpec.upto prefixBackSpec)

end Rows
end Go.Proofs.Ytpjopeojeglogaa
