/-
  No cell of these rows narrows 'for every input' (looked for: loops, veiled, ifaces, maps, wideKeys, modest, calm, conditions, laid).
  DERIVED. THE GIVEN ROWS OF THIS SEAT. 4 by the template 'for every input the law returns true; each argument reads behind the call as it read before'; 0 by the template 'total and deterministic' (their statements: YtnhcmibngcmebaaTotals.lean).
  GIVEN WITH THE SEED: the statements are not yours to turn. If you find one false, say at which input.
  Laid BY PROGRAM, IN A SANDBOX (cutbox-rows.mjs): the forced cells as the released guide's own fill.sh prints them over the translation b7a6b3d72d11151c… (all of the seat's roots in one cut). By AI agents, Wed Nov 11 2026. No macro, syntax, notation, axiom, sorry.
-/
import Derived.Test.YtnhcmibngcmebaaChecked
import GoSem.Claim
import GoSem.ClaimJoined
import GoSem.ClaimMapViews
import Derived.JoinedTies
import Derived.KernelRfl
namespace Go.Proofs.Ytnhcmibngcmebaa
/- THE CELL 'sum', in the pinned program and in every row, IS THE sha256 OF THE DUMP (.gsa) THAT YtnhcmibngcmebaaProg.lean LOADS. Nothing in Lean hashes anything: it is a label: what it is worth is what the hold of that sum in a sandbox is worth. -/
noncomputable def Try.pinned : Pinned := { name := "ytnhcmibngcmebaa", sum := "b7a6b3d72d11151c5e62aaa0186f1eaea163e268f81c106dcbbd86a273715853", checked := Try.checked }
namespace Rows
def none {H : Type} : Left H := { results := [], args := [] }

/-- 'tintypelaw23.RegistryKnows': WHATEVER THE INPUT: true; the input reads as it did. -/
def registryKnowsSpec : ChangeSpec := { name := "registryKnows", fn := fun _ => fun
  | [d1, d2, d3, d4] => { results := [.lit (.bool true)], args := [d1, d2, d3, d4] }
  | _ => none }
def registryKnowsRow : OpenClaim := { program := "ytnhcmibngcmebaa", sum := "b7a6b3d72d11151c5e62aaa0186f1eaea163e268f81c106dcbbd86a273715853", func := "tintype/tintypelaw23.RegistryKnows", spec := "registryKnows", inPlace := ["internal/bytealg.IndexByte"], unfollowed := true, recurses := true, plainKeys := false, apart := false }
def RegistryKnowsSaid : Prop := registryKnowsRow.holds Try.pinned (OpenSpec.ofChange registryKnowsSpec)

/-- ITS FALSE NEIGHBOUR: 'it returns false'. Refute it at one input. -/
def registryKnowsWrong : ChangeSpec := { name := "registryKnows", fn := fun _ => fun
  | [d1, d2, d3, d4] => { results := [.lit (.bool false)], args := [d1, d2, d3, d4] }
  | _ => none }
def RegistryKnowsWrongFalsely : Prop := registryKnowsRow.holds Try.pinned (OpenSpec.ofChange registryKnowsWrong)

/-- 'tintypelaw23.RegistryRows': WHATEVER THE INPUT: true; the input reads as it did. -/
def registryRowsSpec : ChangeSpec := { name := "registryRows", fn := fun _ => fun
  | [d1, d2, d3] => { results := [.lit (.bool true)], args := [d1, d2, d3] }
  | _ => none }
def registryRowsRow : OpenClaim := { program := "ytnhcmibngcmebaa", sum := "b7a6b3d72d11151c5e62aaa0186f1eaea163e268f81c106dcbbd86a273715853", func := "tintype/tintypelaw23.RegistryRows", spec := "registryRows", inPlace := ["internal/bytealg.IndexByte", "slices.overlaps[tintype/api.Tag]"], unfollowed := true, recurses := true, plainKeys := false, apart := false }
def RegistryRowsSaid : Prop := registryRowsRow.holds Try.pinned (OpenSpec.ofChange registryRowsSpec)

/-- ITS FALSE NEIGHBOUR: 'it returns false'. Refute it at one input. -/
def registryRowsWrong : ChangeSpec := { name := "registryRows", fn := fun _ => fun
  | [d1, d2, d3] => { results := [.lit (.bool false)], args := [d1, d2, d3] }
  | _ => none }
def RegistryRowsWrongFalsely : Prop := registryRowsRow.holds Try.pinned (OpenSpec.ofChange registryRowsWrong)

/-- 'tintypelaw23.RegistrySets': WHATEVER THE INPUT: true; the input reads as it did. -/
def registrySetsSpec : ChangeSpec := { name := "registrySets", fn := fun _ => fun
  | [d1, d2, d3] => { results := [.lit (.bool true)], args := [d1, d2, d3] }
  | _ => none }
def registrySetsRow : OpenClaim := { program := "ytnhcmibngcmebaa", sum := "b7a6b3d72d11151c5e62aaa0186f1eaea163e268f81c106dcbbd86a273715853", func := "tintype/tintypelaw23.RegistrySets", spec := "registrySets", inPlace := ["internal/bytealg.IndexByte", "slices.overlaps[tintype/api.Tag]"], unfollowed := true, recurses := true, plainKeys := false, apart := false }
def RegistrySetsSaid : Prop := registrySetsRow.holds Try.pinned (OpenSpec.ofChange registrySetsSpec)

/-- ITS FALSE NEIGHBOUR: 'it returns false'. Refute it at one input. -/
def registrySetsWrong : ChangeSpec := { name := "registrySets", fn := fun _ => fun
  | [d1, d2, d3] => { results := [.lit (.bool false)], args := [d1, d2, d3] }
  | _ => none }
def RegistrySetsWrongFalsely : Prop := registrySetsRow.holds Try.pinned (OpenSpec.ofChange registrySetsWrong)

/-- 'tintypelaw23.RegistryOnce': WHATEVER THE INPUT: true; the input reads as it did. -/
def registryOnceSpec : ChangeSpec := { name := "registryOnce", fn := fun _ => fun
  | [d1, d2, d3, d4] => { results := [.lit (.bool true)], args := [d1, d2, d3, d4] }
  | _ => none }
def registryOnceRow : OpenClaim := { program := "ytnhcmibngcmebaa", sum := "b7a6b3d72d11151c5e62aaa0186f1eaea163e268f81c106dcbbd86a273715853", func := "tintype/tintypelaw23.RegistryOnce", spec := "registryOnce", inPlace := ["internal/bytealg.IndexByte"], unfollowed := true, recurses := true, plainKeys := false, apart := false }
def RegistryOnceSaid : Prop := registryOnceRow.holds Try.pinned (OpenSpec.ofChange registryOnceSpec)

/-- ITS FALSE NEIGHBOUR: 'it returns false'. Refute it at one input. -/
def registryOnceWrong : ChangeSpec := { name := "registryOnce", fn := fun _ => fun
  | [d1, d2, d3, d4] => { results := [.lit (.bool false)], args := [d1, d2, d3, d4] }
  | _ => none }
def RegistryOnceWrongFalsely : Prop := registryOnceRow.holds Try.pinned (OpenSpec.ofChange registryOnceWrong)

/- THE SECOND FORM. 'bulk': how many values and letters a reading holds, each counted each time it is reached (what is shared counts as often as it is met; a slice's spare places count too). A statement '..UptoSaid' is the law's where the arguments, and the package variables that the reading takes, are together of bulk at most 1048576: NARROWER than '..Said'. Prove '..Said' where nothing that the law and all that it calls make is longer than what came in: it says more and counts as full. Else prove '..UptoSaid'. A law counts once. -/
mutual
def uptoBulk {H : Type} : DataW H → Nat
  | .lit (.string bytes) => bytes.length + 1
  | .lit _ => 1
  | .nil => 1
  | .ptr d => uptoBulk d + 1
  | .slice elems spare => uptoBulkAll elems + uptoBulkAll spare + 1
  | .agg parts => uptoBulkAll parts + 1
  | .iface _ d => uptoBulk d + 1
  | .map entries => uptoBulkEntries entries + 1
  | .held _ => 1
def uptoBulkAll {H : Type} : List (DataW H) → Nat
  | [] => 0
  | d :: r => uptoBulk d + uptoBulkAll r
def uptoBulkEntries {H : Type} : List (Lit × DataW H) → Nat
  | [] => 0
  | x :: r => uptoBulkEntry x + uptoBulkEntries r
def uptoBulkEntry {H : Type} : Lit × DataW H → Nat
  | (.string bytes, d) => bytes.length + uptoBulk d + 1
  | (_, d) => uptoBulk d + 1
 end
def uptoSmall : (H : Type) → List (DataW H) → Bool := fun _ ds => decide (uptoBulkAll ds ≤ 1048576)
def OpenSpec.upto (s : _root_.Go.ChangeSpec) : _root_.Go.OpenSpec := { _root_.Go.OpenSpec.ofChange s with cond := some uptoSmall }

/-- 'tintypelaw23.RegistryKnows', WHERE WHAT IT READS IS OF BULK AT MOST 1048576: true; the input reads as it did. -/
def registryKnowsUptoRow : OpenClaim := { program := "ytnhcmibngcmebaa", sum := "b7a6b3d72d11151c5e62aaa0186f1eaea163e268f81c106dcbbd86a273715853", func := "tintype/tintypelaw23.RegistryKnows", spec := "registryKnows", inPlace := ["internal/bytealg.IndexByte"], unfollowed := true, recurses := true, plainKeys := false, apart := false, narrowed := true }
def RegistryKnowsUptoSaid : Prop := registryKnowsUptoRow.holds Try.pinned (OpenSpec.upto registryKnowsSpec)

/-- 'tintypelaw23.RegistryRows', WHERE WHAT IT READS IS OF BULK AT MOST 1048576: true; the input reads as it did. -/
def registryRowsUptoRow : OpenClaim := { program := "ytnhcmibngcmebaa", sum := "b7a6b3d72d11151c5e62aaa0186f1eaea163e268f81c106dcbbd86a273715853", func := "tintype/tintypelaw23.RegistryRows", spec := "registryRows", inPlace := ["internal/bytealg.IndexByte", "slices.overlaps[tintype/api.Tag]"], unfollowed := true, recurses := true, plainKeys := false, apart := false, narrowed := true }
def RegistryRowsUptoSaid : Prop := registryRowsUptoRow.holds Try.pinned (OpenSpec.upto registryRowsSpec)

/-- 'tintypelaw23.RegistrySets', WHERE WHAT IT READS IS OF BULK AT MOST 1048576: true; the input reads as it did. -/
def registrySetsUptoRow : OpenClaim := { program := "ytnhcmibngcmebaa", sum := "b7a6b3d72d11151c5e62aaa0186f1eaea163e268f81c106dcbbd86a273715853", func := "tintype/tintypelaw23.RegistrySets", spec := "registrySets", inPlace := ["internal/bytealg.IndexByte", "slices.overlaps[tintype/api.Tag]"], unfollowed := true, recurses := true, plainKeys := false, apart := false, narrowed := true }
def RegistrySetsUptoSaid : Prop := registrySetsUptoRow.holds Try.pinned (OpenSpec.upto registrySetsSpec)

/-- 'tintypelaw23.RegistryOnce', WHERE WHAT IT READS IS OF BULK AT MOST 1048576: true; the input reads as it did. -/
def registryOnceUptoRow : OpenClaim := { program := "ytnhcmibngcmebaa", sum := "b7a6b3d72d11151c5e62aaa0186f1eaea163e268f81c106dcbbd86a273715853", func := "tintype/tintypelaw23.RegistryOnce", spec := "registryOnce", inPlace := ["internal/bytealg.IndexByte"], unfollowed := true, recurses := true, plainKeys := false, apart := false, narrowed := true }
def RegistryOnceUptoSaid : Prop := registryOnceUptoRow.holds Try.pinned (OpenSpec.upto registryOnceSpec)

end Rows
end Go.Proofs.Ytnhcmibngcmebaa
