/-
  NARROWER THAN 'FOR EVERY INPUT', by the rows' own cells (each row's printed sentence says how): IccCuts: laid · IccJoins: laid · IccBack: laid · IccAll: laid.
  DERIVED. THE GIVEN ROWS OF THIS SEAT. 4 by the template 'for every input the law returns true; each argument reads behind the call as it read before'; 0 by the template 'total and deterministic' (their statements: YtgmcnjnkiblbjaaDoorTotals.lean).
  GIVEN WITH THE SEED: the statements are not yours to turn. If you find one false, say at which input.
  Laid BY PROGRAM, IN A SANDBOX (cutbox-rows.mjs): the forced cells as the released guide's own fill.sh prints them over the translation 5716769279922e1d… (all of the seat's roots in one cut). By AI agents, Wed Nov 11 2026. No macro, syntax, notation, axiom, sorry.
-/
import Derived.Test.YtgmcnjnkiblbjaaDoorChecked
import GoSem.Claim
import GoSem.ClaimJoined
import GoSem.ClaimMapViews
import Derived.JoinedTies
import Derived.KernelRfl
namespace Go.Proofs.YtgmcnjnkiblbjaaDoor
/- THE CELL 'sum', in the pinned program and in every row, IS THE sha256 OF THE DUMP (.gsa) THAT YtgmcnjnkiblbjaaDoorProg.lean LOADS. Nothing in Lean hashes anything: it is a label: what it is worth is what the hold of that sum in a sandbox is worth. -/
noncomputable def Tryd.pinned : Pinned := { name := "ytgmcnjnkiblbjaadoor", sum := "5716769279922e1d58c2f5c304a210b2be7a83d0727832a7dbeeeea24249af2e", checked := Tryd.checked }
namespace Rows
def none {H : Type} : Left H := { results := [], args := [] }

/- WHAT THE LISTED PACKAGE-LEVEL VARIABLES READ AS WHEN THE CALL BEGINS. Each datum BY PROGRAM (the guide's laid-datum.mjs) off the statement by which the dump's own 'gosem.cut.vars' lays the variable. In a bare row this is a premise. The card (YtgmcnjnkiblbjaaDoorCards.lean) ties it to the program's text. -/
def laid_bytes_ErrTooLarge {H : Type} : DataW H := .iface "*errors.errorString" (.ptr (.agg [.lit (.string [98, 121, 116, 101, 115, 46, 66, 117, 102, 102, 101, 114, 58, 32, 116, 111, 111, 32, 108, 97, 114, 103, 101])]))

/-- 'tintypelaw26.IccCuts': WHATEVER THE INPUT: true; the input reads as it did. -/
def iccCutsSpec : ChangeSpec := { name := "iccCuts", fn := fun _ => fun
  | [d1, d2, d3, d4, d5] => { results := [.lit (.bool true)], args := [d1, d2, d3, d4, d5] }
  | _ => none }
def iccCutsRow : OpenClaim := { program := "ytgmcnjnkiblbjaadoor", sum := "5716769279922e1d58c2f5c304a210b2be7a83d0727832a7dbeeeea24249af2e", func := "tintype/tintypelaw26.IccCuts", spec := "iccCuts", unfollowed := true, recurses := true, named := ["bytes.ErrTooLarge"], apart := false, laid := [("bytes.ErrTooLarge", laid_bytes_ErrTooLarge)] }
def IccCutsSaid : Prop := iccCutsRow.holds Tryd.pinned (OpenSpec.ofChange iccCutsSpec)

/-- ITS FALSE NEIGHBOUR: 'it returns false'. Refute it at one input. -/
def iccCutsWrong : ChangeSpec := { name := "iccCuts", fn := fun _ => fun
  | [d1, d2, d3, d4, d5] => { results := [.lit (.bool false)], args := [d1, d2, d3, d4, d5] }
  | _ => none }
def IccCutsWrongFalsely : Prop := iccCutsRow.holds Tryd.pinned (OpenSpec.ofChange iccCutsWrong)

/-- 'tintypelaw26.IccJoins': WHATEVER THE INPUT: true; the input reads as it did. -/
def iccJoinsSpec : ChangeSpec := { name := "iccJoins", fn := fun _ => fun
  | [d] => { results := [.lit (.bool true)], args := [d] }
  | _ => none }
def iccJoinsRow : OpenClaim := { program := "ytgmcnjnkiblbjaadoor", sum := "5716769279922e1d58c2f5c304a210b2be7a83d0727832a7dbeeeea24249af2e", func := "tintype/tintypelaw26.IccJoins", spec := "iccJoins", unfollowed := true, recurses := true, named := ["bytes.ErrTooLarge"], apart := false, laid := [("bytes.ErrTooLarge", laid_bytes_ErrTooLarge)] }
def IccJoinsSaid : Prop := iccJoinsRow.holds Tryd.pinned (OpenSpec.ofChange iccJoinsSpec)

/-- ITS FALSE NEIGHBOUR: 'it returns false'. Refute it at one input. -/
def iccJoinsWrong : ChangeSpec := { name := "iccJoins", fn := fun _ => fun
  | [d] => { results := [.lit (.bool false)], args := [d] }
  | _ => none }
def IccJoinsWrongFalsely : Prop := iccJoinsRow.holds Tryd.pinned (OpenSpec.ofChange iccJoinsWrong)

/-- 'tintypelaw26.IccBack': WHATEVER THE INPUT: true; the input reads as it did. -/
def iccBackSpec : ChangeSpec := { name := "iccBack", fn := fun _ => fun
  | [d1, d2, d3, d4] => { results := [.lit (.bool true)], args := [d1, d2, d3, d4] }
  | _ => none }
def iccBackRow : OpenClaim := { program := "ytgmcnjnkiblbjaadoor", sum := "5716769279922e1d58c2f5c304a210b2be7a83d0727832a7dbeeeea24249af2e", func := "tintype/tintypelaw26.IccBack", spec := "iccBack", unfollowed := true, recurses := true, named := ["bytes.ErrTooLarge"], apart := false, laid := [("bytes.ErrTooLarge", laid_bytes_ErrTooLarge)] }
def IccBackSaid : Prop := iccBackRow.holds Tryd.pinned (OpenSpec.ofChange iccBackSpec)

/-- ITS FALSE NEIGHBOUR: 'it returns false'. Refute it at one input. -/
def iccBackWrong : ChangeSpec := { name := "iccBack", fn := fun _ => fun
  | [d1, d2, d3, d4] => { results := [.lit (.bool false)], args := [d1, d2, d3, d4] }
  | _ => none }
def IccBackWrongFalsely : Prop := iccBackRow.holds Tryd.pinned (OpenSpec.ofChange iccBackWrong)

/-- 'tintypelaw26.IccAll': WHATEVER THE INPUT: true; the input reads as it did. -/
def iccAllSpec : ChangeSpec := { name := "iccAll", fn := fun _ => fun
  | [d1, d2, d3] => { results := [.lit (.bool true)], args := [d1, d2, d3] }
  | _ => none }
def iccAllRow : OpenClaim := { program := "ytgmcnjnkiblbjaadoor", sum := "5716769279922e1d58c2f5c304a210b2be7a83d0727832a7dbeeeea24249af2e", func := "tintype/tintypelaw26.IccAll", spec := "iccAll", unfollowed := true, recurses := true, named := ["bytes.ErrTooLarge"], apart := false, laid := [("bytes.ErrTooLarge", laid_bytes_ErrTooLarge)] }
def IccAllSaid : Prop := iccAllRow.holds Tryd.pinned (OpenSpec.ofChange iccAllSpec)

/-- ITS FALSE NEIGHBOUR: 'it returns false'. Refute it at one input. -/
def iccAllWrong : ChangeSpec := { name := "iccAll", fn := fun _ => fun
  | [d1, d2, d3] => { results := [.lit (.bool false)], args := [d1, d2, d3] }
  | _ => none }
def IccAllWrongFalsely : Prop := iccAllRow.holds Tryd.pinned (OpenSpec.ofChange iccAllWrong)

/- THE SECOND FORM. 'bulk': how many values and letters a reading holds, each counted each time it is reached (what is shared counts as often as it is met; a slice's spare places count too). A statement '..UptoSaid' is the law's where the arguments, and the package variables that the reading takes, are together of bulk at most 1048576: NARROWER than '..Said'. Prove '..Said' where nothing that the law and all that it calls make is longer than what came in: it says more and counts as full. Else prove '..UptoSaid'. A law counts once. -/
mutual
def uptoBulk {H : Type} : DataW H → Nat
  | .lit (.string bytes) => bytes.length + 1
  | .lit _ => 1
  | .nil => 1
  | .ptr d => uptoBulk d + 1
  | .slice elems spare => uptoBulkAll elems + uptoBulkAll spare + 1
  | .agg parts => uptoBulkAll parts + 1
  | .iface _ d => uptoBulk d + 1
  | .map entries => uptoBulkEntries entries + 1
  | .held _ => 1
def uptoBulkAll {H : Type} : List (DataW H) → Nat
  | [] => 0
  | d :: r => uptoBulk d + uptoBulkAll r
def uptoBulkEntries {H : Type} : List (Lit × DataW H) → Nat
  | [] => 0
  | x :: r => uptoBulkEntry x + uptoBulkEntries r
def uptoBulkEntry {H : Type} : Lit × DataW H → Nat
  | (.string bytes, d) => bytes.length + uptoBulk d + 1
  | (_, d) => uptoBulk d + 1
 end
def uptoSmall : (H : Type) → List (DataW H) → Bool := fun _ ds => decide (uptoBulkAll ds ≤ 1048576)
def OpenSpec.upto (s : _root_.Go.ChangeSpec) : _root_.Go.OpenSpec := { _root_.Go.OpenSpec.ofChange s with cond := some uptoSmall }

/-- 'tintypelaw26.IccCuts', WHERE WHAT IT READS IS OF BULK AT MOST 1048576: true; the input reads as it did. -/
def iccCutsUptoRow : OpenClaim := { program := "ytgmcnjnkiblbjaadoor", sum := "5716769279922e1d58c2f5c304a210b2be7a83d0727832a7dbeeeea24249af2e", func := "tintype/tintypelaw26.IccCuts", spec := "iccCuts", unfollowed := true, recurses := true, named := ["bytes.ErrTooLarge"], apart := false, laid := [("bytes.ErrTooLarge", laid_bytes_ErrTooLarge)], narrowed := true }
def IccCutsUptoSaid : Prop := iccCutsUptoRow.holds Tryd.pinned (OpenSpec.upto iccCutsSpec)

/-- 'tintypelaw26.IccJoins', WHERE WHAT IT READS IS OF BULK AT MOST 1048576: true; the input reads as it did. -/
def iccJoinsUptoRow : OpenClaim := { program := "ytgmcnjnkiblbjaadoor", sum := "5716769279922e1d58c2f5c304a210b2be7a83d0727832a7dbeeeea24249af2e", func := "tintype/tintypelaw26.IccJoins", spec := "iccJoins", unfollowed := true, recurses := true, named := ["bytes.ErrTooLarge"], apart := false, laid := [("bytes.ErrTooLarge", laid_bytes_ErrTooLarge)], narrowed := true }
def IccJoinsUptoSaid : Prop := iccJoinsUptoRow.holds Tryd.pinned (OpenSpec.upto iccJoinsSpec)

/-- 'tintypelaw26.IccBack', WHERE WHAT IT READS IS OF BULK AT MOST 1048576: true; the input reads as it did. -/
def iccBackUptoRow : OpenClaim := { program := "ytgmcnjnkiblbjaadoor", sum := "5716769279922e1d58c2f5c304a210b2be7a83d0727832a7dbeeeea24249af2e", func := "tintype/tintypelaw26.IccBack", spec := "iccBack", unfollowed := true, recurses := true, named := ["bytes.ErrTooLarge"], apart := false, laid := [("bytes.ErrTooLarge", laid_bytes_ErrTooLarge)], narrowed := true }
def IccBackUptoSaid : Prop := iccBackUptoRow.holds Tryd.pinned (OpenSpec.upto iccBackSpec)

/-- 'tintypelaw26.IccAll', WHERE WHAT IT READS IS OF BULK AT MOST 1048576: true; the input reads as it did. -/
def iccAllUptoRow : OpenClaim := { program := "ytgmcnjnkiblbjaadoor", sum := "5716769279922e1d58c2f5c304a210b2be7a83d0727832a7dbeeeea24249af2e", func := "tintype/tintypelaw26.IccAll", spec := "iccAll", unfollowed := true, recurses := true, named := ["bytes.ErrTooLarge"], apart := false, laid := [("bytes.ErrTooLarge", laid_bytes_ErrTooLarge)], narrowed := true }
def IccAllUptoSaid : Prop := iccAllUptoRow.holds Tryd.pinned (OpenSpec.upto iccAllSpec)

end Rows
end Go.Proofs.YtgmcnjnkiblbjaaDoor
