/-
  DERIVED. GIVEN WITH THE SEED: THE CARDS: each row of YtgmcnjnkiblbjaaDoorRows.lean that lists a variable, with what it lists TIED to the program's text (the seventh form; the later family's looks); each row that meets fmt, with fmt's text TOLD by the authors' own Lean function (tested against real Go, not proved from fmt's source: count such statements apart). THE CARD IS WHAT COUNTS. Prove the row's statement (the work); the ties are given (YtgmcnjnkiblbjaaDoorTie.lean); close each card by the builder's one call (the guide's Derived/Test/ToyasCard.lean, 'card_holds'). Laid BY PROGRAM, IN A SANDBOX (cutbox-door.mjs). By AI agents, Wed Nov 11 2026. No macro, syntax, notation, axiom, sorry.
-/
import Derived.Test.YtgmcnjnkiblbjaaDoorRows
import GoSem.ClaimSeven
namespace Go.Proofs.YtgmcnjnkiblbjaaDoor
namespace Rows

/-- THE TIED CARD OF 'tintypelaw26.IccCuts'. -/
def iccCutsCard : Claim7 := { stood := { row := iccCutsRow, standIns := [], harness := (true, "5a2b00f3faba07cd6ad7099209bcec82410eecb24b71c38e677be6e95d519bc0"), looks := false }, kinds := [], alts := [], laidByText := true, laidKinds := [.sentinel], laidTests := true, laidLooks := .later }
def IccCutsCardSaid : Prop := Claim7.holds Tryd.pinned (.plain (OpenSpec.ofChange iccCutsSpec)) iccCutsCard

/-- THE TIED CARD OF 'tintypelaw26.IccJoins'. -/
def iccJoinsCard : Claim7 := { stood := { row := iccJoinsRow, standIns := [], harness := (true, "5a2b00f3faba07cd6ad7099209bcec82410eecb24b71c38e677be6e95d519bc0"), looks := false }, kinds := [], alts := [], laidByText := true, laidKinds := [.sentinel], laidTests := true, laidLooks := .later }
def IccJoinsCardSaid : Prop := Claim7.holds Tryd.pinned (.plain (OpenSpec.ofChange iccJoinsSpec)) iccJoinsCard

/-- THE TIED CARD OF 'tintypelaw26.IccBack'. -/
def iccBackCard : Claim7 := { stood := { row := iccBackRow, standIns := [], harness := (true, "5a2b00f3faba07cd6ad7099209bcec82410eecb24b71c38e677be6e95d519bc0"), looks := false }, kinds := [], alts := [], laidByText := true, laidKinds := [.sentinel], laidTests := true, laidLooks := .later }
def IccBackCardSaid : Prop := Claim7.holds Tryd.pinned (.plain (OpenSpec.ofChange iccBackSpec)) iccBackCard

/-- THE TIED CARD OF 'tintypelaw26.IccAll'. -/
def iccAllCard : Claim7 := { stood := { row := iccAllRow, standIns := [], harness := (true, "5a2b00f3faba07cd6ad7099209bcec82410eecb24b71c38e677be6e95d519bc0"), looks := false }, kinds := [], alts := [], laidByText := true, laidKinds := [.sentinel], laidTests := true, laidLooks := .later }
def IccAllCardSaid : Prop := Claim7.holds Tryd.pinned (.plain (OpenSpec.ofChange iccAllSpec)) iccAllCard

/-- THE SECOND FORM's CARD OF 'tintypelaw26.IccCuts'. -/
def iccCutsUptoCard : Claim7 := { stood := { row := iccCutsUptoRow, standIns := [], harness := (true, "5a2b00f3faba07cd6ad7099209bcec82410eecb24b71c38e677be6e95d519bc0"), looks := false }, kinds := [], alts := [], laidByText := true, laidKinds := [.sentinel], laidTests := true, laidLooks := .later }
def IccCutsUptoCardSaid : Prop := Claim7.holds Tryd.pinned (.plain (OpenSpec.upto iccCutsSpec)) iccCutsUptoCard

/-- THE SECOND FORM's CARD OF 'tintypelaw26.IccJoins'. -/
def iccJoinsUptoCard : Claim7 := { stood := { row := iccJoinsUptoRow, standIns := [], harness := (true, "5a2b00f3faba07cd6ad7099209bcec82410eecb24b71c38e677be6e95d519bc0"), looks := false }, kinds := [], alts := [], laidByText := true, laidKinds := [.sentinel], laidTests := true, laidLooks := .later }
def IccJoinsUptoCardSaid : Prop := Claim7.holds Tryd.pinned (.plain (OpenSpec.upto iccJoinsSpec)) iccJoinsUptoCard

/-- THE SECOND FORM's CARD OF 'tintypelaw26.IccBack'. -/
def iccBackUptoCard : Claim7 := { stood := { row := iccBackUptoRow, standIns := [], harness := (true, "5a2b00f3faba07cd6ad7099209bcec82410eecb24b71c38e677be6e95d519bc0"), looks := false }, kinds := [], alts := [], laidByText := true, laidKinds := [.sentinel], laidTests := true, laidLooks := .later }
def IccBackUptoCardSaid : Prop := Claim7.holds Tryd.pinned (.plain (OpenSpec.upto iccBackSpec)) iccBackUptoCard

/-- THE SECOND FORM's CARD OF 'tintypelaw26.IccAll'. -/
def iccAllUptoCard : Claim7 := { stood := { row := iccAllUptoRow, standIns := [], harness := (true, "5a2b00f3faba07cd6ad7099209bcec82410eecb24b71c38e677be6e95d519bc0"), looks := false }, kinds := [], alts := [], laidByText := true, laidKinds := [.sentinel], laidTests := true, laidLooks := .later }
def IccAllUptoCardSaid : Prop := Claim7.holds Tryd.pinned (.plain (OpenSpec.upto iccAllSpec)) iccAllUptoCard
end Rows
end Go.Proofs.YtgmcnjnkiblbjaaDoor
