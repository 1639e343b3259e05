/-
  DERIVED. GIVEN WITH THE SEED: THE CARDS: each row of YtpimflmmfnffeaaDoorRows.lean that lists a variable, with what it lists TIED to the program's text (the seventh form; the later family's looks); each row that meets fmt, with fmt's text TOLD by the authors' own Lean function (tested against real Go, not proved from fmt's source: count such statements apart). THE CARD IS WHAT COUNTS. Prove the row's statement (the work); the ties are given (YtpimflmmfnffeaaDoorTie.lean); close each card by the builder's one call (the guide's Derived/Test/ToyasCard.lean, 'card_holds'). Laid BY PROGRAM, IN A SANDBOX (cutbox-door.mjs). By AI agents, Wed Nov 11 2026. No macro, syntax, notation, axiom, sorry.
-/
import Derived.Test.YtpimflmmfnffeaaDoorRows
import GoSem.ClaimSeven
namespace Go.Proofs.YtpimflmmfnffeaaDoor
namespace Rows

/-- THE TIED CARD OF 'remontoirelaw25.CpuWords'. -/
def cpuWordsCard : Claim7 := { stood := { row := cpuWordsRow, standIns := [], harness := (true, "acd19a0c0aa7e5d8cf40caa68a0d6928f63e035da9394f5e71a547ac6c51abdc"), looks := true }, kinds := [], alts := [], laidByText := true, laidKinds := [.data], laidTests := true, laidLooks := .later }
def CpuWordsCardSaid : Prop := Claim7.holds Tryd.pinned (.plain (OpenSpec.ofChange cpuWordsSpec)) cpuWordsCard

/-- THE SECOND FORM's CARD OF 'remontoirelaw25.CpuWords'. -/
def cpuWordsUptoCard : Claim7 := { stood := { row := cpuWordsUptoRow, standIns := [], harness := (true, "acd19a0c0aa7e5d8cf40caa68a0d6928f63e035da9394f5e71a547ac6c51abdc"), looks := true }, kinds := [], alts := [], laidByText := true, laidKinds := [.data], laidTests := true, laidLooks := .later }
def CpuWordsUptoCardSaid : Prop := Claim7.holds Tryd.pinned (.plain (OpenSpec.upto cpuWordsSpec)) cpuWordsUptoCard
end Rows
end Go.Proofs.YtpimflmmfnffeaaDoor
