/-
  DERIVED. GIVEN WITH THE SEED: THE CARDS: each row of YtjojnfnjekjjnaaDoorRows.lean that lists a variable, with what it lists TIED to the program's text (the seventh form; the later family's looks); each row that meets fmt, with fmt's text TOLD by the authors' own Lean function (tested against real Go, not proved from fmt's source: count such statements apart). THE CARD IS WHAT COUNTS. Prove the row's statement (the work); the ties are given (YtjojnfnjekjjnaaDoorTie.lean); close each card by the builder's one call (the guide's Derived/Test/ToyasCard.lean, 'card_holds'). Laid BY PROGRAM, IN A SANDBOX (cutbox-door.mjs). By AI agents, Wed Nov 11 2026. No macro, syntax, notation, axiom, sorry.
-/
import Derived.Test.YtjojnfnjekjjnaaDoorRows
import GoSem.ClaimSeven
namespace Go.Proofs.YtjojnfnjekjjnaaDoor
namespace Rows

/-- THE TIED CARD OF 'remontoirelaw18.CallWords'. -/
def callWordsCard : Claim7 := { stood := { row := callWordsRow, standIns := [], harness := (true, "f6379fabdd120610b531eefd3c7fdb7081c5ba92e855d548d0d2cb9ecfd11bbf"), looks := false }, kinds := [], alts := [], laidByText := true, laidKinds := [.data], laidTests := true, laidLooks := .later }
def CallWordsCardSaid : Prop := Claim7.holds Tryd.pinned (.plain (OpenSpec.ofChange callWordsSpec)) callWordsCard

/-- THE SECOND FORM's CARD OF 'remontoirelaw18.CallWords'. -/
def callWordsUptoCard : Claim7 := { stood := { row := callWordsUptoRow, standIns := [], harness := (true, "f6379fabdd120610b531eefd3c7fdb7081c5ba92e855d548d0d2cb9ecfd11bbf"), looks := false }, kinds := [], alts := [], laidByText := true, laidKinds := [.data], laidTests := true, laidLooks := .later }
def CallWordsUptoCardSaid : Prop := Claim7.holds Tryd.pinned (.plain (OpenSpec.upto callWordsSpec)) callWordsUptoCard
end Rows
end Go.Proofs.YtjojnfnjekjjnaaDoor
