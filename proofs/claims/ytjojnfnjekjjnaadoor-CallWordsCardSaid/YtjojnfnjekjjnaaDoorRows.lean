/-
  NARROWER THAN 'FOR EVERY INPUT', by the rows' own cells (each row's printed sentence says how): CallWords: laid.
  DERIVED. THE GIVEN ROWS OF THIS SEAT. 1 by the template 'for every input the law returns true; each argument reads behind the call as it read before'; 0 by the template 'total and deterministic' (their statements: YtjojnfnjekjjnaaDoorTotals.lean).
  GIVEN WITH THE SEED: the statements are not yours to turn. If you find one false, say at which input.
  Laid BY PROGRAM, IN A SANDBOX (cutbox-rows.mjs): the forced cells as the released guide's own fill.sh prints them over the translation 6be1c52774211962… (all of the seat's roots in one cut). By AI agents, Wed Nov 11 2026. No macro, syntax, notation, axiom, sorry.
-/
import Derived.Test.YtjojnfnjekjjnaaDoorChecked
import GoSem.Claim
import GoSem.ClaimJoined
import GoSem.ClaimMapViews
import Derived.JoinedTies
import Derived.KernelRfl
namespace Go.Proofs.YtjojnfnjekjjnaaDoor
/- THE CELL 'sum', in the pinned program and in every row, IS THE sha256 OF THE DUMP (.gsa) THAT YtjojnfnjekjjnaaDoorProg.lean LOADS. Nothing in Lean hashes anything: it is a label: what it is worth is what the hold of that sum in a sandbox is worth. -/
noncomputable def Tryd.pinned : Pinned := { name := "ytjojnfnjekjjnaadoor", sum := "6be1c52774211962122c385f09baa45534340bb66f0312dd1b0525da23df03cf", checked := Tryd.checked }
namespace Rows
def none {H : Type} : Left H := { results := [], args := [] }

/- WHAT THE LISTED PACKAGE-LEVEL VARIABLES READ AS WHEN THE CALL BEGINS. Each datum BY PROGRAM (the guide's laid-datum.mjs) off the statement by which the dump's own 'gosem.cut.vars' lays the variable. In a bare row this is a premise. The card (YtjojnfnjekjjnaaDoorCards.lean) ties it to the program's text. -/
def laid_remontoire_call_names {H : Type} : DataW H := .agg [.lit (.string [110, 117, 108, 108]), .lit (.string [97, 108, 108, 111, 99]), .lit (.string [102, 114, 101, 101]), .lit (.string [114, 101, 97, 100]), .lit (.string [119, 114, 105, 116, 101]), .lit (.string [108, 111, 97, 100]), .lit (.string [117, 110, 108, 111, 97, 100]), .lit (.string [100, 101, 114, 105, 118, 101]), .lit (.string [103, 105, 118, 101]), .lit (.string [114, 101, 118, 111, 107, 101]), .lit (.string [100, 114, 111, 112]), .lit (.string [98, 105, 110, 100]), .lit (.string [97, 99, 107]), .lit (.string [109, 97, 115, 107]), .lit (.string [97, 108, 97, 114, 109]), .lit (.string [114, 101, 115, 101, 114, 118, 101]), .lit (.string [114, 101, 108, 101, 97, 115, 101]), .lit (.string [115, 101, 110, 100]), .lit (.string [110, 101, 120, 116]), .lit (.string [98, 108, 111, 99, 107])]

/-- 'remontoirelaw18.CallWords': WHATEVER THE INPUT: true; the input reads as it did. -/
def callWordsSpec : ChangeSpec := { name := "callWords", fn := fun _ => fun
  | [d] => { results := [.lit (.bool true)], args := [d] }
  | _ => none }
def callWordsRow : OpenClaim := { program := "ytjojnfnjekjjnaadoor", sum := "6be1c52774211962122c385f09baa45534340bb66f0312dd1b0525da23df03cf", func := "remontoire/remontoirelaw18.CallWords", spec := "callWords", named := ["remontoire/call.names"], apart := false, laid := [("remontoire/call.names", laid_remontoire_call_names)] }
def CallWordsSaid : Prop := callWordsRow.holds Tryd.pinned (OpenSpec.ofChange callWordsSpec)

/-- ITS FALSE NEIGHBOUR: 'it returns false'. Refute it at one input. -/
def callWordsWrong : ChangeSpec := { name := "callWords", fn := fun _ => fun
  | [d] => { results := [.lit (.bool false)], args := [d] }
  | _ => none }
def CallWordsWrongFalsely : Prop := callWordsRow.holds Tryd.pinned (OpenSpec.ofChange callWordsWrong)

/- THE SECOND FORM. 'bulk': how many values and letters a reading holds, each counted each time it is reached (what is shared counts as often as it is met; a slice's spare places count too). A statement '..UptoSaid' is the law's where the arguments, and the package variables that the reading takes, are together of bulk at most 1048576: NARROWER than '..Said'. Prove '..Said' where nothing that the law and all that it calls make is longer than what came in: it says more and counts as full. Else prove '..UptoSaid'. A law counts once. -/
mutual
def uptoBulk {H : Type} : DataW H → Nat
  | .lit (.string bytes) => bytes.length + 1
  | .lit _ => 1
  | .nil => 1
  | .ptr d => uptoBulk d + 1
  | .slice elems spare => uptoBulkAll elems + uptoBulkAll spare + 1
  | .agg parts => uptoBulkAll parts + 1
  | .iface _ d => uptoBulk d + 1
  | .map entries => uptoBulkEntries entries + 1
  | .held _ => 1
def uptoBulkAll {H : Type} : List (DataW H) → Nat
  | [] => 0
  | d :: r => uptoBulk d + uptoBulkAll r
def uptoBulkEntries {H : Type} : List (Lit × DataW H) → Nat
  | [] => 0
  | x :: r => uptoBulkEntry x + uptoBulkEntries r
def uptoBulkEntry {H : Type} : Lit × DataW H → Nat
  | (.string bytes, d) => bytes.length + uptoBulk d + 1
  | (_, d) => uptoBulk d + 1
 end
def uptoSmall : (H : Type) → List (DataW H) → Bool := fun _ ds => decide (uptoBulkAll ds ≤ 1048576)
def OpenSpec.upto (s : _root_.Go.ChangeSpec) : _root_.Go.OpenSpec := { _root_.Go.OpenSpec.ofChange s with cond := some uptoSmall }

/-- 'remontoirelaw18.CallWords', WHERE WHAT IT READS IS OF BULK AT MOST 1048576: true; the input reads as it did. -/
def callWordsUptoRow : OpenClaim := { program := "ytjojnfnjekjjnaadoor", sum := "6be1c52774211962122c385f09baa45534340bb66f0312dd1b0525da23df03cf", func := "remontoire/remontoirelaw18.CallWords", spec := "callWords", named := ["remontoire/call.names"], apart := false, laid := [("remontoire/call.names", laid_remontoire_call_names)], narrowed := true }
def CallWordsUptoSaid : Prop := callWordsUptoRow.holds Tryd.pinned (OpenSpec.upto callWordsSpec)

end Rows
end Go.Proofs.YtjojnfnjekjjnaaDoor
