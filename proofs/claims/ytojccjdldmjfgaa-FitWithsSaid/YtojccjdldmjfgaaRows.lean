/-
  No cell of these rows narrows 'for every input' (looked for: loops, veiled, ifaces, maps, wideKeys, modest, calm, conditions, laid).
  DERIVED. THE GIVEN ROWS OF THIS SEAT. 4 by the template 'for every input the law returns true; each argument reads behind the call as it read before'; 0 by the template 'total and deterministic' (their statements: YtojccjdldmjfgaaTotals.lean).
  GIVEN WITH THE SEED: the statements are not yours to turn. If you find one false, say at which input.
  Laid BY PROGRAM, IN A SANDBOX (cutbox-rows.mjs): the forced cells as the released guide's own fill.sh prints them over the translation 09078fcc5c9eb43f… (all of the seat's roots in one cut). By AI agents, Wed Nov 11 2026. No macro, syntax, notation, axiom, sorry.
-/
import Derived.Test.YtojccjdldmjfgaaChecked
import GoSem.Claim
import GoSem.ClaimJoined
import GoSem.ClaimMapViews
import Derived.JoinedTies
import Derived.KernelRfl
namespace Go.Proofs.Ytojccjdldmjfgaa
/- THE CELL 'sum', in the pinned program and in every row, IS THE sha256 OF THE DUMP (.gsa) THAT YtojccjdldmjfgaaProg.lean LOADS. Nothing in Lean hashes anything: it is a label: what it is worth is what the hold of that sum in a sandbox is worth. -/
noncomputable def Try.pinned : Pinned := { name := "ytojccjdldmjfgaa", sum := "09078fcc5c9eb43ff1d2e1a7a65ee18fb495f6b1c9fdea9bc4ec8f1ff92c0557", checked := Try.checked }
namespace Rows
def none {H : Type} : Left H := { results := [], args := [] }

/-- 'remontoirelaw05.FitFirsts': WHATEVER THE INPUT: true; the input reads as it did. -/
def fitFirstsSpec : ChangeSpec := { name := "fitFirsts", fn := fun _ => fun
  | [d1, d2, d3, d4] => { results := [.lit (.bool true)], args := [d1, d2, d3, d4] }
  | _ => none }
def fitFirstsRow : OpenClaim := { program := "ytojccjdldmjfgaa", sum := "09078fcc5c9eb43ff1d2e1a7a65ee18fb495f6b1c9fdea9bc4ec8f1ff92c0557", func := "remontoire/remontoirelaw05.FitFirsts", spec := "fitFirsts", apart := false }
def FitFirstsSaid : Prop := fitFirstsRow.holds Try.pinned (OpenSpec.ofChange fitFirstsSpec)

/-- ITS FALSE NEIGHBOUR: 'it returns false'. Refute it at one input. -/
def fitFirstsWrong : ChangeSpec := { name := "fitFirsts", fn := fun _ => fun
  | [d1, d2, d3, d4] => { results := [.lit (.bool false)], args := [d1, d2, d3, d4] }
  | _ => none }
def FitFirstsWrongFalsely : Prop := fitFirstsRow.holds Try.pinned (OpenSpec.ofChange fitFirstsWrong)

/-- 'remontoirelaw05.FitWiths': WHATEVER THE INPUT: true; the input reads as it did. -/
def fitWithsSpec : ChangeSpec := { name := "fitWiths", fn := fun _ => fun
  | [d1, d2, d3, d4, d5, d6] => { results := [.lit (.bool true)], args := [d1, d2, d3, d4, d5, d6] }
  | _ => none }
def fitWithsRow : OpenClaim := { program := "ytojccjdldmjfgaa", sum := "09078fcc5c9eb43ff1d2e1a7a65ee18fb495f6b1c9fdea9bc4ec8f1ff92c0557", func := "remontoire/remontoirelaw05.FitWiths", spec := "fitWiths", apart := false }
def FitWithsSaid : Prop := fitWithsRow.holds Try.pinned (OpenSpec.ofChange fitWithsSpec)

/-- ITS FALSE NEIGHBOUR: 'it returns false'. Refute it at one input. -/
def fitWithsWrong : ChangeSpec := { name := "fitWiths", fn := fun _ => fun
  | [d1, d2, d3, d4, d5, d6] => { results := [.lit (.bool false)], args := [d1, d2, d3, d4, d5, d6] }
  | _ => none }
def FitWithsWrongFalsely : Prop := fitWithsRow.holds Try.pinned (OpenSpec.ofChange fitWithsWrong)

/-- 'remontoirelaw05.FitSlacks': WHATEVER THE INPUT: true; the input reads as it did. -/
def fitSlacksSpec : ChangeSpec := { name := "fitSlacks", fn := fun _ => fun
  | [d1, d2, d3, d4] => { results := [.lit (.bool true)], args := [d1, d2, d3, d4] }
  | _ => none }
def fitSlacksRow : OpenClaim := { program := "ytojccjdldmjfgaa", sum := "09078fcc5c9eb43ff1d2e1a7a65ee18fb495f6b1c9fdea9bc4ec8f1ff92c0557", func := "remontoire/remontoirelaw05.FitSlacks", spec := "fitSlacks", apart := false }
def FitSlacksSaid : Prop := fitSlacksRow.holds Try.pinned (OpenSpec.ofChange fitSlacksSpec)

/-- ITS FALSE NEIGHBOUR: 'it returns false'. Refute it at one input. -/
def fitSlacksWrong : ChangeSpec := { name := "fitSlacks", fn := fun _ => fun
  | [d1, d2, d3, d4] => { results := [.lit (.bool false)], args := [d1, d2, d3, d4] }
  | _ => none }
def FitSlacksWrongFalsely : Prop := fitSlacksRow.holds Try.pinned (OpenSpec.ofChange fitSlacksWrong)

/-- 'remontoirelaw05.FitBudgets': WHATEVER THE INPUT: true; the input reads as it did. -/
def fitBudgetsSpec : ChangeSpec := { name := "fitBudgets", fn := fun _ => fun
  | [d1, d2, d3, d4] => { results := [.lit (.bool true)], args := [d1, d2, d3, d4] }
  | _ => none }
def fitBudgetsRow : OpenClaim := { program := "ytojccjdldmjfgaa", sum := "09078fcc5c9eb43ff1d2e1a7a65ee18fb495f6b1c9fdea9bc4ec8f1ff92c0557", func := "remontoire/remontoirelaw05.FitBudgets", spec := "fitBudgets", apart := false }
def FitBudgetsSaid : Prop := fitBudgetsRow.holds Try.pinned (OpenSpec.ofChange fitBudgetsSpec)

/-- ITS FALSE NEIGHBOUR: 'it returns false'. Refute it at one input. -/
def fitBudgetsWrong : ChangeSpec := { name := "fitBudgets", fn := fun _ => fun
  | [d1, d2, d3, d4] => { results := [.lit (.bool false)], args := [d1, d2, d3, d4] }
  | _ => none }
def FitBudgetsWrongFalsely : Prop := fitBudgetsRow.holds Try.pinned (OpenSpec.ofChange fitBudgetsWrong)

/- THE SECOND FORM. 'bulk': how many values and letters a reading holds, each counted each time it is reached (what is shared counts as often as it is met; a slice's spare places count too). A statement '..UptoSaid' is the law's where the arguments, and the package variables that the reading takes, are together of bulk at most 1048576: NARROWER than '..Said'. Prove '..Said' where nothing that the law and all that it calls make is longer than what came in: it says more and counts as full. Else prove '..UptoSaid'. A law counts once. -/
mutual
def uptoBulk {H : Type} : DataW H → Nat
  | .lit (.string bytes) => bytes.length + 1
  | .lit _ => 1
  | .nil => 1
  | .ptr d => uptoBulk d + 1
  | .slice elems spare => uptoBulkAll elems + uptoBulkAll spare + 1
  | .agg parts => uptoBulkAll parts + 1
  | .iface _ d => uptoBulk d + 1
  | .map entries => uptoBulkEntries entries + 1
  | .held _ => 1
def uptoBulkAll {H : Type} : List (DataW H) → Nat
  | [] => 0
  | d :: r => uptoBulk d + uptoBulkAll r
def uptoBulkEntries {H : Type} : List (Lit × DataW H) → Nat
  | [] => 0
  | x :: r => uptoBulkEntry x + uptoBulkEntries r
def uptoBulkEntry {H : Type} : Lit × DataW H → Nat
  | (.string bytes, d) => bytes.length + uptoBulk d + 1
  | (_, d) => uptoBulk d + 1
 end
def uptoSmall : (H : Type) → List (DataW H) → Bool := fun _ ds => decide (uptoBulkAll ds ≤ 1048576)
def OpenSpec.upto (s : _root_.Go.ChangeSpec) : _root_.Go.OpenSpec := { _root_.Go.OpenSpec.ofChange s with cond := some uptoSmall }

/-- 'remontoirelaw05.FitFirsts', WHERE WHAT IT READS IS OF BULK AT MOST 1048576: true; the input reads as it did. -/
def fitFirstsUptoRow : OpenClaim := { program := "ytojccjdldmjfgaa", sum := "09078fcc5c9eb43ff1d2e1a7a65ee18fb495f6b1c9fdea9bc4ec8f1ff92c0557", func := "remontoire/remontoirelaw05.FitFirsts", spec := "fitFirsts", apart := false, narrowed := true }
def FitFirstsUptoSaid : Prop := fitFirstsUptoRow.holds Try.pinned (OpenSpec.upto fitFirstsSpec)

/-- 'remontoirelaw05.FitWiths', WHERE WHAT IT READS IS OF BULK AT MOST 1048576: true; the input reads as it did. -/
def fitWithsUptoRow : OpenClaim := { program := "ytojccjdldmjfgaa", sum := "09078fcc5c9eb43ff1d2e1a7a65ee18fb495f6b1c9fdea9bc4ec8f1ff92c0557", func := "remontoire/remontoirelaw05.FitWiths", spec := "fitWiths", apart := false, narrowed := true }
def FitWithsUptoSaid : Prop := fitWithsUptoRow.holds Try.pinned (OpenSpec.upto fitWithsSpec)

/-- 'remontoirelaw05.FitSlacks', WHERE WHAT IT READS IS OF BULK AT MOST 1048576: true; the input reads as it did. -/
def fitSlacksUptoRow : OpenClaim := { program := "ytojccjdldmjfgaa", sum := "09078fcc5c9eb43ff1d2e1a7a65ee18fb495f6b1c9fdea9bc4ec8f1ff92c0557", func := "remontoire/remontoirelaw05.FitSlacks", spec := "fitSlacks", apart := false, narrowed := true }
def FitSlacksUptoSaid : Prop := fitSlacksUptoRow.holds Try.pinned (OpenSpec.upto fitSlacksSpec)

/-- 'remontoirelaw05.FitBudgets', WHERE WHAT IT READS IS OF BULK AT MOST 1048576: true; the input reads as it did. -/
def fitBudgetsUptoRow : OpenClaim := { program := "ytojccjdldmjfgaa", sum := "09078fcc5c9eb43ff1d2e1a7a65ee18fb495f6b1c9fdea9bc4ec8f1ff92c0557", func := "remontoire/remontoirelaw05.FitBudgets", spec := "fitBudgets", apart := false, narrowed := true }
def FitBudgetsUptoSaid : Prop := fitBudgetsUptoRow.holds Try.pinned (OpenSpec.upto fitBudgetsSpec)

end Rows
end Go.Proofs.Ytojccjdldmjfgaa
