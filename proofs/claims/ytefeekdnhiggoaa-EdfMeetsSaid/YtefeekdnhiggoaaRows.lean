/-
  No cell of these rows narrows 'for every input' (looked for: loops, veiled, ifaces, maps, wideKeys, modest, calm, conditions, laid).
  DERIVED. THE GIVEN ROWS OF THIS SEAT. 4 by the template 'for every input the law returns true; each argument reads behind the call as it read before'; 0 by the template 'total and deterministic' (their statements: YtefeekdnhiggoaaTotals.lean).
  GIVEN WITH THE SEED: the statements are not yours to turn. If you find one false, say at which input.
  Laid BY PROGRAM, IN A SANDBOX (cutbox-rows.mjs): the forced cells as the released guide's own fill.sh prints them over the translation 78ce7237cd2b98dd… (all of the seat's roots in one cut). By AI agents, Wed Nov 11 2026. No macro, syntax, notation, axiom, sorry.
-/
import Derived.Test.YtefeekdnhiggoaaChecked
import GoSem.Claim
import GoSem.ClaimJoined
import GoSem.ClaimMapViews
import Derived.JoinedTies
import Derived.KernelRfl
namespace Go.Proofs.Ytefeekdnhiggoaa
/- THE CELL 'sum', in the pinned program and in every row, IS THE sha256 OF THE DUMP (.gsa) THAT YtefeekdnhiggoaaProg.lean LOADS. Nothing in Lean hashes anything: it is a label: what it is worth is what the hold of that sum in a sandbox is worth. -/
noncomputable def Try.pinned : Pinned := { name := "ytefeekdnhiggoaa", sum := "78ce7237cd2b98ddd982fedd6b95fe6e096023853e4f678e812b56fe7cb6a796", checked := Try.checked }
namespace Rows
def none {H : Type} : Left H := { results := [], args := [] }

/-- 'remontoirelaw31.EdfRuns': WHATEVER THE INPUT: true; the input reads as it did. -/
def edfRunsSpec : ChangeSpec := { name := "edfRuns", fn := fun _ => fun
  | [d1, d2] => { results := [.lit (.bool true)], args := [d1, d2] }
  | _ => none }
def edfRunsRow : OpenClaim := { program := "ytefeekdnhiggoaa", sum := "78ce7237cd2b98ddd982fedd6b95fe6e096023853e4f678e812b56fe7cb6a796", func := "remontoire/remontoirelaw31.EdfRuns", spec := "edfRuns", apart := false }
def EdfRunsSaid : Prop := edfRunsRow.holds Try.pinned (OpenSpec.ofChange edfRunsSpec)

/-- ITS FALSE NEIGHBOUR: 'it returns false'. Refute it at one input. -/
def edfRunsWrong : ChangeSpec := { name := "edfRuns", fn := fun _ => fun
  | [d1, d2] => { results := [.lit (.bool false)], args := [d1, d2] }
  | _ => none }
def EdfRunsWrongFalsely : Prop := edfRunsRow.holds Try.pinned (OpenSpec.ofChange edfRunsWrong)

/-- 'remontoirelaw31.EdfOptimal': WHATEVER THE INPUT: true; the input reads as it did. -/
def edfOptimalSpec : ChangeSpec := { name := "edfOptimal", fn := fun _ => fun
  | [d1, d2] => { results := [.lit (.bool true)], args := [d1, d2] }
  | _ => none }
def edfOptimalRow : OpenClaim := { program := "ytefeekdnhiggoaa", sum := "78ce7237cd2b98ddd982fedd6b95fe6e096023853e4f678e812b56fe7cb6a796", func := "remontoire/remontoirelaw31.EdfOptimal", spec := "edfOptimal", apart := false }
def EdfOptimalSaid : Prop := edfOptimalRow.holds Try.pinned (OpenSpec.ofChange edfOptimalSpec)

/-- ITS FALSE NEIGHBOUR: 'it returns false'. Refute it at one input. -/
def edfOptimalWrong : ChangeSpec := { name := "edfOptimal", fn := fun _ => fun
  | [d1, d2] => { results := [.lit (.bool false)], args := [d1, d2] }
  | _ => none }
def EdfOptimalWrongFalsely : Prop := edfOptimalRow.holds Try.pinned (OpenSpec.ofChange edfOptimalWrong)

/-- 'remontoirelaw31.EdfDemand': WHATEVER THE INPUT: true; the input reads as it did. -/
def edfDemandSpec : ChangeSpec := { name := "edfDemand", fn := fun _ => fun
  | [d] => { results := [.lit (.bool true)], args := [d] }
  | _ => none }
def edfDemandRow : OpenClaim := { program := "ytefeekdnhiggoaa", sum := "78ce7237cd2b98ddd982fedd6b95fe6e096023853e4f678e812b56fe7cb6a796", func := "remontoire/remontoirelaw31.EdfDemand", spec := "edfDemand", apart := false }
def EdfDemandSaid : Prop := edfDemandRow.holds Try.pinned (OpenSpec.ofChange edfDemandSpec)

/-- ITS FALSE NEIGHBOUR: 'it returns false'. Refute it at one input. -/
def edfDemandWrong : ChangeSpec := { name := "edfDemand", fn := fun _ => fun
  | [d] => { results := [.lit (.bool false)], args := [d] }
  | _ => none }
def EdfDemandWrongFalsely : Prop := edfDemandRow.holds Try.pinned (OpenSpec.ofChange edfDemandWrong)

/-- 'remontoirelaw31.EdfMeets': WHATEVER THE INPUT: true; the input reads as it did. -/
def edfMeetsSpec : ChangeSpec := { name := "edfMeets", fn := fun _ => fun
  | [d1, d2, d3, d4] => { results := [.lit (.bool true)], args := [d1, d2, d3, d4] }
  | _ => none }
def edfMeetsRow : OpenClaim := { program := "ytefeekdnhiggoaa", sum := "78ce7237cd2b98ddd982fedd6b95fe6e096023853e4f678e812b56fe7cb6a796", func := "remontoire/remontoirelaw31.EdfMeets", spec := "edfMeets", apart := false }
def EdfMeetsSaid : Prop := edfMeetsRow.holds Try.pinned (OpenSpec.ofChange edfMeetsSpec)

/-- ITS FALSE NEIGHBOUR: 'it returns false'. Refute it at one input. -/
def edfMeetsWrong : ChangeSpec := { name := "edfMeets", fn := fun _ => fun
  | [d1, d2, d3, d4] => { results := [.lit (.bool false)], args := [d1, d2, d3, d4] }
  | _ => none }
def EdfMeetsWrongFalsely : Prop := edfMeetsRow.holds Try.pinned (OpenSpec.ofChange edfMeetsWrong)

/- THE SECOND FORM. 'bulk': how many values and letters a reading holds, each counted each time it is reached (what is shared counts as often as it is met; a slice's spare places count too). A statement '..UptoSaid' is the law's where the arguments, and the package variables that the reading takes, are together of bulk at most 1048576: NARROWER than '..Said'. Prove '..Said' where nothing that the law and all that it calls make is longer than what came in: it says more and counts as full. Else prove '..UptoSaid'. A law counts once. -/
mutual
def uptoBulk {H : Type} : DataW H → Nat
  | .lit (.string bytes) => bytes.length + 1
  | .lit _ => 1
  | .nil => 1
  | .ptr d => uptoBulk d + 1
  | .slice elems spare => uptoBulkAll elems + uptoBulkAll spare + 1
  | .agg parts => uptoBulkAll parts + 1
  | .iface _ d => uptoBulk d + 1
  | .map entries => uptoBulkEntries entries + 1
  | .held _ => 1
def uptoBulkAll {H : Type} : List (DataW H) → Nat
  | [] => 0
  | d :: r => uptoBulk d + uptoBulkAll r
def uptoBulkEntries {H : Type} : List (Lit × DataW H) → Nat
  | [] => 0
  | x :: r => uptoBulkEntry x + uptoBulkEntries r
def uptoBulkEntry {H : Type} : Lit × DataW H → Nat
  | (.string bytes, d) => bytes.length + uptoBulk d + 1
  | (_, d) => uptoBulk d + 1
 end
def uptoSmall : (H : Type) → List (DataW H) → Bool := fun _ ds => decide (uptoBulkAll ds ≤ 1048576)
def OpenSpec.upto (s : _root_.Go.ChangeSpec) : _root_.Go.OpenSpec := { _root_.Go.OpenSpec.ofChange s with cond := some uptoSmall }

/-- 'remontoirelaw31.EdfRuns', WHERE WHAT IT READS IS OF BULK AT MOST 1048576: true; the input reads as it did. -/
def edfRunsUptoRow : OpenClaim := { program := "ytefeekdnhiggoaa", sum := "78ce7237cd2b98ddd982fedd6b95fe6e096023853e4f678e812b56fe7cb6a796", func := "remontoire/remontoirelaw31.EdfRuns", spec := "edfRuns", apart := false, narrowed := true }
def EdfRunsUptoSaid : Prop := edfRunsUptoRow.holds Try.pinned (OpenSpec.upto edfRunsSpec)

/-- 'remontoirelaw31.EdfOptimal', WHERE WHAT IT READS IS OF BULK AT MOST 1048576: true; the input reads as it did. -/
def edfOptimalUptoRow : OpenClaim := { program := "ytefeekdnhiggoaa", sum := "78ce7237cd2b98ddd982fedd6b95fe6e096023853e4f678e812b56fe7cb6a796", func := "remontoire/remontoirelaw31.EdfOptimal", spec := "edfOptimal", apart := false, narrowed := true }
def EdfOptimalUptoSaid : Prop := edfOptimalUptoRow.holds Try.pinned (OpenSpec.upto edfOptimalSpec)

/-- 'remontoirelaw31.EdfDemand', WHERE WHAT IT READS IS OF BULK AT MOST 1048576: true; the input reads as it did. -/
def edfDemandUptoRow : OpenClaim := { program := "ytefeekdnhiggoaa", sum := "78ce7237cd2b98ddd982fedd6b95fe6e096023853e4f678e812b56fe7cb6a796", func := "remontoire/remontoirelaw31.EdfDemand", spec := "edfDemand", apart := false, narrowed := true }
def EdfDemandUptoSaid : Prop := edfDemandUptoRow.holds Try.pinned (OpenSpec.upto edfDemandSpec)

/-- 'remontoirelaw31.EdfMeets', WHERE WHAT IT READS IS OF BULK AT MOST 1048576: true; the input reads as it did. -/
def edfMeetsUptoRow : OpenClaim := { program := "ytefeekdnhiggoaa", sum := "78ce7237cd2b98ddd982fedd6b95fe6e096023853e4f678e812b56fe7cb6a796", func := "remontoire/remontoirelaw31.EdfMeets", spec := "edfMeets", apart := false, narrowed := true }
def EdfMeetsUptoSaid : Prop := edfMeetsUptoRow.holds Try.pinned (OpenSpec.upto edfMeetsSpec)

end Rows
end Go.Proofs.Ytefeekdnhiggoaa
