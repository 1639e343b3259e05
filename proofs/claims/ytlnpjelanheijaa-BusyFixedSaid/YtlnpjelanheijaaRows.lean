/-
  No cell of these rows narrows 'for every input' (looked for: loops, veiled, ifaces, maps, wideKeys, modest, calm, conditions, laid).
  DERIVED. THE GIVEN ROWS OF THIS SEAT. 4 by the template 'for every input the law returns true; each argument reads behind the call as it read before'; 0 by the template 'total and deterministic' (their statements: YtlnpjelanheijaaTotals.lean).
  GIVEN WITH THE SEED: the statements are not yours to turn. If you find one false, say at which input.
  Laid BY PROGRAM, IN A SANDBOX (cutbox-rows.mjs): the forced cells as the released guide's own fill.sh prints them over the translation c87b5f1b92e9a299… (all of the seat's roots in one cut). By AI agents, Wed Nov 11 2026. No macro, syntax, notation, axiom, sorry.
-/
import Derived.Test.YtlnpjelanheijaaChecked
import GoSem.Claim
import GoSem.ClaimJoined
import GoSem.ClaimMapViews
import Derived.JoinedTies
import Derived.KernelRfl
namespace Go.Proofs.Ytlnpjelanheijaa
/- THE CELL 'sum', in the pinned program and in every row, IS THE sha256 OF THE DUMP (.gsa) THAT YtlnpjelanheijaaProg.lean LOADS. Nothing in Lean hashes anything: it is a label: what it is worth is what the hold of that sum in a sandbox is worth. -/
noncomputable def Try.pinned : Pinned := { name := "ytlnpjelanheijaa", sum := "c87b5f1b92e9a2990e7e8eccb535c24fd71eb51020f66891ac2588c76177f5ed", checked := Try.checked }
namespace Rows
def none {H : Type} : Left H := { results := [], args := [] }

/-- 'remontoirelaw32.BusyPlays': WHATEVER THE INPUT: true; the input reads as it did. -/
def busyPlaysSpec : ChangeSpec := { name := "busyPlays", fn := fun _ => fun
  | [d1, d2, d3] => { results := [.lit (.bool true)], args := [d1, d2, d3] }
  | _ => none }
def busyPlaysRow : OpenClaim := { program := "ytlnpjelanheijaa", sum := "c87b5f1b92e9a2990e7e8eccb535c24fd71eb51020f66891ac2588c76177f5ed", func := "remontoire/remontoirelaw32.BusyPlays", spec := "busyPlays", apart := false }
def BusyPlaysSaid : Prop := busyPlaysRow.holds Try.pinned (OpenSpec.ofChange busyPlaysSpec)

/-- ITS FALSE NEIGHBOUR: 'it returns false'. Refute it at one input. -/
def busyPlaysWrong : ChangeSpec := { name := "busyPlays", fn := fun _ => fun
  | [d1, d2, d3] => { results := [.lit (.bool false)], args := [d1, d2, d3] }
  | _ => none }
def BusyPlaysWrongFalsely : Prop := busyPlaysRow.holds Try.pinned (OpenSpec.ofChange busyPlaysWrong)

/-- 'remontoirelaw32.BusyEnough': WHATEVER THE INPUT: true; the input reads as it did. -/
def busyEnoughSpec : ChangeSpec := { name := "busyEnough", fn := fun _ => fun
  | [d1, d2, d3] => { results := [.lit (.bool true)], args := [d1, d2, d3] }
  | _ => none }
def busyEnoughRow : OpenClaim := { program := "ytlnpjelanheijaa", sum := "c87b5f1b92e9a2990e7e8eccb535c24fd71eb51020f66891ac2588c76177f5ed", func := "remontoire/remontoirelaw32.BusyEnough", spec := "busyEnough", apart := false }
def BusyEnoughSaid : Prop := busyEnoughRow.holds Try.pinned (OpenSpec.ofChange busyEnoughSpec)

/-- ITS FALSE NEIGHBOUR: 'it returns false'. Refute it at one input. -/
def busyEnoughWrong : ChangeSpec := { name := "busyEnough", fn := fun _ => fun
  | [d1, d2, d3] => { results := [.lit (.bool false)], args := [d1, d2, d3] }
  | _ => none }
def BusyEnoughWrongFalsely : Prop := busyEnoughRow.holds Try.pinned (OpenSpec.ofChange busyEnoughWrong)

/-- 'remontoirelaw32.BusyFixed': WHATEVER THE INPUT: true; the input reads as it did. -/
def busyFixedSpec : ChangeSpec := { name := "busyFixed", fn := fun _ => fun
  | [d1, d2] => { results := [.lit (.bool true)], args := [d1, d2] }
  | _ => none }
def busyFixedRow : OpenClaim := { program := "ytlnpjelanheijaa", sum := "c87b5f1b92e9a2990e7e8eccb535c24fd71eb51020f66891ac2588c76177f5ed", func := "remontoire/remontoirelaw32.BusyFixed", spec := "busyFixed", apart := false }
def BusyFixedSaid : Prop := busyFixedRow.holds Try.pinned (OpenSpec.ofChange busyFixedSpec)

/-- ITS FALSE NEIGHBOUR: 'it returns false'. Refute it at one input. -/
def busyFixedWrong : ChangeSpec := { name := "busyFixed", fn := fun _ => fun
  | [d1, d2] => { results := [.lit (.bool false)], args := [d1, d2] }
  | _ => none }
def BusyFixedWrongFalsely : Prop := busyFixedRow.holds Try.pinned (OpenSpec.ofChange busyFixedWrong)

/-- 'remontoirelaw32.BusyQuick': WHATEVER THE INPUT: true; the input reads as it did. -/
def busyQuickSpec : ChangeSpec := { name := "busyQuick", fn := fun _ => fun
  | [d1, d2] => { results := [.lit (.bool true)], args := [d1, d2] }
  | _ => none }
def busyQuickRow : OpenClaim := { program := "ytlnpjelanheijaa", sum := "c87b5f1b92e9a2990e7e8eccb535c24fd71eb51020f66891ac2588c76177f5ed", func := "remontoire/remontoirelaw32.BusyQuick", spec := "busyQuick", apart := false }
def BusyQuickSaid : Prop := busyQuickRow.holds Try.pinned (OpenSpec.ofChange busyQuickSpec)

/-- ITS FALSE NEIGHBOUR: 'it returns false'. Refute it at one input. -/
def busyQuickWrong : ChangeSpec := { name := "busyQuick", fn := fun _ => fun
  | [d1, d2] => { results := [.lit (.bool false)], args := [d1, d2] }
  | _ => none }
def BusyQuickWrongFalsely : Prop := busyQuickRow.holds Try.pinned (OpenSpec.ofChange busyQuickWrong)

/- THE SECOND FORM. 'bulk': how many values and letters a reading holds, each counted each time it is reached (what is shared counts as often as it is met; a slice's spare places count too). A statement '..UptoSaid' is the law's where the arguments, and the package variables that the reading takes, are together of bulk at most 1048576: NARROWER than '..Said'. Prove '..Said' where nothing that the law and all that it calls make is longer than what came in: it says more and counts as full. Else prove '..UptoSaid'. A law counts once. -/
mutual
def uptoBulk {H : Type} : DataW H → Nat
  | .lit (.string bytes) => bytes.length + 1
  | .lit _ => 1
  | .nil => 1
  | .ptr d => uptoBulk d + 1
  | .slice elems spare => uptoBulkAll elems + uptoBulkAll spare + 1
  | .agg parts => uptoBulkAll parts + 1
  | .iface _ d => uptoBulk d + 1
  | .map entries => uptoBulkEntries entries + 1
  | .held _ => 1
def uptoBulkAll {H : Type} : List (DataW H) → Nat
  | [] => 0
  | d :: r => uptoBulk d + uptoBulkAll r
def uptoBulkEntries {H : Type} : List (Lit × DataW H) → Nat
  | [] => 0
  | x :: r => uptoBulkEntry x + uptoBulkEntries r
def uptoBulkEntry {H : Type} : Lit × DataW H → Nat
  | (.string bytes, d) => bytes.length + uptoBulk d + 1
  | (_, d) => uptoBulk d + 1
 end
def uptoSmall : (H : Type) → List (DataW H) → Bool := fun _ ds => decide (uptoBulkAll ds ≤ 1048576)
def OpenSpec.upto (s : _root_.Go.ChangeSpec) : _root_.Go.OpenSpec := { _root_.Go.OpenSpec.ofChange s with cond := some uptoSmall }

/-- 'remontoirelaw32.BusyPlays', WHERE WHAT IT READS IS OF BULK AT MOST 1048576: true; the input reads as it did. -/
def busyPlaysUptoRow : OpenClaim := { program := "ytlnpjelanheijaa", sum := "c87b5f1b92e9a2990e7e8eccb535c24fd71eb51020f66891ac2588c76177f5ed", func := "remontoire/remontoirelaw32.BusyPlays", spec := "busyPlays", apart := false, narrowed := true }
def BusyPlaysUptoSaid : Prop := busyPlaysUptoRow.holds Try.pinned (OpenSpec.upto busyPlaysSpec)

/-- 'remontoirelaw32.BusyEnough', WHERE WHAT IT READS IS OF BULK AT MOST 1048576: true; the input reads as it did. -/
def busyEnoughUptoRow : OpenClaim := { program := "ytlnpjelanheijaa", sum := "c87b5f1b92e9a2990e7e8eccb535c24fd71eb51020f66891ac2588c76177f5ed", func := "remontoire/remontoirelaw32.BusyEnough", spec := "busyEnough", apart := false, narrowed := true }
def BusyEnoughUptoSaid : Prop := busyEnoughUptoRow.holds Try.pinned (OpenSpec.upto busyEnoughSpec)

/-- 'remontoirelaw32.BusyFixed', WHERE WHAT IT READS IS OF BULK AT MOST 1048576: true; the input reads as it did. -/
def busyFixedUptoRow : OpenClaim := { program := "ytlnpjelanheijaa", sum := "c87b5f1b92e9a2990e7e8eccb535c24fd71eb51020f66891ac2588c76177f5ed", func := "remontoire/remontoirelaw32.BusyFixed", spec := "busyFixed", apart := false, narrowed := true }
def BusyFixedUptoSaid : Prop := busyFixedUptoRow.holds Try.pinned (OpenSpec.upto busyFixedSpec)

/-- 'remontoirelaw32.BusyQuick', WHERE WHAT IT READS IS OF BULK AT MOST 1048576: true; the input reads as it did. -/
def busyQuickUptoRow : OpenClaim := { program := "ytlnpjelanheijaa", sum := "c87b5f1b92e9a2990e7e8eccb535c24fd71eb51020f66891ac2588c76177f5ed", func := "remontoire/remontoirelaw32.BusyQuick", spec := "busyQuick", apart := false, narrowed := true }
def BusyQuickUptoSaid : Prop := busyQuickUptoRow.holds Try.pinned (OpenSpec.upto busyQuickSpec)

end Rows
end Go.Proofs.Ytlnpjelanheijaa
