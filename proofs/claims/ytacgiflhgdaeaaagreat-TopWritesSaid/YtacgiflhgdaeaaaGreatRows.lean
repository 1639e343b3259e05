/-
  No cell of these rows narrows 'for every input' (looked for: loops, veiled, ifaces, maps, wideKeys, modest, calm, conditions, laid).
  DERIVED. THE GIVEN ROWS OF THIS SEAT. 4 by the template 'for every input the law returns true; each argument reads behind the call as it read before'; 0 by the template 'total and deterministic' (their statements: YtacgiflhgdaeaaaGreatTotals.lean).
  GIVEN WITH THE SEED: the statements are not yours to turn. If you find one false, say at which input.
  Laid BY PROGRAM, IN A SANDBOX (cutbox-rows.mjs): the forced cells as the released guide's own fill.sh prints them over the translation d14e32e8e41ed9b0… (all of the seat's roots in one cut). By AI agents, Wed Nov 11 2026. No macro, syntax, notation, axiom, sorry.
-/
import Derived.Test.YtacgiflhgdaeaaaGreatChecked
import GoSem.Claim
import GoSem.ClaimJoined
import GoSem.ClaimMapViews
import Derived.JoinedTies
import Derived.KernelRfl
namespace Go.Proofs.YtacgiflhgdaeaaaGreat
/- THE CELL 'sum', in the pinned program and in every row, IS THE sha256 OF THE DUMP (.gsa) THAT YtacgiflhgdaeaaaGreatProg.lean LOADS. Nothing in Lean hashes anything: it is a label: what it is worth is what the hold of that sum in a sandbox is worth. -/
noncomputable def Tryz.pinned : Pinned := { name := "ytacgiflhgdaeaaagreat", sum := "d14e32e8e41ed9b0f66349930b0c204e093529330910b357f28842378a3e0e37", checked := Tryz.checked }
namespace Rows
def none {H : Type} : Left H := { results := [], args := [] }

/-- 'remontoiretop.TopWrites': WHATEVER THE INPUT: true; the input reads as it did. -/
def topWritesSpec : ChangeSpec := { name := "topWrites", fn := fun _ => fun
  | [d1, d2] => { results := [.lit (.bool true)], args := [d1, d2] }
  | _ => none }
def topWritesRow : OpenClaim := { program := "ytacgiflhgdaeaaagreat", sum := "d14e32e8e41ed9b0f66349930b0c204e093529330910b357f28842378a3e0e37", func := "remontoire/remontoiretop.TopWrites", spec := "topWrites", inPlace := ["internal/reflectlite.ValueOf", "internal/reflectlite.Swapper", "(internal/reflectlite.Value).Len", "slices.overlaps[remontoire/server.Refill]"], unfollowed := true, recurses := true, apart := false }
def TopWritesSaid : Prop := topWritesRow.holds Tryz.pinned (OpenSpec.ofChange topWritesSpec)

/-- ITS FALSE NEIGHBOUR: 'it returns false'. Refute it at one input. -/
def topWritesWrong : ChangeSpec := { name := "topWrites", fn := fun _ => fun
  | [d1, d2] => { results := [.lit (.bool false)], args := [d1, d2] }
  | _ => none }
def TopWritesWrongFalsely : Prop := topWritesRow.holds Tryz.pinned (OpenSpec.ofChange topWritesWrong)

/-- 'remontoiretop.TopSeize': WHATEVER THE INPUT: true; the input reads as it did. -/
def topSeizeSpec : ChangeSpec := { name := "topSeize", fn := fun _ => fun
  | [d1, d2] => { results := [.lit (.bool true)], args := [d1, d2] }
  | _ => none }
def topSeizeRow : OpenClaim := { program := "ytacgiflhgdaeaaagreat", sum := "d14e32e8e41ed9b0f66349930b0c204e093529330910b357f28842378a3e0e37", func := "remontoire/remontoiretop.TopSeize", spec := "topSeize", inPlace := ["internal/reflectlite.ValueOf", "internal/reflectlite.Swapper", "(internal/reflectlite.Value).Len", "slices.overlaps[remontoire/server.Refill]"], unfollowed := true, recurses := true, apart := false }
def TopSeizeSaid : Prop := topSeizeRow.holds Tryz.pinned (OpenSpec.ofChange topSeizeSpec)

/-- ITS FALSE NEIGHBOUR: 'it returns false'. Refute it at one input. -/
def topSeizeWrong : ChangeSpec := { name := "topSeize", fn := fun _ => fun
  | [d1, d2] => { results := [.lit (.bool false)], args := [d1, d2] }
  | _ => none }
def TopSeizeWrongFalsely : Prop := topSeizeRow.holds Tryz.pinned (OpenSpec.ofChange topSeizeWrong)

/-- 'remontoiretop.TopAlone': WHATEVER THE INPUT: true; the input reads as it did. -/
def topAloneSpec : ChangeSpec := { name := "topAlone", fn := fun _ => fun
  | [d1, d2, d3] => { results := [.lit (.bool true)], args := [d1, d2, d3] }
  | _ => none }
def topAloneRow : OpenClaim := { program := "ytacgiflhgdaeaaagreat", sum := "d14e32e8e41ed9b0f66349930b0c204e093529330910b357f28842378a3e0e37", func := "remontoire/remontoiretop.TopAlone", spec := "topAlone", inPlace := ["internal/reflectlite.ValueOf", "internal/reflectlite.Swapper", "(internal/reflectlite.Value).Len", "slices.overlaps[remontoire/server.Refill]"], unfollowed := true, recurses := true, apart := false }
def TopAloneSaid : Prop := topAloneRow.holds Tryz.pinned (OpenSpec.ofChange topAloneSpec)

/-- ITS FALSE NEIGHBOUR: 'it returns false'. Refute it at one input. -/
def topAloneWrong : ChangeSpec := { name := "topAlone", fn := fun _ => fun
  | [d1, d2, d3] => { results := [.lit (.bool false)], args := [d1, d2, d3] }
  | _ => none }
def TopAloneWrongFalsely : Prop := topAloneRow.holds Tryz.pinned (OpenSpec.ofChange topAloneWrong)

/-- 'remontoiretop.TopSupply': WHATEVER THE INPUT: true; the input reads as it did. -/
def topSupplySpec : ChangeSpec := { name := "topSupply", fn := fun _ => fun
  | [d1, d2] => { results := [.lit (.bool true)], args := [d1, d2] }
  | _ => none }
def topSupplyRow : OpenClaim := { program := "ytacgiflhgdaeaaagreat", sum := "d14e32e8e41ed9b0f66349930b0c204e093529330910b357f28842378a3e0e37", func := "remontoire/remontoiretop.TopSupply", spec := "topSupply", inPlace := ["internal/reflectlite.ValueOf", "internal/reflectlite.Swapper", "(internal/reflectlite.Value).Len", "slices.overlaps[remontoire/server.Refill]"], unfollowed := true, recurses := true, apart := false }
def TopSupplySaid : Prop := topSupplyRow.holds Tryz.pinned (OpenSpec.ofChange topSupplySpec)

/-- ITS FALSE NEIGHBOUR: 'it returns false'. Refute it at one input. -/
def topSupplyWrong : ChangeSpec := { name := "topSupply", fn := fun _ => fun
  | [d1, d2] => { results := [.lit (.bool false)], args := [d1, d2] }
  | _ => none }
def TopSupplyWrongFalsely : Prop := topSupplyRow.holds Tryz.pinned (OpenSpec.ofChange topSupplyWrong)

/- THE SECOND FORM. 'bulk': how many values and letters a reading holds, each counted each time it is reached (what is shared counts as often as it is met; a slice's spare places count too). A statement '..UptoSaid' is the law's where the arguments, and the package variables that the reading takes, are together of bulk at most 1048576: NARROWER than '..Said'. Prove '..Said' where nothing that the law and all that it calls make is longer than what came in: it says more and counts as full. Else prove '..UptoSaid'. A law counts once. -/
mutual
def uptoBulk {H : Type} : DataW H → Nat
  | .lit (.string bytes) => bytes.length + 1
  | .lit _ => 1
  | .nil => 1
  | .ptr d => uptoBulk d + 1
  | .slice elems spare => uptoBulkAll elems + uptoBulkAll spare + 1
  | .agg parts => uptoBulkAll parts + 1
  | .iface _ d => uptoBulk d + 1
  | .map entries => uptoBulkEntries entries + 1
  | .held _ => 1
def uptoBulkAll {H : Type} : List (DataW H) → Nat
  | [] => 0
  | d :: r => uptoBulk d + uptoBulkAll r
def uptoBulkEntries {H : Type} : List (Lit × DataW H) → Nat
  | [] => 0
  | x :: r => uptoBulkEntry x + uptoBulkEntries r
def uptoBulkEntry {H : Type} : Lit × DataW H → Nat
  | (.string bytes, d) => bytes.length + uptoBulk d + 1
  | (_, d) => uptoBulk d + 1
 end
def uptoSmall : (H : Type) → List (DataW H) → Bool := fun _ ds => decide (uptoBulkAll ds ≤ 1048576)
def OpenSpec.upto (s : _root_.Go.ChangeSpec) : _root_.Go.OpenSpec := { _root_.Go.OpenSpec.ofChange s with cond := some uptoSmall }

/-- 'remontoiretop.TopWrites', WHERE WHAT IT READS IS OF BULK AT MOST 1048576: true; the input reads as it did. -/
def topWritesUptoRow : OpenClaim := { program := "ytacgiflhgdaeaaagreat", sum := "d14e32e8e41ed9b0f66349930b0c204e093529330910b357f28842378a3e0e37", func := "remontoire/remontoiretop.TopWrites", spec := "topWrites", inPlace := ["internal/reflectlite.ValueOf", "internal/reflectlite.Swapper", "(internal/reflectlite.Value).Len", "slices.overlaps[remontoire/server.Refill]"], unfollowed := true, recurses := true, apart := false, narrowed := true }
def TopWritesUptoSaid : Prop := topWritesUptoRow.holds Tryz.pinned (OpenSpec.upto topWritesSpec)

/-- 'remontoiretop.TopSeize', WHERE WHAT IT READS IS OF BULK AT MOST 1048576: true; the input reads as it did. -/
def topSeizeUptoRow : OpenClaim := { program := "ytacgiflhgdaeaaagreat", sum := "d14e32e8e41ed9b0f66349930b0c204e093529330910b357f28842378a3e0e37", func := "remontoire/remontoiretop.TopSeize", spec := "topSeize", inPlace := ["internal/reflectlite.ValueOf", "internal/reflectlite.Swapper", "(internal/reflectlite.Value).Len", "slices.overlaps[remontoire/server.Refill]"], unfollowed := true, recurses := true, apart := false, narrowed := true }
def TopSeizeUptoSaid : Prop := topSeizeUptoRow.holds Tryz.pinned (OpenSpec.upto topSeizeSpec)

/-- 'remontoiretop.TopAlone', WHERE WHAT IT READS IS OF BULK AT MOST 1048576: true; the input reads as it did. -/
def topAloneUptoRow : OpenClaim := { program := "ytacgiflhgdaeaaagreat", sum := "d14e32e8e41ed9b0f66349930b0c204e093529330910b357f28842378a3e0e37", func := "remontoire/remontoiretop.TopAlone", spec := "topAlone", inPlace := ["internal/reflectlite.ValueOf", "internal/reflectlite.Swapper", "(internal/reflectlite.Value).Len", "slices.overlaps[remontoire/server.Refill]"], unfollowed := true, recurses := true, apart := false, narrowed := true }
def TopAloneUptoSaid : Prop := topAloneUptoRow.holds Tryz.pinned (OpenSpec.upto topAloneSpec)

/-- 'remontoiretop.TopSupply', WHERE WHAT IT READS IS OF BULK AT MOST 1048576: true; the input reads as it did. -/
def topSupplyUptoRow : OpenClaim := { program := "ytacgiflhgdaeaaagreat", sum := "d14e32e8e41ed9b0f66349930b0c204e093529330910b357f28842378a3e0e37", func := "remontoire/remontoiretop.TopSupply", spec := "topSupply", inPlace := ["internal/reflectlite.ValueOf", "internal/reflectlite.Swapper", "(internal/reflectlite.Value).Len", "slices.overlaps[remontoire/server.Refill]"], unfollowed := true, recurses := true, apart := false, narrowed := true }
def TopSupplyUptoSaid : Prop := topSupplyUptoRow.holds Tryz.pinned (OpenSpec.upto topSupplySpec)

end Rows
end Go.Proofs.YtacgiflhgdaeaaaGreat
