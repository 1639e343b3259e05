/-
  No cell of these rows narrows 'for every input' (looked for: loops, veiled, ifaces, maps, wideKeys, modest, calm, conditions, laid).
  DERIVED. THE GIVEN ROWS OF THIS SEAT. 4 by the template 'for every input the law returns true; each argument reads behind the call as it read before'; 0 by the template 'total and deterministic' (their statements: YtldpplfkimdaaaaTotals.lean).
  GIVEN WITH THE SEED: the statements are not yours to turn. If you find one false, say at which input.
  Laid BY PROGRAM, IN A SANDBOX (cutbox-rows.mjs): the forced cells as the released guide's own fill.sh prints them over the translation 384168b0c877f895… (all of the seat's roots in one cut). By AI agents, Wed Nov 11 2026. No macro, syntax, notation, axiom, sorry.
-/
import Derived.Test.YtldpplfkimdaaaaChecked
import GoSem.Claim
import GoSem.ClaimJoined
import GoSem.ClaimMapViews
import Derived.JoinedTies
import Derived.KernelRfl
namespace Go.Proofs.Ytldpplfkimdaaaa
/- THE CELL 'sum', in the pinned program and in every row, IS THE sha256 OF THE DUMP (.gsa) THAT YtldpplfkimdaaaaProg.lean LOADS. Nothing in Lean hashes anything: it is a label: what it is worth is what the hold of that sum in a sandbox is worth. -/
noncomputable def Try.pinned : Pinned := { name := "ytldpplfkimdaaaa", sum := "384168b0c877f895199f91f76fbad1404e78af83c58e9e2bf58eef87477a6d2c", checked := Try.checked }
namespace Rows
def none {H : Type} : Left H := { results := [], args := [] }

/-- 'remontoirelaw24.BoxOrders': WHATEVER THE INPUT: true; the input reads as it did. -/
def boxOrdersSpec : ChangeSpec := { name := "boxOrders", fn := fun _ => fun
  | [d1, d2] => { results := [.lit (.bool true)], args := [d1, d2] }
  | _ => none }
def boxOrdersRow : OpenClaim := { program := "ytldpplfkimdaaaa", sum := "384168b0c877f895199f91f76fbad1404e78af83c58e9e2bf58eef87477a6d2c", func := "remontoire/remontoirelaw24.BoxOrders", spec := "boxOrders", apart := false }
def BoxOrdersSaid : Prop := boxOrdersRow.holds Try.pinned (OpenSpec.ofChange boxOrdersSpec)

/-- ITS FALSE NEIGHBOUR: 'it returns false'. Refute it at one input. -/
def boxOrdersWrong : ChangeSpec := { name := "boxOrders", fn := fun _ => fun
  | [d1, d2] => { results := [.lit (.bool false)], args := [d1, d2] }
  | _ => none }
def BoxOrdersWrongFalsely : Prop := boxOrdersRow.holds Try.pinned (OpenSpec.ofChange boxOrdersWrong)

/-- 'remontoirelaw24.BoxPlays': WHATEVER THE INPUT: true; the input reads as it did. -/
def boxPlaysSpec : ChangeSpec := { name := "boxPlays", fn := fun _ => fun
  | [d1, d2] => { results := [.lit (.bool true)], args := [d1, d2] }
  | _ => none }
def boxPlaysRow : OpenClaim := { program := "ytldpplfkimdaaaa", sum := "384168b0c877f895199f91f76fbad1404e78af83c58e9e2bf58eef87477a6d2c", func := "remontoire/remontoirelaw24.BoxPlays", spec := "boxPlays", apart := false }
def BoxPlaysSaid : Prop := boxPlaysRow.holds Try.pinned (OpenSpec.ofChange boxPlaysSpec)

/-- ITS FALSE NEIGHBOUR: 'it returns false'. Refute it at one input. -/
def boxPlaysWrong : ChangeSpec := { name := "boxPlays", fn := fun _ => fun
  | [d1, d2] => { results := [.lit (.bool false)], args := [d1, d2] }
  | _ => none }
def BoxPlaysWrongFalsely : Prop := boxPlaysRow.holds Try.pinned (OpenSpec.ofChange boxPlaysWrong)

/-- 'remontoirelaw24.BoxHubs': WHATEVER THE INPUT: true; the input reads as it did. -/
def boxHubsSpec : ChangeSpec := { name := "boxHubs", fn := fun _ => fun
  | [d1, d2] => { results := [.lit (.bool true)], args := [d1, d2] }
  | _ => none }
def boxHubsRow : OpenClaim := { program := "ytldpplfkimdaaaa", sum := "384168b0c877f895199f91f76fbad1404e78af83c58e9e2bf58eef87477a6d2c", func := "remontoire/remontoirelaw24.BoxHubs", spec := "boxHubs", apart := false }
def BoxHubsSaid : Prop := boxHubsRow.holds Try.pinned (OpenSpec.ofChange boxHubsSpec)

/-- ITS FALSE NEIGHBOUR: 'it returns false'. Refute it at one input. -/
def boxHubsWrong : ChangeSpec := { name := "boxHubs", fn := fun _ => fun
  | [d1, d2] => { results := [.lit (.bool false)], args := [d1, d2] }
  | _ => none }
def BoxHubsWrongFalsely : Prop := boxHubsRow.holds Try.pinned (OpenSpec.ofChange boxHubsWrong)

/-- 'remontoirelaw24.BoxNobody': WHATEVER THE INPUT: true; the input reads as it did. -/
def boxNobodySpec : ChangeSpec := { name := "boxNobody", fn := fun _ => fun
  | [d1, d2] => { results := [.lit (.bool true)], args := [d1, d2] }
  | _ => none }
def boxNobodyRow : OpenClaim := { program := "ytldpplfkimdaaaa", sum := "384168b0c877f895199f91f76fbad1404e78af83c58e9e2bf58eef87477a6d2c", func := "remontoire/remontoirelaw24.BoxNobody", spec := "boxNobody", apart := false }
def BoxNobodySaid : Prop := boxNobodyRow.holds Try.pinned (OpenSpec.ofChange boxNobodySpec)

/-- ITS FALSE NEIGHBOUR: 'it returns false'. Refute it at one input. -/
def boxNobodyWrong : ChangeSpec := { name := "boxNobody", fn := fun _ => fun
  | [d1, d2] => { results := [.lit (.bool false)], args := [d1, d2] }
  | _ => none }
def BoxNobodyWrongFalsely : Prop := boxNobodyRow.holds Try.pinned (OpenSpec.ofChange boxNobodyWrong)

/- THE SECOND FORM. 'bulk': how many values and letters a reading holds, each counted each time it is reached (what is shared counts as often as it is met; a slice's spare places count too). A statement '..UptoSaid' is the law's where the arguments, and the package variables that the reading takes, are together of bulk at most 1048576: NARROWER than '..Said'. Prove '..Said' where nothing that the law and all that it calls make is longer than what came in: it says more and counts as full. Else prove '..UptoSaid'. A law counts once. -/
mutual
def uptoBulk {H : Type} : DataW H → Nat
  | .lit (.string bytes) => bytes.length + 1
  | .lit _ => 1
  | .nil => 1
  | .ptr d => uptoBulk d + 1
  | .slice elems spare => uptoBulkAll elems + uptoBulkAll spare + 1
  | .agg parts => uptoBulkAll parts + 1
  | .iface _ d => uptoBulk d + 1
  | .map entries => uptoBulkEntries entries + 1
  | .held _ => 1
def uptoBulkAll {H : Type} : List (DataW H) → Nat
  | [] => 0
  | d :: r => uptoBulk d + uptoBulkAll r
def uptoBulkEntries {H : Type} : List (Lit × DataW H) → Nat
  | [] => 0
  | x :: r => uptoBulkEntry x + uptoBulkEntries r
def uptoBulkEntry {H : Type} : Lit × DataW H → Nat
  | (.string bytes, d) => bytes.length + uptoBulk d + 1
  | (_, d) => uptoBulk d + 1
 end
def uptoSmall : (H : Type) → List (DataW H) → Bool := fun _ ds => decide (uptoBulkAll ds ≤ 1048576)
def OpenSpec.upto (s : _root_.Go.ChangeSpec) : _root_.Go.OpenSpec := { _root_.Go.OpenSpec.ofChange s with cond := some uptoSmall }

/-- 'remontoirelaw24.BoxOrders', WHERE WHAT IT READS IS OF BULK AT MOST 1048576: true; the input reads as it did. -/
def boxOrdersUptoRow : OpenClaim := { program := "ytldpplfkimdaaaa", sum := "384168b0c877f895199f91f76fbad1404e78af83c58e9e2bf58eef87477a6d2c", func := "remontoire/remontoirelaw24.BoxOrders", spec := "boxOrders", apart := false, narrowed := true }
def BoxOrdersUptoSaid : Prop := boxOrdersUptoRow.holds Try.pinned (OpenSpec.upto boxOrdersSpec)

/-- 'remontoirelaw24.BoxPlays', WHERE WHAT IT READS IS OF BULK AT MOST 1048576: true; the input reads as it did. -/
def boxPlaysUptoRow : OpenClaim := { program := "ytldpplfkimdaaaa", sum := "384168b0c877f895199f91f76fbad1404e78af83c58e9e2bf58eef87477a6d2c", func := "remontoire/remontoirelaw24.BoxPlays", spec := "boxPlays", apart := false, narrowed := true }
def BoxPlaysUptoSaid : Prop := boxPlaysUptoRow.holds Try.pinned (OpenSpec.upto boxPlaysSpec)

/-- 'remontoirelaw24.BoxHubs', WHERE WHAT IT READS IS OF BULK AT MOST 1048576: true; the input reads as it did. -/
def boxHubsUptoRow : OpenClaim := { program := "ytldpplfkimdaaaa", sum := "384168b0c877f895199f91f76fbad1404e78af83c58e9e2bf58eef87477a6d2c", func := "remontoire/remontoirelaw24.BoxHubs", spec := "boxHubs", apart := false, narrowed := true }
def BoxHubsUptoSaid : Prop := boxHubsUptoRow.holds Try.pinned (OpenSpec.upto boxHubsSpec)

/-- 'remontoirelaw24.BoxNobody', WHERE WHAT IT READS IS OF BULK AT MOST 1048576: true; the input reads as it did. -/
def boxNobodyUptoRow : OpenClaim := { program := "ytldpplfkimdaaaa", sum := "384168b0c877f895199f91f76fbad1404e78af83c58e9e2bf58eef87477a6d2c", func := "remontoire/remontoirelaw24.BoxNobody", spec := "boxNobody", apart := false, narrowed := true }
def BoxNobodyUptoSaid : Prop := boxNobodyUptoRow.holds Try.pinned (OpenSpec.upto boxNobodySpec)

end Rows
end Go.Proofs.Ytldpplfkimdaaaa
