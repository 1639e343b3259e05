/-
  No cell of these rows narrows 'for every input' (looked for: loops, veiled, ifaces, maps, wideKeys, modest, calm, conditions, laid).
  DERIVED. THE GIVEN ROWS OF THIS SEAT. 2 by the template 'for every input the law returns true; each argument reads behind the call as it read before'; 0 by the template 'total and deterministic' (their statements: YtdfklbjkcednhaaTotals.lean).
  GIVEN WITH THE SEED: the statements are not yours to turn. If you find one false, say at which input.
  Laid BY PROGRAM, IN A SANDBOX (cutbox-rows.mjs): the forced cells as the released guide's own fill.sh prints them over the translation a4d0cc1b80bf0996… (all of the seat's roots in one cut). By AI agents, Wed Nov 11 2026. No macro, syntax, notation, axiom, sorry.
-/
import Derived.Test.YtdfklbjkcednhaaChecked
import GoSem.Claim
import GoSem.ClaimJoined
import GoSem.ClaimMapViews
import Derived.JoinedTies
import Derived.KernelRfl
namespace Go.Proofs.Ytdfklbjkcednhaa
/- THE CELL 'sum', in the pinned program and in every row, IS THE sha256 OF THE DUMP (.gsa) THAT YtdfklbjkcednhaaProg.lean LOADS. Nothing in Lean hashes anything: it is a label: what it is worth is what the hold of that sum in a sandbox is worth. -/
noncomputable def Try.pinned : Pinned := { name := "ytdfklbjkcednhaa", sum := "a4d0cc1b80bf09969f78c44a908f977650632423a7c018a5e5c35622e5b52e13", checked := Try.checked }
namespace Rows
def none {H : Type} : Left H := { results := [], args := [] }

/-- 'remontoirelaw17.NoticeGrace': WHATEVER THE INPUT: true; the input reads as it did. -/
def noticeGraceSpec : ChangeSpec := { name := "noticeGrace", fn := fun _ => fun
  | [d] => { results := [.lit (.bool true)], args := [d] }
  | _ => none }
def noticeGraceRow : OpenClaim := { program := "ytdfklbjkcednhaa", sum := "a4d0cc1b80bf09969f78c44a908f977650632423a7c018a5e5c35622e5b52e13", func := "remontoire/remontoirelaw17.NoticeGrace", spec := "noticeGrace", unfollowed := true, recurses := true, apart := false }
def NoticeGraceSaid : Prop := noticeGraceRow.holds Try.pinned (OpenSpec.ofChange noticeGraceSpec)

/-- ITS FALSE NEIGHBOUR: 'it returns false'. Refute it at one input. -/
def noticeGraceWrong : ChangeSpec := { name := "noticeGrace", fn := fun _ => fun
  | [d] => { results := [.lit (.bool false)], args := [d] }
  | _ => none }
def NoticeGraceWrongFalsely : Prop := noticeGraceRow.holds Try.pinned (OpenSpec.ofChange noticeGraceWrong)

/-- 'remontoirelaw17.NoticePlays': WHATEVER THE INPUT: true; the input reads as it did. -/
def noticePlaysSpec : ChangeSpec := { name := "noticePlays", fn := fun _ => fun
  | [d] => { results := [.lit (.bool true)], args := [d] }
  | _ => none }
def noticePlaysRow : OpenClaim := { program := "ytdfklbjkcednhaa", sum := "a4d0cc1b80bf09969f78c44a908f977650632423a7c018a5e5c35622e5b52e13", func := "remontoire/remontoirelaw17.NoticePlays", spec := "noticePlays", unfollowed := true, recurses := true, apart := false }
def NoticePlaysSaid : Prop := noticePlaysRow.holds Try.pinned (OpenSpec.ofChange noticePlaysSpec)

/-- ITS FALSE NEIGHBOUR: 'it returns false'. Refute it at one input. -/
def noticePlaysWrong : ChangeSpec := { name := "noticePlays", fn := fun _ => fun
  | [d] => { results := [.lit (.bool false)], args := [d] }
  | _ => none }
def NoticePlaysWrongFalsely : Prop := noticePlaysRow.holds Try.pinned (OpenSpec.ofChange noticePlaysWrong)

/- THE SECOND FORM. 'bulk': how many values and letters a reading holds, each counted each time it is reached (what is shared counts as often as it is met; a slice's spare places count too). A statement '..UptoSaid' is the law's where the arguments, and the package variables that the reading takes, are together of bulk at most 1048576: NARROWER than '..Said'. Prove '..Said' where nothing that the law and all that it calls make is longer than what came in: it says more and counts as full. Else prove '..UptoSaid'. A law counts once. -/
mutual
def uptoBulk {H : Type} : DataW H → Nat
  | .lit (.string bytes) => bytes.length + 1
  | .lit _ => 1
  | .nil => 1
  | .ptr d => uptoBulk d + 1
  | .slice elems spare => uptoBulkAll elems + uptoBulkAll spare + 1
  | .agg parts => uptoBulkAll parts + 1
  | .iface _ d => uptoBulk d + 1
  | .map entries => uptoBulkEntries entries + 1
  | .held _ => 1
def uptoBulkAll {H : Type} : List (DataW H) → Nat
  | [] => 0
  | d :: r => uptoBulk d + uptoBulkAll r
def uptoBulkEntries {H : Type} : List (Lit × DataW H) → Nat
  | [] => 0
  | x :: r => uptoBulkEntry x + uptoBulkEntries r
def uptoBulkEntry {H : Type} : Lit × DataW H → Nat
  | (.string bytes, d) => bytes.length + uptoBulk d + 1
  | (_, d) => uptoBulk d + 1
 end
def uptoSmall : (H : Type) → List (DataW H) → Bool := fun _ ds => decide (uptoBulkAll ds ≤ 1048576)
def OpenSpec.upto (s : _root_.Go.ChangeSpec) : _root_.Go.OpenSpec := { _root_.Go.OpenSpec.ofChange s with cond := some uptoSmall }

/-- 'remontoirelaw17.NoticeGrace', WHERE WHAT IT READS IS OF BULK AT MOST 1048576: true; the input reads as it did. -/
def noticeGraceUptoRow : OpenClaim := { program := "ytdfklbjkcednhaa", sum := "a4d0cc1b80bf09969f78c44a908f977650632423a7c018a5e5c35622e5b52e13", func := "remontoire/remontoirelaw17.NoticeGrace", spec := "noticeGrace", unfollowed := true, recurses := true, apart := false, narrowed := true }
def NoticeGraceUptoSaid : Prop := noticeGraceUptoRow.holds Try.pinned (OpenSpec.upto noticeGraceSpec)

/-- 'remontoirelaw17.NoticePlays', WHERE WHAT IT READS IS OF BULK AT MOST 1048576: true; the input reads as it did. -/
def noticePlaysUptoRow : OpenClaim := { program := "ytdfklbjkcednhaa", sum := "a4d0cc1b80bf09969f78c44a908f977650632423a7c018a5e5c35622e5b52e13", func := "remontoire/remontoirelaw17.NoticePlays", spec := "noticePlays", unfollowed := true, recurses := true, apart := false, narrowed := true }
def NoticePlaysUptoSaid : Prop := noticePlaysUptoRow.holds Try.pinned (OpenSpec.upto noticePlaysSpec)

end Rows
end Go.Proofs.Ytdfklbjkcednhaa
