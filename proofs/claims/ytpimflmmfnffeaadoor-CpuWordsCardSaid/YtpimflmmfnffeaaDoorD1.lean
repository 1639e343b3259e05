/- Walks: which instructions may be, by the document: names, parts. -/
import Derived.Test.YtpimflmmfnffeaaDoorW3
namespace Go.Proofs.YtpimflmmfnffeaaDoor
open Go.RowKit

def nameS (n : Nat) : ByteArray := match n with
  | 0 => ⟨#[104, 97, 108, 116]⟩
  | 1 => ⟨#[115, 101, 116]⟩
  | 2 => ⟨#[97, 100, 100]⟩
  | 3 => ⟨#[115, 117, 98]⟩
  | 4 => ⟨#[109, 117, 108]⟩
  | 5 => ⟨#[100, 105, 118]⟩
  | 6 => ⟨#[97, 110, 100]⟩
  | 7 => ⟨#[111, 114]⟩
  | 8 => ⟨#[120, 111, 114]⟩
  | 9 => ⟨#[115, 104, 108]⟩
  | 10 => ⟨#[115, 104, 114]⟩
  | 11 => ⟨#[108, 101, 115, 115]⟩
  | 12 => ⟨#[108, 111, 97, 100]⟩
  | 13 => ⟨#[115, 116, 111, 114, 101]⟩
  | 14 => ⟨#[106, 117, 109, 112]⟩
  | 15 => ⟨#[98, 114, 97, 110, 99, 104]⟩
  | 16 => ⟨#[97, 115, 107]⟩
  | 17 => ⟨#[108, 105, 110, 107]⟩
  | 18 => ⟨#[98, 97, 99, 107]⟩
  | _ => ⟨#[]⟩
def hasS (n : Nat) : ByteArray := match n with
  | 0 => ⟨#[]⟩
  | 1 => ⟨#[65, 78]⟩
  | 2 => ⟨#[65, 66, 67]⟩
  | 3 => ⟨#[65, 66, 67]⟩
  | 4 => ⟨#[65, 66, 67]⟩
  | 5 => ⟨#[65, 66, 67]⟩
  | 6 => ⟨#[65, 66, 67]⟩
  | 7 => ⟨#[65, 66, 67]⟩
  | 8 => ⟨#[65, 66, 67]⟩
  | 9 => ⟨#[65, 66, 67]⟩
  | 10 => ⟨#[65, 66, 67]⟩
  | 11 => ⟨#[65, 66, 67]⟩
  | 12 => ⟨#[65, 66, 78]⟩
  | 13 => ⟨#[65, 66, 78]⟩
  | 14 => ⟨#[78]⟩
  | 15 => ⟨#[65, 78]⟩
  | 16 => ⟨#[65]⟩
  | 17 => ⟨#[65, 78]⟩
  | 18 => ⟨#[65]⟩
  | _ => ⟨#[]⟩
set_option maxHeartbeats 2000000 in
theorem refName_yes (n : Nat) (w : World) (h : n ≤ 18) : Calls Tryd.prog 11 #[.int .i64 n] w fun e w' => e = .returned (.string (nameS n)) ∧ Below w.heap.size w w' := by
  rcases (show n = 0 ∨ n = 1 ∨ n = 2 ∨ n = 3 ∨ n = 4 ∨ n = 5 ∨ n = 6 ∨ n = 7 ∨ n = 8 ∨ n = 9 ∨ n = 10 ∨ n = 11 ∨ n = 12 ∨ n = 13 ∨ n = 14 ∨ n = 15 ∨ n = 16 ∨ n = 17 ∨ n = 18 by omega) with rfl | rfl | rfl | rfl | rfl | rfl | rfl | rfl | rfl | rfl | rfl | rfl | rfl | rfl | rfl | rfl | rfl | rfl | rfl
  all_goals
    clear h
    go_enter Tryd.func11, Tryd.ntmps11
    go_wp2
    go_ret
    exact ⟨rfl, below1 _ _⟩
set_option maxHeartbeats 2000000 in
theorem refHas_any (n : Nat) (w : World) (h : n ≤ 18) : Calls Tryd.prog 19 #[.int .i64 n] w fun e w' => e = .returned (.string (hasS n)) ∧ Below w.heap.size w w' := by
  rcases (show n = 0 ∨ n = 1 ∨ n = 2 ∨ n = 3 ∨ n = 4 ∨ n = 5 ∨ n = 6 ∨ n = 7 ∨ n = 8 ∨ n = 9 ∨ n = 10 ∨ n = 11 ∨ n = 12 ∨ n = 13 ∨ n = 14 ∨ n = 15 ∨ n = 16 ∨ n = 17 ∨ n = 18 by omega) with rfl | rfl | rfl | rfl | rfl | rfl | rfl | rfl | rfl | rfl | rfl | rfl | rfl | rfl | rfl | rfl | rfl | rfl | rfl
  all_goals
    clear h
    go_enter Tryd.func19, Tryd.ntmps19
    go_wp2
    go_ret
    exact ⟨rfl, below1 _ _⟩
theorem refName_no (op : Int) (w : World) (h : ¬ (0 ≤ op ∧ op ≤ 18)) : Calls Tryd.prog 11 #[.int .i64 op] w fun e w' => e = .returned (.string ⟨#[]⟩) ∧ Below w.heap.size w w' := by
  by_cases h1 : op < 0
  · go_enter Tryd.func11, Tryd.ntmps11
    go_wp2
    go_ret
    exact ⟨rfl, below1 _ _⟩
  · have h2 : 18 < op := by omega
    clear h
    go_enter Tryd.func11, Tryd.ntmps11
    go_wp2
    go_ret
    exact ⟨rfl, below1 _ _⟩
end Go.Proofs.YtpimflmmfnffeaaDoor
