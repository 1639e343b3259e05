/- Walks: which calls may be, by the document. -/
import Derived.Test.YtjojnfnjekjjnaaDoorW1
namespace Go.Proofs.YtjojnfnjekjjnaaDoor
open Go.RowKit

def nameS (n : Nat) : ByteArray := match n with
  | 0 => ⟨#[110, 117, 108, 108]⟩
  | 1 => ⟨#[97, 108, 108, 111, 99]⟩
  | 2 => ⟨#[102, 114, 101, 101]⟩
  | 3 => ⟨#[114, 101, 97, 100]⟩
  | 4 => ⟨#[119, 114, 105, 116, 101]⟩
  | 5 => ⟨#[108, 111, 97, 100]⟩
  | 6 => ⟨#[117, 110, 108, 111, 97, 100]⟩
  | 7 => ⟨#[100, 101, 114, 105, 118, 101]⟩
  | 8 => ⟨#[103, 105, 118, 101]⟩
  | 9 => ⟨#[114, 101, 118, 111, 107, 101]⟩
  | 10 => ⟨#[100, 114, 111, 112]⟩
  | 11 => ⟨#[98, 105, 110, 100]⟩
  | 12 => ⟨#[97, 99, 107]⟩
  | 13 => ⟨#[109, 97, 115, 107]⟩
  | 14 => ⟨#[97, 108, 97, 114, 109]⟩
  | 15 => ⟨#[114, 101, 115, 101, 114, 118, 101]⟩
  | 16 => ⟨#[114, 101, 108, 101, 97, 115, 101]⟩
  | 17 => ⟨#[115, 101, 110, 100]⟩
  | 18 => ⟨#[110, 101, 120, 116]⟩
  | 19 => ⟨#[98, 108, 111, 99, 107]⟩
  | _ => ⟨#[]⟩
def hasS (n : Nat) : ByteArray := match n with
  | 0 => ⟨#[]⟩
  | 1 => ⟨#[65]⟩
  | 2 => ⟨#[65]⟩
  | 3 => ⟨#[65, 66]⟩
  | 4 => ⟨#[65, 66, 67]⟩
  | 5 => ⟨#[65, 66, 67]⟩
  | 6 => ⟨#[65]⟩
  | 7 => ⟨#[65, 66, 67]⟩
  | 8 => ⟨#[65, 66, 67, 68]⟩
  | 9 => ⟨#[65]⟩
  | 10 => ⟨#[65]⟩
  | 11 => ⟨#[65]⟩
  | 12 => ⟨#[65]⟩
  | 13 => ⟨#[65, 66]⟩
  | 14 => ⟨#[65]⟩
  | 15 => ⟨#[67, 68]⟩
  | 16 => ⟨#[]⟩
  | 17 => ⟨#[65, 66]⟩
  | 18 => ⟨#[]⟩
  | 19 => ⟨#[]⟩
  | _ => ⟨#[]⟩
set_option maxHeartbeats 2000000 in
theorem refName_yes (n : Nat) (w : World) (h : n ≤ 19) : Calls Tryd.prog 9 #[.int .i64 n] w fun e w' => e = .returned (.string (nameS n)) ∧ Below w.heap.size w w' := by
  rcases (show n = 0 ∨ n = 1 ∨ n = 2 ∨ n = 3 ∨ n = 4 ∨ n = 5 ∨ n = 6 ∨ n = 7 ∨ n = 8 ∨ n = 9 ∨ n = 10 ∨ n = 11 ∨ n = 12 ∨ n = 13 ∨ n = 14 ∨ n = 15 ∨ n = 16 ∨ n = 17 ∨ n = 18 ∨ n = 19 by omega) with rfl | rfl | rfl | rfl | rfl | rfl | rfl | rfl | rfl | rfl | rfl | rfl | rfl | rfl | rfl | rfl | rfl | rfl | rfl | rfl
  all_goals
    clear h
    go_enter Tryd.func9, Tryd.ntmps9
    go_wp2
    go_ret
    exact ⟨rfl, below1 _ _⟩
set_option maxHeartbeats 2000000 in
theorem refHas_any (n : Nat) (w : World) (h : n ≤ 19) : Calls Tryd.prog 18 #[.int .i64 n] w fun e w' => e = .returned (.string (hasS n)) ∧ Below w.heap.size w w' := by
  rcases (show n = 0 ∨ n = 1 ∨ n = 2 ∨ n = 3 ∨ n = 4 ∨ n = 5 ∨ n = 6 ∨ n = 7 ∨ n = 8 ∨ n = 9 ∨ n = 10 ∨ n = 11 ∨ n = 12 ∨ n = 13 ∨ n = 14 ∨ n = 15 ∨ n = 16 ∨ n = 17 ∨ n = 18 ∨ n = 19 by omega) with rfl | rfl | rfl | rfl | rfl | rfl | rfl | rfl | rfl | rfl | rfl | rfl | rfl | rfl | rfl | rfl | rfl | rfl | rfl | rfl
  all_goals
    clear h
    go_enter Tryd.func18, Tryd.ntmps18
    go_wp2
    go_ret
    exact ⟨rfl, below1 _ _⟩
theorem refName_no (op : Int) (w : World) (h : ¬ (0 ≤ op ∧ op ≤ 19)) : Calls Tryd.prog 9 #[.int .i64 op] w fun e w' => e = .returned (.string ⟨#[]⟩) ∧ Below w.heap.size w w' := by
  by_cases h1 : op < 0
  · go_enter Tryd.func9, Tryd.ntmps9
    go_wp2
    go_ret
    exact ⟨rfl, below1 _ _⟩
  · have h2 : 19 < op := by omega
    clear h
    go_enter Tryd.func9, Tryd.ntmps9
    go_wp2
    go_ret
    exact ⟨rfl, below1 _ _⟩
end Go.Proofs.YtjojnfnjekjjnaaDoor
