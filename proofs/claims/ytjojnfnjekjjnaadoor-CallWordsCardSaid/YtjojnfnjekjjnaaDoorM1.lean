/- Plain: the word of a call, and its parts. -/
import Derived.Test.YtjojnfnjekjjnaaDoorFW6
import Derived.Test.YtjojnfnjekjjnaaDoorW1
namespace Go.Proofs.YtjojnfnjekjjnaaDoor
open Go.RowKit

def partsL : List Fl := [⟨0, 8⟩, ⟨8, 8⟩, ⟨16, 8⟩, ⟨24, 20⟩, ⟨44, 20⟩]
def wordI (op a b c d : Int) : Int := op + 256 * a + 65536 * b + 16777216 * c + 17592186044416 * d
theorem join_parts (op a b c d : Nat) (h0 : op ≤ 255) (h1 : a ≤ 255) (h2 : b ≤ 255) (h3 : c ≤ 1048575) (h4 : d ≤ 1048575) :
    joinV partsL [(op : Int), (a : Int), (b : Int), (c : Int), (d : Int)] = .tuple #[.int .u64 (wordI op a b c d), .int .i64 0] := by
  have hj : joinB partsL [(op : Int), (a : Int), (b : Int), (c : Int), (d : Int)] partsL.length = true := by
    simp [partsL, joinB, badAt, bad, rightF, rightB, mostI, apartB]
    refine ⟨⟨⟨⟨?_, ?_⟩, ?_⟩, ?_⟩, ?_⟩
    all_goals exact decide_eq_false (by omega)
  unfold joinV
  rw [hj]
  simp only [if_true]
  have : ((wordN partsL [(op : Int), (a : Int), (b : Int), (c : Int), (d : Int)] partsL.length : Nat) : Int) = wordI op a b c d := by
    simp [partsL, wordN, Fld.putN, wordI]
    omega
  rw [this]
theorem get_parts (x : Nat) (hx : x < 18446744073709551616) : partsL.map (getF · (x : Int)) = [((x % 256 : Nat) : Int), ((x / 256 % 256 : Nat) : Int), ((x / 65536 % 256 : Nat) : Int), ((x / 16777216 % 1048576 : Nat) : Int), ((x / 17592186044416 : Nat) : Int)] := by
  have e : x / 17592186044416 % 1048576 = x / 17592186044416 := by omega
  simp [partsL, getF, rightF, rightB, Fld.getN]
  omega
theorem word_parts (x : Nat) (_hx : x < 18446744073709551616) : wordI ((x % 256 : Nat) : Int) ((x / 256 % 256 : Nat) : Int) ((x / 65536 % 256 : Nat) : Int) ((x / 16777216 % 1048576 : Nat) : Int) ((x / 17592186044416 : Nat) : Int) = (x : Int) := by
  unfold wordI
  omega
theorem num_ok {n : Int} {had : Bool} {most : Int} (h : numOk n had most = true) (hm : 0 ≤ most) : 0 ≤ n ∧ n ≤ most := by
  unfold numOk at h
  cases had
  · simp at h; omega
  · simp at h; omega
theorem rightC_t {op a b c d : Int} (h : rightC op a b c d = true) : (0 ≤ op ∧ op ≤ 19) ∧ (0 ≤ a ∧ a ≤ 255) ∧ (0 ≤ b ∧ b ≤ 255) ∧ (0 ≤ c ∧ c ≤ 1048575) ∧ (0 ≤ d ∧ d ≤ 1048575) := by
  unfold rightC at h
  simp only [Bool.and_eq_true, decide_eq_true_eq] at h
  obtain ⟨⟨⟨⟨h0, h1⟩, h2⟩, h3⟩, h4⟩ := h
  exact ⟨h0, num_ok h1 (by omega), num_ok h2 (by omega), num_ok h3 (by omega), num_ok h4 (by omega)⟩
end Go.Proofs.YtjojnfnjekjjnaaDoor
