/- Plain: the word of an instruction, and its parts. -/
import Derived.Test.YtpimflmmfnffeaaDoorFW6
import Derived.Test.YtpimflmmfnffeaaDoorW1
namespace Go.Proofs.YtpimflmmfnffeaaDoor
open Go.RowKit

def partsL : List Fl := [⟨0, 8⟩, ⟨8, 4⟩, ⟨12, 4⟩, ⟨16, 4⟩, ⟨20, 44⟩]
def wordI (op a b c n : Int) : Int := op + 256 * a + 4096 * b + 65536 * c + 1048576 * n
theorem join_parts (op a b c n : Nat) (h0 : op ≤ 255) (h1 : a ≤ 15) (h2 : b ≤ 15) (h3 : c ≤ 15) (h4 : n ≤ 17592186044415) :
    joinV partsL [(op : Int), (a : Int), (b : Int), (c : Int), (n : Int)] = .tuple #[.int .u64 (wordI op a b c n), .int .i64 0] := by
  have hj : joinB partsL [(op : Int), (a : Int), (b : Int), (c : Int), (n : Int)] partsL.length = true := by
    simp [partsL, joinB, badAt, bad, rightF, rightB, mostI, apartB]
    refine ⟨⟨⟨⟨?_, ?_⟩, ?_⟩, ?_⟩, ?_⟩
    all_goals exact decide_eq_false (by omega)
  unfold joinV
  rw [hj]
  simp only [if_true]
  have : ((wordN partsL [(op : Int), (a : Int), (b : Int), (c : Int), (n : Int)] partsL.length : Nat) : Int) = wordI op a b c n := by
    simp [partsL, wordN, Fld.putN, wordI]
    omega
  rw [this]
theorem get_parts (x : Nat) (hx : x < 18446744073709551616) : partsL.map (getF · (x : Int)) = [((x % 256 : Nat) : Int), ((x / 256 % 16 : Nat) : Int), ((x / 4096 % 16 : Nat) : Int), ((x / 65536 % 16 : Nat) : Int), ((x / 1048576 : Nat) : Int)] := by
  have e : x / 1048576 % 17592186044416 = x / 1048576 := by omega
  simp [partsL, getF, rightF, rightB, Fld.getN]
  omega
theorem word_parts (x : Nat) : wordI ((x % 256 : Nat) : Int) ((x / 256 % 16 : Nat) : Int) ((x / 4096 % 16 : Nat) : Int) ((x / 65536 % 16 : Nat) : Int) ((x / 1048576 : Nat) : Int) = (x : Int) := by
  unfold wordI
  omega
theorem reg_ok {n : Int} {had : Bool} (h : regOk n had = true) : 0 ≤ n ∧ n ≤ 7 := by
  unfold regOk at h
  cases had
  · simp at h; omega
  · simp at h; omega
theorem num_ok {n : Int} {had : Bool} (h : numOk n had = true) : n ≤ 17592186044415 := by
  unfold numOk mostK at h
  cases had
  · simp at h; omega
  · simp at h; omega
theorem rightI_t {op a b c n : Int} (h : rightI op a b c n = true) : (0 ≤ op ∧ op ≤ 18) ∧ (0 ≤ a ∧ a ≤ 7) ∧ (0 ≤ b ∧ b ≤ 7) ∧ (0 ≤ c ∧ c ≤ 7) ∧ n ≤ 17592186044415 := by
  unfold rightI at h
  simp only [Bool.and_eq_true, decide_eq_true_eq] at h
  obtain ⟨⟨⟨⟨h0, h1⟩, h2⟩, h3⟩, h4⟩ := h
  exact ⟨h0, reg_ok h1, reg_ok h2, reg_ok h3, num_ok h4⟩
end Go.Proofs.YtpimflmmfnffeaaDoor
