/- The statement CpuWords: the cases joined. -/
import Derived.Test.YtpimflmmfnffeaaDoorD5
namespace Go.Proofs.YtpimflmmfnffeaaDoor
open Go.RowKit

theorem get_word (n0 n1 n2 n3 n4 : Nat) (h0 : n0 ≤ 18) (h1 : n1 ≤ 7) (h2 : n2 ≤ 7) (h3 : n3 ≤ 7) (h4 : n4 ≤ 17592186044415) (x : Nat) (hx : (x : Int) = wordI n0 n1 n2 n3 n4) : x < 18446744073709551616 ∧ partsL.map (getF · (x : Int)) = [(n0 : Int), (n1 : Int), (n2 : Int), (n3 : Int), (n4 : Int)] := by
  have hx2 : x = n0 + 256 * n1 + 4096 * n2 + 65536 * n3 + 1048576 * n4 := by unfold wordI at hx; omega
  have hlt : x < 18446744073709551616 := by omega
  refine ⟨hlt, ?_⟩
  rw [get_parts x hlt]
  have a0 : x % 256 = n0 := by omega
  have a1 : x / 256 % 16 = n1 := by omega
  have a2 : x / 4096 % 16 = n2 := by omega
  have a3 : x / 65536 % 16 = n3 := by omega
  have a4 : x / 1048576 = n4 := by omega
  rw [a0, a1, a2, a3, a4]

theorem words_any (n0 n1 n2 n3 n4 : Int) (x : Nat) (w : World) (hn : Names w) (h4 : 0 ≤ n4) (hx : x < 18446744073709551616) : Calls Tryd.prog 3 #[.agg #[.int .i64 n0, .int .i64 n1, .int .i64 n2, .int .i64 n3, .int .u64 n4], .int .u64 x] w fun e w' => e = .returned (.bool true) ∧ Below w.heap.size w w' := by
  obtain ⟨m0, e0⟩ : ∃ m, m = x % 256 := ⟨_, rfl⟩
  obtain ⟨m1, e1⟩ : ∃ m, m = x / 256 % 16 := ⟨_, rfl⟩
  obtain ⟨m2, e2⟩ : ∃ m, m = x / 4096 % 16 := ⟨_, rfl⟩
  obtain ⟨m3, e3⟩ : ∃ m, m = x / 65536 % 16 := ⟨_, rfl⟩
  obtain ⟨m4, e4⟩ : ∃ m, m = x / 1048576 := ⟨_, rfl⟩
  have hP : partsL.map (getF · (x : Int)) = [(m0 : Int), (m1 : Int), (m2 : Int), (m3 : Int), (m4 : Int)] := by rw [get_parts x hx, e0, e1, e2, e3, e4]
  have hs : m0 < 1000000000 ∧ m1 < 1000000000 ∧ m2 < 1000000000 ∧ m3 < 1000000000 := by omega
  have hw : wordI m0 m1 m2 m3 m4 = x := by rw [e0, e1, e2, e3, e4]; exact word_parts x
  have HD := fun (q : Bool) (hq : rightI m0 m1 m2 m3 m4 = q) (W : World) => decode_num x m0 m1 m2 m3 m4 W hx hP hs q hq
  have HE := fun (q : Bool) (hq : rightI m0 m1 m2 m3 m4 = q) (W : World) => refDecode_num x m0 m1 m2 m3 m4 W hx e0 e1 e2 e3 e4 q hq
  have HR := fun (W : World) => right_inst n0 n1 n2 n3 n4 W h4
  have HQ := fun (W : World) => refRight_any n0 n1 n2 n3 n4 W h4
  obtain ⟨s, HN, HM⟩ : ∃ s : ByteArray, Hid (∀ W, Names W → Calls Tryd.prog 10 #[.int .i64 n0] W fun e w' => e = .returned (.string s) ∧ W = w') ∧ Hid (∀ W : World, Calls Tryd.prog 11 #[.int .i64 n0] W fun e w' => e = .returned (.string s) ∧ Below W.heap.size W w') := by
    by_cases h0 : 0 ≤ n0 ∧ n0 ≤ 18
    · obtain ⟨k, rfl⟩ := Int.eq_ofNat_of_zero_le h0.1
      exact ⟨_, fun W hW => name_yes k W (by omega) (hW k (by omega)), fun W => refName_yes k W (by omega)⟩
    · exact ⟨_, fun W _ => name_no n0 W h0, fun W => refName_no n0 W h0⟩
  have HU0 : Hid (∀ W : World, Calls Tryd.prog 5 #[.agg #[.int .i64 0, .int .i64 0, .int .i64 0, .int .i64 0, .int .u64 0]] W fun e w' => e = .returned (.tuple #[.int .u64 0, .int .i64 0]) ∧ Below W.heap.size W w') := fun W => word_yes 0 0 0 0 0 W (by decide +kernel)
  cases hr : rightI n0 n1 n2 n3 n4
  · rw [hr] at HR HQ
    have HW := fun (W : World) => word_no n0 n1 n2 n3 n4 W h4 hr
    cases hq : rightI m0 m1 m2 m3 m4
    · exact words_nn n0 n1 n2 n3 n4 0 0 0 0 0 x s w hn HW (HD false hq) (HE false hq) HU0 HR HQ HN HM
    · have HU := fun (W : World) => word_yes m0 m1 m2 m3 m4 W hq
      rw [hw] at HU
      exact words_yn n0 n1 n2 n3 n4 m0 m1 m2 m3 m4 x s w hn HW (HD true hq) (HE true hq) HU HR HQ HN HM
  · rw [hr] at HR HQ
    have ht := rightI_t hr
    obtain ⟨a, rfl⟩ := Int.eq_ofNat_of_zero_le ht.1.1
    obtain ⟨b, rfl⟩ := Int.eq_ofNat_of_zero_le ht.2.1.1
    obtain ⟨c, rfl⟩ := Int.eq_ofNat_of_zero_le ht.2.2.1.1
    obtain ⟨d, rfl⟩ := Int.eq_ofNat_of_zero_le ht.2.2.2.1.1
    obtain ⟨e, rfl⟩ := Int.eq_ofNat_of_zero_le h4
    obtain ⟨y, hy⟩ : ∃ y : Nat, (y : Int) = wordI a b c d e := ⟨(wordI a b c d e).toNat, by unfold wordI; omega⟩
    have hg := get_word a b c d e (by omega) (by omega) (by omega) (by omega) (by omega) y hy
    have HW := fun (W : World) => word_yes a b c d e W hr
    have HV := fun (W : World) => refWord_yes a b c d e W (by omega) (by omega) (by omega) (by omega) (by omega)
    have HP := fun (W : World) => decode_num y a b c d e W hg.1 hg.2 (by omega) true hr
    rw [← hy] at HW HV
    cases hq : rightI m0 m1 m2 m3 m4
    · exact words_ny a b c d e 0 0 0 0 0 x y s w hn HW (HD false hq) (HE false hq) HU0 HR HQ HN HM HP HV
    · have HU := fun (W : World) => word_yes m0 m1 m2 m3 m4 W hq
      rw [hw] at HU
      exact words_yy a b c d e m0 m1 m2 m3 m4 x y s w hn HW (HD true hq) (HE true hq) HU HR HQ HN HM HP HV
end Go.Proofs.YtpimflmmfnffeaaDoor
