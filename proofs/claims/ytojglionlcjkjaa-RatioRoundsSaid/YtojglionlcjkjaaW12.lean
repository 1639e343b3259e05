/- Walks: the length of a word in bits, and its leading noughts. -/
import Derived.Test.YtojglionlcjkjaaM4
import Derived.Lib.Strings
import Derived.Lib.Slices
import Derived.Lib.Small
import Derived.Lib.Walk
namespace Go.Proofs.Ytojglionlcjkjaa
open Go.RowKit

set_option maxHeartbeats 4000000 in
set_option maxRecDepth 100000 in
theorem len64_any (x : Int) (w : World) (h0 : 0 ≤ x) (h1 : x ≤ 18446744073709551615) :
    Calls Try.prog 33 #[.int .u64 x] w fun e w' => e = .returned (.int .i64 (Lib.bitLen x.toNat)) ∧ w = w' := by
  by_cases ha : 4294967296 ≤ x
  · have ha : 4294967296 ≤ x := ha
    by_cases hb : 65536 ≤ x / 4294967296
    · by_cases hc : 256 ≤ x / 4294967296 / 65536
      · have y0 : 0 ≤ x / 4294967296 / 65536 / 256 := by omega
        have y1 : x / 4294967296 / 65536 / 256 ≤ 255 := by omega
        have y2 : x / 4294967296 / 65536 / 256 < 256 := by omega
        have e8 := Lib.len8_of (x / 4294967296 / 65536 / 256) (by omega) (by omega)
        have l8 := Lib.bitLen_le8' (x / 4294967296 / 65536 / 256) (by omega) (by omega)
        have s8 := Lib.bitLen_shift56 x.toNat (by omega) (by omega)
        have e9 : (x / 4294967296 / 65536 / 256).toNat = x.toNat / 72057594037927936 := by omega
        rw [e9] at e8 l8
        rw [s8]
        clear s8
        generalize Lib.bitLen (x.toNat / 72057594037927936) = k at *
        have HE := Lib.hid e8
        clear e8
        go_enter Try.func33, Try.ntmps33
        go_wp2
        go_ret
        refine ⟨congrArg Ending.returned (congrArg (Value.int IntKind.i64) ?_), rfl⟩
        rw [HE.out]
        try simp only [wrap64]
        omega
      · have y0 : 0 ≤ x / 4294967296 / 65536 := by omega
        have y1 : x / 4294967296 / 65536 ≤ 255 := by omega
        have y2 : x / 4294967296 / 65536 < 256 := by omega
        have e8 := Lib.len8_of (x / 4294967296 / 65536) (by omega) (by omega)
        have l8 := Lib.bitLen_le8' (x / 4294967296 / 65536) (by omega) (by omega)
        have s8 := Lib.bitLen_shift48 x.toNat (by omega) (by omega)
        have e9 : (x / 4294967296 / 65536).toNat = x.toNat / 281474976710656 := by omega
        rw [e9] at e8 l8
        rw [s8]
        clear s8
        generalize Lib.bitLen (x.toNat / 281474976710656) = k at *
        have HE := Lib.hid e8
        clear e8
        go_enter Try.func33, Try.ntmps33
        go_wp2
        go_ret
        refine ⟨congrArg Ending.returned (congrArg (Value.int IntKind.i64) ?_), rfl⟩
        rw [HE.out]
        try simp only [wrap64]
        omega
    · by_cases hc : 256 ≤ x / 4294967296
      · have y0 : 0 ≤ x / 4294967296 / 256 := by omega
        have y1 : x / 4294967296 / 256 ≤ 255 := by omega
        have y2 : x / 4294967296 / 256 < 256 := by omega
        have e8 := Lib.len8_of (x / 4294967296 / 256) (by omega) (by omega)
        have l8 := Lib.bitLen_le8' (x / 4294967296 / 256) (by omega) (by omega)
        have s8 := Lib.bitLen_shift40 x.toNat (by omega) (by omega)
        have e9 : (x / 4294967296 / 256).toNat = x.toNat / 1099511627776 := by omega
        rw [e9] at e8 l8
        rw [s8]
        clear s8
        generalize Lib.bitLen (x.toNat / 1099511627776) = k at *
        have HE := Lib.hid e8
        clear e8
        go_enter Try.func33, Try.ntmps33
        go_wp2
        go_ret
        refine ⟨congrArg Ending.returned (congrArg (Value.int IntKind.i64) ?_), rfl⟩
        rw [HE.out]
        try simp only [wrap64]
        omega
      · have y0 : 0 ≤ x / 4294967296 := by omega
        have y1 : x / 4294967296 ≤ 255 := by omega
        have y2 : x / 4294967296 < 256 := by omega
        have e8 := Lib.len8_of (x / 4294967296) (by omega) (by omega)
        have l8 := Lib.bitLen_le8' (x / 4294967296) (by omega) (by omega)
        have s8 := Lib.bitLen_shift32 x.toNat (by omega) (by omega)
        have e9 : (x / 4294967296).toNat = x.toNat / 4294967296 := by omega
        rw [e9] at e8 l8
        rw [s8]
        clear s8
        generalize Lib.bitLen (x.toNat / 4294967296) = k at *
        have HE := Lib.hid e8
        clear e8
        go_enter Try.func33, Try.ntmps33
        go_wp2
        go_ret
        refine ⟨congrArg Ending.returned (congrArg (Value.int IntKind.i64) ?_), rfl⟩
        rw [HE.out]
        try simp only [wrap64]
        omega
  · have ha : ¬ 4294967296 ≤ x := ha
    by_cases hb : 65536 ≤ x
    · by_cases hc : 256 ≤ x / 65536
      · have y0 : 0 ≤ x / 65536 / 256 := by omega
        have y1 : x / 65536 / 256 ≤ 255 := by omega
        have y2 : x / 65536 / 256 < 256 := by omega
        have e8 := Lib.len8_of (x / 65536 / 256) (by omega) (by omega)
        have l8 := Lib.bitLen_le8' (x / 65536 / 256) (by omega) (by omega)
        have s8 := Lib.bitLen_shift24 x.toNat (by omega) (by omega)
        have e9 : (x / 65536 / 256).toNat = x.toNat / 16777216 := by omega
        rw [e9] at e8 l8
        rw [s8]
        clear s8
        generalize Lib.bitLen (x.toNat / 16777216) = k at *
        have HE := Lib.hid e8
        clear e8
        go_enter Try.func33, Try.ntmps33
        go_wp2
        go_ret
        refine ⟨congrArg Ending.returned (congrArg (Value.int IntKind.i64) ?_), rfl⟩
        rw [HE.out]
        try simp only [wrap64]
        omega
      · have y0 : 0 ≤ x / 65536 := by omega
        have y1 : x / 65536 ≤ 255 := by omega
        have y2 : x / 65536 < 256 := by omega
        have e8 := Lib.len8_of (x / 65536) (by omega) (by omega)
        have l8 := Lib.bitLen_le8' (x / 65536) (by omega) (by omega)
        have s8 := Lib.bitLen_shift16 x.toNat (by omega) (by omega)
        have e9 : (x / 65536).toNat = x.toNat / 65536 := by omega
        rw [e9] at e8 l8
        rw [s8]
        clear s8
        generalize Lib.bitLen (x.toNat / 65536) = k at *
        have HE := Lib.hid e8
        clear e8
        go_enter Try.func33, Try.ntmps33
        go_wp2
        go_ret
        refine ⟨congrArg Ending.returned (congrArg (Value.int IntKind.i64) ?_), rfl⟩
        rw [HE.out]
        try simp only [wrap64]
        omega
    · by_cases hc : 256 ≤ x
      · have y0 : 0 ≤ x / 256 := by omega
        have y1 : x / 256 ≤ 255 := by omega
        have y2 : x / 256 < 256 := by omega
        have e8 := Lib.len8_of (x / 256) (by omega) (by omega)
        have l8 := Lib.bitLen_le8' (x / 256) (by omega) (by omega)
        have s8 := Lib.bitLen_shift8 x.toNat (by omega) (by omega)
        have e9 : (x / 256).toNat = x.toNat / 256 := by omega
        rw [e9] at e8 l8
        rw [s8]
        clear s8
        generalize Lib.bitLen (x.toNat / 256) = k at *
        have HE := Lib.hid e8
        clear e8
        go_enter Try.func33, Try.ntmps33
        go_wp2
        go_ret
        refine ⟨congrArg Ending.returned (congrArg (Value.int IntKind.i64) ?_), rfl⟩
        rw [HE.out]
        try simp only [wrap64]
        omega
      · have y0 : 0 ≤ x := by omega
        have y1 : x ≤ 255 := by omega
        have y2 : x < 256 := by omega
        have e8 := Lib.len8_of (x) (by omega) (by omega)
        have l8 := Lib.bitLen_le8' (x) (by omega) (by omega)
        have s8 : Lib.bitLen x.toNat = 0 + Lib.bitLen x.toNat := by omega
        rw [s8]
        clear s8
        generalize Lib.bitLen (x.toNat) = k at *
        have HE := Lib.hid e8
        clear e8
        go_enter Try.func33, Try.ntmps33
        go_wp2
        go_ret
        refine ⟨congrArg Ending.returned (congrArg (Value.int IntKind.i64) ?_), rfl⟩
        rw [HE.out]
        try simp only [wrap64]
        omega

set_option maxHeartbeats 1000000 in
theorem lead_any (x : Nat) (w : World) (h1 : x < 18446744073709551616) :
    Calls Try.prog 32 #[.int .u64 x] w fun e w' => e = .returned (.int .i64 ((64 - Lib.bitLen x : Nat) : Int)) ∧ w = w' := by
  have hb := Lib.bitLen_le x 64 (by omega) (by simpa using h1)
  have H := Lib.hid (fun W => len64_any (x : Int) W (by omega) (by omega))
  rw [Int.toNat_natCast] at H
  generalize Lib.bitLen x = k at *
  go_enter Try.func32, Try.ntmps32
  go_wp2_with fail
  refine (H.out _).mono ?_
  rintro e w2 ⟨rfl, rfl⟩
  go_wp2_with fail
  go_ret
  refine ⟨ret_int ?_, rfl⟩
  omega
end Go.Proofs.Ytojglionlcjkjaa
