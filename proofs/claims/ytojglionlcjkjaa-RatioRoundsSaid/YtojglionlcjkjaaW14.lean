/- Walk: bits.Div64. -/
import Derived.Test.YtojglionlcjkjaaW13
namespace Go.Proofs.Ytojglionlcjkjaa
open Go.RowKit

theorem ret_two {k : IntKind} {a b c d : Int} (h1 : a = b) (h2 : c = d) : Ending.returned (.tuple #[.int k a, .int k c]) = .returned (.tuple #[.int k b, .int k d]) := by rw [h1, h2]
theorem wr (a : Int) (n : Nat) (h : a = (n : Int) ∨ (a % 18446744073709551616 = (n : Int))) (hn : n < 18446744073709551616) : IntKind.u64.wrap a = (n : Int) := by
  rw [IntKind.wrap_u64]
  rcases h with h | h <;> omega
/-- a digit's first guess, as the code reckons it -/
theorem dig_eqs (u u1 v1 v0 : Nat) (hv : 4294967296 ≤ 2 * v1) (hv2 : v1 < 4294967296) (hv0 : v0 < 4294967296) (hu : u < v1 * 4294967296 + v0) (hu1 : u1 < 4294967296) :
    ∃ q p r : Nat, IntKind.u64.wrap ((u : Int) / (v1 : Int)) = (q : Int) ∧ IntKind.u64.wrap ((q : Int) * (v1 : Int)) = (p : Int) ∧ IntKind.u64.wrap ((u : Int) - (p : Int)) = (r : Int) ∧ Dig u u1 v1 v0 q r ∧ r < 4294967296 := by
  have hd := dig_init (u1 := u1) hv hv0 hu hu1
  have h1 := Nat.div_add_mod u v1
  have h2 := Nat.mod_lt u (show 0 < v1 by omega)
  rw [Nat.mul_comm] at h1
  have hq : u / v1 ≤ u := Nat.div_le_self _ _
  refine ⟨u / v1, u / v1 * v1, u % v1, ?_, ?_, ?_, hd, by omega⟩
  · refine wr _ _ (.inl ?_) (by omega)
    rw [Int.natCast_ediv]
  · refine wr _ _ (.inl (Int.natCast_mul _ _).symm) (by omega)
  · refine wr _ _ (.inl (by omega)) (by omega)
/-- what is left behind a digit -/
theorem left_eqs (u u1 y q : Nat) (h1 : q * y ≤ u * 4294967296 + u1) (h2 : u * 4294967296 + u1 < (q + 1) * y) (hy : y < 18446744073709551616) :
    ∃ a b c r : Nat, IntKind.u64.wrap ((u : Int) * 4294967296) = (a : Int) ∧ IntKind.u64.wrap ((a : Int) + (u1 : Int)) = (b : Int) ∧ IntKind.u64.wrap ((q : Int) * (y : Int)) = (c : Int) ∧ IntKind.u64.wrap ((b : Int) - (c : Int)) = (r : Int) ∧ r = (u * 4294967296 + u1) % y ∧ q = (u * 4294967296 + u1) / y ∧ r < y := by
  obtain ⟨e1, e2⟩ := div_of h1 h2
  rw [Nat.add_mul, Nat.one_mul] at h2
  have hm : (q : Int) * (y : Int) = ((q * y : Nat) : Int) := (Int.natCast_mul _ _).symm
  rw [hm]
  generalize q * y = T at *
  refine ⟨(u * 4294967296) % 18446744073709551616, (u * 4294967296 + u1) % 18446744073709551616, T % 18446744073709551616, u * 4294967296 + u1 - T, ?_, ?_, ?_, ?_, e2.symm, e1.symm, by omega⟩
  all_goals (rw [IntKind.wrap_u64]; omega)

set_option maxRecDepth 100000 in
set_option maxHeartbeats 8000000 in
theorem div64_nz (hi lo y : Nat) (w : World) (h1 : hi < y) (h2 : lo < 18446744073709551616) (h3 : y < 18446744073709551616) (h0 : 0 < hi) :
    Calls Try.prog 31 #[.int .u64 hi, .int .u64 lo, .int .u64 y] w fun e w' => e = .returned (.tuple #[.int .u64 (((hi * 18446744073709551616 + lo) / y : Nat) : Int), .int .u64 (((hi * 18446744073709551616 + lo) % y : Nat) : Int)]) ∧ w = w' := by
  obtain ⟨X, hX⟩ : ∃ X, X = hi * 18446744073709551616 + lo := ⟨_, rfl⟩
  rw [← hX]
  have HX := Lib.hid hX
  clear hX
  obtain ⟨n1, n2, n3, n4⟩ := norm_bounds y (by omega) h3
  have HL := Lib.hid (lead_any y w h3)
  obtain ⟨k, hk⟩ : ∃ k, k = 64 - Lib.bitLen y := ⟨_, rfl⟩
  rw [← hk] at n3 n4 HL
  have hk2 : k ≤ 63 := by omega
  clear hk n1 n2
  obtain ⟨hP, hl, hh⟩ := shift_parts hi lo y k hk2 h1 h2 n4 n3
  have pc : (2 : Int) ^ k = ((2 ^ k : Nat) : Int) := by rw [Int.natCast_pow]; rfl
  have pc2 : (2 : Int) ^ (64 - k) = ((2 ^ (64 - k) : Nat) : Int) := by rw [Int.natCast_pow]; rfl
  have e1 : IntKind.u64.wrap ((y : Int) * 2 ^ k) = ((y * 2 ^ k : Nat) : Int) := wr _ _ (.inl (by rw [pc, Int.natCast_mul])) n4
  have e2 : IntKind.u64.wrap ((hi : Int) * 2 ^ k) = ((hi * 2 ^ k : Nat) : Int) := wr _ _ (.inl (by rw [pc, Int.natCast_mul])) hh
  have e3 : IntKind.u64.wrap ((lo : Int) * 2 ^ k) = ((lo * 2 ^ k % 18446744073709551616 : Nat) : Int) := wr _ _ (.inr (by rw [pc, ← Int.natCast_mul]; omega)) (by omega)
  have e4 : (lo : Int) / 2 ^ (64 - k) = ((lo / 2 ^ (64 - k) : Nat) : Int) := by rw [pc2, Int.natCast_ediv]
  have hun := hP.un
  have hlo : lo / 2 ^ (64 - k) < 18446744073709551616 := Nat.lt_of_le_of_lt (Nat.div_le_self _ _) h2
  have e5 := or_parts hi k (lo / 2 ^ (64 - k)) hl hh hlo (by omega)
  have e6 : ((y * 2 ^ k : Nat) : Int) / 4294967296 = ((y * 2 ^ k / 4294967296 : Nat) : Int) := by omega
  have e7 := Mul64.maskN (y * 2 ^ k) n4
  have hll : lo * 2 ^ k % 18446744073709551616 < 18446744073709551616 := Nat.mod_lt _ (by omega)
  have e8 : ((lo * 2 ^ k % 18446744073709551616 : Nat) : Int) / 4294967296 = ((lo * 2 ^ k % 18446744073709551616 / 4294967296 : Nat) : Int) := by omega
  have e9 := Mul64.maskN (lo * 2 ^ k % 18446744073709551616) hll
  have hye := hP.y1
  clear pc pc2 n3 hun hl hh hlo hll
  have HYP := Lib.hid hP
  clear hP
  generalize y * 2 ^ k / 4294967296 = V1 at *
  generalize y * 2 ^ k % 4294967296 = V0 at *
  generalize lo * 2 ^ k % 18446744073709551616 / 4294967296 = U1 at *
  generalize lo * 2 ^ k % 18446744073709551616 % 4294967296 = U0 at *
  generalize hi * 2 ^ k + lo / 2 ^ (64 - k) = UN at *
  generalize lo * 2 ^ k % 18446744073709551616 = LL at *
  generalize lo / 2 ^ (64 - k) = LH at *
  generalize hi * 2 ^ k = HH at *
  generalize y * 2 ^ k = Y at *
  clear hye
  have hP := HYP.out
  have yV := hP.y2
  have hv1 := hP.v1
  have hv2 := hP.v2
  have hv3 := hP.v3
  have hu := hP.un
  have hu1 := hP.u1
  have hu0 := hP.u0
  clear hP
  rw [yV] at hu
  obtain ⟨q, p, r, d1, d2, d3, hd, hr⟩ := dig_eqs UN U1 V1 V0 hv1 hv2 hv3 hu hu1
  have HU := Lib.hid hu
  have HYV := Lib.hid yV
  clear hu yV
  have v10 : ¬ (V1 : Int) = 0 := by omega
  have q0 : ¬ (y : Int) = 0 := by omega
  have q1 : ¬ (y : Int) ≤ (hi : Int) := by omega
  have q2 : ¬ (hi : Int) = 0 := by omega
  have HD := Lib.hid hd
  clear hd
  go_enter Try.func31, Try.ntmps31
  go_wp2_with fail
  refine HL.out.mono ?_
  rintro e w2 ⟨rfl, rfl⟩
  go_upto_block 0 with (fail)
  go_cut [15, 16] (fun s15 s16 wx => ∃ (q r : Nat), s15 = .int .u64 q ∧ s16 = .int .u64 r ∧ wx = w ∧ Hid (q * Y ≤ UN * 4294967296 + U1 ∧ UN * 4294967296 + U1 < (q + 1) * Y))
  case first =>
    clear e1 e2 e3 e4 e5 e6 e7 e8 e9 d1 d2 d3
    go_wp2_with fail
    go_loop [15, 16] (fun s15 s16 => ∃ (q r : Nat), s15 = .int .u64 q ∧ s16 = .int .u64 r ∧ r < 4294967296 ∧ Hid (Dig UN U1 V1 V0 q r)) (fun i _ => (intOf i).toNat)
    case atStart => exact ⟨q, r, rfl, rfl, hr, HD.out⟩
    case round =>
      clear HD hr
      obtain ⟨q, r, rfl, rfl, hr, HD⟩ := hrel
      have hle := HD.out.le
      by_cases hg : 4294967296 ≤ q
      · have hg' : (4294967296 : Int) ≤ (q : Int) := by omega
        obtain ⟨hq1, hd2⟩ := dig_step HD.out HU.out hu1 (.inl hg)
        have HD2 := Lib.hid hd2
        clear hd2
        by_cases hb : 4294967296 ≤ r + V1
        · have hb' : (4294967296 : Int) ≤ (r : Int) + (V1 : Int) := by omega
          have HE := Lib.hid (dig_end HD2.out (dig_break HD2.out (by omega) hv3 hb))
          go_wp2_with fail
          go_meet
          refine ⟨q - 1, r + V1, by congr 1; omega, by congr 1, rfl, ?_⟩
          show _ ∧ _
          rw [HYV.out]
          exact HE.out
        · have hb' : ¬ (4294967296 : Int) ≤ (r : Int) + (V1 : Int) := by omega
          go_wp2_with fail
          go_round
          case rel => exact ⟨q - 1, r + V1, by congr 1; omega, by congr 1, by omega, HD2.out⟩
          case measure => simp [intOf]; omega
      · have hg' : ¬ (4294967296 : Int) ≤ (q : Int) := by omega
        have hm := Lib.half_mul_le (a := q) (b := V0) (by omega) (by omega)
        obtain ⟨R, hR⟩ : ∃ R, R = q * V0 := ⟨_, rfl⟩
        rw [← hR] at hm
        have f1 : IntKind.u64.wrap ((q : Int) * (V0 : Int)) = (R : Int) := wr _ _ (.inl (by rw [hR, Int.natCast_mul])) (by omega)
        have f2 : IntKind.u64.wrap (4294967296 * (r : Int)) = 4294967296 * (r : Int) := by rw [IntKind.wrap_u64]; omega
        have f3 : IntKind.u64.wrap (4294967296 * (r : Int) + (U1 : Int)) = 4294967296 * (r : Int) + (U1 : Int) := by rw [IntKind.wrap_u64]; omega
        by_cases hg2 : 4294967296 * r + U1 < R
        · have hg2' : 4294967296 * (r : Int) + (U1 : Int) < (R : Int) := by omega
          obtain ⟨hq1, hd2⟩ := dig_step HD.out HU.out hu1 (.inr (by rw [← hR]; exact hg2))
          have HD2 := Lib.hid hd2
          clear hd2 hR
          by_cases hb : 4294967296 ≤ r + V1
          · have hb' : (4294967296 : Int) ≤ (r : Int) + (V1 : Int) := by omega
            have HE := Lib.hid (dig_end HD2.out (dig_break HD2.out (by omega) hv3 hb))
            go_wp2_with fail
            go_meet
            refine ⟨q - 1, r + V1, by congr 1; omega, by congr 1, rfl, ?_⟩
            show _ ∧ _
            rw [HYV.out]
            exact HE.out
          · have hb' : ¬ (4294967296 : Int) ≤ (r : Int) + (V1 : Int) := by omega
            go_wp2_with fail
            go_round
            case rel => exact ⟨q - 1, r + V1, by congr 1; omega, by congr 1, by omega, HD2.out⟩
            case measure => simp [intOf]; omega
        · have hg2' : ¬ 4294967296 * (r : Int) + (U1 : Int) < (R : Int) := by omega
          have HE := Lib.hid (dig_end HD.out (by rw [← hR]; omega))
          clear hR
          go_wp2_with fail
          go_meet
          refine ⟨q, r, rfl, rfl, rfl, ?_⟩
          show _ ∧ _
          rw [HYV.out]
          exact HE.out
  case rest =>
    clear e2 e3 e4 e5 d1 d2 d3 HD hr
    obtain ⟨q1, r1, rfl, rfl, hwc, HQ⟩ := hcut
    subst hwc
    obtain ⟨a, b, c, U2, l1, l2, l3, l4, hU2, hq, hU2y⟩ := left_eqs UN U1 Y q1 HQ.out.1 HQ.out.2 n4
    have HU2E := Lib.hid hU2
    have HQ1 := Lib.hid hq
    clear hU2 hq HQ
    have HU2 : Hid (U2 < V1 * 4294967296 + V0) := by unfold Hid; rw [← HYV.out]; exact hU2y
    obtain ⟨q, p, r, d1, d2, d3, hd, hr⟩ := dig_eqs U2 U0 V1 V0 hv1 hv2 hv3 HU2.out hu0
    have HD := Lib.hid hd
    clear hd
    go_upto_block 2 with (fail)
    go_cut [16, 18] (fun s16 s15 wx => ∃ (q r : Nat), s15 = .int .u64 q ∧ s16 = .int .u64 r ∧ wx = wc ∧ Hid (q * Y ≤ U2 * 4294967296 + U0 ∧ U2 * 4294967296 + U0 < (q + 1) * Y))
    case first =>
      clear d1 d2 d3
      go_wp2_with fail
      go_loop [16, 18] (fun s16 s15 => ∃ (q r : Nat), s15 = .int .u64 q ∧ s16 = .int .u64 r ∧ r < 4294967296 ∧ Hid (Dig U2 U0 V1 V0 q r)) (fun _ i => (intOf i).toNat)
      case atStart => exact ⟨q, r, rfl, rfl, hr, HD.out⟩
      case round =>
        clear HD hr
        obtain ⟨q, r, rfl, rfl, hr, HD⟩ := hrel
        have hle := HD.out.le
        by_cases hg : 4294967296 ≤ q
        · have hg' : (4294967296 : Int) ≤ (q : Int) := by omega
          obtain ⟨hq1, hd2⟩ := dig_step HD.out HU2.out hu0 (.inl hg)
          have HD2 := Lib.hid hd2
          clear hd2
          by_cases hb : 4294967296 ≤ r + V1
          · have hb' : (4294967296 : Int) ≤ (r : Int) + (V1 : Int) := by omega
            have HE := Lib.hid (dig_end HD2.out (dig_break HD2.out (by omega) hv3 hb))
            go_wp2_with fail
            go_meet
            refine ⟨q - 1, r + V1, by congr 1; omega, by congr 1, rfl, ?_⟩
            show _ ∧ _
            rw [HYV.out]
            exact HE.out
          · have hb' : ¬ (4294967296 : Int) ≤ (r : Int) + (V1 : Int) := by omega
            go_wp2_with fail
            go_round
            case rel => exact ⟨q - 1, r + V1, by congr 1; omega, by congr 1, by omega, HD2.out⟩
            case measure => simp [intOf]; omega
        · have hg' : ¬ (4294967296 : Int) ≤ (q : Int) := by omega
          have hm := Lib.half_mul_le (a := q) (b := V0) (by omega) (by omega)
          obtain ⟨R, hR⟩ : ∃ R, R = q * V0 := ⟨_, rfl⟩
          rw [← hR] at hm
          have f1 : IntKind.u64.wrap ((q : Int) * (V0 : Int)) = (R : Int) := wr _ _ (.inl (by rw [hR, Int.natCast_mul])) (by omega)
          have f2 : IntKind.u64.wrap (4294967296 * (r : Int)) = 4294967296 * (r : Int) := by rw [IntKind.wrap_u64]; omega
          have f3 : IntKind.u64.wrap (4294967296 * (r : Int) + (U0 : Int)) = 4294967296 * (r : Int) + (U0 : Int) := by rw [IntKind.wrap_u64]; omega
          by_cases hg2 : 4294967296 * r + U0 < R
          · have hg2' : 4294967296 * (r : Int) + (U0 : Int) < (R : Int) := by omega
            obtain ⟨hq1, hd2⟩ := dig_step HD.out HU2.out hu0 (.inr (by rw [← hR]; exact hg2))
            have HD2 := Lib.hid hd2
            clear hd2 hR
            by_cases hb : 4294967296 ≤ r + V1
            · have hb' : (4294967296 : Int) ≤ (r : Int) + (V1 : Int) := by omega
              have HE := Lib.hid (dig_end HD2.out (dig_break HD2.out (by omega) hv3 hb))
              go_wp2_with fail
              go_meet
              refine ⟨q - 1, r + V1, by congr 1; omega, by congr 1, rfl, ?_⟩
              show _ ∧ _
              rw [HYV.out]
              exact HE.out
            · have hb' : ¬ (4294967296 : Int) ≤ (r : Int) + (V1 : Int) := by omega
              go_wp2_with fail
              go_round
              case rel => exact ⟨q - 1, r + V1, by congr 1; omega, by congr 1, by omega, HD2.out⟩
              case measure => simp [intOf]; omega
          · have hg2' : ¬ 4294967296 * (r : Int) + (U0 : Int) < (R : Int) := by omega
            have HE := Lib.hid (dig_end HD.out (by rw [← hR]; omega))
            clear hR
            go_wp2_with fail
            go_meet
            refine ⟨q, r, rfl, rfl, rfl, ?_⟩
            show _ ∧ _
            rw [HYV.out]
            exact HE.out
    case rest =>
      clear d1 d2 d3 HD hr l1 l2 l3 l4
      obtain ⟨q2, r2, rfl, rfl, hwc, HQ⟩ := hcut
      subst hwc
      obtain ⟨a, b, c, R2, l1, l2, l3, l4, hR2, hq, hR2y⟩ := left_eqs U2 U0 Y q2 HQ.out.1 HQ.out.2 n4
      have hP := HYP.out
      have hY0 : 0 < Y := by omega
      obtain ⟨t1, t2⟩ := two_digits (UN * 4294967296 + U1) U0 Y hY0
      obtain ⟨s1, s2⟩ := div_scaled X y (2 ^ k) (Nat.pos_of_ne_zero (by simp))
      have hPx := hP.x
      rw [← HX.out] at hPx
      rw [hPx, ← HQ1.out, ← HU2E.out, ← hq, hP.y1, s1] at t1
      rw [hPx, ← HU2E.out, ← hR2, hP.y1, s2] at t2
      have hq2 : q2 < 4294967296 := by
        rw [hq]
        exact Nat.div_lt_of_lt_mul (by omega)
      have hq1 : q1 < 4294967296 := by
        have h := hP.un
        rw [HQ1.out]
        exact Nat.div_lt_of_lt_mul (by omega)
      have g1 : IntKind.u64.wrap ((q1 : Int) * 4294967296) = (q1 : Int) * 4294967296 := by rw [IntKind.wrap_u64]; omega
      have g2 : IntKind.u64.wrap ((q1 : Int) * 4294967296 + (q2 : Int)) = (q1 : Int) * 4294967296 + (q2 : Int) := by rw [IntKind.wrap_u64]; omega
      have g3 : (R2 : Int) / 2 ^ k = ((X % y : Nat) : Int) := by
        rw [← t2, show (2 : Int) ^ k = ((2 ^ k : Nat) : Int) by rw [Int.natCast_pow]; rfl, ← Int.natCast_ediv, Nat.mul_div_cancel _ (Nat.pos_of_ne_zero (by simp))]
      have HT := Lib.hid t1
      have hkk : (k : Int) < 64 := by omega
      clear t1 t2 s1 s2 hP hq hR2 HQ hq1 hq2 hPx
      go_wp2_with fail
      go_ret2
      exact ⟨ret_two (show (q1 : Int) * 4294967296 + (q2 : Int) = ((X / y : Nat) : Int) by have := HT.out; omega) rfl, rfl⟩

set_option maxRecDepth 100000 in
set_option maxHeartbeats 2000000 in
theorem div64_any (hi lo y : Nat) (w : World) (h1 : hi < y) (h2 : lo < 18446744073709551616) (h3 : y < 18446744073709551616) :
    Calls Try.prog 31 #[.int .u64 hi, .int .u64 lo, .int .u64 y] w fun e w' => e = .returned (.tuple #[.int .u64 (((hi * 18446744073709551616 + lo) / y : Nat) : Int), .int .u64 (((hi * 18446744073709551616 + lo) % y : Nat) : Int)]) ∧ Below w.heap.size w w' := by
  by_cases h0 : 0 < hi
  · refine (div64_nz hi lo y w h1 h2 h3 h0).mono ?_
    rintro e w' ⟨rfl, rfl⟩
    exact ⟨rfl, Below.refl _ _⟩
  · obtain rfl : hi = 0 := by omega
    have q0 : ¬ (y : Int) = 0 := by omega
    have q1 : ¬ (y : Int) ≤ 0 := by omega
    have e1 : (0 * 18446744073709551616 + lo) = lo := by omega
    rw [e1]
    clear e1
    have hd := Nat.div_le_self lo y
    have hm := Nat.mod_lt lo (show 0 < y by omega)
    have e2 : IntKind.u64.wrap ((lo : Int) / (y : Int)) = ((lo / y : Nat) : Int) := wr _ _ (.inl (by rw [Int.natCast_ediv])) (by omega)
    have e3 : IntKind.u64.wrap ((lo : Int) % (y : Int)) = ((lo % y : Nat) : Int) := wr _ _ (.inl (by rw [Int.natCast_emod])) (by omega)
    have e4 : (lo : Int) / (y : Int) = ((lo / y : Nat) : Int) := (Int.natCast_ediv _ _).symm
    have e5 : (lo : Int) % (y : Int) = ((lo % y : Nat) : Int) := (Int.natCast_emod _ _).symm
    generalize lo / y = Q at *
    generalize lo % y = R at *
    go_enter Try.func31, Try.ntmps31
    go_wp2_with fail
    go_quiet (fail)
    go_wp2_with fail
    go_ret2
    exact ⟨ret_two rfl e5, bdrewN (Below.refl _ _) _⟩
end Go.Proofs.Ytojglionlcjkjaa
