/- Walks: who has a tick, how many nobody has; the chapter's example. -/
import Derived.Test.YtkhbnklaglnfdaaW2
namespace Go.Proofs.Ytkhbnklaglnfdaa
open Go.RowKit

def atV (T : List Int) (now : Int) : Int := if T.length = 0 ∨ now < 0 then -1 else if tAt T (now.toNat % T.length) < -1 then -1 else tAt T (now.toNat % T.length)
theorem at_any (A : Option Addr) (T : List Int) (c : Nat) (now : Int) (w : World) (hs : Sl eI 1 w A T) (hm : T.length ≤ 9223372036854775807) (hn : now ≤ 9223372036854775807) :
    Calls Try.prog 9 #[.slice A T.length c, .int .i64 now] w fun e w' => e = .returned (.int .i64 (atV T now)) ∧ w = w' := by
  have HV : Hid (atV T now = if T.length = 0 ∨ now < 0 then -1 else if tAt T (now.toNat % T.length) < -1 then -1 else tAt T (now.toNat % T.length)) := rfl
  generalize atV T now = v at *
  by_cases h0 : T.length = 0
  · have HV2 : Hid (v = -1) := by have := HV.out; rw [if_pos (.inl h0)] at this; exact this
    clear HV
    have h0' : ((T.length : Int) == 0) = true := by simp [h0]
    go_enter Try.func9, Try.ntmps9
    go_wp2_with fail
    go_ret
    exact ⟨ret_int HV2.out.symm, rfl⟩
  · have h0' : ((T.length : Int) == 0) = false := beq_eq_false_iff_ne.2 (by omega)
    have h1' : ¬ (T.length : Int) = 0 := by omega
    by_cases h1 : now < 0
    · have HV2 : Hid (v = -1) := by have := HV.out; rw [if_pos (.inr h1)] at this; exact this
      clear HV
      go_enter Try.func9, Try.ntmps9
      go_wp2_with fail
      go_ret
      exact ⟨ret_int HV2.out.symm, rfl⟩
    · have HV2 : Hid (v = if tAt T (now.toNat % T.length) < -1 then -1 else tAt T (now.toNat % T.length)) := by have := HV.out; rw [if_neg (by omega)] at this; exact this
      clear HV
      obtain ⟨u, rfl⟩ := Int.eq_ofNat_of_zero_le (show 0 ≤ now by omega)
      rw [Int.toNat_natCast] at HV2
      have hlt : u % T.length < T.length := Nat.mod_lt _ (by omega)
      obtain ⟨b, off, rfl, c0⟩ := hs.int_at hlt
      rw [← tAt_eq] at c0
      have e1 : (u : Int) % (T.length : Int) = ((u % T.length : Nat) : Int) := by rw [Int.natCast_emod]
      have e2 := tmod_in u T.length (by omega)
      generalize u % T.length = q at *
      generalize tAt T q = x at *
      have q0 : (0 : Int) ≤ (q : Int) := by omega
      have q1 : (q : Int) < (T.length : Int) := by omega
      have hu : (0 : Int) ≤ (u : Int) := by omega
      by_cases hx : x < -1
      · have HV3 : Hid (v = -1) := by have := HV2.out; rw [if_pos hx] at this; exact this
        clear HV2
        go_enter Try.func9, Try.ntmps9
        go_wp2_with fail
        go_ret
        refine ⟨ret_int ?_, rfl⟩
        rw [HV3.out]
      · have HV3 : Hid (v = x) := by have := HV2.out; rw [if_neg hx] at this; exact this
        clear HV2
        go_enter Try.func9, Try.ntmps9
        go_wp2_with fail
        go_ret
        refine ⟨ret_int ?_, rfl⟩
        rw [HV3.out]

/-- how many of the first k ticks nobody has -/
def idN (T : List Int) : Nat → Nat
  | 0 => 0
  | k + 1 => idN T k + (if tAt T k < 0 then 1 else 0)
theorem idN_le (T : List Int) : ∀ k, idN T k ≤ k
  | 0 => Nat.le_refl _
  | k + 1 => by rw [idN]; have := idN_le T k; split <;> omega
set_option maxHeartbeats 1000000 in
theorem idle_any (A : Option Addr) (T : List Int) (c : Nat) (w : World) (hs : Sl eI 1 w A T) (hm : T.length ≤ 9223372036854775807) :
    Calls Try.prog 11 #[.slice A T.length c] w fun e w' => e = .returned (.int .i64 (idN T T.length : Nat)) ∧ w = w' := by
  go_enter Try.func11, Try.ntmps11
  go_wp2_with fail
  go_loop [3, 8] (fun s i => ∃ k n : Nat, k ≤ T.length ∧ i = .int .i64 k ∧ s = .int .i64 n ∧ n ≤ k ∧ Hid (n = idN T k)) (fun _ i => T.length - (intOf i).toNat)
  case atStart => exact ⟨0, 0, Nat.zero_le _, rfl, rfl, Nat.le_refl _, rfl⟩
  case round =>
    obtain ⟨k, n, hk, rfl, rfl, hn, HN⟩ := hrel
    by_cases hlt : k < T.length
    · obtain ⟨b, off, rfl, c0⟩ := hs.int_at hlt
      rw [← tAt_eq] at c0
      have HE : Hid (idN T (k + 1) = n + (if tAt T k < 0 then 1 else 0)) := by show _ = _; rw [idN, ← HN.out]
      have k0 : (0 : Int) ≤ (k : Int) := by omega
      have k1 : (k : Int) < (T.length : Int) := by omega
      generalize tAt T k = x at *
      clear HN
      by_cases hx : x < 0
      · have HE2 : Hid (idN T (k + 1) = n + 1) := by have := HE.out; rw [if_pos hx] at this; exact this
        go_wp2_with fail
        go_round
        case rel => exact ⟨k + 1, n + 1, by omega, by go_num, by go_num, by omega, HE2.out.symm⟩
        case measure => simp [intOf]; omega
      · have HE2 : Hid (idN T (k + 1) = n) := by have := HE.out; rw [if_neg hx] at this; exact this
        go_wp2_with fail
        go_round
        case rel => exact ⟨k + 1, n, by omega, by go_num, rfl, by omega, HE2.out.symm⟩
        case measure => simp [intOf]; omega
    · obtain rfl : k = T.length := by omega
      go_wp2_with fail
      go_ret
      exact ⟨ret_int (by rw [HN.out]), rfl⟩

def sameL (a b : List Int) : Bool := decide (a = b)
theorem same_no (a b : List Int) (k : Nat) (h1 : k < a.length) (h2 : k < b.length) (h : ¬ a[k] = b[k]) : sameL a b = false := decide_eq_false (fun e => h (by subst e; rfl))
theorem same_end (a b : List Int) (k : Nat) (ht : a.take k = b.take k) (h : k = a.length ∨ k = b.length) (_ha : k ≤ a.length) (_hb : k ≤ b.length) : ((a.length : Int) == (b.length : Int)) = sameL a b := by
  rw [sameL, Bool.eq_iff_iff]
  simp only [beq_iff_eq, decide_eq_true_eq]
  constructor
  · intro he
    have h2 : a.take k = a := List.take_of_length_le (by omega)
    have h3 : b.take k = b := List.take_of_length_le (by omega)
    rw [← h2, ← h3, ht]
  · rintro rfl; rfl
set_option maxHeartbeats 1000000 in
theorem same_any (A B : Option Addr) (a b : List Int) (c d : Nat) (w : World) (ha : Sl eI 1 w A a) (hb : Sl eI 1 w B b) (hla : a.length ≤ 9223372036854775806) (hlb : b.length ≤ 9223372036854775806) :
    Calls Try.prog 15 #[.slice A a.length c, .slice B b.length d] w fun e w' => e = .returned (.bool (sameL a b)) ∧ Below w.heap.size w w' := by
  go_enter Try.func15, Try.ntmps15
  go_wp2
  go_loopw [5] (fun i wr => ∃ k : Nat, k ≤ a.length ∧ k ≤ b.length ∧ i = .int .i64 k ∧ Hid (a.take k = b.take k) ∧ Below w.heap.size w wr) (fun i _ => a.length - (intOf i).toNat)
  case atStart => exact ⟨0, Nat.zero_le _, Nat.zero_le _, rfl, by simp [Hid], Below.refl _ _⟩
  case round =>
    obtain ⟨k, hka, hkb, rfl, HT, hB⟩ := hrel
    by_cases h1 : k < a.length
    · by_cases h2 : k < b.length
      · obtain ⟨ba, oa, rfl, c0⟩ := (ha.keep hB).int_at h1
        obtain ⟨bb, ob, rfl, c1⟩ := (hb.keep hB).int_at h2
        have hk0 : (0 : Int) ≤ (k : Int) := Int.natCast_nonneg _
        have hk1 : (k : Int) < (a.length : Int) := by omega
        have hk2 : (k : Int) < (b.length : Int) := by omega
        by_cases he : a[k] = b[k]
        · have HE := Lib.hid he
          have hn : (a[k] != b[k]) = false := by simp [he]
          clear he
          go_wp2_with fail
          go_quiet (fail)
          go_wp2_with fail
          go_roundw
          case rel => exact ⟨k + 1, by omega, by omega, by go_num, by unfold Hid; rw [List.take_succ_eq_append_getElem h1, List.take_succ_eq_append_getElem h2, HT.out, HE.out], bdrewN hB _⟩
          case measure => simp [intOf]; omega
        · have HE := Lib.hid (same_no a b k h1 h2 he)
          have hn : (a[k] != b[k]) = true := by simp [he]
          clear he
          go_wp2_with fail
          go_quiet (fail)
          go_wp2_with fail
          go_ret
          exact ⟨ret_bool HE.out.symm, bdrewN hB _⟩
      · have HE := Lib.hid (same_end a b k HT.out (.inr (by omega)) hka hkb)
        go_wp2
        go_ret
        exact ⟨ret_bool HE.out, hB⟩
    · have HE := Lib.hid (same_end a b k HT.out (.inl (by omega)) hka hkb)
      go_wp2
      go_ret
      exact ⟨ret_bool HE.out, hB⟩
theorem make_ex : makeM [⟨1, 2, 2⟩, ⟨1, 4, 4⟩] 9 = some [0, 1, 0, -1] := by decide +kernel
theorem mk_ex {w w' : World} {e : Ending} (h : MkRet [⟨1, 2, 2⟩, ⟨1, 4, 4⟩] 9 w e w') : ∃ (O : Option Addr) (d : Nat), e = .returned (.tuple #[.slice O 4 d, .int .i64 0]) ∧ Sl eI 1 w' O [0, 1, 0, -1] ∧ Below w.heap.size w w' := by
  obtain ⟨hB, h⟩ := h
  rw [make_ex] at h
  obtain ⟨O, d, he, hO⟩ := h
  exact ⟨O, d, he, hO.sl eI_ok, hB⟩
set_option maxRecDepth 100000 in
set_option maxHeartbeats 1000000 in
theorem awake_any (w : World) : Calls Try.prog 8 #[] w fun e w' => e = .returned (.bool true) ∧ Below w.heap.size w w' := by
  have hB := below1 w (Obj.cells #[.int .i64 1, .int .i64 2, .int .i64 2, .int .i64 1, .int .i64 4, .int .i64 4] 29)
  have hs : Sl eT 3 (w.alloc (Obj.cells #[.int .i64 1, .int .i64 2, .int .i64 2, .int .i64 1, .int .i64 4, .int .i64 4] 29)) (some ⟨w.heap.size, 0, none⟩) [⟨1, 2, 2⟩, ⟨1, 4, 4⟩] := Sl.lit eT_ok w [⟨1, 2, 2⟩, ⟨1, 4, 4⟩] _ rfl _
  have HM : Hid (Calls Try.prog 12 #[.slice (some ⟨w.heap.size, 0, none⟩) 2 2, .int .i64 9] (w.alloc (Obj.cells #[.int .i64 1, .int .i64 2, .int .i64 2, .int .i64 1, .int .i64 4, .int .i64 4] 29)) (MkRet [⟨1, 2, 2⟩, ⟨1, 4, 4⟩] 9 (w.alloc (Obj.cells #[.int .i64 1, .int .i64 2, .int .i64 2, .int .i64 1, .int .i64 4, .int .i64 4] 29)))) := Lib.hid (make_yes (some ⟨w.heap.size, 0, none⟩) [⟨1, 2, 2⟩, ⟨1, 4, 4⟩] 2 9 _ hs (by decide) (by decide +kernel) (by decide) (by decide))
  have es : sameL [0, 1, 0, -1] [0, 1, 0, -1] = true := by decide +kernel
  have ei : idN [0, 1, 0, -1] 4 = 1 := by decide +kernel
  go_enter Try.func8, Try.ntmps8
  go_wp2_with (first | (go_at_call 12; (with_reducible refine (HM.out).mono ?_); intro e w5 hmk; obtain ⟨O, d, rfl, hO, hb⟩ := mk_ex hmk; replace hB := bstep hB (Nat.le_refl _) hb; clear hb hmk) | (go_at_call 15; (refine (same_any O (some ⟨w5.heap.size, 0, none⟩) [0, 1, 0, -1] [0, 1, 0, -1] d 4 _ (hO.alloc _) (Sl.lit eI_ok w5 [0, 1, 0, -1] _ rfl _) (by decide) (by decide)).mono ?_); rw [es]; rintro e w6 ⟨rfl, hb⟩; replace hO := hO.keep (bstep (below1 w5 _) (Nat.le_refl _) hb); replace hB := bstep hB (Nat.le_refl _) (bstep (below1 w5 _) (Nat.le_refl _) hb); clear hb) | (go_at_call 11; (refine (idle_any O [0, 1, 0, -1] d _ hO (by decide)).mono ?_); (try rw [show [(0 : Int), 1, 0, -1].length = 4 from rfl]); rw [ei]; rintro e w7 ⟨rfl, rfl⟩))
  go_ret
  exact ⟨rfl, hB⟩
end Go.Proofs.Ytkhbnklaglnfdaa
