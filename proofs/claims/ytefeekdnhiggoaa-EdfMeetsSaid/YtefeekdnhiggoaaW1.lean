/- Walks over package edf and its reference: which jobs may be, the last deadline. -/
import Derived.Test.YtefeekdnhiggoaaMem
import Derived.Test.YtefeekdnhiggoaaP
namespace Go.Proofs.Ytefeekdnhiggoaa
open Go.RowKit

def eJ (j : Job) : List Value := [.int .i64 j.come, .int .i64 j.dead, .int .i64 j.cost]
theorem eJ_len (j : Job) : (eJ j).length = 3 := rfl
theorem Sl.job_at {w : World} {A : Option Addr} {xs : List Job} {i : Nat} (h : Sl eJ 3 w A xs) (hi : i < xs.length) :
    ∃ b off, A = some ⟨b, off, none⟩ ∧ w.cell? ⟨b, off + i * 3, none⟩ = some (.int .i64 xs[i].come) ∧ w.cell? ⟨b, off + i * 3 + 1, none⟩ = some (.int .i64 xs[i].dead) ∧ w.cell? ⟨b, off + i * 3 + 2, none⟩ = some (.int .i64 xs[i].cost) := by
  obtain ⟨b, off, hA, hc⟩ := h.at_ hi
  exact ⟨b, off, hA, by simpa using hc 0 _ (show (eJ xs[i])[0]? = some (.int .i64 xs[i].come) from rfl), by simpa [Nat.add_assoc] using hc 1 _ (show (eJ xs[i])[1]? = some (.int .i64 xs[i].dead) from rfl), by simpa [Nat.add_assoc] using hc 2 _ (show (eJ xs[i])[2]? = some (.int .i64 xs[i].cost) from rfl)⟩

set_option maxHeartbeats 1000000 in
theorem right_any (A : Option Addr) (js : List Job) (c : Nat) (w : World) (hs : Sl eJ 3 w A js) (hl : js.length ≤ 9223372036854775807) :
    Calls Try.prog 10 #[.slice A js.length c] w fun e w' => e = .returned (.bool (rightJ js)) ∧ Below w.heap.size w w' := by
  by_cases h32 : 32 < js.length
  · go_enter Try.func10, Try.ntmps10
    go_wp2
    go_ret
    exact ⟨ret_bool (by unfold rightJ; simp; omega), Below.refl _ _⟩
  · go_enter Try.func10, Try.ntmps10
    go_wp2
    go_loopw [10] (fun i wr => ∃ k : Nat, k ≤ js.length ∧ i = .int .i64 k ∧ Hid ((js.take k).all okJ = true) ∧ Below w.heap.size w wr) (fun i _ => js.length - (intOf i).toNat)
    case atStart => exact ⟨0, Nat.zero_le _, rfl, by simp [Hid], Below.refl _ _⟩
    case round =>
      obtain ⟨k, hk, rfl, HA, hB⟩ := hrel
      by_cases hlt : k < js.length
      · obtain ⟨b, off, rfl, c0, c1, c2⟩ := (hs.keep hB).job_at hlt
        cases hok : okJ js[k]
        · have HN := Lib.hid (okJ_f hok)
          have HF := Lib.hid (not_all okJ js k hlt hok)
          clear hok
          go_wp2
          all_goals first | (exfalso; have hn := HN.out; omega) | (go_ret; exact ⟨ret_bool (by unfold rightJ; rw [HF.out]; simp), hB.alloc hB.size _⟩)
        · have HO := Lib.hid hok
          obtain ⟨g1, g2, g3, g4, g5⟩ := okJ_t hok
          clear hok
          go_wp2
          go_roundw
          case rel => exact ⟨k + 1, by omega, by go_num, take_all okJ js k hlt HA.out HO.out, hB.alloc hB.size _⟩
          case measure => simp [intOf]; omega
      · obtain rfl : k = js.length := by omega
        go_wp2
        go_ret
        exact ⟨ret_bool (by have := HA.out; rw [List.take_length] at this; unfold rightJ; rw [this]; simp; omega), hB⟩

set_option maxHeartbeats 1000000 in
theorem refRight_any (A : Option Addr) (js : List Job) (c : Nat) (w : World) (hs : Sl eJ 3 w A js) (hl : js.length ≤ 9223372036854775807) :
    Calls Try.prog 11 #[.slice A js.length c] w fun e w' => e = .returned (.bool (rightJ js)) ∧ Below w.heap.size w w' := by
  go_enter Try.func11, Try.ntmps11
  go_wp2
  go_loopw [3] (fun i wr => ∃ k : Nat, k ≤ js.length ∧ i = .int .i64 k ∧ Hid ((js.take k).all okJ = true) ∧ Below w.heap.size w wr) (fun i _ => js.length - (intOf i).toNat)
  case atStart => exact ⟨0, Nat.zero_le _, rfl, by simp [Hid], Below.refl _ _⟩
  case round =>
    obtain ⟨k, hk, rfl, HA, hB⟩ := hrel
    by_cases hlt : k < js.length
    · obtain ⟨b, off, rfl, c0, c1, c2⟩ := (hs.keep hB).job_at hlt
      cases hok : okJ js[k]
      · have HN := Lib.hid (okJ_f hok)
        have HF := Lib.hid (not_all okJ js k hlt hok)
        clear hok
        go_wp2
        all_goals first | (exfalso; have hn := HN.out; omega) | (go_ret; exact ⟨ret_bool (by unfold rightJ; rw [HF.out]; simp), hB.alloc hB.size _⟩)
      · have HO := Lib.hid hok
        obtain ⟨g1, g2, g3, g4, g5⟩ := okJ_t hok
        clear hok
        go_wp2
        go_roundw
        case rel => exact ⟨k + 1, by omega, by go_num, take_all okJ js k hlt HA.out HO.out, hB.alloc hB.size _⟩
        case measure => simp [intOf]; omega
    · obtain rfl : k = js.length := by omega
      go_wp2
      go_ret
      exact ⟨ret_bool (by have := HA.out; rw [List.take_length] at this; unfold rightJ; rw [this]; simp; omega), hB⟩

theorem end_bd (l : List Job) : 0 ≤ endJ l := by
  unfold endJ
  suffices h : ∀ e : Int, 0 ≤ e → 0 ≤ l.foldl (fun e j => max e j.dead) e from h 0 (by omega)
  induction l with
  | nil => intro e he; exact he
  | cons j l ih => intro e he; exact ih _ (show 0 ≤ max e j.dead by omega)

set_option maxHeartbeats 1000000 in
theorem end_any (A : Option Addr) (js : List Job) (c : Nat) (w : World) (hs : Sl eJ 3 w A js) (hl : js.length ≤ 9223372036854775807) :
    Calls Try.prog 12 #[.slice A js.length c] w fun e w' => e = .returned (.int .i64 (endJ js)) ∧ Below w.heap.size w w' := by
  go_enter Try.func12, Try.ntmps12
  go_wp2
  go_loopw [3, 8] (fun t i wr => ∃ (k : Nat) (y : Int), k ≤ js.length ∧ i = .int .i64 k ∧ t = .int .i64 y ∧ Hid (y = endJ (js.take k)) ∧ Below w.heap.size w wr) (fun _ i _ => js.length - (intOf i).toNat)
  case atStart => exact ⟨0, 0, Nat.zero_le _, rfl, rfl, by simp [Hid, endJ], Below.refl _ _⟩
  case round =>
    obtain ⟨k, y, hk, rfl, rfl, HY, hB⟩ := hrel
    by_cases hlt : k < js.length
    · obtain ⟨b, off, rfl, c0, c1, c2⟩ := (hs.keep hB).job_at hlt
      have HE := Lib.hid (end_snoc js k hlt)
      go_wp2
      all_goals go_roundw
      all_goals first | (case rel => exact ⟨k + 1, _, by omega, by go_num, rfl, by unfold Hid; rw [HE.out, ← HY.out]; omega, hB.alloc hB.size _⟩) | skip
      all_goals first | (case measure => simp [intOf]; omega) | skip
    · obtain rfl : k = js.length := by omega
      go_wp2
      go_ret
      exact ⟨ret_int (by rw [HY.out, List.take_length]), hB⟩

set_option maxHeartbeats 1000000 in
theorem refEnd_any (A : Option Addr) (js : List Job) (c : Nat) (w : World) (hs : Sl eJ 3 w A js) (hl : js.length ≤ 9223372036854775807) :
    Calls Try.prog 13 #[.slice A js.length c] w fun e w' => e = .returned (.int .i64 (endJ js)) ∧ w = w' := by
  go_enter Try.func13, Try.ntmps13
  go_wp2
  go_loop [3, 4] (fun t i => ∃ (k : Nat) (y : Int), k ≤ js.length ∧ i = .int .i64 k ∧ t = .int .i64 y ∧ Hid (y = endJ (js.take k))) (fun _ i => js.length - (intOf i).toNat)
  case atStart => exact ⟨0, 0, Nat.zero_le _, rfl, rfl, by simp [Hid, endJ]⟩
  case round =>
    obtain ⟨k, y, hk, rfl, rfl, HY⟩ := hrel
    by_cases hlt : k < js.length
    · obtain ⟨b, off, rfl, c0, c1, c2⟩ := hs.job_at hlt
      have HE := Lib.hid (end_snoc js k hlt)
      by_cases hg : y < js[k].dead
      · go_wp2
        go_round
        case rel => exact ⟨k + 1, _, by omega, by go_num, rfl, by unfold Hid; rw [HE.out, ← HY.out]; omega⟩
        case measure => simp [intOf]; omega
      · go_wp2
        go_round
        case rel => exact ⟨k + 1, _, by omega, by go_num, rfl, by unfold Hid; rw [HE.out, ← HY.out]; omega⟩
        case measure => simp [intOf]; omega
    · obtain rfl : k = js.length := by omega
      go_wp2
      go_ret
      exact ⟨ret_int (by rw [HY.out, List.take_length]), rfl⟩

/-! 'to' and 'same' of the statements. -/
theorem info_job : (Try.prog.info? 44).map (fun i => (i.zero, i.size, i.bytes)) = some (some (.agg #[.int .i64 0, .int .i64 0, .int .i64 0]), 3, 24) := by kernel_rfl

/-- a call that hands back a row of its own -/
def RetOwn (e : TypeId) (sz n : Nat) (xs : List Value) (w : World) (en : Ending) (w' : World) : Prop :=
  ∃ v, en = .returned v ∧ w'.ownsRow w.heap.size e sz v n xs ∧ Below w.heap.size w w'

set_option maxRecDepth 100000 in
set_option maxHeartbeats 3200000 in
theorem to_any (A : Option Addr) (js : List Job) (c : Nat) (w : World) (hs : Sl eJ 3 w A js) (hl : js.length ≤ 40) :
    Calls Try.prog 8 #[.slice A js.length c] w (RetOwn 44 3 js.length (js.flatMap eJ) w) := by
  obtain ⟨i0, hi0, hz0, hz1, hz2⟩ := info_parts info_job
  go_enter Try.func8, Try.ntmps8
  go_wp2
  go_loopw [3, 4] (fun t i wr => ∃ k : Nat, k ≤ js.length ∧ i = .int .i64 k ∧ wr.ownsRow w.heap.size 44 3 t k ((js.take k).flatMap eJ) ∧ Below w.heap.size w wr) (fun _ i _ => js.length - (intOf i).toNat)
  case atStart => exact ⟨0, Nat.zero_le _, rfl, ⟨by simp, .inl ⟨rfl, rfl⟩⟩, Below.refl _ _⟩
  case round =>
    obtain ⟨k, hk, rfl, hown, hB⟩ := hrel
    by_cases hlt : k < js.length
    · obtain ⟨b, off, rfl, c0, c1, c2⟩ := (hs.keep hB).job_at hlt
      have hbw : b < w.heap.size := hs.block_lt (by omega) (fun _ => by simp [eJ])
      have hk0 : (0 : Int) ≤ (k : Int) := Int.natCast_nonneg _
      have hk1 : (k : Int) < (js.length : Int) := by omega
      go_wp2_with fail
      go_region_held3 (fun w' => Below w.heap.size w w' ∧ w'.cell? ⟨b, off + k * 3, none⟩ = some (.int .i64 js[k].come) ∧ w'.cell? ⟨b, off + k * 3 + 1, none⟩ = some (.int .i64 js[k].dead) ∧ w'.cell? ⟨b, off + k * 3 + 2, none⟩ = some (.int .i64 js[k].cost))
        (first | exact ⟨hB.drew, c0, c1, c2⟩ | exact keepA3 ‹_› _ | exact keepG3 ‹_› hgrow (fun k hk => (hown.lt k hk).1) hbw hbw hbw)
        ((refine step_append_lies _ (by rfl) _ _ _ (by rfl) w.heap.size 44 i0 _ 3 24 Try.underlying24 hi0 hz0 hz1 hz2 rfl (by omega) u3 k _ (by rfl) ((hown.alloc _).drew) ⟨wr.heap.size, 0, none⟩ 1 1 [.int .i64 js[k].come, .int .i64 js[k].dead, .int .i64 js[k].cost] (by rfl) (by rfl)
            (World.news_of_block (cs := #[.int .i64 js[k].come, .int .i64 js[k].dead, .int .i64 js[k].cost]) (t := 44) (fr := (0, 0)) (heap_alloc_new wr _)) (by simp [Value.oneCell']) (by omega) (by simp only [maxLen]; omega) (by omega) (by simp; have := hB.size; omega) (wr.heap.size + 1) (by simp) ?_; intro gg cap w1 hown1 hgrow hat hlt1))
      rename_i hH
      have hB1 := hH.1
      clear hH hgrow hat hlt1 c0 c1 c2
      go_wp2
      go_roundw
      case rel => exact ⟨k + 1, by omega, by go_num, by rw [List.take_succ_eq_append_getElem hlt, List.flatMap_append]; simpa [eJ] using hown1, hB1⟩
      case measure => simp [intOf]; omega
    · obtain rfl : k = js.length := by omega
      go_wp2
      go_ret
      exact ⟨_, rfl, by simpa using hown, hB⟩

def sameL (a b : List Int) : Bool := a == b
theorem same_no (a b : List Int) (k : Nat) (ha : k < a.length) (hb : k < b.length) (h : ¬ a[k] = b[k]) : sameL a b = false := by
  unfold sameL
  rw [beq_eq_false_iff_ne]
  rintro rfl
  exact h rfl
theorem same_end (a b : List Int) (k : Nat) (ht : a.take k = b.take k) (h : a.length ≤ k ∨ b.length ≤ k) (hka : k ≤ a.length) (hkb : k ≤ b.length) : ((a.length : Int) == (b.length : Int)) = sameL a b := by
  unfold sameL
  rw [Bool.eq_iff_iff, beq_iff_eq, beq_iff_eq]
  constructor
  · intro hl
    have h1 : a.length = b.length := by omega
    have h2 : a.take k = a := List.take_of_length_le (by omega)
    have h3 : b.take k = b := List.take_of_length_le (by omega)
    rw [← h2, ← h3, ht]
  · rintro rfl; rfl

set_option maxHeartbeats 1000000 in
theorem same_any (A B : Option Addr) (a b : List Int) (c d : Nat) (w : World) (ha : Sl eI 1 w A a) (hb : Sl eI 1 w B b) (hla : a.length ≤ 9223372036854775806) (hlb : b.length ≤ 9223372036854775806) :
    Calls Try.prog 14 #[.slice A a.length c, .slice B b.length d] w fun e w' => e = .returned (.bool (sameL a b)) ∧ Below w.heap.size w w' := by
  go_enter Try.func14, Try.ntmps14
  go_wp2
  go_loopw [5] (fun i wr => ∃ k : Nat, k ≤ a.length ∧ k ≤ b.length ∧ i = .int .i64 k ∧ Hid (a.take k = b.take k) ∧ Below w.heap.size w wr) (fun i _ => a.length - (intOf i).toNat)
  case atStart => exact ⟨0, Nat.zero_le _, Nat.zero_le _, rfl, by simp [Hid], Below.refl _ _⟩
  case round =>
    obtain ⟨k, hka, hkb, rfl, HT, hB⟩ := hrel
    by_cases h1 : k < a.length
    · by_cases h2 : k < b.length
      · obtain ⟨ba, oa, rfl, c0⟩ := (ha.keep hB).int_at h1
        obtain ⟨bb, ob, rfl, c1⟩ := (hb.keep hB).int_at h2
        have hk0 : (0 : Int) ≤ (k : Int) := Int.natCast_nonneg _
        have hk1 : (k : Int) < (a.length : Int) := by omega
        have hk2 : (k : Int) < (b.length : Int) := by omega
        go_wp2
        go_region_held3 (fun w' => Below w.heap.size w w' ∧ w'.cell? ⟨ba, oa + k, none⟩ = some (.int .i64 a[k]) ∧ w'.cell? ⟨bb, ob + k, none⟩ = some (.int .i64 b[k]))
          (first | exact ⟨hB.drew, c0, c1⟩ | fail)
          (fail)
        replace hB := hB.drew
        replace c0 : wr.drew.cell? ⟨ba, oa + k, none⟩ = some (.int .i64 a[k]) := c0
        replace c1 : wr.drew.cell? ⟨bb, ob + k, none⟩ = some (.int .i64 b[k]) := c1
        by_cases he : a[k] = b[k]
        · have HE := Lib.hid he
          have hn : (a[k] != b[k]) = false := by simp [he]
          clear he
          go_wp2
          go_roundw
          case rel => exact ⟨k + 1, by omega, by omega, by go_num, by unfold Hid; rw [List.take_succ_eq_append_getElem h1, List.take_succ_eq_append_getElem h2, HT.out, HE.out], hB⟩
          case measure => simp [intOf]; omega
        · have HE := Lib.hid (same_no a b k h1 h2 he)
          have hn : (a[k] != b[k]) = true := by simp [he]
          clear he
          go_wp2
          go_ret
          exact ⟨ret_bool HE.out.symm, hB⟩
      · have HE := Lib.hid (same_end a b k HT.out (.inr (by omega)) hka hkb)
        go_wp2
        go_ret
        exact ⟨ret_bool HE.out, hB⟩
    · have HE := Lib.hid (same_end a b k HT.out (.inl (by omega)) hka hkb)
      go_wp2
      go_ret
      exact ⟨ret_bool HE.out, hB⟩
end Go.Proofs.Ytefeekdnhiggoaa
