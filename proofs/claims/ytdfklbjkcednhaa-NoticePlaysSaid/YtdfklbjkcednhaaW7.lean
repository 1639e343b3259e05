/- Walk: the library's stable sort of notices. -/
import Derived.Test.YtdfklbjkcednhaaW6
import Derived.Test.YtdfklbjkcednhaaM3
namespace Go.Proofs.Ytdfklbjkcednhaa
open Go.RowKit Go.Lib

def SortR (B q c : Nat) (T : List Nt) (w : World) (e : Ending) (w' : World) : Prop := e = .returned (.tuple #[]) ∧ (∃ T', Rw B w' q c T' ∧ Srt T' ∧ T'.Perm T) ∧ Sw q w w'

/-- one block is sorted by insertion -/
theorem pass_insert {B q c n a b k : Nat} {T T' : List Nt} (w : World) (h : Rw B w q c T') (hP : PassI T T' 1 20 a) (hn : T'.length = n) (ha : a = k * 20) (hab : a ≤ b) (hb : b ≤ n) (hbt : b ≤ a + 20) (hf : b = a + 20 ∨ b = n) (h3 : n ≤ 1000) :
    Calls Try.prog 30 #[.slice (some ⟨q, 0, none⟩) n c, .int .i64 a, .int .i64 b, .func (.func 19) #[] #[]] w fun e w' => e = .returned (.tuple #[]) ∧ (∃ T2, Rw B w' q c T2 ∧ PassI T T2 1 20 b ∧ T2.length = n) ∧ Sw q w w' := by
  obtain ⟨e1, l1, l2⟩ := cut3 T' hab (by omega)
  refine (insert_any B q c n a b _ _ _ T' w e1.symm h hn l1 l2 (hP.tags hab (by omega)) h3).mono ?_
  rintro e w' ⟨rfl, ⟨T2, h1, h2⟩, h4⟩
  have h5 := h2.by_place
  exact ⟨rfl, ⟨T2, h1, hP.step h5 (by omega) ha (by omega) hbt (by omega), h5.len.trans hn⟩, h4⟩
/-- two blocks are merged -/
theorem pass_merge {B q c n a b k s : Nat} {T T' : List Nt} (w : World) (h : Rw B w q c T') (hP : PassI T T' s (2 * s) a) (hn : T'.length = n) (ha : a = k * (2 * s)) (hs : 0 < s) (hab : a + s < b) (hb : b ≤ n) (hbt : b ≤ a + 2 * s) (hf : b = a + 2 * s ∨ b = n) (h3 : n ≤ 1000) :
    Calls Try.prog 31 #[.slice (some ⟨q, 0, none⟩) n c, .int .i64 a, .int .i64 ((a : Int) + (s : Int)), .int .i64 b, .func (.func 19) #[] #[]] w fun e w' => e = .returned (.tuple #[]) ∧ (∃ T2, Rw B w' q c T2 ∧ PassI T T2 s (2 * s) b ∧ T2.length = n) ∧ Sw q w w' := by
  have hM := hP.merge (k := k) hs ha (by omega) hbt (by omega : b ≤ T'.length)
  have := sym_any (b - a) B q c n a (a + s) b T' _ _ _ _ w (Nat.le_refl _) h hn hM (by omega) hab hb h3
  rw [show ((a + s : Nat) : Int) = (a : Int) + (s : Int) by omega] at this
  refine this.mono ?_
  rintro e w' ⟨rfl, ⟨T2, h1, h2⟩, h4⟩
  have h5 := h2.by_place
  exact ⟨rfl, ⟨T2, h1, hP.step h5 (by omega) ha (by omega) hbt (by omega), h5.len.trans hn⟩, h4⟩

set_option maxRecDepth 100000 in
set_option maxHeartbeats 8000000 in
theorem stable_any (B q c n : Nat) (T : List Nt) (w : World) (h : Rw B w q c T) (hn : Hid (T.length = n)) (ht : ∀ i j, i < j → j < T.length → (atT T i).nTag < (atT T j).nTag) (h3 : n ≤ 1000) :
    Calls Try.prog 28 #[.slice (some ⟨q, 0, none⟩) n c, .int .i64 n, .func (.func 19) #[] #[]] w (SortR B q c T w) := by
  have HP0 := Lib.hid (PassI.begin_ ht 20)
  clear ht
  go_enter Try.func28, Try.ntmps28
  go_wp2_with fail
  go_loopw [7, 8] (fun v7 v8 wr => ∃ (a b k : Nat) (T' : List Nt), v7 = .int .i64 a ∧ v8 = .int .i64 b ∧ Hid (a = k * 20) ∧ Hid (b = a + 20) ∧ a ≤ n ∧ Hid (PassI T T' 1 20 a ∧ T'.length = n) ∧ Rw B wr q c T' ∧ Sw q w wr) (fun v7 _ _ => n - (intOf v7).toNat)
  case atStart => exact ⟨0, 20, 0, T, rfl, rfl, rfl, rfl, Nat.zero_le _, ⟨HP0.out, hn.out⟩, h, Sw.refl _⟩
  case round =>
    clear h HP0
    obtain ⟨a, b, k, T', rfl, rfl, ha, hb, han, hP, hW, hS⟩ := hrel
    have hb2 : b ≤ n + 20 := by have := hb.out; omega
    by_cases hlt : b ≤ n
    · have k1 : (b : Int) ≤ (n : Int) := by omega
      have hc := Lib.hid (pass_insert wr hW hP.out.1 hP.out.2 ha.out (by have := hb.out; omega) hlt (by have := hb.out; omega) (.inl hb.out) h3)
      clear hW
      go_wp2_with fail
      with_reducible refine hc.out.mono ?_
      rintro e w2 ⟨rfl, ⟨T2, hW2, hP2, hl2⟩, hS2⟩
      have HP2 := Lib.hid (And.intro hP2 hl2)
      clear hc hP2 hl2
      go_wp2_with fail
      go_roundw
      case rel => exact ⟨b, b + 20, k + 1, T2, rfl, by go_num, by have := ha.out; have := hb.out; unfold Hid; omega, rfl, hlt, HP2, hW2, hS.trans hS2⟩
      case measure => have := hb.out; simp [intOf]; omega
    · have k1 : ¬ (b : Int) ≤ (n : Int) := by omega
      have hc := Lib.hid (pass_insert wr hW hP.out.1 hP.out.2 ha.out han (Nat.le_refl _) (by have := hb.out; omega) (.inr rfl) h3)
      clear hW
      go_wp2_with fail
      with_reducible refine hc.out.mono ?_
      rintro e w2 ⟨rfl, ⟨T2, hW2, hP2, hl2⟩, hS2⟩
      have HP2 : Hid (∃ s', PassI T T2 s' 20 T2.length ∧ T2.length = n) := ⟨1, by rw [hl2]; exact hP2, hl2⟩
      have hS3 := hS.trans hS2
      clear hc hP2 hl2 hS hS2 hP
      go_wp2_with fail
      go_loopw [6, 7, 8, 9] (fun v6 v7 v8 v9 ws => ∃ (s : Nat) (T' : List Nt), v6 = .int .i64 s ∧ 0 < s ∧ s ≤ 2000 ∧ Hid (∃ s', PassI T T' s' s T'.length ∧ T'.length = n) ∧ Rw B ws q c T' ∧ Sw q w ws) (fun v6 _ _ _ _ => 4000 - (intOf v6).toNat)
      case atStart => exact ⟨20, T2, rfl, by omega, by omega, HP2, hW2, hS3⟩
      case round =>
        clear HP2 hW2 hS3
        obtain ⟨s, T3, rfl, hs0, hs1, HP3, hW, hS⟩ := hrel
        by_cases hsn : s < n
        · have j1 : (s : Int) < (n : Int) := by omega
          have HP4 : Hid (PassI T T3 s (2 * s) 0 ∧ T3.length = n) := by
            obtain ⟨s', h1, h2⟩ := HP3.out
            exact ⟨h1.next hs0, h2⟩
          clear HP3
          obtain ⟨d, hd⟩ : ∃ d, d = 2 * s := ⟨_, rfl⟩
          have eD : (2 : Int) * (s : Int) = (d : Int) := by omega
          have hd1 : d ≤ 4000 := by omega
          have HD := Lib.hid hd
          clear hd
          go_wp2_with fail
          go_loopw [7, 8] (fun v7 v8 wt => ∃ (a b k : Nat) (T' : List Nt), v7 = .int .i64 a ∧ v8 = .int .i64 b ∧ Hid (a = k * (2 * s)) ∧ Hid (b = a + 2 * s) ∧ a ≤ n ∧ Hid (PassI T T' s (2 * s) a ∧ T'.length = n) ∧ Rw B wt q c T' ∧ Sw q w wt) (fun v7 _ _ => n - (intOf v7).toNat)
          case atStart => exact ⟨0, d, 0, T3, rfl, rfl, by unfold Hid; omega, by have := HD.out; unfold Hid; omega, Nat.zero_le _, HP4, hW, hS⟩
          case round =>
            clear hW hS HP4
            obtain ⟨a, b, k, T4, rfl, rfl, ha, hb, han, hP, hW, hS⟩ := hrel
            have hb2 : b ≤ n + 4000 := by have := hb.out; omega
            by_cases hlt : b ≤ n
            · have k1 : (b : Int) ≤ (n : Int) := by omega
              have hc := Lib.hid (pass_merge wr hW hP.out.1 hP.out.2 ha.out hs0 (by have := hb.out; omega) hlt (by have := hb.out; omega) (.inl hb.out) h3)
              clear hW
              go_wp2_with fail
              with_reducible refine hc.out.mono ?_
              rintro e w2 ⟨rfl, ⟨T5, hW5, hP5, hl5⟩, hS5⟩
              have HP5 := Lib.hid (And.intro hP5 hl5)
              have eB : (b : Int) + (d : Int) = ((b + d : Nat) : Int) := by omega
              have HEB := Lib.hid eB
              clear hc hP5 hl5 eB
              go_wp2_with fail
              go_roundw
              case rel => exact ⟨b, b + d, k + 1, T5, rfl, by rw [HEB.out], by have := ha.out; have := hb.out; unfold Hid; rw [Nat.succ_mul]; omega, by have := HD.out; unfold Hid; omega, hlt, HP5, hW5, hS.trans hS5⟩
              case measure => have := hb.out; simp [intOf]; omega
            · have k1 : ¬ (b : Int) ≤ (n : Int) := by omega
              obtain ⟨m, hm⟩ : ∃ m, m = a + s := ⟨_, rfl⟩
              have eM : (a : Int) + (s : Int) = (m : Int) := by omega
              have HM := Lib.hid hm
              have hm2 : m ≤ 3000 := by omega
              clear hm
              go_upto_if 54 with (fail)
              go_cut [] (fun wx => ∃ T5, Hid (PassI T T5 s (2 * s) n ∧ T5.length = n) ∧ Rw B wx q c T5 ∧ Sw q w wx)
              case first =>
                by_cases hmn : m < n
                · have c1 : (m : Int) < (n : Int) := by omega
                  have hc := pass_merge wr hW hP.out.1 hP.out.2 ha.out hs0 (by have := HM.out; omega) (Nat.le_refl _) (by have := hb.out; omega) (.inr rfl) h3
                  rw [eM] at hc
                  have HC := Lib.hid hc
                  clear hW hc
                  go_wp2_with fail
                  with_reducible refine HC.out.mono ?_
                  rintro e w2 ⟨rfl, ⟨T5, hW5, hP5, hl5⟩, hS5⟩
                  have HP5 := Lib.hid (And.intro hP5 hl5)
                  clear hP5 hl5 HC
                  go_wp2_with fail
                  go_meet
                  exact ⟨T5, HP5, hW5, hS.trans hS5⟩
                · have c1 : ¬ (m : Int) < (n : Int) := by omega
                  have hT := hP.out.1.tail (k := k) hs0 ha.out (by have := HM.out; have := hP.out.2; omega)
                  have hP5 := hP.out.1.step hT (by omega) ha.out (Nat.le_refl _) (by have := HM.out; have := hP.out.2; omega) (.inr rfl)
                  rw [hP.out.2] at hP5
                  have HP5 := Lib.hid (And.intro hP5 hP.out.2)
                  clear hT hP5
                  go_wp2_with fail
                  go_meet
                  exact ⟨T4, HP5, hW, hS⟩
              case rest =>
              obtain ⟨T5, HP5, hW5, hS5⟩ := hcut
              clear hW hS hP
              have eS : (s : Int) * 2 = (d : Int) := by have := HD.out; omega
              go_wp2_with fail
              go_roundw
              case rel => exact ⟨d, T5, rfl, by have := HD.out; omega, by have := HD.out; omega, by have h1 := HP5.out; have := HD.out; subst this; exact ⟨s, by rw [h1.2]; exact h1.1, h1.2⟩, hW5, hS5⟩
              case measure => have := HD.out; simp [intOf]; omega
        · have j1 : ¬ (s : Int) < (n : Int) := by omega
          have HF : Hid (Srt T3 ∧ T3.Perm T) := by
            obtain ⟨s', h1, h2⟩ := HP3.out
            exact ⟨h1.all (by omega), h1.p⟩
          clear HP3
          go_wp2_with fail
          go_end0
          exact ⟨rfl, ⟨T3, hW, HF.out.1, HF.out.2⟩, hS⟩
theorem sort_any (B q c n : Nat) (T : List Nt) (w : World) (h : Rw B w q c T) (hn : Hid (T.length = n)) (ht : ∀ i j, i < j → j < T.length → (atT T i).nTag < (atT T j).nTag) (h3 : n ≤ 1000) :
    Calls Try.prog 18 #[.slice (some ⟨q, 0, none⟩) n c, .func (.func 19) #[] #[]] w (SortR B q c T w) := by
  have hc := Lib.hid (stable_any B q c n T w h hn ht h3)
  clear h ht
  go_enter Try.func18, Try.ntmps18
  go_wp2_with fail
  with_reducible refine hc.out.mono ?_
  rintro e w2 ⟨rfl, h1, h2⟩
  go_wp2_with fail
  go_end0
  exact ⟨rfl, h1, h2⟩
/-- a slice without elements -/
theorem insert_none (w : World) (cf : Value) : Calls Try.prog 30 #[.slice none 0 0, .int .i64 0, .int .i64 0, cf] w fun e w' => e = .returned (.tuple #[]) ∧ w = w' := by
  go_enter Try.func30, Try.ntmps30
  go_wp2_with fail
  refine wp_loop_rounds 1 ?_
  rw [rounds_succ]
  go_wp2_with fail
  go_end0
  exact ⟨rfl, rfl⟩
theorem stable_none (w : World) (cf : Value) : Calls Try.prog 28 #[.slice none 0 0, .int .i64 0, cf] w fun e w' => e = .returned (.tuple #[]) ∧ w = w' := by
  go_enter Try.func28, Try.ntmps28
  go_wp2_with fail
  refine wp_loop_rounds 1 ?_
  rw [rounds_succ]
  go_wp2_with fail
  refine (insert_none w cf).mono ?_
  rintro e w2 ⟨rfl, rfl⟩
  go_wp2_with fail
  refine wp_loop_rounds 1 ?_
  rw [rounds_succ]
  go_wp2_with fail
  go_end0
  exact ⟨rfl, rfl⟩
theorem sort_none (w : World) (cf : Value) : Calls Try.prog 18 #[.slice none 0 0, cf] w fun e w' => e = .returned (.tuple #[]) ∧ w = w' := by
  go_enter Try.func18, Try.ntmps18
  go_wp2_with fail
  refine (stable_none w cf).mono ?_
  rintro e w2 ⟨rfl, rfl⟩
  go_wp2_with fail
  go_end0
  exact ⟨rfl, rfl⟩
end Go.Proofs.Ytdfklbjkcednhaa
