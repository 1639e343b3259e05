/- Walk: the statement FramesPlay. -/
import Derived.Test.YtjmonplgabhceaaU7
import Derived.Test.YtjmonplgabhceaaAft
namespace Go.Proofs.Ytjmonplgabhceaa
open Go.RowKit Go.Lib

structure ActS where
  kind : Int
  i : Int
  at_ : Int
  b : Int
def eA (a : ActS) : List Value := [.int .i64 a.kind, .int .i64 a.i, .int .i64 a.at_, .int .u8 a.b]
theorem Sl.act_at {w : World} {A : Option Addr} {xs : List ActS} {i : Nat} (h : Sl eA 4 w A xs) (hi : i < xs.length) :
    ∃ b off, A = some ⟨b, off, none⟩ ∧ w.cell? ⟨b, off + i * 4, none⟩ = some (.int .i64 xs[i].kind) ∧ w.cell? ⟨b, off + i * 4 + 1, none⟩ = some (.int .i64 xs[i].i) ∧ w.cell? ⟨b, off + i * 4 + 1 + 1, none⟩ = some (.int .i64 xs[i].at_) ∧ w.cell? ⟨b, off + i * 4 + 1 + 1 + 1, none⟩ = some (.int .u8 xs[i].b) := by
  obtain ⟨b, off, hA, hc⟩ := h.at_ hi
  refine ⟨b, off, hA, ?_, ?_, ?_, ?_⟩
  · simpa using hc 0 _ (show (eA xs[i])[0]? = some (.int .i64 xs[i].kind) from rfl)
  · simpa [Nat.add_assoc] using hc 1 _ (show (eA xs[i])[1]? = some (.int .i64 xs[i].i) from rfl)
  · simpa [Nat.add_assoc] using hc 2 _ (show (eA xs[i])[2]? = some (.int .i64 xs[i].at_) from rfl)
  · simpa [Nat.add_assoc] using hc 3 _ (show (eA xs[i])[3]? = some (.int .u8 xs[i].b) from rfl)

set_option maxRecDepth 100000 in
set_option maxHeartbeats 4000000 in
theorem plays_no (n : Int) (hn : n < 1 ∨ 32 < n) (A : Option Addr) (l : List ActS) (c : Nat) (w : World) :
    Calls Try.prog 3 #[.int .i64 n, .slice A l.length c] w fun e w' => e = .returned (.bool true) ∧ Below w.heap.size w w' := by
  have H := Lib.hid (fun W => new_no n W hn)
  rcases hn with hn | hn
  · go_enter Try.func3, Try.ntmps3
    go_wp2_with fail
    refine (awake_any _).mono ?_
    rintro e w1 ⟨rfl, hB⟩
    go_wp2_with fail
    refine (H.out _).mono ?_
    rintro e w2 ⟨rfl, rfl⟩
    go_wp2_with fail
    refine (awake_any _).mono ?_
    rintro e w2 ⟨rfl, hb⟩
    go_wp2_with fail
    go_ret
    exact ⟨rfl, bstep hB (Nat.le_refl _) hb⟩
  · have h1 : ¬ n < 1 := by omega
    go_enter Try.func3, Try.ntmps3
    go_wp2_with fail
    refine (awake_any _).mono ?_
    rintro e w1 ⟨rfl, hB⟩
    go_wp2_with fail
    refine (H.out _).mono ?_
    rintro e w2 ⟨rfl, rfl⟩
    go_wp2_with fail
    refine (awake_any _).mono ?_
    rintro e w2 ⟨rfl, hb⟩
    go_wp2_with fail
    go_ret
    exact ⟨rfl, bstep hB (Nat.le_refl _) hb⟩
set_option maxRecDepth 100000 in
set_option maxHeartbeats 16000000 in
theorem plays_yes (n : Nat) (h1 : 1 ≤ n) (h2 : n ≤ 32) (A : Option Addr) (l : List ActS) (c : Nat) (w : World) (hs : Sl eA 4 w A l) (hl : l.length ≤ 9223372036854775807) :
    Calls Try.prog 3 #[.int .i64 n, .slice A l.length c] w fun e w' => e = .returned (.bool true) ∧ Below w.heap.size w w' := by
  have a1 : ¬ (n : Int) < 1 := by omega
  have a2 : ¬ (32 : Int) < (n : Int) := by omega
  go_enter Try.func3, Try.ntmps3
  go_wp2_with fail
  refine (awake_any _).mono ?_
  rintro e w1 ⟨rfl, hB⟩
  have hgs := hB.size
  go_wp2_with fail
  refine (new_yes n _ h1 h2).mono ?_
  rintro e w2 ⟨rfl, hf2, hb2⟩
  replace hB := bstep hB (Nat.le_refl _) hb2
  go_wp2_with fail
  refine (rnew_any n h1 h2 _).mono ?_
  rintro e w3 ⟨d, rfl, hd3, hb3⟩
  have hBO : Bo w3 w.heap.size n w1.heap.size w2.heap.size d (newF n) (newD n) := ⟨hf2.keep hb3, hd3, mt_new n h2, by have := hf2.at_.lt; omega, hgs, by have := hb2.size; omega, newD_len n⟩
  replace hB := bstep hB (Nat.le_refl _) hb3
  clear hf2 hb2 hd3 hb3
  generalize w1.heap.size = g at *
  generalize w2.heap.size = q at *
  go_wp2_with fail
  go_loopw [7, 8] (fun s7 s8 wr => ∃ (k q c' : Nat) (s : FrS) (R : List FrE), k ≤ l.length ∧ k ≤ 80 ∧ s8 = .int .i64 k ∧ s7 = .slice (some ⟨q, 0, none⟩) n c' ∧ Bo wr w.heap.size n g q c' s R ∧ Below w.heap.size w wr) (fun _ i _ => 80 - (intOf i).toNat)
  case atStart => exact ⟨0, q, d, _, _, Nat.zero_le _, by omega, rfl, rfl, hBO, hB⟩
  case round =>
    clear hBO hB
    obtain ⟨k, q, c', s, R, hk, hk2, rfl, rfl, hBO, hB⟩ := hrel
    by_cases hlt : k < l.length ∧ k < 80
    · obtain ⟨hlt, hlt2⟩ := hlt
      obtain ⟨b, off, rfl, y0, y1, y2, y3⟩ := (hs.keep hB).act_at hlt
      have k0 : (0 : Int) ≤ (k : Int) := by omega
      have k1 : (k : Int) < (l.length : Int) := by omega
      generalize l[k] = a at *
      have bo := below1 wr (Obj.cells #[.int .i64 a.kind, .int .i64 a.i, .int .i64 a.at_, .int .u8 a.b] 31)
      have ba := Blk.new wr 31 #[.int .i64 a.kind, .int .i64 a.i, .int .i64 a.at_, .int .u8 a.b]
      have hBOa := hBO.keep bo
      have hBa := bstep hB (Nat.le_refl _) bo
      have hgw : g < wr.heap.size := hBO.f.at_.lt
      have hgB : w.heap.size ≤ g := hBO.gB
      have HM := Lib.hid hBO.m
      have HN := Lib.hid hBO.n
      have hf := hBOa.f
      clear hBO hB bo
      by_cases hk1 : a.kind = 1
      · have e1 : (a.kind == 1) = true := by simp [hk1]
        clear hk1
        have HP : Hid (∀ W, Fm W g s → Calls Try.prog 7 #[.pointer (some ⟨g, 0, none⟩), .int .i64 a.i] W (RetF (freeF s a.i) g (.int .i64 (giveE R a.i)) W)) := fun W hW => by rw [← freeE_eq HM.out]; exact free_any s g a.i W hW
        have HR : Hid (∀ W, Dm W (some ⟨q, 0, none⟩) c' R → Calls Try.prog 8 #[.slice (some ⟨q, 0, none⟩) n c', .int .i64 a.i] W (RetDN q n (giveD R a.i) [.int .i64 (giveE R a.i)] W)) := fun W hW => by
          have := rgive_any q c' R a.i W hW
          rw [HN.out] at this
          exact retDN_of (by rw [giveD_len, HN.out]) this
        generalize giveE R a.i = v at *
        have hvv : (v != v) = false := by simp
        have z1 := ba.cell 1 (.int .i64 a.i) rfl
        go_wp2_with fail
        refine (HP.out _ hf).mono ?_
        rintro e w5 ⟨rfl, hf5, hg5⟩
        have hd5 := hBOa.far hg5
        have hB5 := below_only hBa hg5 hgB
        have ba5 := ba.grown hg5 (by intro e; injection e with e; omega)
        clear z1
        have z1 := ba5.cell 1 (.int .i64 a.i) rfl
        go_wp2_with fail
        refine (HR.out _ hd5).mono ?_
        rintro e w6 ⟨q', d', rfl, hd6, hq6, hb6⟩
        have hBO6 := hBOa.next hf5 hg5 hd6 hq6 hb6 (HM.out.free a.i) (by rw [giveD_len, HN.out])
        have hB6 := bstep hB5 (Nat.le_refl _) hb6
        have ba6 := ba5.keep hb6
        clear hf5 hg5 hd5 hd6 hq6 hb6 hB5 ba5 hf hBOa hBa ba
        clear z1
        go_wp2_with fail
        have z1 := ba6.cell 1 (.int .i64 a.i) rfl
        clear ba6
        have HS : Hid (∀ m : Aft w6, Calls Try.prog 15 #[.pointer (some ⟨g, 0, none⟩), .slice (some ⟨q', 0, none⟩) n d'] m.w fun e w' => e = .returned (.bool true) ∧ Below m.w.heap.size m.w w') := fun m => by
          have h := hBO6.keep m.ok
          have := same_yes g q' d' _ _ m.w h.f h.d h.m
          rw [h.n] at this
          exact this
        have HT : Hid (∀ m : Aft w6, Calls Try.prog 16 #[.pointer (some ⟨g, 0, none⟩), .int .i64 a.i] m.w fun e w' => e = .returned (.bool (isD (giveD R a.i) a.i)) ∧ m.w = w') := fun m => by
          have h := hBO6.keep m.ok
          have := taken_any _ g a.i m.w h.f
          rw [h.m.taken] at this
          exact this
        have HI : Hid (∀ m : Aft w6, Calls Try.prog 17 #[.slice (some ⟨q', 0, none⟩) n d', .int .i64 a.i] m.w fun e w' => e = .returned (.bool (isD (giveD R a.i) a.i)) ∧ m.w = w') := fun m => by
          have h := hBO6.keep m.ok
          have := is_any q' d' _ a.i m.w h.d
          rw [h.n] at this
          exact this
        generalize isD (giveD R a.i) a.i = bi at *
        have hbb : (bi != bi) = false := by simp
        (have aft_z1 := Aft.cell z1; refine wp_region_aft (by kernel_rfl) (by kernel_rfl) ?_; (repeat (go_big_quiet_step ((first | (go_at_call 15; with_reducible exact aft_call (HS.out _)) | (go_at_call 16; with_reducible exact aft_same (HT.out _)) | (go_at_call 17; with_reducible exact aft_same (HI.out _)))))); refine wpQuiet_nil ?_; clear aft_z1; intro w8 hw2_; have hb8 := Aft.below hw2_; clear hw2_)
        have hBO8 := hBO6.keep hb8
        have hB8 := bstep hB6 (Nat.le_refl _) hb8
        clear hBO6 hB6 hb8 z1
        go_wp2_with fail
        go_roundw
        case rel => exact ⟨k + 1, q', d', _, _, by omega, by omega, by go_num, rfl, hBO8, hB8⟩
        case measure => simp [intOf]; omega

      · have e1 : (a.kind == 1) = false := by simp [hk1]
        by_cases hk2' : a.kind = 2
        · have e2 : (a.kind == 2) = true := by simp [hk2']
          clear hk1 hk2'
          have HP : Hid (∀ W, Fm W g s → Calls Try.prog 9 #[.pointer (some ⟨g, 0, none⟩), .int .i64 a.i, .int .i64 a.at_] W fun e w' => e = .returned (.tuple #[.int .u8 (readV R a.i a.at_), .int .i64 (readE R a.i a.at_)]) ∧ W = w') := fun W hW => by rw [← HM.out.byteE, ← HM.out.byteV]; exact read_any s g a.i a.at_ W hW
          have HR : Hid (∀ W, Dm W (some ⟨q, 0, none⟩) c' R → Calls Try.prog 10 #[.slice (some ⟨q, 0, none⟩) n c', .int .i64 a.i, .int .i64 a.at_] W fun e w' => e = .returned (.tuple #[.int .u8 (readV R a.i a.at_), .int .i64 (readE R a.i a.at_)]) ∧ W = w') := fun W hW => by
            have := rread_any q c' R a.i a.at_ W hW
            rw [HN.out] at this
            exact this
          generalize readE R a.i a.at_ = v at *
          generalize readV R a.i a.at_ = u at *
          have hvv : (v != v) = false := by simp
          have huu : (u != u) = false := by simp
          have z1 := ba.cell 1 (.int .i64 a.i) rfl
          have z2 := ba.cell 2 (.int .i64 a.at_) rfl
          go_wp2_with fail
          refine (HP.out _ hf).mono ?_
          rintro e w5 ⟨rfl, rfl⟩
          go_wp2_with fail
          refine (HR.out _ hBOa.d).mono ?_
          rintro e w6 ⟨rfl, hw6⟩
          clear z1 z2
          have hBO6 := hBOa
          have hB6 := hBa
          have ba6 := ba
          obtain ⟨q', hqq⟩ : ∃ q', q' = q := ⟨_, rfl⟩
          obtain ⟨d', hdd⟩ : ∃ d', d' = c' := ⟨_, rfl⟩
          rw [hw6] at hBO6 hB6 ba6
          rw [← hqq, ← hdd] at hBO6
          rw [← hqq, ← hdd]
          clear hw6 hqq hdd hBOa hBa ba hf
          go_wp2_with fail
          have z1 := ba6.cell 1 (.int .i64 a.i) rfl
          clear ba6
          have HS : Hid (∀ m : Aft w6, Calls Try.prog 15 #[.pointer (some ⟨g, 0, none⟩), .slice (some ⟨q', 0, none⟩) n d'] m.w fun e w' => e = .returned (.bool true) ∧ Below m.w.heap.size m.w w') := fun m => by
            have h := hBO6.keep m.ok
            have := same_yes g q' d' _ _ m.w h.f h.d h.m
            rw [h.n] at this
            exact this
          have HT : Hid (∀ m : Aft w6, Calls Try.prog 16 #[.pointer (some ⟨g, 0, none⟩), .int .i64 a.i] m.w fun e w' => e = .returned (.bool (isD R a.i)) ∧ m.w = w') := fun m => by
            have h := hBO6.keep m.ok
            have := taken_any _ g a.i m.w h.f
            rw [h.m.taken] at this
            exact this
          have HI : Hid (∀ m : Aft w6, Calls Try.prog 17 #[.slice (some ⟨q', 0, none⟩) n d', .int .i64 a.i] m.w fun e w' => e = .returned (.bool (isD R a.i)) ∧ m.w = w') := fun m => by
            have h := hBO6.keep m.ok
            have := is_any q' d' _ a.i m.w h.d
            rw [h.n] at this
            exact this
          generalize isD R a.i = bi at *
          have hbb : (bi != bi) = false := by simp
          (have aft_z1 := Aft.cell z1; refine wp_region_aft (by kernel_rfl) (by kernel_rfl) ?_; (repeat (go_big_quiet_step ((first | (go_at_call 15; with_reducible exact aft_call (HS.out _)) | (go_at_call 16; with_reducible exact aft_same (HT.out _)) | (go_at_call 17; with_reducible exact aft_same (HI.out _)))))); refine wpQuiet_nil ?_; clear aft_z1; intro w8 hw2_; have hb8 := Aft.below hw2_; clear hw2_)
          have hBO8 := hBO6.keep hb8
          have hB8 := bstep hB6 (Nat.le_refl _) hb8
          clear hBO6 hB6 hb8 z1
          go_wp2_with fail
          go_roundw
          case rel => exact ⟨k + 1, q', d', _, _, by omega, by omega, by go_num, rfl, hBO8, hB8⟩
          case measure => simp [intOf]; omega

        · have e2 : (a.kind == 2) = false := by simp [hk2']
          by_cases hk3 : a.kind = 3
          · have e3 : (a.kind == 3) = true := by simp [hk3]
            clear hk1 hk2' hk3
            have HP : Hid (∀ W, Fm W g s → Calls Try.prog 11 #[.pointer (some ⟨g, 0, none⟩), .int .i64 a.i, .int .i64 a.at_, .int .u8 a.b] W (RetF (writeF s a.i a.at_ a.b) g (.int .i64 (readE R a.i a.at_)) W)) := fun W hW => by rw [← HM.out.byteE]; exact write_any s g a.i a.at_ a.b W hW
            have HR : Hid (∀ W, Dm W (some ⟨q, 0, none⟩) c' R → Calls Try.prog 12 #[.slice (some ⟨q, 0, none⟩) n c', .int .i64 a.i, .int .i64 a.at_, .int .u8 a.b] W (RetDN q n (writeD R a.i a.at_ a.b) [.int .i64 (readE R a.i a.at_)] W)) := fun W hW => by
              have := rwrite_any q c' R a.i a.at_ a.b W hW
              rw [HN.out] at this
              exact retDN_of (by rw [writeD_len, HN.out]) this
            generalize readE R a.i a.at_ = v at *
            have hvv : (v != v) = false := by simp
            have z1 := ba.cell 1 (.int .i64 a.i) rfl
            have z2 := ba.cell 2 (.int .i64 a.at_) rfl
            have z3 := ba.cell 3 (.int .u8 a.b) rfl
            go_wp2_with fail
            refine (HP.out _ hf).mono ?_
            rintro e w5 ⟨rfl, hf5, hg5⟩
            have hd5 := hBOa.far hg5
            have hB5 := below_only hBa hg5 hgB
            have ba5 := ba.grown hg5 (by intro e; injection e with e; omega)
            clear z1 z2 z3
            have z1 := ba5.cell 1 (.int .i64 a.i) rfl
            have z2 := ba5.cell 2 (.int .i64 a.at_) rfl
            have z3 := ba5.cell 3 (.int .u8 a.b) rfl
            go_wp2_with fail
            refine (HR.out _ hd5).mono ?_
            rintro e w6 ⟨q', d', rfl, hd6, hq6, hb6⟩
            have hBO6 := hBOa.next hf5 hg5 hd6 hq6 hb6 (HM.out.write a.i a.at_ a.b) (by rw [writeD_len, HN.out])
            have hB6 := bstep hB5 (Nat.le_refl _) hb6
            have ba6 := ba5.keep hb6
            clear hf5 hg5 hd5 hd6 hq6 hb6 hB5 ba5 hf hBOa hBa ba
            clear z1 z2 z3
            go_wp2_with fail
            have z1 := ba6.cell 1 (.int .i64 a.i) rfl
            clear ba6
            have HS : Hid (∀ m : Aft w6, Calls Try.prog 15 #[.pointer (some ⟨g, 0, none⟩), .slice (some ⟨q', 0, none⟩) n d'] m.w fun e w' => e = .returned (.bool true) ∧ Below m.w.heap.size m.w w') := fun m => by
              have h := hBO6.keep m.ok
              have := same_yes g q' d' _ _ m.w h.f h.d h.m
              rw [h.n] at this
              exact this
            have HT : Hid (∀ m : Aft w6, Calls Try.prog 16 #[.pointer (some ⟨g, 0, none⟩), .int .i64 a.i] m.w fun e w' => e = .returned (.bool (isD (writeD R a.i a.at_ a.b) a.i)) ∧ m.w = w') := fun m => by
              have h := hBO6.keep m.ok
              have := taken_any _ g a.i m.w h.f
              rw [h.m.taken] at this
              exact this
            have HI : Hid (∀ m : Aft w6, Calls Try.prog 17 #[.slice (some ⟨q', 0, none⟩) n d', .int .i64 a.i] m.w fun e w' => e = .returned (.bool (isD (writeD R a.i a.at_ a.b) a.i)) ∧ m.w = w') := fun m => by
              have h := hBO6.keep m.ok
              have := is_any q' d' _ a.i m.w h.d
              rw [h.n] at this
              exact this
            generalize isD (writeD R a.i a.at_ a.b) a.i = bi at *
            have hbb : (bi != bi) = false := by simp
            (have aft_z1 := Aft.cell z1; refine wp_region_aft (by kernel_rfl) (by kernel_rfl) ?_; (repeat (go_big_quiet_step ((first | (go_at_call 15; with_reducible exact aft_call (HS.out _)) | (go_at_call 16; with_reducible exact aft_same (HT.out _)) | (go_at_call 17; with_reducible exact aft_same (HI.out _)))))); refine wpQuiet_nil ?_; clear aft_z1; intro w8 hw2_; have hb8 := Aft.below hw2_; clear hw2_)
            have hBO8 := hBO6.keep hb8
            have hB8 := bstep hB6 (Nat.le_refl _) hb8
            clear hBO6 hB6 hb8 z1
            go_wp2_with fail
            go_roundw
            case rel => exact ⟨k + 1, q', d', _, _, by omega, by omega, by go_num, rfl, hBO8, hB8⟩
            case measure => simp [intOf]; omega

          · have e3 : (a.kind == 3) = false := by simp [hk3]
            clear hk1 hk2' hk3
            have HP : Hid (∀ W, Fm W g s → Calls Try.prog 13 #[.pointer (some ⟨g, 0, none⟩)] W fun e w' => e = .returned (.tuple #[.int .i64 (tkK R : Nat), .int .i64 (tkE R)]) ∧ Fm w' g (takeF s) ∧ W.grownBy w' (some g)) := fun W hW => by
              have := take_any s g W hW
              unfold RetTkF at this
              rw [(takeE_eq HM.out).1, (takeE_eq HM.out).2] at this
              exact this
            have HR : Hid (∀ W, Dm W (some ⟨q, 0, none⟩) c' R → Calls Try.prog 14 #[.slice (some ⟨q, 0, none⟩) n c'] W (RetDN q n (takeD R) [.int .i64 (tkK R), .int .i64 (tkE R)] W)) := fun W hW => by
              have := rtake_any q c' R W hW
              rw [HN.out] at this
              exact retDN_of (by rw [takeD_len, HN.out]) this
            generalize tkE R = v at *
            generalize (tkK R : Int) = u at *
            have hvv : (v != v) = false := by simp
            have huu : (u != u) = false := by simp
            go_wp2_with fail
            refine (HP.out _ hf).mono ?_
            rintro e w5 ⟨rfl, hf5, hg5⟩
            have hd5 := hBOa.far hg5
            have hB5 := below_only hBa hg5 hgB
            have ba5 := ba.grown hg5 (by intro e; injection e with e; omega)
            go_wp2_with fail
            refine (HR.out _ hd5).mono ?_
            rintro e w6 ⟨q', d', rfl, hd6, hq6, hb6⟩
            have hBO6 := hBOa.next hf5 hg5 hd6 hq6 hb6 (HM.out.take) (by rw [takeD_len, HN.out])
            have hB6 := bstep hB5 (Nat.le_refl _) hb6
            have ba6 := ba5.keep hb6
            clear hf5 hg5 hd5 hd6 hq6 hb6 hB5 ba5 hf hBOa hBa ba
            go_wp2_with fail
            have z1 := ba6.cell 1 (.int .i64 a.i) rfl
            clear ba6
            have HS : Hid (∀ m : Aft w6, Calls Try.prog 15 #[.pointer (some ⟨g, 0, none⟩), .slice (some ⟨q', 0, none⟩) n d'] m.w fun e w' => e = .returned (.bool true) ∧ Below m.w.heap.size m.w w') := fun m => by
              have h := hBO6.keep m.ok
              have := same_yes g q' d' _ _ m.w h.f h.d h.m
              rw [h.n] at this
              exact this
            have HT : Hid (∀ m : Aft w6, Calls Try.prog 16 #[.pointer (some ⟨g, 0, none⟩), .int .i64 a.i] m.w fun e w' => e = .returned (.bool (isD (takeD R) a.i)) ∧ m.w = w') := fun m => by
              have h := hBO6.keep m.ok
              have := taken_any _ g a.i m.w h.f
              rw [h.m.taken] at this
              exact this
            have HI : Hid (∀ m : Aft w6, Calls Try.prog 17 #[.slice (some ⟨q', 0, none⟩) n d', .int .i64 a.i] m.w fun e w' => e = .returned (.bool (isD (takeD R) a.i)) ∧ m.w = w') := fun m => by
              have h := hBO6.keep m.ok
              have := is_any q' d' _ a.i m.w h.d
              rw [h.n] at this
              exact this
            generalize isD (takeD R) a.i = bi at *
            have hbb : (bi != bi) = false := by simp
            (have aft_z1 := Aft.cell z1; refine wp_region_aft (by kernel_rfl) (by kernel_rfl) ?_; (repeat (go_big_quiet_step ((first | (go_at_call 15; with_reducible exact aft_call (HS.out _)) | (go_at_call 16; with_reducible exact aft_same (HT.out _)) | (go_at_call 17; with_reducible exact aft_same (HI.out _)))))); refine wpQuiet_nil ?_; clear aft_z1; intro w8 hw2_; have hb8 := Aft.below hw2_; clear hw2_)
            have hBO8 := hBO6.keep hb8
            have hB8 := bstep hB6 (Nat.le_refl _) hb8
            clear hBO6 hB6 hb8 z1
            go_wp2_with fail
            go_roundw
            case rel => exact ⟨k + 1, q', d', _, _, by omega, by omega, by go_num, rfl, hBO8, hB8⟩
            case measure => simp [intOf]; omega

    · have hend : Hid (k = l.length ∨ k = 80) := by unfold Hid; omega
      clear hBO
      by_cases hkl : k < l.length
      all_goals
        go_wp2_with fail
        refine (awake_any _).mono ?_
        rintro e w10 ⟨rfl, hb10⟩
        go_wp2_with fail
        go_ret
        exact ⟨rfl, bstep hB (Nat.le_refl _) hb10⟩
theorem plays_any (n : Int) (A : Option Addr) (l : List ActS) (c : Nat) (w : World) (hs : Sl eA 4 w A l) (hl : l.length ≤ 9223372036854775807) :
    Calls Try.prog 3 #[.int .i64 n, .slice A l.length c] w fun e w' => e = .returned (.bool true) ∧ Below w.heap.size w w' := by
  by_cases h : n < 1 ∨ 32 < n
  · exact plays_no n h A l c w
  · obtain ⟨k, rfl⟩ := Int.eq_ofNat_of_zero_le (show 0 ≤ n by omega)
    exact plays_yes k (by omega) (by omega) A l c w hs hl
end Go.Proofs.Ytjmonplgabhceaa
