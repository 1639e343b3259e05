/- Walk: the symmetric merge, the general case, and by recursion. -/
import Derived.Test.YtdfklbjkcednhaaW5
namespace Go.Proofs.Ytdfklbjkcednhaa
open Go.RowKit Go.Lib

/-- the merge of stretches of fewer elements -/
def SymN (n : Nat) : Prop := ∀ (B q c L a m b : Nat) (T P X Y S : List Nt) (w : World), b - a ≤ n → Rw B w q c T → Hid (T.length = L) → Mg T a m b P X Y S → a < m → m < b → b ≤ L → L ≤ 1000 →
    Calls Try.prog 31 #[.slice (some ⟨q, 0, none⟩) L c, .int .i64 a, .int .i64 m, .int .i64 b, .func (.func 19) #[] #[]] w (SymR B q c T a b w)

set_option maxRecDepth 100000 in
set_option maxHeartbeats 8000000 in
theorem sym_gen (n : Nat) (ih : SymN n) (B q c L a m b : Nat) (T P X Y S : List Nt) (w : World) (h : Rw B w q c T) (hL : Hid (T.length = L)) (hM : Mg T a m b P X Y S) (hn : b - a ≤ n + 1) (h0 : a + 1 < m) (h1 : m + 1 < b) (hb : b ≤ L) (h3 : L ≤ 1000) :
    Calls Try.prog 31 #[.slice (some ⟨q, 0, none⟩) L c, .int .i64 a, .int .i64 m, .int .i64 b, .func (.func 19) #[] #[]] w (SymR B q c T a b w) := by
  have k9 : ¬ (m : Int) - (a : Int) = 1 := by omega
  have k8 : ¬ (b : Int) - (m : Int) = 1 := by omega
  have HM := Lib.hid hM
  have IH := Lib.hid ih
  obtain ⟨mid, hmid⟩ : ∃ mid, mid = (a + b) / 2 := ⟨_, rfl⟩
  have eM : ((a : Int) + (b : Int)) / 2 = (mid : Int) := by omega
  have m1 : a < mid := by omega
  have m2 : mid < b := by omega
  obtain ⟨n0, hn0⟩ : ∃ n0, n0 = mid + m := ⟨_, rfl⟩
  have eN : (mid : Int) + (m : Int) = (n0 : Int) := by omega
  have n1 : n0 ≤ 2000 := by omega
  obtain ⟨p, hp⟩ : ∃ p, p = n0 - 1 := ⟨_, rfl⟩
  have eP : (n0 : Int) - 1 = (p : Int) := by omega
  have HMID := Lib.hid hmid
  have HN0 := Lib.hid hn0
  have HPP := Lib.hid hp
  have HNN := Lib.hid hn
  clear hM ih hmid hn0 hp hn
  go_enter Try.func31, Try.ntmps31
  go_upto_if 140 with (fail)
  go_cut [20, 21, 141, 142, 143, 144, 145, 146] (fun s20 s21 _ _ _ _ _ _ wx => ∃ s0 r0 : Nat, s20 = .int .i64 s0 ∧ s21 = .int .i64 r0 ∧ Hid (s0 = if mid < m then mid + m - b else a) ∧ Hid (r0 = if mid < m then mid else m) ∧ Rw B wx q c T ∧ Sw q w wx)
  case first =>
    as_aux_lemma =>
      by_cases hc : mid < m
      · have c1 : (mid : Int) < (m : Int) := by omega
        obtain ⟨s1, hs1⟩ : ∃ s1, s1 = mid + m - b := ⟨_, rfl⟩
        have eS : (n0 : Int) - (b : Int) = (s1 : Int) := by have := HN0.out; have := HMID.out; omega
        have HS1 : Hid (s1 = if mid < m then mid + m - b else a) := by unfold Hid; rw [if_pos hc]; exact hs1
        have HR1 : Hid (mid = if mid < m then mid else m) := by unfold Hid; rw [if_pos hc]
        clear hs1 hc
        go_wp2_with fail
        go_meet
        exact ⟨s1, mid, rfl, rfl, HS1, HR1, h, Sw.refl _⟩
      · have c1 : ¬ (mid : Int) < (m : Int) := by omega
        have HS1 : Hid (a = if mid < m then mid + m - b else a) := by unfold Hid; rw [if_neg hc]
        have HR1 : Hid (m = if mid < m then mid else m) := by unfold Hid; rw [if_neg hc]
        clear hc
        go_wp2_with fail
        go_meet
        exact ⟨a, m, rfl, rfl, HS1, HR1, h, Sw.refl _⟩
  case rest =>
    obtain ⟨s0, r0, rfl, rfl, HS0, HR0, h5, hS5⟩ := hcut
    clear h
    have g1 : a ≤ s0 := by have h1 := HS0.out; have := HMID.out; split at h1 <;> omega
    have g2 : s0 ≤ r0 := by have h1 := HS0.out; have h2 := HR0.out; have := HMID.out; split at h1 <;> split at h2 <;> omega
    have g3 : r0 ≤ m := by have := HR0.out; split at this <;> omega
    have g4 : r0 ≤ mid := by have := HR0.out; split at this <;> omega
    have hp1 : Hid (∀ c, s0 ≤ c → c < r0 → m ≤ p - c ∧ p - c < b ∧ c ≤ p) := fun c e1 e2 => by
      have h1 := HS0.out; have h2 := HR0.out; have := HMID.out; have := HN0.out; have := HPP.out
      split at h1 <;> split at h2 <;> omega
    go_upto_region 33 with (fail)
    go_wp2_with fail
    go_loopw [20, 21] (fun v20 v21 wr => ∃ i j : Nat, v20 = .int .i64 i ∧ v21 = .int .i64 j ∧ s0 ≤ i ∧ i ≤ j ∧ j ≤ r0 ∧ Hid (∀ k, s0 ≤ k → k < i → ¬ (atT T (p - k)).nTil < (atT T k).nTil) ∧ Hid (∀ k, j ≤ k → k < r0 → ¬ ¬ (atT T (p - k)).nTil < (atT T k).nTil) ∧ Rw B wr q c T ∧ Sw q w wr) (fun v20 v21 _ => (intOf v21).toNat - (intOf v20).toNat)
    case atStart => exact ⟨s0, r0, rfl, rfl, Nat.le_refl _, g2, Nat.le_refl _, fun k h1 h2 => by omega, fun k h1 h2 => by omega, h5, hS5⟩
    case round =>
      clear h5 hS5
      obtain ⟨i, j, rfl, rfl, hi, hij, hj, l1, l2, hW, hS⟩ := hrel
      by_cases hlt : i < j
      · have k1 : (i : Int) < (j : Int) := by omega
        obtain ⟨H, hH⟩ : ∃ H, H = (i + j) / 2 := ⟨_, rfl⟩
        have eH : ((i : Int) + (j : Int)) / 2 = (H : Int) := by omega
        have hH1 : i ≤ H := by omega
        have hH2 : H < j := by omega
        have HH := Lib.hid hH
        clear hH
        have hpp := hp1.out H (by omega) (by omega)
        obtain ⟨d, hd⟩ : ∃ d, d = p - H := ⟨_, rfl⟩
        have eD : (p : Int) - (H : Int) = (d : Int) := by omega
        have hdL : d < L := by omega
        have hI : d < T.length := by have := hL.out; omega
        have hJ : H < T.length := by have := hL.out; omega
        have q1 : H < L := by omega
        have HD := Lib.hid hd
        clear hd hpp
        obtain ⟨a0, a1, a2⟩ := rw_at hW hI
        obtain ⟨b0, b1, b2⟩ := rw_at hW hJ
        have hc := Lib.hid (fun W => cmp_any (atT T d).nEnv (atT T d).nFrm (atT T d).nTil (atT T H).nEnv (atT T H).nFrm (atT T H).nTil W)
        obtain ⟨E, hE⟩ : ∃ E, cmpI (atT T d).nTil (atT T H).nTil = E := ⟨_, rfl⟩
        rw [hE] at hc
        have HR := Lib.hid (And.intro hW hS)
        clear hW hS
        by_cases hk : (atT T d).nTil < (atT T H).nTil
        · as_aux_lemma =>
            have hE0 : E < 0 := by rw [← hE, cmpI_neg]; exact hk
            have L2 : Hid (∀ k, H ≤ k → k < r0 → ¬ ¬ (atT T (p - k)).nTil < (atT T k).nTil) := by
              have h5 := HH.out; have h6 := HD.out; subst h6; subst h5
              exact half_down (HM.out.mono3 g1 g3 hp1.out) hi hlt (not_not_intro hk)
            clear hE hk l2
            go_upto_region 35 with (fail)
            (have aft_a0 := Aft.cell a0; have aft_a1 := Aft.cell a1; have aft_a2 := Aft.cell a2; have aft_b0 := Aft.cell b0; have aft_b1 := Aft.cell b1; have aft_b2 := Aft.cell b2; refine wp_region_aft (by kernel_rfl) (by kernel_rfl) ?_; (repeat (go_big_quiet_step ((go_at_call 19; with_reducible exact aft_call (hc.out _))))); refine wpQuiet_nil ?_; clear aft_a0 aft_a1 aft_a2 aft_b0 aft_b1 aft_b2; intro w5 hw2_; have hb5 := Aft.below hw2_; clear hw2_)
            replace hW := HR.out.1.keep hb5
            replace hS := HR.out.2.below hb5
            clear a0 a1 a2 b0 b1 b2 hc hb5 HR
            go_wp2_with fail
            go_roundw
            case rel => exact ⟨i, H, rfl, rfl, hi, by omega, by omega, fun k h1 h2 => by have := l1.out k h1 h2; omega, fun k h1 h2 => by have := L2.out k h1 h2; omega, hW, hS⟩
            case measure => simp [intOf]; omega
        · as_aux_lemma =>
            have hE0 : ¬ E < 0 := by rw [← hE, cmpI_neg]; exact hk
            have L1 : Hid (∀ k, s0 ≤ k → k < H + 1 → ¬ (atT T (p - k)).nTil < (atT T k).nTil) := by
              have h5 := HH.out; have h6 := HD.out; subst h6; subst h5
              exact half_up (p := fun k => ¬ (atT T (p - k)).nTil < (atT T k).nTil) (HM.out.mono3 g1 g3 hp1.out) (fun k h1 h2 => by have := l1.out k h1 h2; omega) hi hlt hj hk
            clear hE hk l1
            go_upto_region 35 with (fail)
            (have aft_a0 := Aft.cell a0; have aft_a1 := Aft.cell a1; have aft_a2 := Aft.cell a2; have aft_b0 := Aft.cell b0; have aft_b1 := Aft.cell b1; have aft_b2 := Aft.cell b2; refine wp_region_aft (by kernel_rfl) (by kernel_rfl) ?_; (repeat (go_big_quiet_step ((go_at_call 19; with_reducible exact aft_call (hc.out _))))); refine wpQuiet_nil ?_; clear aft_a0 aft_a1 aft_a2 aft_b0 aft_b1 aft_b2; intro w5 hw2_; have hb5 := Aft.below hw2_; clear hw2_)
            replace hW := HR.out.1.keep hb5
            replace hS := HR.out.2.below hb5
            clear a0 a1 a2 b0 b1 b2 hc hb5 HR
            go_wp2_with fail
            go_roundw
            case rel => exact ⟨H + 1, j, by go_num, rfl, by omega, by omega, hj, fun k h1 h2 => by have := L1.out k h1 h2; omega, fun k h1 h2 => by have := l2.out k h1 h2; omega, hW, hS⟩
            case measure => simp [intOf]; omega
      · obtain rfl : i = j := by omega
        obtain ⟨X1, X2, Y1, Y2, hC⟩ := HM.out.cut HMID.out (HPP.out.trans (by rw [HN0.out])) HS0.out HR0.out hi hj (fun k h1 h2 => by have := l1.out k h1 h2; omega) (fun k h1 h2 => by have := l2.out k h1 h2; omega)
        obtain ⟨e, he⟩ : ∃ e, e = mid + m - i := ⟨_, rfl⟩
        rw [← he] at hC
        have eE : (n0 : Int) - (i : Int) = (e : Int) := by have := HN0.out; omega
        have x1 : i ≤ m := by omega
        have x2 : m ≤ e := by omega
        have x3 : e ≤ b := by have := hC.yb; omega
        have x4 : i ≤ mid := by omega
        have x5 : a ≤ i := by omega
        have HE : Hid (mid = i + (e - m)) := by unfold Hid; omega
        have hGL : Hid ((P ++ X1 ++ Y1 ++ X2 ++ Y2 ++ S).length = L) := by
          have h1 := hL.out
          rw [hC.eq] at h1
          unfold Hid
          simp at h1 ⊢
          omega
        have HC := Lib.hid hC
        clear hC he
        obtain ⟨G, hG⟩ : ∃ G, G = P ++ X1 ++ Y1 ++ X2 ++ Y2 ++ S := ⟨_, rfl⟩
        rw [← hG] at hGL
        have HG := Lib.hid hG
        clear hG
        have HR := Lib.hid (And.intro hW hS)
        clear hW hS
        go_upto_region 39 with (fail)
        go_cut [185] (fun sv wx => ∃ bv : Bool, sv = .bool bv ∧ Hid (bv = decide (i < m ∧ m < e)) ∧ Rw B wx q c T ∧ Sw q w wx)
        case first =>
          as_aux_lemma =>
            by_cases c1 : i < m
            · have c3 : (i : Int) < (m : Int) := by omega
              by_cases c2 : m < e
              · have c4 : (m : Int) < (e : Int) := by omega
                have HD : Hid (true = decide (i < m ∧ m < e)) := by unfold Hid; simp [c1, c2]
                go_wp2_with fail
                go_meet
                exact ⟨_, rfl, HD, HR.out⟩
              · have c4 : ¬ (m : Int) < (e : Int) := by omega
                have HD : Hid (false = decide (i < m ∧ m < e)) := by unfold Hid; simp [c2]
                go_wp2_with fail
                go_meet
                exact ⟨_, rfl, HD, HR.out⟩
            · have c3 : ¬ (i : Int) < (m : Int) := by omega
              have HD : Hid (false = decide (i < m ∧ m < e)) := by unfold Hid; simp [c1]
              go_wp2_with fail
              go_meet
              exact ⟨_, rfl, HD, HR.out⟩
        case rest =>
        obtain ⟨bv, rfl, hbv, hWS⟩ := hcut
        go_upto_if 185 with (fail)
        obtain ⟨hW, hS⟩ := hWS
        clear HR
        go_cut [] (fun wx => Rw B wx q c G ∧ Sw q w wx)
        case first =>
          as_aux_lemma =>
            by_cases hr : i < m ∧ m < e
            · have hrot := Lib.hid (rotate_any B q c L i m e T G _ hW hL hr.1 hr.2 (by omega) (by rw [HG.out]; exact HC.out.rot hr.1 hr.2) h3 (.func (.func 19) #[] #[]))
              obtain rfl : bv = true := by rw [hbv.out]; simpa using hr
              clear hW hr
              go_wp2_with fail
              refine hrot.out.mono ?_
              rintro e2 w2 ⟨rfl, hW2, hS2⟩
              go_wp2_with fail
              go_meet
              exact ⟨hW2, hS.trans hS2⟩
            · have hW' : Rw B wc q c G := by rw [HG.out, ← HC.out.norot hr]; exact hW
              have HR := Lib.hid (And.intro hW' hS)
              obtain rfl : bv = false := by rw [hbv.out]; simpa using hr
              clear hW hW' hS hr
              go_wp2_with fail
              go_meet
              exact HR.out
        case rest =>
        obtain ⟨hW1, hS1⟩ := hcut
        clear hW hS
        have HR := Lib.hid (And.intro hW1 hS1)
        clear hW1 hS1
        go_upto_region 41 with (fail)
        go_cut [199] (fun sv wx => ∃ bv : Bool, sv = .bool bv ∧ Hid (bv = decide (a < i ∧ i < mid)) ∧ Rw B wx q c G ∧ Sw q w wx)
        case first =>
          as_aux_lemma =>
            by_cases c1 : a < i
            · have c3 : (a : Int) < (i : Int) := by omega
              by_cases c2 : i < mid
              · have c4 : (i : Int) < (mid : Int) := by omega
                have HD : Hid (true = decide (a < i ∧ i < mid)) := by unfold Hid; simp [c1, c2]
                go_wp2_with fail
                go_meet
                exact ⟨_, rfl, HD, HR.out⟩
              · have c4 : ¬ (i : Int) < (mid : Int) := by omega
                have HD : Hid (false = decide (a < i ∧ i < mid)) := by unfold Hid; simp [c2]
                go_wp2_with fail
                go_meet
                exact ⟨_, rfl, HD, HR.out⟩
            · have c3 : ¬ (a : Int) < (i : Int) := by omega
              have HD : Hid (false = decide (a < i ∧ i < mid)) := by unfold Hid; simp [c1]
              go_wp2_with fail
              go_meet
              exact ⟨_, rfl, HD, HR.out⟩
        case rest =>
        obtain ⟨bv, rfl, hbv, hWS⟩ := hcut
        go_upto_if 199 with (fail)
        obtain ⟨hW1, hS1⟩ := hWS
        clear HR
        go_cut [] (fun wx => (∃ Z1, Rw B wx q c (P ++ Z1 ++ X2 ++ Y2 ++ S) ∧ Z1.Perm (X1 ++ Y1) ∧ Srt Z1) ∧ Sw q w wx)
        case first =>
          as_aux_lemma =>
            have HL2 := Lib.hid (HC.out.left HE.out)
            by_cases hr : a < i ∧ i < mid
            · have hs := Lib.hid (IH.out B q c L a i mid G P X1 Y1 (X2 ++ Y2 ++ S) _ (by have := HNN.out; omega) hW1 hGL (by rw [HG.out]; exact HL2.out) hr.1 hr.2 (by omega) h3)
              obtain rfl : bv = true := by rw [hbv.out]; simpa using hr
              clear hW1 hr
              go_wp2_with fail
              refine hs.out.mono ?_
              rintro e2 w2 ⟨rfl, ⟨T', hW2, hD⟩, hS2⟩
              rw [HG.out] at hD
              obtain ⟨Z1, rfl, z2, z3⟩ := HC.out.half HE.out hD
              have HZ : Hid ((∃ Z1, Rw B w2 q c (P ++ Z1 ++ X2 ++ Y2 ++ S) ∧ Z1.Perm (X1 ++ Y1) ∧ Srt Z1) ∧ Sw q w w2) := ⟨⟨Z1, hW2, z2, z3⟩, hS1.trans hS2⟩
              clear hW2 z2 z3 hD hS2 hS1
              go_wp2_with fail
              go_meet
              exact HZ.out
            · have hD := HL2.out.idle hr
              obtain ⟨Z1, e1, z2, z3⟩ := HC.out.half HE.out hD
              rw [HG.out, e1] at hW1
              have HZ : Hid ((∃ Z1, Rw B wc q c (P ++ Z1 ++ X2 ++ Y2 ++ S) ∧ Z1.Perm (X1 ++ Y1) ∧ Srt Z1) ∧ Sw q w wc) := ⟨⟨Z1, hW1, z2, z3⟩, hS1⟩
              obtain rfl : bv = false := by rw [hbv.out]; simpa using hr
              clear hW1 z2 z3 hD e1 hS1 hr
              go_wp2_with fail
              go_meet
              exact HZ.out
        case rest =>
        obtain ⟨⟨Z1, hW2, z2, z3⟩, hS2⟩ := hcut
        clear hW1 hS1
        have HR2 := Lib.hid (HC.out.right HE.out z2)
        have hGL2 : Hid ((P ++ Z1 ++ X2 ++ Y2 ++ S).length = L) := by
          have h1 := z2.length_eq
          have h2 := hGL.out
          rw [HG.out] at h2
          unfold Hid
          simp at h1 h2 ⊢
          omega
        have HR := Lib.hid (And.intro hW2 hS2)
        have HZZ := Lib.hid (And.intro z2 z3)
        clear hW2 hS2 z2 z3
        go_upto_region 43 with (fail)
        go_cut [213] (fun sv wx => ∃ bv : Bool, sv = .bool bv ∧ Hid (bv = decide (mid < e ∧ e < b)) ∧ Rw B wx q c (P ++ Z1 ++ X2 ++ Y2 ++ S) ∧ Sw q w wx)
        case first =>
          as_aux_lemma =>
            by_cases c1 : mid < e
            · have c3 : (mid : Int) < (e : Int) := by omega
              by_cases c2 : e < b
              · have c4 : (e : Int) < (b : Int) := by omega
                have HD : Hid (true = decide (mid < e ∧ e < b)) := by unfold Hid; simp [c1, c2]
                go_wp2_with fail
                go_meet
                exact ⟨_, rfl, HD, HR.out⟩
              · have c4 : ¬ (e : Int) < (b : Int) := by omega
                have HD : Hid (false = decide (mid < e ∧ e < b)) := by unfold Hid; simp [c2]
                go_wp2_with fail
                go_meet
                exact ⟨_, rfl, HD, HR.out⟩
            · have c3 : ¬ (mid : Int) < (e : Int) := by omega
              have HD : Hid (false = decide (mid < e ∧ e < b)) := by unfold Hid; simp [c1]
              go_wp2_with fail
              go_meet
              exact ⟨_, rfl, HD, HR.out⟩
        case rest =>
        obtain ⟨bv, rfl, hbv, hWS⟩ := hcut
        go_upto_if 213 with (fail)
        obtain ⟨hW2, hS2⟩ := hWS
        clear HR
        by_cases hr : mid < e ∧ e < b
        · as_aux_lemma =>
            have hs := Lib.hid (IH.out B q c L mid e b _ (P ++ Z1) X2 Y2 S _ (by have := HNN.out; omega) hW2 hGL2 HR2.out hr.1 hr.2 hb h3)
            have HZ := Lib.hid (fun T2 => HC.out.done HE.out HZZ.out.1 HZZ.out.2 (T2 := T2))
            obtain rfl : bv = true := by rw [hbv.out]; simpa using hr
            clear hW2 hr
            go_wp2_with fail
            refine hs.out.mono ?_
            rintro e2 w2 ⟨rfl, ⟨T', hW3, hD⟩, hS3⟩
            have HF : Hid (SymR B q c T a b w (.returned (.tuple #[])) w2) := ⟨rfl, ⟨T', hW3, HZ.out T' hD⟩, hS2.trans hS3⟩
            clear hW3 hD hS3 hS2
            go_wp2_with fail
            go_end0
            exact HF.out
        · as_aux_lemma =>
            have HF : Hid (SymR B q c T a b w (.returned (.tuple #[])) wc) := ⟨rfl, ⟨_, hW2, HC.out.done HE.out HZZ.out.1 HZZ.out.2 (HR2.out.idle hr)⟩, hS2⟩
            obtain rfl : bv = false := by rw [hbv.out]; simpa using hr
            clear hW2 hS2 hr
            go_wp2_with fail
            go_end0
            exact HF.out

theorem sym_any : ∀ n, SymN n
  | 0 => fun B q c L a m b T P X Y S w hn => by intros; omega
  | n + 1 => fun B q c L a m b T P X Y S w hn hW hL hM h1 h2 hb h3 => by
    by_cases ha : m = a + 1
    · exact sym_one B q c L a m b T P X Y S w hW hL hM ha h2 hb h3
    · by_cases hb' : b = m + 1
      · exact sym_two B q c L a m b T P X Y S w hW hL hM hb' (by omega) hb h3
      · exact sym_gen n (sym_any n) B q c L a m b T P X Y S w hW hL hM hn (by omega) (by omega) hb h3
end Go.Proofs.Ytdfklbjkcednhaa
