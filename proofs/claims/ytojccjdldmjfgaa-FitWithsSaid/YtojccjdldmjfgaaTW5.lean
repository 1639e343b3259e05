/- Walk: the stretches at which a demand grows, by the document. -/
import Derived.Test.YtojccjdldmjfgaaTW4
import Derived.Test.YtojccjdldmjfgaaTM3
import Derived.Deep.DeepCutAuto
import Derived.Deep.CutBlock
namespace Go.Proofs.Ytojccjdldmjfgaa
open Go.RowKit

/-- the points of the first k tasks, and those of one below a -/
def qm (l : List Tk) (k : Nat) (t : Tk) (a : Nat) : Nat → Bool := fun m => isPt (l.take k) (m : Int) || (isPt1 t (m : Int) && decide (m < a))
theorem qm_start {l : List Tk} {k : Nat} {t : Tk} {D : Nat} (hD : t.dead = D) (N : Nat) : fl (qm l k t D) N = ptsTo (l.take k) N := by
  show _ = fl (fun m => isPt (l.take k) (m : Int)) N
  refine fl_congr fun m _ => ?_
  unfold qm
  cases h : isPt1 t (m : Int)
  · simp
  · have h1 := of_decide_eq_true h
    rw [decide_eq_false (by omega)]; simp
theorem qm_step {l : List Tk} {k : Nat} {t : Tk} {a P : Nat} (h : rightT t = true) (hP : t.period = P) (ha : isPt1 t (a : Int) = true) (N : Nat) : fl (with1 (qm l k t a) a) N = fl (qm l k t (a + P)) N := by
  have hr := rightT_t h
  refine fl_congr fun m _ => ?_
  unfold with1 qm
  by_cases hm : m = a
  · subst hm
    rw [ha, decide_eq_true (show m < m + P by omega)]; simp
  · cases hp : isPt1 t (m : Int)
    · simp [hm]
    · have h1 : decide (m < a + P) = decide (m < a) := by
        rw [decide_eq_decide]
        constructor
        · intro h2
          rcases Nat.lt_or_ge m a with h3 | h3
          · exact h3
          · have := pt_gap h hp ha (by omega)
            omega
        · intro h2; omega
      rw [h1]; simp [hm]
theorem qm_end {l : List Tk} {k : Nat} (hk : k < l.length) {a u : Nat} (h : u < a) : fl (qm l k l[k] a) (u + 1) = ptsTo (l.take (k + 1)) (u + 1) := by
  show _ = fl (fun m => isPt (l.take (k + 1)) (m : Int)) (u + 1)
  refine fl_congr fun m hm => ?_
  unfold qm isPt
  rw [List.take_succ_eq_append_getElem hk, List.any_append, decide_eq_true (show m < a by omega)]
  simp
theorem pt_step {t : Tk} {a P : Nat} (h : rightT t = true) (hP : t.period = P) (ha : isPt1 t (a : Int) = true) : isPt1 t ((a + P : Nat) : Int) = true := by
  have := pt_next h ha
  rw [hP] at this
  exact this

set_option maxRecDepth 100000 in
set_option maxHeartbeats 8000000 in
theorem qPoints_yes (A : Option Addr) (l : List Tk) (c : Nat) (u : Nat) (w : World) (hs : Sl eT 3 w A l) (h : allT l = true) (h1 : u ≤ 1048576) :
    Calls Try.prog 19 #[.slice A l.length c, .int .i64 u] w (RetSl eI 1 3 (ptsTo l (u + 1)) w) := by
  have hs8 := allT_len h
  have H := Lib.hid h
  clear h
  go_enter Try.func19, Try.ntmps19
  go_wp2
  go_loopw [5, 6] (fun v i wr => ∃ (k n : Nat) (O : Option Addr) (d : Nat), k ≤ l.length ∧ i = .int .i64 k ∧ v = .slice O n d ∧ n = (ptsTo (l.take k) (u + 1)).length ∧ n ≤ u + 1 ∧ Own eI 1 wr w.heap.size 3 O d (ptsTo (l.take k) (u + 1)) ∧ Below w.heap.size w wr) (fun _ i _ => l.length - (intOf i).toNat)
  case atStart =>
    have e0 : ptsTo (l.take 0) (u + 1) = [] := by
      rw [List.take_zero]
      show fl (fun m => isPt [] (m : Int)) (u + 1) = []
      unfold fl
      rw [show (List.range (u + 1)).filter (fun (m : Nat) => isPt [] (m : Int)) = [] from List.filter_eq_nil_iff.2 (fun m _ => by simp [isPt])]
      rfl
    exact ⟨0, 0, none, 0, Nat.zero_le _, rfl, rfl, by rw [e0]; rfl, by omega, by rw [e0]; exact Own.nil _ _ _, Below.refl _ _⟩
  case round =>
    obtain ⟨k, n, O, d, hk, rfl, rfl, hn, hnu, own, hB⟩ := hrel
    have HN := Lib.hid hn
    clear hn
    by_cases hlt : k < l.length
    · obtain ⟨b, off, rfl, c0, c1, c2⟩ := (hs.keep hB).tk_at hlt
      have k0 : (0 : Int) ≤ (k : Int) := by omega
      have k1 : (k : Int) < (l.length : Int) := by omega
      have hr := allT_at H.out hlt
      have hrt := Lib.hid (allT_mem H.out _ (List.getElem_mem hlt))
      obtain ⟨D, hD⟩ := Int.eq_ofNat_of_zero_le (show 0 ≤ l[k].dead by omega)
      obtain ⟨P, hP⟩ := Int.eq_ofNat_of_zero_le (show 0 ≤ l[k].period by omega)
      have HD := Lib.hid hD
      have HP := Lib.hid hP
      have HQ := Lib.hid (fun a => qm_end hlt (a := a) (u := u))
      have HS := Lib.hid (fun a ha => qm_step (l := l) (k := k) hrt.out hP (a := a) ha (u + 1))
      have HT0 := Lib.hid (fun a ha => pt_step hrt.out hP (a := a) ha)
      rw [← qm_start hD] at own HN
      have HPD : Hid (isPt1 l[k] (D : Int) = true) := decide_eq_true ⟨by omega, by rw [hD, Int.sub_self]; simp⟩
      rw [hP] at c1 hr
      rw [hD] at c2 hr
      clear hD hP c0
      have hbw : b < w.heap.size := hs.block_lt (by omega) (fun _ => by simp [eT])
      have HC1 : Hid (∀ W : World, Below w.heap.size w W → W.cell? ⟨b, off + k * 3 + 1, none⟩ = some (.int .i64 P)) := fun W hW => by
        obtain ⟨b', off', hA', _, c1', _⟩ := (hs.keep hW).tk_at hlt
        injection hA' with hA'
        injection hA' with q1 q2
        subst q1 q2
        rw [HP.out] at c1'
        exact c1'
      generalize l[k] = t at *
      go_wp2_with fail
      clear c1 c2
      go_loopw [5, 7] (fun v i wr => ∃ (a n : Nat) (O : Option Addr) (d : Nat), a ≤ u + 1048576 ∧ i = .int .i64 a ∧ v = .slice O n d ∧ n = (fl (qm l k t a) (u + 1)).length ∧ n ≤ u + 1 ∧ Hid (isPt1 t (a : Int) = true) ∧ Own eI 1 wr w.heap.size 3 O d (fl (qm l k t a) (u + 1)) ∧ Below w.heap.size w wr) (fun _ i _ => u + 1048577 - (intOf i).toNat)
      case atStart => exact ⟨D, n, O, d, by omega, rfl, rfl, HN.out, hnu, HPD.out, own, hB⟩
      case round =>
        clear own hB HN HPD
        obtain ⟨a, n, O, d, ha, rfl, rfl, hn, hnu, HPA, own, hB⟩ := hrel
        obtain ⟨wo, rfl⟩ : ∃ wo : World, wo = wr := ⟨_, rfl⟩
        have HN := Lib.hid hn
        clear hn
        by_cases hau : a ≤ u
        · have hle : (a : Int) ≤ (u : Int) := by omega
          have HPN := Lib.hid (HT0.out a HPA.out)
          have HSX := Lib.hid (HS.out a HPA.out)
          have HPL := Lib.hid (fun m => fl_place (q := qm l k t a) (a := a) (N := u + 1) (m := m) (by omega))
          have HOL := Lib.hid (fun m => fl_old (q := qm l k t a) (a := a) (N := u + 1) (m := m) (by omega))
          have HNW := Lib.hid (fun m => fl_new (q := qm l k t a) (a := a) (N := u + 1) (m := m) (by omega))
          have HLE := Lib.hid (fl_len (qm l k t (a + P)) (u + 1))
          rw [HSX.out] at HOL HNW
          obtain ⟨out2, hO2⟩ : ∃ o, o = fl (qm l k t (a + P)) (u + 1) := ⟨_, rfl⟩
          rw [← hO2] at HOL HNW HLE
          have HO2 := Lib.hid hO2
          clear hO2
          generalize (fl (qm l k t a) a ++ if qm l k t a a = true then [(a : Int)] else []).length = M at *
          generalize fl (qm l k t a) (u + 1) = out at *
          clear HSX
          go_upto_block 4 with (fail)
          go_cut [8] (fun s8 wx => ∃ m : Nat, m ≤ n ∧ s8 = .int .i64 m ∧ Hid (m = M) ∧ wx = wo)
          case first =>
            go_wp2_with fail
            go_loop [8] (fun s => ∃ m : Nat, m ≤ n ∧ s = .int .i64 m ∧ Hid (∀ i (hi : i < out.length), m ≤ i → (a : Int) < out[i])) (fun s => (intOf s).toNat)
            case atStart => exact ⟨n, Nat.le_refl _, rfl, fun i hi hn => absurd hi (by rw [← HN.out]; omega)⟩
            case round =>
              obtain ⟨m, hm, rfl, HG⟩ := hrel
              by_cases h0 : 0 < m
              · have hml : m - 1 < out.length := by rw [← HN.out]; omega
                obtain ⟨bo, oo, rfl, cO⟩ := (own.sl eI_ok).int_at hml
                have HG2 : Hid ((a : Int) < out[m - 1] → ∀ i (hi : i < out.length), m - 1 ≤ i → (a : Int) < out[i]) := fun hx i hi hmi => by
                  by_cases he : i = m - 1
                  · subst he; exact hx
                  · exact HG.out i hi (by omega)
                have HM : Hid (out[m - 1] ≤ (a : Int) → m = M) := fun hx => HPL.out m (by rw [← HN.out]; omega) HG.out (.inr ⟨hml, hx⟩)
                generalize out[m - 1] = x at *
                have m0 : (0 : Int) < (m : Int) := by omega
                have m1 : (0 : Int) ≤ (m : Int) - 1 := by omega
                have m2 : (m : Int) - 1 < (n : Int) := by omega
                have m4 : ((m : Int) - 1).toNat = m - 1 := by omega
                by_cases hxa : (a : Int) < x
                · go_wp2_with fail
                  go_round
                  case rel => exact ⟨m - 1, by omega, by congr 1; omega, HG2.out hxa⟩
                  case measure => simp [intOf]; omega
                · go_wp2_with fail
                  go_meet
                  exact ⟨m, hm, rfl, HM.out (by omega), rfl⟩
              · obtain rfl : m = 0 := by omega
                go_wp2_with fail
                go_meet
                exact ⟨0, hm, rfl, HPL.out 0 (by omega) HG.out (.inl rfl), rfl⟩
          case rest =>
            obtain ⟨m, hm, rfl, HM, hwx⟩ := hcut
            subst hwx
            have m0 : (0 : Int) ≤ (m : Int) := by omega
            have m1 : (m : Int) ≤ (n : Int) := by omega
            by_cases hz : m = 0
            · have HNEW : Hid (out2 = out.take m ++ [(a : Int)] ++ out.drop m) := HNW.out m HM.out (.inl hz)
              have t0 : ((m : Int) == 0) = true := by rw [hz]; rfl
              clear hz
              have hsl := own.sl eI_ok
              have hBs := hB.size
              have HNX : Hid (n + 1 = out2.length) := by
                unfold Hid
                rw [HNEW.out]
                simp only [List.length_append, List.length_take, List.length_drop, List.length_cons, List.length_nil, ← HN.out]
                omega
              have HNB : Hid (n + 1 ≤ u + 1) := by have := HLE.out; rw [← HNX.out] at this; exact this
              rcases own.shape with ⟨rfl, rfl, rfl⟩ | ⟨g, rfl⟩
              · obtain rfl : n = 0 := HN.out
                obtain rfl : m = 0 := by omega
                have HT : Hid ((([] : List Int).take 0).length = 0) := rfl
                have HTX : Hid ((([] : List Int).take 0 ++ [(a : Int)]).length = 0 + 1) := rfl
                have HD2 : Hid ((([] : List Int).drop 0).length = 0) := rfl
                go_wp2_with fail
                go_region_held3 (fun w' => Below w.heap.size w w' ∧ Sl eI 1 w' none ([] : List Int))
                  (first | exact ⟨hB.drew, hsl⟩ | exact keepSd ‹_› | exact keepS ‹_› | exact keepSg ‹_› hg3 (fun q hq => Nat.le_trans hBs (n2 q hq)) (fun q _ e => by cases e) | exact keepSg ‹_› hg2 (fun q hq => Nat.le_trans hBs (n1 q hq)) (fun q _ e => by cases e) | exact keepSg ‹_› hg1 (fun q hq => Nat.le_trans hBs (ge_at (by omega) q hq)) (fun q _ e => by cases e))
                  (first | (refine step_append_sl _ rfl (.tmp 56) (.tmp 59) rfl elI eI_ok (base := w.heap.size) (xs := ([] : List Int)) ?o (n := 0) rfl rfl (m := 0) rfl (ys := (([] : List Int).take 0)) HT.out ?s (by simp only [maxLen]; omega) (by omega) ?d _ rfl 0 (by simp) ?_; (case o => first | exact Own.empty' wc 3 rfl hBs | exact (Own.empty' wc 3 rfl hBs).alloc _ | exact ((Own.empty' wc 3 rfl hBs).alloc _).alloc _ | exact Own.empty' (wc.alloc (Obj.cells #[.int .i64 a] 3)) 3 (by simp) (by omega) | exact (Own.empty' (wc.alloc (Obj.cells #[.int .i64 a] 3)) 3 (by simp) (by omega)).alloc _); (case s => exact (Sl.nil _ _)); (case d => first | omega | (simp; omega)); intro A1 e1 w1' own1 hg1 at1; simp only [List.nil_append] at own1; have n1 : ∀ q, blk A1 = some q → wc.heap.size ≤ q := grow_ge at1 (ge_at (by omega)) (by simp; try omega)) | (refine step_append_sl _ rfl (.tmp 60) (.tmp 62) rfl elI eI_ok (base := w.heap.size) (xs := (([] : List Int).take 0)) ?o (n := 0) HT.out rfl (m := 1) rfl (ys := [(a : Int)]) rfl ?s (by simp only [maxLen]; omega) (by omega) ?d _ rfl (0 + 1) rfl ?_; (case o => first | exact own1 | exact own1.alloc _); (case s => first | exact Sl.new' eI_ok w1' _ _ rfl _ rfl | exact (Sl.drew (Sl.new' eI_ok (wc.alloc (Obj.cells #[] 3)) _ _ rfl _ (by simp))).grown hg1 (by intro q hq e; simp [blk] at hq e; omega) | exact (Sl.drew ((Sl.new' eI_ok wc _ _ rfl _ rfl).alloc _)).grown hg1 (by intro q hq e; simp [blk] at hq e; omega)); (case d => have h91 := hg1.size; (try simp at h91); first | omega | (simp; omega)); intro A2 e2 w2' own2 hg2 at2; have n2 : ∀ q, blk A2 = some q → wc.heap.size ≤ q := grow_ge at2 n1 (by have h91 := hg1.size; (try simp at h91); first | omega | (simp; omega))) | (refine step_append_sl _ rfl (.tmp 63) (.tmp 66) rfl elI eI_ok (base := w.heap.size) (xs := ((([] : List Int).take 0) ++ [(a : Int)])) ?o (n := (0 + 1)) HTX.out rfl (m := 0) rfl (ys := (([] : List Int).drop 0)) HD2.out ?s (by simp only [maxLen]; omega) (by omega) ?d _ rfl 1 rfl ?_; (case o => first | exact own2 | exact own2.alloc _); (case s => exact (Sl.nil _ _)); (case d => have h91 := hg1.size; (try simp at h91); have h92 := hg2.size; (try simp at h92); first | omega | (simp; omega)); intro A3 e3 w3' own3 hg3 at3))
                all_goals
                  rename_i hH
                  have hB3 := hH.1
                  clear hH
                  have c1 := HC1.out _ hB3
                  go_wp2_with fail
                  go_roundw
                  case rel => exact ⟨a + P, 0 + 1, A3, e3, by omega, by go_num, rfl, by rw [← HO2.out]; exact HNX.out, HNB.out, HPN.out, by rw [← HO2.out, HNEW.out]; simpa using own3, hB3⟩
                  case measure => simp [intOf]; omega
              · have hcap := own.cap
                rw [← HN.out] at hcap
                have m2 : (m : Int) ≤ (d : Int) := by omega
                have m3 : (n : Int) ≤ (d : Int) := by omega
                have hgl := (own.lt g rfl).2
                have HT : Hid ((out.take m).length = m) := by unfold Hid; rw [List.length_take, ← HN.out]; omega
                have HTX : Hid ((out.take m ++ [(a : Int)]).length = m + 1) := by unfold Hid; rw [List.length_append, HT.out]; simp
                have HD2 : Hid ((out.drop m).length = n - m) := by unfold Hid; rw [List.length_drop, ← HN.out]
                by_cases hdm : d = m
                · obtain rfl : m = n := by omega
                  have HD3 : Hid (out.drop m = []) := by unfold Hid; exact List.drop_of_length_le (by rw [← HN.out]; omega)
                  subst hdm
                  go_wp2_with fail
                  go_region_held3 (fun w' => Below w.heap.size w w' ∧ Sl eI 1 w' (some ⟨g, 0, none⟩) out)
                    (first | exact ⟨hB.drew, hsl⟩ | exact keepSd ‹_› | exact keepS ‹_› | exact keepSg ‹_› hg3 (fun q hq => Nat.le_trans hBs (n2 q hq)) (ne_below n2 hgl) | exact keepSg ‹_› hg2 (fun q hq => Nat.le_trans hBs (n1 q hq)) (ne_below n1 hgl) | exact keepSg ‹_› hg1 (fun q hq => Nat.le_trans hBs (ge_at (by omega) q hq)) (ne_below (ge_at (B := wc.heap.size) (by omega)) hgl))
                    (first | (refine step_append_sl _ rfl (.tmp 56) (.tmp 59) rfl elI eI_ok (base := w.heap.size) (xs := []) ?o (n := 0) rfl rfl (m := d) rfl (ys := (out.take d)) HT.out ?s (by simp only [maxLen]; omega) (by omega) ?d _ rfl d (by simp) ?_; (case o => first | exact Own.empty' wc 3 rfl hBs | exact (Own.empty' wc 3 rfl hBs).alloc _ | exact ((Own.empty' wc 3 rfl hBs).alloc _).alloc _ | exact Own.empty' (wc.alloc (Obj.cells #[.int .i64 a] 3)) 3 (by simp) (by omega) | exact (Own.empty' (wc.alloc (Obj.cells #[.int .i64 a] 3)) 3 (by simp) (by omega)).alloc _); (case s => exact ((Sl.of (W := w) ‹_›).take d)); (case d => first | omega | (simp; omega)); intro A1 e1 w1' own1 hg1 at1; simp only [List.nil_append] at own1; have n1 : ∀ q, blk A1 = some q → wc.heap.size ≤ q := grow_ge at1 (ge_at (by omega)) (by simp; try omega)) | (refine step_append_sl _ rfl (.tmp 60) (.tmp 62) rfl elI eI_ok (base := w.heap.size) (xs := (out.take d)) ?o (n := d) HT.out rfl (m := 1) rfl (ys := [(a : Int)]) rfl ?s (by simp only [maxLen]; omega) (by omega) ?d _ rfl (d + 1) rfl ?_; (case o => first | exact own1 | exact own1.alloc _); (case s => first | exact Sl.new' eI_ok w1' _ _ rfl _ rfl | exact (Sl.drew (Sl.new' eI_ok (wc.alloc (Obj.cells #[] 3)) _ _ rfl _ (by simp))).grown hg1 (by intro q hq e; simp [blk] at hq e; omega) | exact (Sl.drew ((Sl.new' eI_ok wc _ _ rfl _ rfl).alloc _)).grown hg1 (by intro q hq e; simp [blk] at hq e; omega)); (case d => have h91 := hg1.size; (try simp at h91); first | omega | (simp; omega)); intro A2 e2 w2' own2 hg2 at2; have n2 : ∀ q, blk A2 = some q → wc.heap.size ≤ q := grow_ge at2 n1 (by have h91 := hg1.size; (try simp at h91); first | omega | (simp; omega))) | (refine step_append_sl _ rfl (.tmp 63) (.tmp 66) rfl elI eI_ok (base := w.heap.size) (xs := ((out.take d) ++ [(a : Int)])) ?o (n := (d + 1)) HTX.out rfl (m := 0) rfl (ys := (out.drop d)) (by rw [HD3.out]; rfl) ?s (by simp only [maxLen]; omega) (by omega) ?d _ rfl (d + 1) rfl ?_; (case o => first | exact own2 | exact own2.alloc _); (case s => exact (by rw [HD3.out]; exact Sl.nil _ _)); (case d => have h91 := hg1.size; (try simp at h91); have h92 := hg2.size; (try simp at h92); first | omega | (simp; omega)); intro A3 e3 w3' own3 hg3 at3))
                  all_goals
                    rename_i hH
                    have hB3 := hH.1
                    clear hH
                    have c1 := HC1.out _ hB3
                    go_wp2_with fail
                    go_roundw
                    case rel => exact ⟨a + P, d + 1, A3, e3, by omega, by go_num, rfl, by rw [← HO2.out]; exact HNX.out, HNB.out, HPN.out, by rw [← HO2.out, HNEW.out]; simpa using own3, hB3⟩
                    case measure => simp [intOf]; omega
                · have slD : ∀ W : World, Sl eI 1 W (some ⟨g, 0, none⟩) out → Sl eI 1 W (some ⟨g, m, none⟩) (out.drop m) := fun W h => by
                    by_cases hmk : m < n
                    · have := h.drop (k := m) (by rw [← HN.out]; exact hmk)
                      simpa using this
                    · rw [List.drop_of_length_le (by rw [← HN.out]; omega)]; exact Sl.nil _ _
                  go_wp2_with fail
                  go_region_held3 (fun w' => Below w.heap.size w w' ∧ Sl eI 1 w' (some ⟨g, 0, none⟩) out)
                    (first | exact ⟨hB.drew, hsl⟩ | exact keepSd ‹_› | exact keepS ‹_› | exact keepSg ‹_› hg3 (fun q hq => Nat.le_trans hBs (n2 q hq)) (ne_below n2 hgl) | exact keepSg ‹_› hg2 (fun q hq => Nat.le_trans hBs (n1 q hq)) (ne_below n1 hgl) | exact keepSg ‹_› hg1 (fun q hq => Nat.le_trans hBs (ge_at (by omega) q hq)) (ne_below (ge_at (B := wc.heap.size) (by omega)) hgl))
                    (first | (refine step_append_sl _ rfl (.tmp 56) (.tmp 59) rfl elI eI_ok (base := w.heap.size) (xs := []) ?o (n := 0) rfl rfl (m := m) rfl (ys := (out.take m)) HT.out ?s (by simp only [maxLen]; omega) (by omega) ?d _ rfl m (by simp) ?_; (case o => first | exact Own.empty' wc 3 rfl hBs | exact (Own.empty' wc 3 rfl hBs).alloc _ | exact ((Own.empty' wc 3 rfl hBs).alloc _).alloc _ | exact Own.empty' (wc.alloc (Obj.cells #[.int .i64 a] 3)) 3 (by simp) (by omega) | exact (Own.empty' (wc.alloc (Obj.cells #[.int .i64 a] 3)) 3 (by simp) (by omega)).alloc _); (case s => exact ((Sl.of (W := w) ‹_›).take m)); (case d => first | omega | (simp; omega)); intro A1 e1 w1' own1 hg1 at1; simp only [List.nil_append] at own1; have n1 : ∀ q, blk A1 = some q → wc.heap.size ≤ q := grow_ge at1 (ge_at (by omega)) (by simp; try omega)) | (refine step_append_sl _ rfl (.tmp 60) (.tmp 62) rfl elI eI_ok (base := w.heap.size) (xs := (out.take m)) ?o (n := m) HT.out rfl (m := 1) rfl (ys := [(a : Int)]) rfl ?s (by simp only [maxLen]; omega) (by omega) ?d _ rfl (m + 1) rfl ?_; (case o => first | exact own1 | exact own1.alloc _); (case s => first | exact Sl.new' eI_ok w1' _ _ rfl _ rfl | exact (Sl.drew (Sl.new' eI_ok (wc.alloc (Obj.cells #[] 3)) _ _ rfl _ (by simp))).grown hg1 (by intro q hq e; simp [blk] at hq e; omega) | exact (Sl.drew ((Sl.new' eI_ok wc _ _ rfl _ rfl).alloc _)).grown hg1 (by intro q hq e; simp [blk] at hq e; omega)); (case d => have h91 := hg1.size; (try simp at h91); first | omega | (simp; omega)); intro A2 e2 w2' own2 hg2 at2; have n2 : ∀ q, blk A2 = some q → wc.heap.size ≤ q := grow_ge at2 n1 (by have h91 := hg1.size; (try simp at h91); first | omega | (simp; omega))) | (refine step_append_sl _ rfl (.tmp 63) (.tmp 66) rfl elI eI_ok (base := w.heap.size) (xs := ((out.take m) ++ [(a : Int)])) ?o (n := (m + 1)) HTX.out rfl (m := (n - m)) rfl (ys := (out.drop m)) HD2.out ?s (by simp only [maxLen]; omega) (by omega) ?d _ rfl (n + 1) (by omega) ?_; (case o => first | exact own2 | exact own2.alloc _); (case s => exact (slD _ (Sl.of (W := w) ‹_›))); (case d => have h91 := hg1.size; (try simp at h91); have h92 := hg2.size; (try simp at h92); first | omega | (simp; omega)); intro A3 e3 w3' own3 hg3 at3))
                  all_goals
                    rename_i hH
                    have hB3 := hH.1
                    clear hH
                    have c1 := HC1.out _ hB3
                    go_wp2_with fail
                    go_roundw
                    case rel => exact ⟨a + P, n + 1, A3, e3, by omega, by go_num, rfl, by rw [← HO2.out]; exact HNX.out, HNB.out, HPN.out, by rw [← HO2.out, HNEW.out]; simpa using own3, hB3⟩
                    case measure => simp [intOf]; omega

            · have hml : m - 1 < out.length := by rw [← HN.out]; omega
              have t0 : ((m : Int) == 0) = false := by simp; omega
              obtain ⟨bo, oo, hO, cO⟩ := (own.sl eI_ok).int_at hml
              have m5 : (0 : Int) ≤ (m : Int) - 1 := by omega
              have m6 : (m : Int) - 1 < (n : Int) := by omega
              have m7 : ((m : Int) - 1).toNat = m - 1 := by omega
              cases hx : (out[m - 1] != (a : Int))
              · have HOLD : Hid (out2 = out) := HOL.out m HM.out hml (by omega) (by simpa using hx)
                subst hO
                have c1 := HC1.out _ hB
                generalize out[m - 1] = x at *
                go_wp2_with fail
                go_roundw
                case rel => exact ⟨a + P, n, _, d, by omega, by go_num, rfl, by rw [← HO2.out, HOLD.out, HN.out], hnu, HPN.out, by rw [← HO2.out, HOLD.out]; exact own, hB⟩
                case measure => simp [intOf]; omega
              · have HNEW : Hid (out2 = out.take m ++ [(a : Int)] ++ out.drop m) := HNW.out m HM.out (.inr ⟨hml, by simpa using hx⟩)
                rcases own.shape with ⟨hA, _, _⟩ | ⟨g, hA⟩
                · rw [hA] at hO; cases hO
                rw [hA] at hO
                injection hO with hO
                injection hO with q1 q2
                subst q1 q2 hA
                rw [Nat.zero_add] at cO
                generalize out[m - 1] = x at *
                have hsl := own.sl eI_ok
                have hBs := hB.size
                have HNX : Hid (n + 1 = out2.length) := by
                  unfold Hid
                  rw [HNEW.out]
                  simp only [List.length_append, List.length_take, List.length_drop, List.length_cons, List.length_nil, ← HN.out]
                  omega
                have HNB : Hid (n + 1 ≤ u + 1) := by have := HLE.out; rw [← HNX.out] at this; exact this
                have hcap := own.cap
                rw [← HN.out] at hcap
                have m2 : (m : Int) ≤ (d : Int) := by omega
                have m3 : (n : Int) ≤ (d : Int) := by omega
                have hgl := (own.lt g rfl).2
                have HT : Hid ((out.take m).length = m) := by unfold Hid; rw [List.length_take, ← HN.out]; omega
                have HTX : Hid ((out.take m ++ [(a : Int)]).length = m + 1) := by unfold Hid; rw [List.length_append, HT.out]; simp
                have HD2 : Hid ((out.drop m).length = n - m) := by unfold Hid; rw [List.length_drop, ← HN.out]
                by_cases hdm : d = m
                · obtain rfl : m = n := by omega
                  have HD3 : Hid (out.drop m = []) := by unfold Hid; exact List.drop_of_length_le (by rw [← HN.out]; omega)
                  subst hdm
                  go_wp2_with fail
                  go_region_held3 (fun w' => Below w.heap.size w w' ∧ Sl eI 1 w' (some ⟨g, 0, none⟩) out)
                    (first | exact ⟨hB.drew, hsl⟩ | exact keepSd ‹_› | exact keepS ‹_› | exact keepSg ‹_› hg3 (fun q hq => Nat.le_trans hBs (n2 q hq)) (ne_below n2 hgl) | exact keepSg ‹_› hg2 (fun q hq => Nat.le_trans hBs (n1 q hq)) (ne_below n1 hgl) | exact keepSg ‹_› hg1 (fun q hq => Nat.le_trans hBs (ge_at (by omega) q hq)) (ne_below (ge_at (B := wc.heap.size) (by omega)) hgl))
                    (first | (refine step_append_sl _ rfl (.tmp 56) (.tmp 59) rfl elI eI_ok (base := w.heap.size) (xs := []) ?o (n := 0) rfl rfl (m := d) rfl (ys := (out.take d)) HT.out ?s (by simp only [maxLen]; omega) (by omega) ?d _ rfl d (by simp) ?_; (case o => first | exact Own.empty' wc 3 rfl hBs | exact (Own.empty' wc 3 rfl hBs).alloc _ | exact ((Own.empty' wc 3 rfl hBs).alloc _).alloc _ | exact Own.empty' (wc.alloc (Obj.cells #[.int .i64 a] 3)) 3 (by simp) (by omega) | exact (Own.empty' (wc.alloc (Obj.cells #[.int .i64 a] 3)) 3 (by simp) (by omega)).alloc _); (case s => exact ((Sl.of (W := w) ‹_›).take d)); (case d => first | omega | (simp; omega)); intro A1 e1 w1' own1 hg1 at1; simp only [List.nil_append] at own1; have n1 : ∀ q, blk A1 = some q → wc.heap.size ≤ q := grow_ge at1 (ge_at (by omega)) (by simp; try omega)) | (refine step_append_sl _ rfl (.tmp 60) (.tmp 62) rfl elI eI_ok (base := w.heap.size) (xs := (out.take d)) ?o (n := d) HT.out rfl (m := 1) rfl (ys := [(a : Int)]) rfl ?s (by simp only [maxLen]; omega) (by omega) ?d _ rfl (d + 1) rfl ?_; (case o => first | exact own1 | exact own1.alloc _); (case s => first | exact Sl.new' eI_ok w1' _ _ rfl _ rfl | exact (Sl.drew (Sl.new' eI_ok (wc.alloc (Obj.cells #[] 3)) _ _ rfl _ (by simp))).grown hg1 (by intro q hq e; simp [blk] at hq e; omega) | exact (Sl.drew ((Sl.new' eI_ok wc _ _ rfl _ rfl).alloc _)).grown hg1 (by intro q hq e; simp [blk] at hq e; omega)); (case d => have h91 := hg1.size; (try simp at h91); first | omega | (simp; omega)); intro A2 e2 w2' own2 hg2 at2; have n2 : ∀ q, blk A2 = some q → wc.heap.size ≤ q := grow_ge at2 n1 (by have h91 := hg1.size; (try simp at h91); first | omega | (simp; omega))) | (refine step_append_sl _ rfl (.tmp 63) (.tmp 66) rfl elI eI_ok (base := w.heap.size) (xs := ((out.take d) ++ [(a : Int)])) ?o (n := (d + 1)) HTX.out rfl (m := 0) rfl (ys := (out.drop d)) (by rw [HD3.out]; rfl) ?s (by simp only [maxLen]; omega) (by omega) ?d _ rfl (d + 1) rfl ?_; (case o => first | exact own2 | exact own2.alloc _); (case s => exact (by rw [HD3.out]; exact Sl.nil _ _)); (case d => have h91 := hg1.size; (try simp at h91); have h92 := hg2.size; (try simp at h92); first | omega | (simp; omega)); intro A3 e3 w3' own3 hg3 at3))
                  all_goals
                    rename_i hH
                    have hB3 := hH.1
                    clear hH
                    have c1 := HC1.out _ hB3
                    go_wp2_with fail
                    go_roundw
                    case rel => exact ⟨a + P, d + 1, A3, e3, by omega, by go_num, rfl, by rw [← HO2.out]; exact HNX.out, HNB.out, HPN.out, by rw [← HO2.out, HNEW.out]; simpa using own3, hB3⟩
                    case measure => simp [intOf]; omega
                · have slD : ∀ W : World, Sl eI 1 W (some ⟨g, 0, none⟩) out → Sl eI 1 W (some ⟨g, m, none⟩) (out.drop m) := fun W h => by
                    by_cases hmk : m < n
                    · have := h.drop (k := m) (by rw [← HN.out]; exact hmk)
                      simpa using this
                    · rw [List.drop_of_length_le (by rw [← HN.out]; omega)]; exact Sl.nil _ _
                  go_wp2_with fail
                  go_region_held3 (fun w' => Below w.heap.size w w' ∧ Sl eI 1 w' (some ⟨g, 0, none⟩) out)
                    (first | exact ⟨hB.drew, hsl⟩ | exact keepSd ‹_› | exact keepS ‹_› | exact keepSg ‹_› hg3 (fun q hq => Nat.le_trans hBs (n2 q hq)) (ne_below n2 hgl) | exact keepSg ‹_› hg2 (fun q hq => Nat.le_trans hBs (n1 q hq)) (ne_below n1 hgl) | exact keepSg ‹_› hg1 (fun q hq => Nat.le_trans hBs (ge_at (by omega) q hq)) (ne_below (ge_at (B := wc.heap.size) (by omega)) hgl))
                    (first | (refine step_append_sl _ rfl (.tmp 56) (.tmp 59) rfl elI eI_ok (base := w.heap.size) (xs := []) ?o (n := 0) rfl rfl (m := m) rfl (ys := (out.take m)) HT.out ?s (by simp only [maxLen]; omega) (by omega) ?d _ rfl m (by simp) ?_; (case o => first | exact Own.empty' wc 3 rfl hBs | exact (Own.empty' wc 3 rfl hBs).alloc _ | exact ((Own.empty' wc 3 rfl hBs).alloc _).alloc _ | exact Own.empty' (wc.alloc (Obj.cells #[.int .i64 a] 3)) 3 (by simp) (by omega) | exact (Own.empty' (wc.alloc (Obj.cells #[.int .i64 a] 3)) 3 (by simp) (by omega)).alloc _); (case s => exact ((Sl.of (W := w) ‹_›).take m)); (case d => first | omega | (simp; omega)); intro A1 e1 w1' own1 hg1 at1; simp only [List.nil_append] at own1; have n1 : ∀ q, blk A1 = some q → wc.heap.size ≤ q := grow_ge at1 (ge_at (by omega)) (by simp; try omega)) | (refine step_append_sl _ rfl (.tmp 60) (.tmp 62) rfl elI eI_ok (base := w.heap.size) (xs := (out.take m)) ?o (n := m) HT.out rfl (m := 1) rfl (ys := [(a : Int)]) rfl ?s (by simp only [maxLen]; omega) (by omega) ?d _ rfl (m + 1) rfl ?_; (case o => first | exact own1 | exact own1.alloc _); (case s => first | exact Sl.new' eI_ok w1' _ _ rfl _ rfl | exact (Sl.drew (Sl.new' eI_ok (wc.alloc (Obj.cells #[] 3)) _ _ rfl _ (by simp))).grown hg1 (by intro q hq e; simp [blk] at hq e; omega) | exact (Sl.drew ((Sl.new' eI_ok wc _ _ rfl _ rfl).alloc _)).grown hg1 (by intro q hq e; simp [blk] at hq e; omega)); (case d => have h91 := hg1.size; (try simp at h91); first | omega | (simp; omega)); intro A2 e2 w2' own2 hg2 at2; have n2 : ∀ q, blk A2 = some q → wc.heap.size ≤ q := grow_ge at2 n1 (by have h91 := hg1.size; (try simp at h91); first | omega | (simp; omega))) | (refine step_append_sl _ rfl (.tmp 63) (.tmp 66) rfl elI eI_ok (base := w.heap.size) (xs := ((out.take m) ++ [(a : Int)])) ?o (n := (m + 1)) HTX.out rfl (m := (n - m)) rfl (ys := (out.drop m)) HD2.out ?s (by simp only [maxLen]; omega) (by omega) ?d _ rfl (n + 1) (by omega) ?_; (case o => first | exact own2 | exact own2.alloc _); (case s => exact (slD _ (Sl.of (W := w) ‹_›))); (case d => have h91 := hg1.size; (try simp at h91); have h92 := hg2.size; (try simp at h92); first | omega | (simp; omega)); intro A3 e3 w3' own3 hg3 at3))
                  all_goals
                    rename_i hH
                    have hB3 := hH.1
                    clear hH
                    have c1 := HC1.out _ hB3
                    go_wp2_with fail
                    go_roundw
                    case rel => exact ⟨a + P, n + 1, A3, e3, by omega, by go_num, rfl, by rw [← HO2.out]; exact HNX.out, HNB.out, HPN.out, by rw [← HO2.out, HNEW.out]; simpa using own3, hB3⟩
                    case measure => simp [intOf]; omega

        · have HF := Lib.hid (HQ.out a (by omega))
          go_wp2_with fail
          go_roundw
          case rel => exact ⟨k + 1, n, O, d, by omega, by go_num, rfl, by rw [← HF.out, HN.out], hnu, by rw [← HF.out]; exact own, hB⟩
          case measure => simp [intOf]; omega
    · obtain rfl : k = l.length := by omega
      rw [List.take_length] at own HN
      go_wp2
      go_ret
      exact ⟨O, d, by rw [HN.out]; rfl, own, hB⟩
end Go.Proofs.Ytojccjdldmjfgaa
