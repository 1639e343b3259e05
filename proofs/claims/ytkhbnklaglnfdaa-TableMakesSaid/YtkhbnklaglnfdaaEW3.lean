/- Walks over the reference of package edf: jobs by deadline, and who has each tick. -/
import Derived.Test.YtkhbnklaglnfdaaEW2
import Derived.Test.YtkhbnklaglnfdaaApp
import Derived.Deep.DeepCutAuto
import Derived.Deep.CutBlock
namespace Go.Proofs.Ytkhbnklaglnfdaa.Edf
open Go.RowKit

theorem elI : Elem Try.prog 23 3 1 8 := elem_mk Try.underlying23 info_int rfl (by omega)

theorem dead_at {l : List Job} {i : Nat} (h : i < l.length) : deadAt l i = l[i].dead := by
  unfold deadAt
  simp [h]

set_option maxRecDepth 100000 in
set_option maxHeartbeats 4000000 in
theorem byDead_any (A : Option Addr) (js : List Job) (c : Nat) (w : World) (hs : Sl eJ 3 w A js) (hl : js.length ≤ 6000) :
    Calls Try.prog 28 #[.slice A js.length c] w (RetSl eI 1 3 (byDeadTo js js.length) w) := by
  go_enter Try.func28, Try.ntmps28
  go_wp2
  go_loopw [3, 4] (fun v i wr => ∃ (k : Nat) (O : Option Addr) (d : Nat), k ≤ js.length ∧ i = .int .i64 k ∧ v = .slice O k d ∧ Own eI 1 wr w.heap.size 3 O d (byDeadTo js k) ∧ Below w.heap.size w wr) (fun _ i _ => js.length - (intOf i).toNat)
  case atStart => exact ⟨0, none, 0, Nat.zero_le _, rfl, rfl, Own.nil _ _ _, Below.refl _ _⟩
  case round =>
    obtain ⟨k, O, d, hk, rfl, rfl, own, hB⟩ := hrel
    obtain ⟨wo, rfl⟩ : ∃ wo : World, wo = wr := ⟨_, rfl⟩
    by_cases hlt : k < js.length
    · have HL := Lib.hid (by_len js k)
      have HD := Lib.hid (by_bd js k)
      have HS := Lib.hid (show byDeadTo js (k + 1) = insAt (byDeadTo js k) (posDown js (byDeadTo js k) (deadAt js k) (byDeadTo js k).length) k from rfl)
      generalize hout : byDeadTo js k = out at *
      clear hout
      obtain ⟨b, off, rfl, _, c1, _⟩ := (hs.keep hB).job_at hlt
      have hbw : b < w.heap.size := hs.block_lt (by omega) (fun _ => by simp [eJ])
      have k0 : (0 : Int) ≤ (k : Int) := by omega
      have k1 : (k : Int) < (js.length : Int) := by omega
      go_upto_block 2 with (fail)
      go_cut [5] (fun s5 wx => ∃ m : Nat, m ≤ k ∧ s5 = .int .i64 m ∧ Hid (posDown js out (deadAt js k) k = m) ∧ Own eI 1 wx w.heap.size 3 O d out ∧ Below w.heap.size w wx)
      case first =>
        go_wp2
        go_loopw [5] (fun i wi => ∃ (m : Nat), m ≤ k ∧ i = .int .i64 m ∧ Hid (posDown js out (deadAt js k) k = posDown js out (deadAt js k) m) ∧ Own eI 1 wi w.heap.size 3 O d out ∧ Below w.heap.size w wi) (fun i _ => (intOf i).toNat)
        case atStart => exact ⟨k, Nat.le_refl _, rfl, rfl, own, hB⟩
        case round =>
          clear own hB c1
          obtain ⟨m, hm, rfl, HP, own, hB⟩ := hrel
          obtain ⟨b', off', hA', _, c1, _⟩ := (hs.keep hB).job_at hlt
          injection hA' with hA'
          injection hA' with e1 e2
          subst e1 e2
          by_cases h0 : 0 < m
          · have hml : m - 1 < out.length := by rw [HL.out]; omega
            obtain ⟨bo, oo, rfl, cO⟩ := (own.sl eI_ok).int_at hml
            have hx := HD.out out[m - 1] (List.getElem_mem hml)
            obtain ⟨X, hX⟩ := Int.eq_ofNat_of_zero_le hx.1
            rw [hX] at cO hx
            have hXl : X < js.length := by omega
            obtain ⟨b', off', hA', _, cX, _⟩ := (hs.keep hB).job_at hXl
            injection hA' with hA'
            injection hA' with e1 e2
            subst e1 e2
            have HE : Hid (deadAt js (out.getD (m - 1) 0) = js[X].dead) := by
              unfold Hid
              rw [List.getD_eq_getElem?_getD, List.getElem?_eq_getElem hml, Option.getD_some, hX, dead_at hXl]
            have HK := Lib.hid (dead_at hlt)
            clear hX
            have X0 : (0 : Int) ≤ (X : Int) := by omega
            have X1 : (X : Int) < (js.length : Int) := by omega
            have m0 : decide ((0 : Int) < (m : Int)) = true := decide_eq_true (by omega)
            have m1 : (0 : Int) ≤ (m : Int) - 1 := by omega
            have m2 : (m : Int) - 1 < (k : Int) := by omega
            go_wp2
            have m3 : IntKind.i64.wrap ((m : Int) - 1) = (m : Int) - 1 := IntWalk.i64_in _ (by omega)
            have m4 : ((m : Int) - 1).toNat = m - 1 := by omega
            go_quiet (fail)
            clear m3 m4
            by_cases hd : js[k].dead < js[X].dead
            · go_wp2
              go_roundw
              case rel => exact ⟨m - 1, by omega, by congr 1; omega, by unfold Hid; rw [HP.out]; conv => lhs; rw [show m = (m - 1) + 1 by omega]; unfold posDown; rw [HE.out, if_pos (by rw [HK.out]; exact hd)], own, bdrewN hB _⟩
              case measure => simp [intOf]; omega
            · have HQ : Hid (posDown js out (deadAt js k) k = m) := by
                unfold Hid; rw [HP.out]; conv => lhs; rw [show m = (m - 1) + 1 by omega]; unfold posDown; rw [HE.out, HK.out, if_neg hd]
                omega
              go_wp2_with fail
              go_meet
              exact ⟨m, hm, rfl, HQ, own, bdrewN hB _⟩
          · obtain rfl : m = 0 := by omega
            have m0 : decide ((0 : Int) < ((0 : Nat) : Int)) = false := decide_eq_false (by omega)
            go_wp2
            go_quiet (fail)
            go_wp2_with fail
            go_meet
            exact ⟨0, hm, rfl, HP.out, own, bdrewN hB _⟩
      case rest =>
        clear own hB c1
        obtain ⟨m, hm, rfl, HQ, own, hB⟩ := hcut
        have m0 : (0 : Int) ≤ (m : Int) := by omega
        have m1 : (m : Int) ≤ (k : Int) := by omega
        have hsl := own.sl eI_ok
        have hBs := hB.size
        rcases own.shape with ⟨rfl, rfl, rfl⟩ | ⟨g, rfl⟩
        · obtain rfl : k = 0 := by have := HL.out; simpa using this.symm
          obtain rfl : m = 0 := by omega
          have HT : Hid ((([] : List Int).take 0).length = 0) := rfl
          have HTX : Hid ((([] : List Int).take 0 ++ [((0 : Nat) : Int)]).length = 0 + 1) := rfl
          have HD2 : Hid ((([] : List Int).drop 0).length = 0) := rfl
          go_wp2_with fail
          go_region_held3 (fun w' => Below w.heap.size w w' ∧ Sl eI 1 w' none ([] : List Int))
            (first | exact ⟨hB.drew, hsl⟩ | exact keepSd ‹_› | exact keepS ‹_› | exact keepSg ‹_› hg3 (fun q hq => Nat.le_trans hBs (n2 q hq)) (fun q _ e => by cases e) | exact keepSg ‹_› hg2 (fun q hq => Nat.le_trans hBs (n1 q hq)) (fun q _ e => by cases e) | exact keepSg ‹_› hg1 (fun q hq => Nat.le_trans hBs (ge_at (by omega) q hq)) (fun q _ e => by cases e))
            (first | (refine step_append_sl _ rfl (.tmp 35) (.tmp 38) rfl elI eI_ok (base := w.heap.size) (xs := ([] : List Int)) ?o (n := 0) rfl rfl (m := 0) rfl (ys := (([] : List Int).take 0)) HT.out ?s (by simp only [maxLen]; omega) (by omega) ?d _ rfl 0 (by simp) ?_; (case o => first | exact Own.empty' wc 3 rfl hBs | exact (Own.empty' wc 3 rfl hBs).alloc _ | exact ((Own.empty' wc 3 rfl hBs).alloc _).alloc _ | exact Own.empty' (wc.alloc (Obj.cells #[.int .i64 0] 3)) 3 (by simp) (by omega) | exact (Own.empty' (wc.alloc (Obj.cells #[.int .i64 0] 3)) 3 (by simp) (by omega)).alloc _); (case s => exact (Sl.nil _ _)); (case d => first | omega | (simp; omega)); intro A1 e1 w1' own1 hg1 at1; simp only [List.nil_append] at own1; have n1 : ∀ q, blk A1 = some q → wc.heap.size ≤ q := grow_ge at1 (ge_at (by omega)) (by simp; try omega)) | (refine step_append_sl _ rfl (.tmp 39) (.tmp 41) rfl elI eI_ok (base := w.heap.size) (xs := (([] : List Int).take 0)) ?o (n := 0) HT.out rfl (m := 1) rfl (ys := [((0 : Nat) : Int)]) rfl ?s (by simp only [maxLen]; omega) (by omega) ?d _ rfl (0 + 1) rfl ?_; (case o => first | exact own1 | exact own1.alloc _); (case s => first | exact Sl.new' eI_ok w1' _ _ rfl _ rfl | exact (Sl.drew (Sl.new' eI_ok (wc.alloc (Obj.cells #[] 3)) _ _ rfl _ (by simp))).grown hg1 (by intro q hq e; simp [blk] at hq e; omega) | exact (Sl.drew ((Sl.new' eI_ok wc _ _ rfl _ rfl).alloc _)).grown hg1 (by intro q hq e; simp [blk] at hq e; omega)); (case d => have h91 := hg1.size; (try simp at h91); first | omega | (simp; omega)); intro A2 e2 w2' own2 hg2 at2; have n2 : ∀ q, blk A2 = some q → wc.heap.size ≤ q := grow_ge at2 n1 (by have h91 := hg1.size; (try simp at h91); first | omega | (simp; omega))) | (refine step_append_sl _ rfl (.tmp 42) (.tmp 45) rfl elI eI_ok (base := w.heap.size) (xs := ((([] : List Int).take 0) ++ [((0 : Nat) : Int)])) ?o (n := (0 + 1)) HTX.out rfl (m := 0) rfl (ys := (([] : List Int).drop 0)) HD2.out ?s (by simp only [maxLen]; omega) (by omega) ?d _ rfl 1 rfl ?_; (case o => first | exact own2 | exact own2.alloc _); (case s => exact (Sl.nil _ _)); (case d => have h91 := hg1.size; (try simp at h91); have h92 := hg2.size; (try simp at h92); first | omega | (simp; omega)); intro A3 e3 w3' own3 hg3 at3))
          all_goals
            rename_i hH
            have hB3 := hH.1
            clear hH
            go_wp2
            go_roundw
            case rel => exact ⟨0 + 1, A3, e3, by omega, by go_num, rfl, by rw [HS.out]; unfold insAt; rw [HL.out, HQ.out]; simpa using own3, hB3⟩
            case measure => simp [intOf]; omega
        · have hcap := own.cap
          rw [HL.out] at hcap
          have m2 : (m : Int) ≤ (d : Int) := by omega
          have m3 : (k : Int) ≤ (d : Int) := by omega
          have hgl := (own.lt g rfl).2
          have HT : Hid ((out.take m).length = m) := by unfold Hid; rw [List.length_take, HL.out]; omega
          have HTX : Hid ((out.take m ++ [(k : Int)]).length = m + 1) := by unfold Hid; rw [List.length_append, HT.out]; simp
          have HD2 : Hid ((out.drop m).length = k - m) := by unfold Hid; rw [List.length_drop, HL.out]
          by_cases hdm : d = m
          · obtain rfl : m = k := by omega
            have HD3 : Hid (out.drop m = []) := by unfold Hid; exact List.drop_of_length_le (by rw [HL.out]; omega)
            subst hdm
            go_wp2_with fail
            go_region_held3 (fun w' => Below w.heap.size w w' ∧ Sl eI 1 w' (some ⟨g, 0, none⟩) out)
              (first | exact ⟨hB.drew, hsl⟩ | exact keepSd ‹_› | exact keepS ‹_› | exact keepSg ‹_› hg3 (fun q hq => Nat.le_trans hBs (n2 q hq)) (ne_below n2 hgl) | exact keepSg ‹_› hg2 (fun q hq => Nat.le_trans hBs (n1 q hq)) (ne_below n1 hgl) | exact keepSg ‹_› hg1 (fun q hq => Nat.le_trans hBs (ge_at (by omega) q hq)) (ne_below (ge_at (B := wc.heap.size) (by omega)) hgl))
              (first | (refine step_append_sl _ rfl (.tmp 35) (.tmp 38) rfl elI eI_ok (base := w.heap.size) (xs := ([] : List Int)) ?o (n := 0) rfl rfl (m := d) rfl (ys := (out.take d)) HT.out ?s (by simp only [maxLen]; omega) (by omega) ?d _ rfl d (by simp) ?_; (case o => first | exact Own.empty' wc 3 rfl hBs | exact (Own.empty' wc 3 rfl hBs).alloc _ | exact ((Own.empty' wc 3 rfl hBs).alloc _).alloc _ | exact Own.empty' (wc.alloc (Obj.cells #[.int .i64 d] 3)) 3 (by simp) (by omega) | exact (Own.empty' (wc.alloc (Obj.cells #[.int .i64 d] 3)) 3 (by simp) (by omega)).alloc _); (case s => exact ((Sl.of (W := w) ‹_›).take d)); (case d => first | omega | (simp; omega)); intro A1 e1 w1' own1 hg1 at1; simp only [List.nil_append] at own1; have n1 : ∀ q, blk A1 = some q → wc.heap.size ≤ q := grow_ge at1 (ge_at (by omega)) (by simp; try omega)) | (refine step_append_sl _ rfl (.tmp 39) (.tmp 41) rfl elI eI_ok (base := w.heap.size) (xs := (out.take d)) ?o (n := d) HT.out rfl (m := 1) rfl (ys := [(d : Int)]) rfl ?s (by simp only [maxLen]; omega) (by omega) ?d _ rfl (d + 1) rfl ?_; (case o => first | exact own1 | exact own1.alloc _); (case s => first | exact Sl.new' eI_ok w1' _ _ rfl _ rfl | exact (Sl.drew (Sl.new' eI_ok (wc.alloc (Obj.cells #[] 3)) _ _ rfl _ (by simp))).grown hg1 (by intro q hq e; simp [blk] at hq e; omega) | exact (Sl.drew ((Sl.new' eI_ok wc _ _ rfl _ rfl).alloc _)).grown hg1 (by intro q hq e; simp [blk] at hq e; omega)); (case d => have h91 := hg1.size; (try simp at h91); first | omega | (simp; omega)); intro A2 e2 w2' own2 hg2 at2; have n2 : ∀ q, blk A2 = some q → wc.heap.size ≤ q := grow_ge at2 n1 (by have h91 := hg1.size; (try simp at h91); first | omega | (simp; omega))) | (refine step_append_sl _ rfl (.tmp 42) (.tmp 45) rfl elI eI_ok (base := w.heap.size) (xs := ((out.take d) ++ [(d : Int)])) ?o (n := (d + 1)) HTX.out rfl (m := 0) rfl (ys := (out.drop d)) (by rw [HD3.out]; simp) ?s (by simp only [maxLen]; omega) (by omega) ?d _ rfl (d + 1) rfl ?_; (case o => first | exact own2 | exact own2.alloc _); (case s => exact (by rw [HD3.out]; exact Sl.nil _ _)); (case d => have h91 := hg1.size; (try simp at h91); have h92 := hg2.size; (try simp at h92); first | omega | (simp; omega)); intro A3 e3 w3' own3 hg3 at3))
            all_goals
              rename_i hH
              have hB3 := hH.1
              clear hH
              go_wp2
              go_roundw
              case rel => exact ⟨d + 1, A3, e3, by omega, by go_num, rfl, by rw [HS.out]; unfold insAt; rw [HL.out, HQ.out]; simpa using own3, hB3⟩
              case measure => simp [intOf]; omega
          · have slD : ∀ W : World, Sl eI 1 W (some ⟨g, 0, none⟩) out → Sl eI 1 W (some ⟨g, m, none⟩) (out.drop m) := fun W h => by
              by_cases hmk : m < k
              · have := h.drop (k := m) (by rw [HL.out]; exact hmk)
                simpa using this
              · rw [List.drop_of_length_le (by rw [HL.out]; omega)]; exact Sl.nil _ _
            go_wp2_with fail
            go_region_held3 (fun w' => Below w.heap.size w w' ∧ Sl eI 1 w' (some ⟨g, 0, none⟩) out)
              (first | exact ⟨hB.drew, hsl⟩ | exact keepSd ‹_› | exact keepS ‹_› | exact keepSg ‹_› hg3 (fun q hq => Nat.le_trans hBs (n2 q hq)) (ne_below n2 hgl) | exact keepSg ‹_› hg2 (fun q hq => Nat.le_trans hBs (n1 q hq)) (ne_below n1 hgl) | exact keepSg ‹_› hg1 (fun q hq => Nat.le_trans hBs (ge_at (by omega) q hq)) (ne_below (ge_at (B := wc.heap.size) (by omega)) hgl))
              (first | (refine step_append_sl _ rfl (.tmp 35) (.tmp 38) rfl elI eI_ok (base := w.heap.size) (xs := ([] : List Int)) ?o (n := 0) rfl rfl (m := m) rfl (ys := (out.take m)) HT.out ?s (by simp only [maxLen]; omega) (by omega) ?d _ rfl m (by simp) ?_; (case o => first | exact Own.empty' wc 3 rfl hBs | exact (Own.empty' wc 3 rfl hBs).alloc _ | exact ((Own.empty' wc 3 rfl hBs).alloc _).alloc _ | exact Own.empty' (wc.alloc (Obj.cells #[.int .i64 k] 3)) 3 (by simp) (by omega) | exact (Own.empty' (wc.alloc (Obj.cells #[.int .i64 k] 3)) 3 (by simp) (by omega)).alloc _); (case s => exact ((Sl.of (W := w) ‹_›).take m)); (case d => first | omega | (simp; omega)); intro A1 e1 w1' own1 hg1 at1; simp only [List.nil_append] at own1; have n1 : ∀ q, blk A1 = some q → wc.heap.size ≤ q := grow_ge at1 (ge_at (by omega)) (by simp; try omega)) | (refine step_append_sl _ rfl (.tmp 39) (.tmp 41) rfl elI eI_ok (base := w.heap.size) (xs := (out.take m)) ?o (n := m) HT.out rfl (m := 1) rfl (ys := [(k : Int)]) rfl ?s (by simp only [maxLen]; omega) (by omega) ?d _ rfl (m + 1) rfl ?_; (case o => first | exact own1 | exact own1.alloc _); (case s => first | exact Sl.new' eI_ok w1' _ _ rfl _ rfl | exact (Sl.drew (Sl.new' eI_ok (wc.alloc (Obj.cells #[] 3)) _ _ rfl _ (by simp))).grown hg1 (by intro q hq e; simp [blk] at hq e; omega) | exact (Sl.drew ((Sl.new' eI_ok wc _ _ rfl _ rfl).alloc _)).grown hg1 (by intro q hq e; simp [blk] at hq e; omega)); (case d => have h91 := hg1.size; (try simp at h91); first | omega | (simp; omega)); intro A2 e2 w2' own2 hg2 at2; have n2 : ∀ q, blk A2 = some q → wc.heap.size ≤ q := grow_ge at2 n1 (by have h91 := hg1.size; (try simp at h91); first | omega | (simp; omega))) | (refine step_append_sl _ rfl (.tmp 42) (.tmp 45) rfl elI eI_ok (base := w.heap.size) (xs := ((out.take m) ++ [(k : Int)])) ?o (n := (m + 1)) HTX.out rfl (m := (k - m)) rfl (ys := (out.drop m)) HD2.out ?s (by simp only [maxLen]; omega) (by omega) ?d _ rfl (k + 1) (by omega) ?_; (case o => first | exact own2 | exact own2.alloc _); (case s => exact (slD _ (Sl.of (W := w) ‹_›))); (case d => have h91 := hg1.size; (try simp at h91); have h92 := hg2.size; (try simp at h92); first | omega | (simp; omega)); intro A3 e3 w3' own3 hg3 at3))
            all_goals
              rename_i hH
              have hB3 := hH.1
              clear hH
              go_wp2
              go_roundw
              case rel => exact ⟨k + 1, A3, e3, by omega, by go_num, rfl, by rw [HS.out]; unfold insAt; rw [HL.out, HQ.out]; simpa using own3, hB3⟩
              case measure => simp [intOf]; omega
    · obtain rfl : k = js.length := by omega
      go_wp2
      go_ret
      refine ⟨O, d, by rw [by_len]; rfl, own, hB⟩
end Go.Proofs.Ytkhbnklaglnfdaa.Edf
