/- Walk: the statement UpcallPlays. -/
import Derived.Test.YtciijdajdmcllaaW8
import Derived.Test.YtciijdajdmcllaaAft
namespace Go.Proofs.Ytciijdajdmcllaa
open Go.RowKit Go.Lib

set_option maxRecDepth 100000 in
set_option maxHeartbeats 16000000 in
theorem plays_any (A : Option Addr) (l : List ActS) (c : Nat) (kind : Int) (w : World) (hs : Sl eA 5 w A l) (hl : l.length ≤ 9223372036854775807) :
    Calls Try.prog 4 #[.slice A l.length c, .int .i64 kind] w fun e w' => e = .returned (.bool true) ∧ Below w.heap.size w w' := by
  go_enter Try.func4, Try.ntmps4
  go_wp2_with fail
  refine (awake_any _).mono ?_
  rintro e w1 ⟨rfl, hB⟩
  have hgs := hB.size
  have hB1 := hB.alloc hB.size (Obj.cells #[.slice none 0 0, .int .i64 0, .slice none 0 0, .int .i64 0, .slice none 0 0, .int .i64 0, .slice none 0 0, .int .i64 0, .slice none 0 0, .int .i64 0, .slice none 0 0, .int .i64 0, .slice none 0 0, .int .i64 0, .slice none 0 0, .int .i64 0] 30)
  clear hB
  go_wp2_with fail
  refine (new_any _).mono ?_
  rintro e w3 ⟨O, d, rfl, hq3, hO3, hb3⟩
  have hBO := both_new w1 w3 rfl hb3 hq3 (by simpa using hO3)
  have hB3 := bstep hB1 (Nat.le_refl _) hb3
  have HO0 : Hid (∀ b, FB O newR b → w.heap.size ≤ b) := fun b hb => by
    rcases hb with hb | ⟨r, hr, hrl, _⟩
    · have := (hO3 b hb).1
      simp at this
      omega
    · rw [List.eq_of_mem_replicate hr] at hrl; exact absurd rfl hrl
  clear hq3 hO3 hb3 hB1
  generalize w1.heap.size = g at *
  go_wp2_with fail
  go_loopw [6, 7] (fun s6 s7 wr => ∃ (k : Nat) (A' : Option Addr) (c' : Nat) (R : List RwS), k ≤ l.length ∧ k ≤ 100 ∧ s7 = .int .i64 k ∧ s6 = .slice A' 8 c' ∧ Both wr g A' c' R (fun b => b < g) ∧ Hid (Fit k (R.map ctOf)) ∧ Hid (∀ b, FB A' R b → w.heap.size ≤ b) ∧ Below w.heap.size w wr) (fun _ i _ => 100 - (intOf i).toNat)
  case atStart => exact ⟨0, O, d, newR, Nat.zero_le _, by omega, rfl, rfl, hBO, fit_new, HO0.out, hB3⟩
  case round =>
    clear hBO hB3
    obtain ⟨k, A', c', R, hk, hk2, rfl, rfl, hBO, HF, HAW, hB⟩ := hrel
    by_cases hlt : k < l.length ∧ k < 100
    · obtain ⟨hlt, hlt2⟩ := hlt
      obtain ⟨b, off, rfl, y0, y1, y2, y3, y4⟩ := (hs.keep hB).act_at hlt
      have k0 : (0 : Int) ≤ (k : Int) := by omega
      have k1 : (k : Int) < (l.length : Int) := by omega
      generalize l[k] = a at *
      have bo := below1 wr (Obj.cells #[.int .i64 a.kind, .int .i64 a.env, .int .i64 a.u.kind, .int .i64 a.u.a, .int .u64 a.u.b] 35)
      have ba := Blk.new wr 35 #[.int .i64 a.kind, .int .i64 a.env, .int .i64 a.u.kind, .int .i64 a.u.a, .int .u64 a.u.b]
      have hBOa := hBO.box (Obj.cells #[.int .i64 a.kind, .int .i64 a.env, .int .i64 a.u.kind, .int .i64 a.u.a, .int .u64 a.u.b] 35)
      have hBa := bstep hB (Nat.le_refl _) bo
      have hgw : g < wr.heap.size := hBO.p.rs.lt
      have HQL := Lib.hid hBO.q.lt
      clear hBO hB bo
      by_cases hk1 : a.kind = 1
      · have e1 : (a.kind == 1) = true := by simp [hk1]
        clear hk1
        obtain ⟨v, hv⟩ : ∃ v, v = (takeC (R.map ctOf) a.env).2.1 := ⟨_, rfl⟩
        obtain ⟨x, hx⟩ : ∃ x, x = (takeC (R.map ctOf) a.env).1 := ⟨_, rfl⟩
        have HP : Hid (∀ W, Rf (fun b => (b < g ∨ b = wr.heap.size) ∨ FB A' R b) W g (R.map ctOf) → Calls Try.prog 8 #[.pointer (some ⟨g, 0, none⟩), .int .i64 a.env] W (RetTF (fun b => (b < g ∨ b = wr.heap.size) ∨ FB A' R b) g (takeC (R.map ctOf) a.env).2.2 x v W)) := fun W hW => by rw [hv, hx]; exact ptake_all _ g k a.env (R.map ctOf) W hW HF.out
        have HR : Hid (∀ W, Qs W A' c' R → Calls Try.prog 10 #[.slice A' 8 c', .int .i64 a.env] W (RetQT A' R (takeC (R.map ctOf) a.env).2.2 x v W)) := fun W hW => by rw [hv, hx]; exact rtake_all k A' c' R a.env W hW
        have HFN : Hid (Fit (k + 1) (takeC (R.map ctOf) a.env).2.2) := fit_take HF.out a.env
        clear hv hx
        generalize (takeC (R.map ctOf) a.env).2.2 = C' at *
        have hvv : (v != v) = false := by simp
        have HT := Lib.hid (fun W => to_any x W)
        have hnq := neq_up x
        have z1 := ba.cell 1 (.int .i64 a.env) rfl
        go_wp2_with fail
        refine (HP.out _ hBOa.p).mono ?_
        rintro e w5 ⟨rfl, hp5, hk5⟩
        clear y0 y1 y2 y3 y4 z1
        have hH5 := half_of hBOa hp5 hk5
        have hB5' : Below w.heap.size w w5 := hBa.trans (kp_low hk5 (fun b hb => .inl (.inl (by omega))))
        have ba5 := hk5.blk ba (.inl (.inr rfl))
        have bx := below1 w5 (Obj.cells #[.int .i64 x.kind, .int .i64 x.a, .int .u64 x.b] 38)
        have hH6 := hH5.keep bx
        have hB6 := bstep hB5' (Nat.le_refl _) bx
        have b11 := Blk.new w5 38 #[.int .i64 x.kind, .int .i64 x.a, .int .u64 x.b]
        have ba6 := ba5.keep bx
        have z1 := ba6.cell 1 (.int .i64 a.env) rfl
        clear hp5 hk5 hH5 hB5' ba5 bx hBOa hBa ba ba6
        go_wp2_with fail
        refine (HR.out _ hH6.q).mono ?_
        rintro e w7 ⟨O5, d5, R5, rfl, hq7, hC7, hF7, hb7⟩
        have hBO7 := hH6.both hb7 hq7 hC7 hF7
        have HW5 : Hid (∀ b, FB O5 R5 b → w.heap.size ≤ b) := fun b hb => (hF7 b hb).elim (HAW.out b) (fun h => by have := hB6.size; omega)
        have hB7 := bstep hB6 (Nat.le_refl _) hb7
        have HF5 : Hid (Fit (k + 1) (R5.map ctOf)) := by unfold Hid; rw [hC7]; exact HFN.out
        have b11' := b11.keep hb7
        have by_ := below1 w7 (Obj.cells #[.int .i64 x.kind, .int .i64 x.a, .int .u64 x.b] 33)
        have b14 := Blk.new w7 33 #[.int .i64 x.kind, .int .i64 x.a, .int .u64 x.b]
        have b11'' := b11'.keep by_
        have hBO8 := hBO7.keep by_
        have hB8 := bstep hB7 (Nat.le_refl _) by_
        have x0 := b11''.cell 0 (.int .i64 x.kind) rfl
        have x1 := b11''.cell 1 (.int .i64 x.a) rfl
        have x2 := b11''.cell 2 (.int .u64 x.b) rfl
        have v0 := b14.cell 0 (.int .i64 x.kind) rfl
        have v1 := b14.cell 1 (.int .i64 x.a) rfl
        have v2 := b14.cell 2 (.int .u64 x.b) rfl
        clear hq7 hC7 hF7 hb7 hH6 hB6 z1 b11 b11' b11'' b14 by_ hBO7 hB7
        go_upto_region 16 with (fail)
        generalize w7.alloc (Obj.cells #[.int .i64 x.kind, .int .i64 x.a, .int .u64 x.b] 33) = W8 at *
        (have aft_x0 := Aft.cell x0; have aft_x1 := Aft.cell x1; have aft_x2 := Aft.cell x2; have aft_v0 := Aft.cell v0; have aft_v1 := Aft.cell v1; have aft_v2 := Aft.cell v2; refine wp_region_aft (by kernel_rfl) (by kernel_rfl) ?_; (repeat (go_big_quiet_step ((first | (go_at_call 7; with_reducible exact aft_call (HT.out _)))))); refine wpQuiet_nil ?_; clear aft_x0 aft_x1 aft_x2 aft_v0 aft_v1 aft_v2; intro w8 hw2_; have hb8 := Aft.below hw2_; clear hw2_)
        have hBO5 := hBO8.keep hb8
        have hB5 := bstep hB8 (Nat.le_refl _) hb8
        clear x0 x1 x2 v0 v1 v2 hBO8 hB8 hb8
        go_wp2_with fail
        refine (same_yes g O5 d5 R5 _ hBO5.p.rs hBO5.q (fit_lens HF5.out)).mono ?_
        rintro e w9 ⟨rfl, hb9⟩
        have hB9 := bstep hB5 (Nat.le_refl _) hb9
        have hBO9 := (hBO5.keep hb9).less (G := fun b => b < g) (fun b hb => .inl hb)
        go_wp2_with fail
        go_roundw
        case rel => exact ⟨k + 1, O5, d5, R5, by omega, by omega, by go_num, rfl, hBO9, HF5.out, HW5.out, hB9⟩
        case measure => simp [intOf]; omega
      · have e1 : (a.kind == 1) = false := by simp [hk1]
        by_cases hk2' : a.kind = 2
        · have e2 : (a.kind == 2) = true := by simp [hk2']
          clear hk1 hk2'
          cases hin : inE a.env
          · have hen := inE_f hin
            have HC0 := Lib.hid (fun W => clear_env g a.env hen W)
            have HF5 := Lib.hid HF.out.more
            have z1 := ba.cell 1 (.int .i64 a.env) rfl
            clear hin
            rcases hen with hen | hen
            · go_wp2_with fail
              refine (HC0.out _).mono ?_
              rintro e w5 ⟨rfl, rfl⟩
              go_wp2_with fail
              refine (same_yes g A' c' R _ hBOa.p.rs hBOa.q (fit_lens HF5.out)).mono ?_
              rintro e w9 ⟨rfl, hb9⟩
              have hB9 := bstep hBa (Nat.le_refl _) hb9
              have hBO9 := (hBOa.keep hb9).less (G := fun b => b < g) (fun b hb => .inl hb)
              go_wp2_with fail
              go_roundw
              case rel => exact ⟨k + 1, A', c', R, by omega, by omega, by go_num, rfl, hBO9, HF5.out, HAW.out, hB9⟩
              case measure => simp [intOf]; omega
            · have hen0 : (0 : Int) ≤ a.env := by omega
              have hen7 : ¬ a.env ≤ 7 := by omega
              go_wp2_with fail
              refine (HC0.out _).mono ?_
              rintro e w5 ⟨rfl, rfl⟩
              go_wp2_with fail
              refine (same_yes g A' c' R _ hBOa.p.rs hBOa.q (fit_lens HF5.out)).mono ?_
              rintro e w9 ⟨rfl, hb9⟩
              have hB9 := bstep hBa (Nat.le_refl _) hb9
              have hBO9 := (hBOa.keep hb9).less (G := fun b => b < g) (fun b hb => .inl hb)
              go_wp2_with fail
              go_roundw
              case rel => exact ⟨k + 1, A', c', R, by omega, by omega, by go_num, rfl, hBO9, HF5.out, HAW.out, hB9⟩
              case measure => simp [intOf]; omega
          · obtain ⟨i, hie, hi8⟩ := inE_t hin
            clear hin
            obtain ⟨ak, ae, au⟩ := a
            have hie' : ae = (i : Int) := hie
            clear hie
            subst hie'
            dsimp only at ba hBOa hBa y0 y1 y2 y3 y4 e1 e2
            have hiR : i < R.length := by rw [hBOa.q.len]; exact hi8
            have z1 := ba.cell 1 (.int .i64 (i : Int)) rfl
            have i0 : (0 : Int) ≤ (i : Int) := by omega
            have i7 : (i : Int) ≤ 7 := by omega
            have i8 : (i : Int) < 8 := by omega
            obtain ⟨q, rfl, c0, c1⟩ := hBOa.q.at_ hiR
            have hfz := (own_room hBOa.q.own (i * 2) (by have := hBOa.q.own.cap; have := hBOa.q.len; omega)).2
            have hqg : q < wr.heap.size := HQL.out q (.inl rfl)
            have hqw : w.heap.size ≤ q := HAW.out q (.inl rfl)
            have HW5 : Hid (∀ b, FB (some ⟨q, 0, none⟩) (R.set i ⟨none, 0, [], R[i].lost⟩) b → w.heap.size ≤ b) := fun b hb => by
              rcases hb with hb | ⟨r, hr, hrl, hb⟩
              · exact HAW.out b (.inl hb)
              · rcases List.mem_or_eq_of_mem_set hr with hr | rfl
                · exact HAW.out b (.inr ⟨r, hr, hrl, hb⟩)
                · exact absurd rfl hrl
            have hH := hBOa.gone hiR
            have ba2 := ba.far (p := ⟨q, i * 2, none⟩) (by simp; omega) (.slice none 0 0)
            have z2 := ba2.cell 1 (.int .i64 (i : Int)) rfl
            have hB2 := hBa.setCell (p := ⟨q, i * 2, none⟩) hqw (.slice none 0 0)
            have hcomm := World.setCell_alloc_past (w := wr) (Obj.cells #[.int .i64 ak, .int .i64 (i : Int), .int .i64 au.kind, .int .i64 au.a, .int .u64 au.b] 35) q (i * 2) (.slice none 0 0) hqg
            rw [hcomm] at hH ba2 hB2 z2
            clear hcomm
            have hiC : i < (R.map ctOf).length := by simpa using hiR
            have HC := Lib.hid (pclear_all _ g i (R.map ctOf) _ hH.p hi8 hiC)
            have HF5 : Hid (Fit (k + 1) ((R.set i ⟨none, 0, [], R[i].lost⟩).map ctOf)) := by
              unfold Hid
              rw [ct_set]
              have h5 := HF.out.at_ hiC
              rw [List.getElem_map] at h5
              exact HF.out.set_ i (by simp [ctOf]) h5.2.1 (by have := h5.2.2; simp [ctOf] at this ⊢; omega)
            have hCC : (R.set i ⟨none, 0, [], R[i].lost⟩).map ctOf = (R.map ctOf).set i ⟨[], (R.map ctOf)[i].lost⟩ := by rw [ct_set, List.getElem_map]; rfl
            have hLL : (R.map ctOf)[i].L.length = R[i].L.length := by rw [List.getElem_map]; rfl
            rw [hLL] at HC
            have HCC := Lib.hid hCC
            have hnn : ((R[i].L.length : Int) != (R[i].L.length : Int)) = false := by simp
            clear hCC hLL ba ba2 hBOa hBa
            generalize R[i].L.length = nn at *
            go_wp2_with fail
            refine HC.out.mono ?_
            rintro e w5 ⟨rfl, hp5, hk5⟩
            have hH5 := hH.next hp5 hk5
            have hBO5 := Both.of_half hH5 HCC.out
            have hB5 := hB2.trans (kp_low hk5 (fun b hb => .inl (.inl (by omega))))
            clear hp5 hk5 hH hH5 hB2 c0 c1 z1 z2 hfz
            go_wp2_with fail
            refine (same_yes g (some ⟨q, 0, none⟩) c' (R.set i ⟨none, 0, [], R[i].lost⟩) _ hBO5.p.rs hBO5.q (fit_lens HF5.out)).mono ?_
            rintro e w9 ⟨rfl, hb9⟩
            have hB9 := bstep hB5 (Nat.le_refl _) hb9
            have hBO9 := (hBO5.keep hb9).less (G := fun b => b < g) (fun b hb => .inl hb)
            go_wp2_with fail
            go_roundw
            case rel => exact ⟨k + 1, (some ⟨q, 0, none⟩), c', (R.set i ⟨none, 0, [], R[i].lost⟩), by omega, by omega, by go_num, rfl, hBO9, HF5.out, HW5.out, hB9⟩
            case measure => simp [intOf]; omega
        · have e2 : (a.kind == 2) = false := by simp [hk2']
          clear hk1 hk2'
          obtain ⟨v, hv⟩ : ∃ v, v = (putA (R.map ctOf) a.env a.u).1 := ⟨_, rfl⟩
          have HP : Hid (∀ W, Rf (fun b => (b < g ∨ b = wr.heap.size) ∨ FB A' R b) W g (R.map ctOf) → Calls Try.prog 6 #[.pointer (some ⟨g, 0, none⟩), .int .i64 a.env, .agg #[.int .i64 a.u.kind, .int .i64 a.u.a, .int .u64 a.u.b]] W (RetPF (fun b => (b < g ∨ b = wr.heap.size) ∨ FB A' R b) g (putA (R.map ctOf) a.env a.u).2 v W)) := fun W hW => by rw [hv]; exact pput_all _ g k a.env a.u (R.map ctOf) W hW HF.out (by omega)
          have HR : Hid (∀ W, Qs W A' c' R → Calls Try.prog 12 #[.slice A' 8 c', .int .i64 a.env, .agg #[.int .i64 a.u.kind, .int .i64 a.u.a, .int .u64 a.u.b]] W (RetQP A' R (putA (R.map ctOf) a.env a.u).2 v W)) := fun W hW => by rw [hv]; exact rput_all k A' c' R a.env a.u W hW HF.out (by omega)
          have HFN : Hid (Fit (k + 1) (putA (R.map ctOf) a.env a.u).2) := fit_putA HF.out a.env a.u
          clear hv
          generalize (putA (R.map ctOf) a.env a.u).2 = C' at *
          have hvv : (v != v) = false := by simp
          have HT := Lib.hid (fun W => to_any a.u W)
          have z1 := ba.cell 1 (.int .i64 a.env) rfl
          have z2 := ba.cell 2 (.int .i64 a.u.kind) rfl
          have z3 := ba.cell 3 (.int .i64 a.u.a) rfl
          have z4 := ba.cell 4 (.int .u64 a.u.b) rfl
          go_upto_region 10 with (fail)
          clear y0 y1 y2 y3 y4
          generalize wr.alloc (Obj.cells #[.int .i64 a.kind, .int .i64 a.env, .int .i64 a.u.kind, .int .i64 a.u.a, .int .u64 a.u.b] 35) = Wa at *
          generalize wr.heap.size = gb at *
          go_region_with (first | (go_at_call 7; refine (HT.out _).mono ?_; rintro e w5 ⟨rfl, hb5⟩; (have z15 := kcell (W := Wa.drew) hb5 z1)) | (go_at_call 6; refine (HP.out _ (hBOa.drew.keep hb5).p).mono ?_; rintro e w6 ⟨rfl, hp6, hk6⟩))
          all_goals
            have hH6 := half_of (hBOa.drew.keep hb5) hp6 hk6
            have hB6 : Below w.heap.size w w6 := (bstep hBa.drew (Nat.le_refl _) hb5).trans (kp_low hk6 (fun b hb => .inl (.inl (by omega))))
            have ba6 := hk6.blk (Blk.keep (w := Wa.drew) ba hb5) (.inl (.inr rfl))
            have z1 := ba6.cell 1 (.int .i64 a.env) rfl
            have z2 := ba6.cell 2 (.int .i64 a.u.kind) rfl
            have z3 := ba6.cell 3 (.int .i64 a.u.a) rfl
            have z4 := ba6.cell 4 (.int .u64 a.u.b) rfl
            clear hp6 hk6 ba6 hBOa hBa ba hb5 z15
            go_wp2_with fail
            refine (HR.out _ hH6.q).mono ?_
            rintro e w7 ⟨O5, d5, R5, rfl, hq7, hC7, hF7, hb7⟩
            have hBO5 := hH6.both hb7 hq7 hC7 hF7
            have HW5 : Hid (∀ b, FB O5 R5 b → w.heap.size ≤ b) := fun b hb => (hF7 b hb).elim (HAW.out b) (fun h => by have := hB6.size; omega)
            have hB5 := bstep hB6 (Nat.le_refl _) hb7
            have HF5 : Hid (Fit (k + 1) (R5.map ctOf)) := by unfold Hid; rw [hC7]; exact HFN.out
            clear hq7 hC7 hF7 hb7 hH6 hB6 z1 z2 z3 z4
            go_wp2_with fail
            refine (same_yes g O5 d5 R5 _ hBO5.p.rs hBO5.q (fit_lens HF5.out)).mono ?_
            rintro e w9 ⟨rfl, hb9⟩
            have hB9 := bstep hB5 (Nat.le_refl _) hb9
            have hBO9 := (hBO5.keep hb9).less (G := fun b => b < g) (fun b hb => .inl hb)
            go_wp2_with fail
            go_roundw
            case rel => exact ⟨k + 1, O5, d5, R5, by omega, by omega, by go_num, rfl, hBO9, HF5.out, HW5.out, hB9⟩
            case measure => simp [intOf]; omega
    · have hend : Hid (k = l.length ∨ k = 100) := by unfold Hid; omega
      clear hBO HF
      by_cases hkl : k < l.length
      all_goals
        go_wp2_with fail
        refine (nil_take _).mono ?_
        rintro e w5 ⟨rfl, hb5⟩
        have hB5 := bstep hB (Nat.le_refl _) hb5
        have hB6 := hB5.alloc hB5.size (Obj.cells #[.int .i64 0, .int .i64 0, .int .u64 0] 38)
        clear hB hB5 hb5
        go_wp2_with fail
        refine (nil_ofs _).mono ?_
        rintro e w6 ⟨rfl, rfl⟩
        go_wp2_with fail
        refine (name_any kind _).mono ?_
        rintro e w6 ⟨rfl, rfl⟩
        go_wp2_with fail
        refine (rname_any kind _).mono ?_
        rintro e w7 ⟨rfl, hb7⟩
        replace hB6 := bstep hB6 (Nat.le_refl _) hb7
        go_wp2_with fail
        refine (nil_put ⟨1, 0, 0⟩ _).mono ?_
        rintro e w8 ⟨rfl, hb8⟩
        replace hB6 := bstep hB6 (Nat.le_refl _) hb8
        go_wp2_with fail
        refine (nil_clear _).mono ?_
        rintro e w9 ⟨rfl, rfl⟩
        go_wp2_with fail
        refine (awake_any _).mono ?_
        rintro e w10 ⟨rfl, hb10⟩
        go_wp2_with fail
        go_ret
        exact ⟨rfl, bstep hB6 (Nat.le_refl _) hb10⟩
end Go.Proofs.Ytciijdajdmcllaa
