/- Walk: the statement UpcallOrders. -/
import Derived.Test.YtciijdajdmcllaaW5
namespace Go.Proofs.Ytciijdajdmcllaa
open Go.RowKit Go.Lib

structure ActS where
  kind : Int
  env : Int
  u : Up
def eA (a : ActS) : List Value := [.int .i64 a.kind, .int .i64 a.env, .int .i64 a.u.kind, .int .i64 a.u.a, .int .u64 a.u.b]
theorem Sl.act_at {w : World} {A : Option Addr} {xs : List ActS} {i : Nat} (h : Sl eA 5 w A xs) (hi : i < xs.length) :
    ∃ b off, A = some ⟨b, off, none⟩ ∧ w.cell? ⟨b, off + i * 5, none⟩ = some (.int .i64 xs[i].kind) ∧ w.cell? ⟨b, off + i * 5 + 1, none⟩ = some (.int .i64 xs[i].env) ∧ w.cell? ⟨b, off + i * 5 + 1 + 1, none⟩ = some (.int .i64 xs[i].u.kind) ∧ w.cell? ⟨b, off + i * 5 + 1 + 1 + 1, none⟩ = some (.int .i64 xs[i].u.a) ∧ w.cell? ⟨b, off + i * 5 + 1 + 1 + 1 + 1, none⟩ = some (.int .u64 xs[i].u.b) := by
  obtain ⟨b, off, hA, hc⟩ := h.at_ hi
  refine ⟨b, off, hA, ?_, ?_, ?_, ?_, ?_⟩
  · simpa using hc 0 _ (show (eA xs[i])[0]? = some (.int .i64 xs[i].kind) from rfl)
  · simpa [Nat.add_assoc] using hc 1 _ (show (eA xs[i])[1]? = some (.int .i64 xs[i].env) from rfl)
  · simpa [Nat.add_assoc] using hc 2 _ (show (eA xs[i])[2]? = some (.int .i64 xs[i].u.kind) from rfl)
  · simpa [Nat.add_assoc] using hc 3 _ (show (eA xs[i])[3]? = some (.int .i64 xs[i].u.a) from rfl)
  · simpa [Nat.add_assoc] using hc 4 _ (show (eA xs[i])[4]? = some (.int .u64 xs[i].u.b) from rfl)

/-- the row of environment 3 holds numbers t, t + 1, .. up to p -/
def Row3 (C : List Ct) (t p : Nat) : Prop := ∃ r, C[3]? = some r ∧ r.L.length = p - t ∧ ∀ (j : Nat) (u : Up), r.L[j]? = some u → u.b = t + j
theorem row3_new : Row3 newC 0 0 := ⟨⟨[], 0⟩, rfl, rfl, fun j u h => by simp at h⟩

def RetFar (g : Nat) (n : Nat) (C : List Ct) (w : World) (e : Ending) (w' : World) : Prop := ∃ (r : Int) (C' : List Ct), e = .returned (.int .i64 r) ∧ Rs w' g C' ∧ Fit (n + 1) C' ∧ C'[3]? = C[3]? ∧ Below g w w'
theorem put_far (g n : Nat) (env : Int) (u : Up) (C : List Ct) (w : World) (h : Rs w g C) (hf : Fit n C) (hn : n ≤ 1000) (h3 : env ≠ 3) :
    Calls Try.prog 6 #[.pointer (some ⟨g, 0, none⟩), .int .i64 env, .agg #[.int .i64 u.kind, .int .i64 u.a, .int .u64 u.b]] w (RetFar g n C w) := by
  have hgw := h.lt
  by_cases he : env < 0 ∨ 7 < env
  · refine (put_env g env he u w).mono ?_
    rintro e w' ⟨rfl, hb⟩
    exact ⟨1, C, rfl, h.keep hb, hf.more, rfl, hb.mono (by omega)⟩
  · obtain ⟨i, rfl⟩ := Int.eq_ofNat_of_zero_le (show 0 ≤ env by omega)
    have hi : i < 8 := by omega
    cases hu : okK u.kind
    · refine (put_kind g i hi u hu w).mono ?_
      rintro e w' ⟨rfl, hb⟩
      exact ⟨1, C, rfl, h.keep hb, hf.more, rfl, hb.mono (by omega)⟩
    · have hiC : i < C.length := by rw [hf.1]; exact hi
      have hx := hf.at_ hiC
      refine (put_rs g i hi u hu C w h hiC hx.1 hx.2.1 (by omega)).mono ?_
      rintro e w' ⟨rfl, hr, hb⟩
      exact ⟨_, _, rfl, hr, hf.put i hiC u, by rw [List.getElem?_set_ne (by omega)], hb⟩

/-- Put of a message at 3 -/
def RetP3 (g n : Nat) (t p : Nat) (w : World) (e : Ending) (w' : World) : Prop := ∃ C', e = .returned (.int .i64 (if p - t < 8 then 0 else 20)) ∧ Rs w' g C' ∧ Fit (n + 1) C' ∧ Row3 C' t (if p - t < 8 then p + 1 else p) ∧ Below g w w'
theorem put_three (g n t p : Nat) (a : Int) (C : List Ct) (w : World) (h : Rs w g C) (hf : Fit n C) (hn : n ≤ 1000) (htp : t ≤ p) (h3 : Row3 C t p) :
    Calls Try.prog 6 #[.pointer (some ⟨g, 0, none⟩), .int .i64 3, .agg #[.int .i64 7, .int .i64 a, .int .u64 p]] w (RetP3 g n t p w) := by
  have hiC : 3 < C.length := by rw [hf.1]; omega
  have hx := hf.at_ hiC
  obtain ⟨r, hr, hl, hb3⟩ := h3
  have hr3 : C[3] = r := by rw [List.getElem?_eq_getElem hiC] at hr; injection hr
  refine (put_rs g 3 (by omega) ⟨7, a, p⟩ rfl C w h hiC hx.1 hx.2.1 (by omega)).mono ?_
  rintro e w' ⟨rfl, hrs, hb⟩
  have ho : oldAt r.L ⟨7, a, p⟩ = none := old_none rfl
  refine ⟨_, ?_, hrs, hf.put 3 hiC _, ?_, hb⟩
  · rw [hr3]
    unfold putE
    rw [ho]
    simp only
    rw [hl]
    by_cases h8 : p - t < 8
    · rw [if_neg (by omega), if_pos h8]
    · rw [if_pos (by omega), if_neg h8]
  · rw [hr3]
    unfold putC
    rw [ho]
    simp only
    rw [hl]
    by_cases h8 : p - t < 8
    · rw [if_neg (by omega), if_pos h8]
      refine ⟨_, by rw [List.getElem?_set_self (by omega)], by simp [hl]; omega, fun j u hj => ?_⟩
      simp only at hj
      by_cases hjl : j < r.L.length
      · rw [List.getElem?_append_left hjl] at hj
        exact hb3 j u hj
      · rw [List.getElem?_append_right (by omega)] at hj
        have : j - r.L.length = 0 := by
          have := (List.getElem?_eq_some_iff.1 hj).1
          simp at this; omega
        rw [this] at hj
        simp at hj
        subst hj
        simp only
        omega
    · rw [if_pos (by omega), if_neg h8]
      exact ⟨⟨r.L, r.lost + 1⟩, by rw [List.getElem?_set_self (by omega)], hl, hb3⟩
def RetT3 (g n : Nat) (t p : Nat) (w : World) (e : Ending) (w' : World) : Prop := ∃ (C' : List Ct) (x : Up) (r : Int), e = .returned (.tuple #[.agg #[.int .i64 x.kind, .int .i64 x.a, .int .u64 x.b], .int .i64 r]) ∧ Rs w' g C' ∧ Fit (n + 1) C' ∧ Below g w w' ∧ ((t < p ∧ r = 0 ∧ x.b = t ∧ Row3 C' (t + 1) p) ∨ (¬ t < p ∧ r = 6 ∧ Row3 C' t p))
theorem take_three (g n t p : Nat) (C : List Ct) (w : World) (h : Rs w g C) (hf : Fit n C) (htp : t ≤ p) (h3 : Row3 C t p) :
    Calls Try.prog 8 #[.pointer (some ⟨g, 0, none⟩), .int .i64 3] w (RetT3 g n t p w) := by
  have hgw := h.lt
  have hiC : 3 < C.length := by rw [hf.1]; omega
  have hx := hf.at_ hiC
  obtain ⟨r, hr, hl, hb3⟩ := h3
  have hr3 : C[3] = r := by rw [List.getElem?_eq_getElem hiC] at hr; injection hr
  have hrs := h
  obtain ⟨R, hR, rfl⟩ := h
  have hiR : 3 < R.length := by simpa using hiC
  rw [List.getElem_map] at hr3
  by_cases hlt : t < p
  · obtain ⟨L, lost⟩ := r
    cases L with
    | nil => simp at hl; omega
    | cons x L =>
      have hb0 := hb3 0 x (by simp)
      have hRi : R[3] = ⟨R[3].A, R[3].c, x :: L, lost⟩ := by
        unfold ctOf at hr3
        injection hr3 with q1 q2
        rw [← q1, ← q2]
      simp at hl
      rw [List.getElem_map, hr3] at hx
      refine (take_some g 3 (by omega) R w hR hiR _ _ x L lost hRi (by have := hx.1; simp at this; omega)).mono ?_
      rintro e w' ⟨rfl, hs, hb⟩
      refine ⟨_, x, 0, rfl, hs, hf.set_ 3 (by have := hx.1; simp at this ⊢; omega) hx.2.1 (by have := hx.2.2; simp at this ⊢; omega), hb, .inl ⟨hlt, rfl, by simpa using hb0, ⟨_, by rw [List.getElem?_set_self (by simpa using hiR)], by simp; omega, fun j u hj => ?_⟩⟩⟩
      have := hb3 (j + 1) u (by simpa using hj)
      omega
  · have hL : R[3].L = [] := by
      have : R[3].L = r.L := by rw [← hr3]; rfl
      rw [this]
      exact List.eq_nil_of_length_eq_zero (by omega)
    refine (take_nil g 3 (by omega) R w hR hiR hL).mono ?_
    rintro e w' ⟨rfl, hb⟩
    exact ⟨_, ⟨0, 0, 0⟩, 6, rfl, hrs.keep hb, hf.more, hb.mono (by omega), .inr ⟨hlt, rfl, r, hr, hl, hb3⟩⟩
theorem row3_keep {C C' : List Ct} {t p : Nat} (h : Row3 C t p) (e : C'[3]? = C[3]?) : Row3 C' t p := by
  obtain ⟨r, hr, h2⟩ := h
  exact ⟨r, e.trans hr, h2⟩

set_option maxRecDepth 100000 in
set_option maxHeartbeats 8000000 in
theorem orders_any (A : Option Addr) (l : List ActS) (c : Nat) (w : World) (hs : Sl eA 5 w A l) (hl : l.length ≤ 9223372036854775807) :
    Calls Try.prog 3 #[.slice A l.length c] w fun e w' => e = .returned (.bool true) ∧ Below w.heap.size w w' := by
  go_enter Try.func3, Try.ntmps3
  go_wp2_with fail
  refine (awake_any _).mono ?_
  rintro e w1 ⟨rfl, hB⟩
  have hgs := hB.size
  have hn := Rs.new w1 rfl
  have hB1 := hB.alloc hB.size (Obj.cells #[.slice none 0 0, .int .i64 0, .slice none 0 0, .int .i64 0, .slice none 0 0, .int .i64 0, .slice none 0 0, .int .i64 0, .slice none 0 0, .int .i64 0, .slice none 0 0, .int .i64 0, .slice none 0 0, .int .i64 0, .slice none 0 0, .int .i64 0] 30)
  clear hB
  go_wp2_with fail
  generalize w1.heap.size = g at *
  go_loopw [4, 5, 6] (fun vp vt vi wr => ∃ (k p t : Nat) (C : List Ct), k ≤ l.length ∧ k ≤ 100 ∧ vi = .int .i64 k ∧ vp = .int .u64 p ∧ vt = .int .u64 t ∧ t ≤ p ∧ p ≤ k ∧ Rs wr g C ∧ Hid (Fit k C) ∧ Hid (Row3 C t p) ∧ Below w.heap.size w wr) (fun _ _ i _ => 100 - (intOf i).toNat)
  case atStart => exact ⟨0, 0, 0, newC, Nat.zero_le _, by omega, rfl, rfl, rfl, by omega, by omega, hn, fit_new, row3_new, hB1⟩
  case round =>
    clear hn hB1
    obtain ⟨k, p, t, C, hk, hk2, rfl, rfl, rfl, htp, hpk, hr, HF, H3, hB⟩ := hrel
    by_cases hlt : k < l.length ∧ k < 100
    · obtain ⟨hlt, hlt2⟩ := hlt
      obtain ⟨b, off, rfl, y0, y1, y2, y3, y4⟩ := (hs.keep hB).act_at hlt
      have k0 : (0 : Int) ≤ (k : Int) := by omega
      have k1 : (k : Int) < (l.length : Int) := by omega
      generalize l[k] = a at *
      have bo := below1 wr (Obj.cells #[.int .i64 a.kind, .int .i64 a.env, .int .i64 a.u.kind, .int .i64 a.u.a, .int .u64 a.u.b] 35)
      have ba := Blk.new wr 35 #[.int .i64 a.kind, .int .i64 a.env, .int .i64 a.u.kind, .int .i64 a.u.a, .int .u64 a.u.b]
      have hra := hr.keep bo
      have hBa := bstep hB (Nat.le_refl _) bo
      by_cases h3 : a.env = 3
      · have q1 : (a.env != 3) = false := by simp [h3]
        clear h3
        cases q2 : (a.kind == 1)
        · have hP := Lib.hid (put_three g k t p a.u.a C _ hra HF.out (by omega) htp H3.out)
          clear hr bo ba hra
          go_wp2_with fail
          refine hP.out.mono ?_
          rintro e w5 ⟨C', rfl, hr5, hf5, h35, hb5⟩
          have hB5 := hBa.trans (hb5.mono hgs)
          obtain ⟨m, hm⟩ : ∃ m : Nat, m = p - t := ⟨_, rfl⟩
          have hps : (p : Int) - (t : Int) = (m : Int) := by omega
          have hpw : IntKind.u64.wrap ((p : Int) - (t : Int)) = (m : Int) := by rw [IntKind.wrap_u64]; omega
          rw [← hm] at h35
          rw [← hm]
          have HM := Lib.hid hm
          clear hm
          by_cases h8 : m < 8
          · rw [if_pos h8] at h35
            rw [if_pos h8]
            have h8' : (m : Int) < 8 := by omega
            go_wp2_with fail
            go_roundw
            case rel => exact ⟨k + 1, p + 1, t, C', by omega, by omega, by go_num, by go_num, rfl, by omega, by omega, hr5, hf5, h35, hB5⟩
            case measure => simp [intOf]; omega
          · rw [if_neg h8] at h35
            rw [if_neg h8]
            have h8' : ¬ (m : Int) < 8 := by omega
            go_wp2_with fail
            go_roundw
            case rel => exact ⟨k + 1, p, t, C', by omega, by omega, by go_num, rfl, rfl, by omega, by omega, hr5, hf5, h35, hB5⟩
            case measure => simp [intOf]; omega
        · have hT := Lib.hid (take_three g k t p C _ hra HF.out htp H3.out)
          clear hr bo ba hra
          go_wp2_with fail
          refine hT.out.mono ?_
          rintro e w5 ⟨C', x, r, rfl, hr5, hf5, hb5, hc5⟩
          have hB5 := hBa.trans (hb5.mono hgs)
          have bx := below1 w5 (Obj.cells #[.int .i64 x.kind, .int .i64 x.a, .int .u64 x.b] 38)
          have hB6 := bstep hB5 (Nat.le_refl _) bx
          have hr6 := hr5.keep bx
          rcases hc5 with ⟨htl, rfl, hxb, h35⟩ | ⟨htl, rfl, h35⟩
          · have htl' : (t : Int) < (p : Int) := by omega
            obtain ⟨xk, xa, xb⟩ := x
            simp only at hxb
            subst hxb
            have htt : ((t : Int) != (t : Int)) = false := by simp
            clear hb5 bx hr5
            go_wp2_with fail
            go_roundw
            case rel => exact ⟨k + 1, p, t + 1, C', by omega, by omega, by go_num, rfl, by go_num, by omega, by omega, hr6, hf5, h35, hB6⟩
            case measure => simp [intOf]; omega
          · have htl' : ¬ (t : Int) < (p : Int) := by omega
            clear hb5 bx hr5
            go_wp2_with fail
            go_roundw
            case rel => exact ⟨k + 1, p, t, C', by omega, by omega, by go_num, rfl, rfl, by omega, by omega, hr6, hf5, h35, hB6⟩
            case measure => simp [intOf]; omega
      · have q1 : (a.env != 3) = true := by simp [h3]
        have HP := Lib.hid (fun W hW => put_far g k a.env a.u C W hW HF.out (by omega) h3)
        have HT := Lib.hid (fun W => to_any a.u W)
        have z1 := ba.cell 1 (.int .i64 a.env) rfl
        have z2 := ba.cell 2 (.int .i64 a.u.kind) rfl
        have z3 := ba.cell 3 (.int .i64 a.u.a) rfl
        have z4 := ba.cell 4 (.int .u64 a.u.b) rfl
        have HBA := Lib.hid ba
        clear hr bo h3
        go_upto_region 10 with (fail)
        clear ba y0 y1 y2 y3 y4
        generalize wr.alloc (Obj.cells #[.int .i64 a.kind, .int .i64 a.env, .int .i64 a.u.kind, .int .i64 a.u.a, .int .u64 a.u.b] 35) = Wa at *
        go_region_with (first | (go_at_call 7; refine (HT.out _).mono ?_; rintro e w5 ⟨rfl, hb5⟩; (have z15 := kcell (W := Wa.drew) hb5 z1)) | (go_at_call 6; refine (HP.out _ (Rs.keep (w := Wa.drew) (by obtain ⟨R, h1, h2⟩ := hra; exact ⟨R, h1.drew, h2⟩) hb5)).mono ?_; rintro e w6 ⟨r6, C6, rfl, hr6, hf6, h36, hb6⟩))
        all_goals
          have hB6 := (bstep hBa.drew (Nat.le_refl _) hb5).trans (hb6.mono hgs)
          have H36 := Lib.hid (row3_keep H3.out h36)
          go_wp2_with fail
          go_roundw
          case rel => exact ⟨k + 1, p, t, C6, by omega, by omega, by go_num, rfl, rfl, by omega, by omega, hr6, hf6, H36.out, hB6⟩
          case measure => simp [intOf]; omega
    · have hend : Hid (k = l.length ∨ k = 100) := by unfold Hid; omega
      by_cases hkl : k < l.length
      all_goals
        go_wp2_with fail
        refine (awake_any _).mono ?_
        rintro e w6 ⟨rfl, hb6⟩
        go_wp2_with fail
        go_ret
        exact ⟨rfl, bstep hB (Nat.le_refl _) hb6⟩
end Go.Proofs.Ytciijdajdmcllaa
