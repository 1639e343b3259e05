/- Walk: the statement BoxOrders. -/
import Derived.Test.YtldpplfkimdaaaaW3
import Derived.Test.YtldpplfkimdaaaaApp
namespace Go.Proofs.Ytldpplfkimdaaaa
open Go.RowKit Go.Conc

structure ActS where
  kind : Int
  at_ : Int
  to : Int
  n : Int
  w : Int
def eA (a : ActS) : List Value := [.int .i64 a.kind, .int .i64 a.at_, .int .i64 a.to, .int .i64 a.n, .int .u64 a.w]
theorem Sl.act_at {w : World} {A : Option Addr} {xs : List ActS} {i : Nat} (h : Sl eA 5 w A xs) (hi : i < xs.length) :
    ∃ b off, A = some ⟨b, off, none⟩ ∧ w.cell? ⟨b, off + i * 5, none⟩ = some (.int .i64 xs[i].kind) ∧ w.cell? ⟨b, off + i * 5 + 1, none⟩ = some (.int .i64 xs[i].at_) ∧ w.cell? ⟨b, off + i * 5 + 1 + 1, none⟩ = some (.int .i64 xs[i].to) ∧ w.cell? ⟨b, off + i * 5 + 1 + 1 + 1, none⟩ = some (.int .i64 xs[i].n) ∧ w.cell? ⟨b, off + i * 5 + 1 + 1 + 1 + 1, none⟩ = some (.int .u64 xs[i].w) := by
  obtain ⟨b, off, hA, hc⟩ := h.at_ hi
  refine ⟨b, off, hA, ?_, ?_, ?_, ?_, ?_⟩
  · simpa using hc 0 _ (show (eA xs[i])[0]? = some (.int .i64 xs[i].kind) from rfl)
  · simpa [Nat.add_assoc] using hc 1 _ (show (eA xs[i])[1]? = some (.int .i64 xs[i].at_) from rfl)
  · simpa [Nat.add_assoc] using hc 2 _ (show (eA xs[i])[2]? = some (.int .i64 xs[i].to) from rfl)
  · simpa [Nat.add_assoc] using hc 3 _ (show (eA xs[i])[3]? = some (.int .i64 xs[i].n) from rfl)
  · simpa [Nat.add_assoc] using hc 4 _ (show (eA xs[i])[4]? = some (.int .u64 xs[i].w) from rfl)

/-- letters t, t + 1, .. -/
def seqL (t p : Nat) : List Lt := (List.range' t (p - t)).map fun (i : Nat) => ⟨7, (i : Int)⟩
theorem seqL_len (t p : Nat) : (seqL t p).length = p - t := by simp [seqL]
theorem seqL_cons {t p : Nat} (h : t < p) : seqL t p = ⟨7, (t : Int)⟩ :: seqL (t + 1) p := by
  unfold seqL
  rw [show p - t = (p - (t + 1)) + 1 by omega, List.range'_succ]
  rfl
theorem seqL_snoc {t p : Nat} (h : t ≤ p) : seqL t p ++ [⟨7, (p : Int)⟩] = seqL t (p + 1) := by
  unfold seqL
  rw [show p + 1 - t = (p - t) + 1 by omega, List.range'_concat]
  simp
  omega
theorem seqL_nil (t : Nat) : seqL t t = [] := by simp [seqL]

set_option maxRecDepth 100000 in
set_option maxHeartbeats 8000000 in
theorem orders_any (room : Nat) (A : Option Addr) (l : List ActS) (c : Nat) (w : World) (hs : Sl eA 5 w A l) (hl : l.length ≤ 9223372036854775807) (hr : room < 256) :
    Calls Try.prog 3 #[.int .u8 room, .slice A l.length c] w fun e w' => e = .returned (.bool true) ∧ Below w.heap.size w w' := by
  obtain ⟨R, hR⟩ : ∃ R : Nat, R = 1 + room % 64 := ⟨_, rfl⟩
  have hR1 : 1 ≤ R := by omega
  have hR2 : R ≤ 64 := by omega
  have hRi : 1 + (room : Int) % 64 = (R : Int) := by omega
  have hN1 : Hid (∀ W : World, Calls Try.prog 8 #[.int .i64 (1 + (room : Int) % 64)] W fun e w' => e = .returned (.tuple #[.pointer (some ⟨W.heap.size + 1, 0, none⟩), .int .i64 0]) ∧ Bx w' W.heap.size ⟨[], R, false⟩ ∧ Below W.heap.size W w') := fun W => by rw [hRi]; exact new_yes R W hR1 hR2
  clear hR hRi
  go_enter Try.func3, Try.ntmps3
  go_wp2_with fail
  refine (awake_any _).mono ?_
  rintro e w1 ⟨rfl, hB⟩
  go_wp2_with fail
  refine (hN1.out _).mono ?_
  rintro e w2 ⟨rfl, hx, hb⟩
  have hg1 : w.heap.size ≤ w1.heap.size := hB.size
  replace hB := bstep hB (Nat.le_refl _) hb
  clear hb
  go_wp2_with fail
  refine (new_yes 3 _ (by omega) (by omega)).mono ?_
  rintro e w3 ⟨rfl, hy, hb⟩
  have hg2 : w1.heap.size + 1 < w2.heap.size := hx.2.lt
  replace hx := hx.keep hb
  replace hB := bstep hB (Nat.le_refl _) hb
  clear hb
  generalize w1.heap.size = g1 at *
  generalize w2.heap.size = g2 at *
  go_wp2_with fail
  go_loopw [9, 10, 11] (fun vp vt vi wr => ∃ (k p t : Nat) (sh : Bool) (bo : BoxS), k ≤ l.length ∧ k ≤ 200 ∧ vi = .int .i64 k ∧ vp = .int .u64 p ∧ vt = .int .u64 t ∧ t ≤ p ∧ p ≤ k ∧ Bx wr g1 ⟨seqL t p, R, sh⟩ ∧ Bx wr g2 bo ∧ Below w.heap.size w wr) (fun _ _ i _ => 200 - (intOf i).toNat)
  case atStart => exact ⟨0, 0, 0, false, _, Nat.zero_le _, by omega, rfl, rfl, rfl, by omega, by omega, hx, hy, hB⟩
  case round =>
    clear hx hy hB
    obtain ⟨k, p, t, sh, bo, hk, hk2, rfl, rfl, rfl, htp, hpk, hx, hy, hB⟩ := hrel
    by_cases hlt : k < l.length ∧ k < 200
    · obtain ⟨hlt, hlt2⟩ := hlt
      obtain ⟨b, off, rfl, c0, c1, c2, c3, c4⟩ := (hs.keep hB).act_at hlt
      have k0 : (0 : Int) ≤ (k : Int) := by omega
      have k1 : (k : Int) < (l.length : Int) := by omega
      generalize l[k] = a at *
      have hxa := hx.alloc (Obj.cells #[.int .i64 a.kind, .int .i64 a.at_, .int .i64 a.to, .int .i64 a.n, .int .u64 a.w] 30)
      have hya := hy.alloc (Obj.cells #[.int .i64 a.kind, .int .i64 a.at_, .int .i64 a.to, .int .i64 a.n, .int .u64 a.w] 30)
      have hBa := hB.alloc hB.size (Obj.cells #[.int .i64 a.kind, .int .i64 a.at_, .int .i64 a.to, .int .i64 a.n, .int .u64 a.w] 30)
      clear hx hy hB
      cases e1 : (a.at_ == 1)
      · cases e2 : (a.kind == 1)
        · cases e3 : (a.kind == 2)
          · go_wp2_with fail
            cases sh
            · by_cases hroom : p - t < R
              · refine (put_open ⟨seqL t p, R, false⟩ ⟨7, (p : Int)⟩ g1 _ hxa rfl (by simp only [seqL_len]; omega)).mono ?_
                rintro e w5 ⟨rfl, hx5, hc5⟩
                simp only at hx5
                rw [seqL_snoc htp] at hx5
                have hy5 := hya.far hc5 (by omega) (by omega) (by omega)
                have hB5 := below_ch hBa hg1 hc5
                clear hc5 hxa hya hBa
                go_wp2_with fail
                go_roundw
                case rel => exact ⟨k + 1, p + 1, t, false, bo, by omega, by omega, by go_num, by go_num, rfl, by omega, by omega, hx5, hy5, hB5⟩
                case measure => simp [intOf]; omega
              · refine (put_full ⟨seqL t p, R, false⟩ ⟨7, (p : Int)⟩ g1 _ hxa rfl (by simp only [seqL_len]; omega)).mono ?_
                rintro e w5 ⟨rfl, hx5, hc5⟩
                have hy5 := hya.far hc5 (by omega) (by omega) (by omega)
                have hB5 := below_ch hBa hg1 hc5
                clear hc5 hxa hya hBa
                go_wp2_with fail
                go_roundw
                case rel => exact ⟨k + 1, p, t, false, bo, by omega, by omega, by go_num, rfl, rfl, by omega, by omega, hx5, hy5, hB5⟩
                case measure => simp [intOf]; omega
            · refine (put_shut ⟨seqL t p, R, true⟩ ⟨7, (p : Int)⟩ g1 _ hxa rfl).mono ?_
              rintro e w5 ⟨rfl, hx5, hc5⟩
              have hy5 := hya.far hc5 (by omega) (by omega) (by omega)
              have hB5 := below_ch hBa hg1 hc5
              clear hc5 hxa hya hBa
              go_wp2_with fail
              go_roundw
              case rel => exact ⟨k + 1, p, t, true, bo, by omega, by omega, by go_num, rfl, rfl, by omega, by omega, hx5, hy5, hB5⟩
              case measure => simp [intOf]; omega
          · go_wp2_with fail
            cases sh
            · refine (shut_yes ⟨seqL t p, R, false⟩ g1 _ hxa rfl).mono ?_
              rintro e w5 ⟨rfl, hx5, hc5⟩
              have hy5 := hya.far hc5 (by omega) (by omega) (by omega)
              have hB5 := below_ch hBa hg1 hc5
              clear hc5 hxa hya hBa
              go_wp2_with fail
              go_roundw
              case rel => exact ⟨k + 1, p, t, true, bo, by omega, by omega, by go_num, rfl, rfl, by omega, by omega, hx5, hy5, hB5⟩
              case measure => simp [intOf]; omega
            · refine (shut_no ⟨seqL t p, R, true⟩ g1 _ hxa rfl).mono ?_
              rintro e w5 ⟨rfl, rfl⟩
              go_wp2_with fail
              go_roundw
              case rel => exact ⟨k + 1, p, t, true, bo, by omega, by omega, by go_num, rfl, rfl, by omega, by omega, hxa, hya, hBa⟩
              case measure => simp [intOf]; omega
        · go_wp2_with fail
          by_cases htl : t < p
          · rw [seqL_cons htl] at hxa
            have htt : ((t : Int) != (t : Int)) = false := by simp
            refine (take_some ⟨7, (t : Int)⟩ (seqL (t + 1) p) R sh g1 _ hxa).mono ?_
            rintro e w5 ⟨rfl, hx5, hc5⟩
            have hy5 := (hya.far hc5 (by omega) (by omega) (by omega)).alloc (Obj.cells #[.int .i64 7, .int .u64 (t : Int)] 32)
            have hB5 := below_ch hBa hg1 hc5
            replace hB5 := hB5.alloc hB5.size (Obj.cells #[.int .i64 7, .int .u64 (t : Int)] 32)
            replace hx5 := hx5.alloc (Obj.cells #[.int .i64 7, .int .u64 (t : Int)] 32)
            clear hc5 hxa hya hBa
            go_wp2_with fail
            go_roundw
            case rel => exact ⟨k + 1, p, t + 1, sh, bo, by omega, by omega, by go_num, rfl, by go_num, by omega, by omega, hx5, hy5, hB5⟩
            case measure => simp [intOf]; omega
          · obtain rfl : t = p := by omega
            rw [seqL_nil] at hxa
            cases sh
            · refine (take_none R g1 _ hxa).mono ?_
              rintro e w5 ⟨rfl, hx5, hc5⟩
              have hy5 := (hya.far hc5 (by omega) (by omega) (by omega)).alloc (Obj.cells #[.int .i64 0, .int .u64 0] 32)
              have hB5 := below_ch hBa hg1 hc5
              replace hB5 := hB5.alloc hB5.size (Obj.cells #[.int .i64 0, .int .u64 0] 32)
              replace hx5 := hx5.alloc (Obj.cells #[.int .i64 0, .int .u64 0] 32)
              rw [← seqL_nil t] at hx5
              clear hc5 hxa hya hBa
              go_wp2_with fail
              go_roundw
              case rel => exact ⟨k + 1, t, t, false, bo, by omega, by omega, by go_num, by go_num, rfl, by omega, by omega, hx5, hy5, hB5⟩
              case measure => simp [intOf]; omega
            · refine (take_shut R g1 _ hxa).mono ?_
              rintro e w5 ⟨rfl, hx5, hc5⟩
              have hy5 := (hya.far hc5 (by omega) (by omega) (by omega)).alloc (Obj.cells #[.int .i64 0, .int .u64 0] 32)
              have hB5 := below_ch hBa hg1 hc5
              replace hB5 := hB5.alloc hB5.size (Obj.cells #[.int .i64 0, .int .u64 0] 32)
              replace hx5 := hx5.alloc (Obj.cells #[.int .i64 0, .int .u64 0] 32)
              rw [← seqL_nil t] at hx5
              clear hc5 hxa hya hBa
              go_wp2_with fail
              go_roundw
              case rel => exact ⟨k + 1, t, t, true, bo, by omega, by omega, by go_num, by go_num, rfl, by omega, by omega, hx5, hy5, hB5⟩
              case measure => simp [intOf]; omega
      · have hg2' : w.heap.size ≤ g2 := by omega
        cases e2 : (a.kind == 1)
        · go_wp2_with fail
          refine (put_any bo ⟨0, a.w⟩ g2 _ hya).mono ?_
          rintro e w5 ⟨rfl, hy5, hc5⟩
          have hx5 := hxa.far hc5 (by omega) (by omega) (by omega)
          have hB5 := below_ch hBa hg2' hc5
          clear hc5 hxa hya hBa
          go_wp2_with fail
          go_roundw
          case rel => exact ⟨k + 1, p, t, sh, _, by omega, by omega, by go_num, rfl, rfl, by omega, by omega, hx5, hy5, hB5⟩
          case measure => simp [intOf]; omega
        · go_wp2_with fail
          refine (take_any bo g2 _ hya).mono ?_
          rintro e w5 ⟨rfl, hy5, hc5⟩
          have hx5 := hxa.far hc5 (by omega) (by omega) (by omega)
          have hB5 := below_ch hBa hg2' hc5
          clear hc5 hxa hya hBa
          go_wp2_with fail
          go_roundw
          case rel => exact ⟨k + 1, p, t, sh, _, by omega, by omega, by go_num, rfl, rfl, by omega, by omega, hx5, hy5, hB5⟩
          case measure => simp [intOf]; omega
    · have hend : Hid (k = l.length ∨ k = 200) := by unfold Hid; omega
      by_cases hkl : k < l.length
      all_goals
        go_wp2_with fail
        go_loopw [10] (fun vt wi => ∃ t : Nat, vt = .int .u64 t ∧ t ≤ p ∧ Bx wi g1 ⟨seqL t p, R, sh⟩ ∧ Below w.heap.size w wi) (fun t _ => p - (intOf t).toNat)
        case atStart => exact ⟨t, rfl, htp, hx, hB⟩
        case round =>
          clear hx hy hB
          obtain ⟨t, rfl, htp, hx, hB⟩ := hrel
          by_cases htl : t < p
          · rw [seqL_cons htl] at hx
            have htt : ((t : Int) != (t : Int)) = false := by simp
            go_wp2_with fail
            refine (take_some ⟨7, (t : Int)⟩ (seqL (t + 1) p) R sh g1 _ hx).mono ?_
            rintro e w5 ⟨rfl, hx5, hc5⟩
            have hB5 := below_ch hB hg1 hc5
            replace hB5 := hB5.alloc hB5.size (Obj.cells #[.int .i64 7, .int .u64 (t : Int)] 32)
            replace hx5 := hx5.alloc (Obj.cells #[.int .i64 7, .int .u64 (t : Int)] 32)
            clear hc5 hx hB
            go_wp2_with fail
            go_roundw
            case rel => exact ⟨t + 1, by go_num, by omega, hx5, hB5⟩
            case measure => simp [intOf]; omega
          · obtain rfl : t = p := by omega
            rw [seqL_nil] at hx
            go_wp2_with fail
            cases sh
            · refine (take_none R g1 _ hx).mono ?_
              rintro e w5 ⟨rfl, hx5, hc5⟩
              have hB5 := below_ch hB hg1 hc5
              go_wp2_with fail
              refine (awake_any _).mono ?_
              rintro e w6 ⟨rfl, hb6⟩
              go_wp2_with fail
              go_ret
              exact ⟨rfl, bstep (hB5.alloc hB5.size _) (Nat.le_refl _) hb6⟩
            · refine (take_shut R g1 _ hx).mono ?_
              rintro e w5 ⟨rfl, hx5, hc5⟩
              have hB5 := below_ch hB hg1 hc5
              go_wp2_with fail
              refine (awake_any _).mono ?_
              rintro e w6 ⟨rfl, hb6⟩
              go_wp2_with fail
              go_ret
              exact ⟨rfl, bstep (hB5.alloc hB5.size _) (Nat.le_refl _) hb6⟩
end Go.Proofs.Ytldpplfkimdaaaa
