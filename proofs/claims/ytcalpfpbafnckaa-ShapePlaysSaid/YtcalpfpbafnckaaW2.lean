/- The statement ShapeApart, walked. -/
import Derived.Test.YtcalpfpbafnckaaW1
import Derived.Deep.DeepCutAuto
import Derived.Deep.CutBlock
namespace Go.Proofs.Ytcalpfpbafnckaa
open Go.RowKit

structure ActS where
  kind : Int
  n : Int
def eA (a : ActS) : List Value := [.int .i64 a.kind, .int .i64 a.n]
theorem Sl.act_at {w : World} {A : Option Addr} {xs : List ActS} {i : Nat} (h : Sl eA 2 w A xs) (hi : i < xs.length) :
    ∃ b off, A = some ⟨b, off, none⟩ ∧ w.cell? ⟨b, off + i * 2, none⟩ = some (.int .i64 xs[i].kind) ∧ w.cell? ⟨b, off + i * 2 + 1, none⟩ = some (.int .i64 xs[i].n) := by
  obtain ⟨b, off, hA, hc⟩ := h.at_ hi
  exact ⟨b, off, hA, by simpa using hc 0 _ (show (eA xs[i])[0]? = some (.int .i64 xs[i].kind) from rfl), by simpa [Nat.add_assoc] using hc 1 _ (show (eA xs[i])[1]? = some (.int .i64 xs[i].n) from rfl)⟩

theorem ask_true {s : ShS} {now : Int} (h : (askS s now).2.1 = true) : s.next ≤ now ∧ (askS s now).1 = comeS s now := by
  unfold askS at *
  split at h
  · cases h
  · split at h
    · cases h
    · split at h
      · cases h
      · rename_i h1 h2 h3
        rw [if_neg h1, if_neg h2, if_neg h3]
        exact ⟨by omega, rfl⟩
theorem ask_false {s : ShS} {now : Int} (h : (askS s now).2.1 = false) : (askS s now).1.next = s.next ∧ (askS s now).1.period = s.period := by
  unfold askS at *
  split
  · exact ⟨rfl, rfl⟩
  · split
    · exact ⟨rfl, rfl⟩
    · split
      · exact ⟨rfl, rfl⟩
      · rename_i h1 h2 h3
        rw [if_neg h1, if_neg h2, if_neg h3] at h
        cases h
theorem due_true {s : ShS} {now : Int} (h : (dueS s now).2 = true) : s.next ≤ now ∧ (dueS s now).1 = comeS s now := by
  unfold dueS at *
  split at h
  · cases h
  · rename_i h1
    rw [if_neg h1]
    exact ⟨by omega, rfl⟩
theorem due_false {s : ShS} {now : Int} (h : (dueS s now).2 = false) : (dueS s now).1.next = s.next ∧ (dueS s now).1.period = s.period := by
  unfold dueS at *
  split
  · exact ⟨rfl, rfl⟩
  · rename_i h1
    rw [if_neg h1] at h
    cases h

set_option maxRecDepth 100000 in
set_option maxHeartbeats 4000000 in
theorem apart_any (per : Int) (A : Option Addr) (l : List ActS) (c : Nat) (w : World) (hs : Sl eA 2 w A l) (hl : l.length ≤ 9223372036854775807) (h0 : 0 ≤ per) (h1 : per ≤ 255) :
    Calls Try.prog 3 #[.int .u8 per, .slice A l.length c] w fun e w' => e = .returned (.bool true) ∧ Below w.heap.size w w' := by
  go_enter Try.func3, Try.ntmps3
  go_wp2_with fail
  refine (awake_any _).mono ?_
  rintro e w1 ⟨rfl, hB⟩
  go_wp2_with fail
  refine (new_yes (1 + per) _ (by omega) (by omega)).mono ?_
  rintro e w2 ⟨g, rfl, hg, hsh, hb⟩
  replace hg : w.heap.size ≤ g := Nat.le_trans hB.size hg
  replace hB := bstep hB (Nat.le_refl _) hb
  clear hb
  go_wp2_with fail
  go_loopw [8, 9, 10] (fun vn vl vi wr => ∃ (k : Nat) (now last : Int) (s : ShS), k ≤ l.length ∧ k ≤ 100 ∧ vi = .int .i64 k ∧ vn = .int .i64 now ∧ vl = .int .i64 last ∧ 0 ≤ now ∧ now ≤ 49 * (k : Int) ∧ -1000 ≤ last ∧ Hid (s.period = 1 + per) ∧ 1 + per ≤ s.next - last ∧ Okay s k ∧ Sh wr g s ∧ Below w.heap.size w wr) (fun _ _ i _ => l.length - (intOf i).toNat)
  case atStart => exact ⟨0, 0, -1000, newS (1 + per), Nat.zero_le _, by omega, rfl, rfl, rfl, by omega, by omega, by omega, rfl, by simp [newS]; omega, ok_new (by omega) (by omega), hsh, hB⟩
  case round =>
    clear hB hsh
    obtain ⟨k, now, last, s, hk, hk2, rfl, rfl, rfl, n0, n1, l0, HP, hap, ok, hsh, hB⟩ := hrel
    by_cases hlt : k < l.length
    · by_cases hlt2 : k < 100
      · obtain ⟨b, off, rfl, c0, c1⟩ := (hs.keep hB).act_at hlt
        have OK := Lib.hid ok
        have hn1 := ok.n1
        have hn0 := ok.n0
        clear ok
        have hm2 := Int.tmod_lt_of_pos l[k].n (show (0 : Int) < 50 by omega)
        go_upto_region 11 with (fail)
        go_cut [8] (fun s8 wx => ∃ now2 : Int, s8 = .int .i64 now2 ∧ now ≤ now2 ∧ now2 ≤ now + 49 ∧ wx = wr)
        case first =>
          go_wp2_with fail
          all_goals go_meet
          all_goals exact ⟨_, rfl, by omega, by omega, rfl⟩
        case rest =>
          obtain ⟨now2, rfl, m0, m1, rfl⟩ := hcut
          clear hm2
          have hpp := HP.out
          cases e1 : (l[k].kind == 1)
          · cases e2 : (l[k].kind == 2)
            · cases hr : (askS s now2).2.1
              · have HF := Lib.hid (ask_false hr)
                have OK2 := Lib.hid (ok_ask (now := now2) OK.out)
                clear hpp
                go_wp2_with (go_at_call 9; refine (ask_any s now2 g k _ hsh OK.out (by omega)).mono ?_; rintro e w3 ⟨rfl, hs3, hg3⟩; rw [hr])
                go_roundw
                case rel => exact ⟨k + 1, now2, last, _, by omega, by omega, by go_num, rfl, rfl, by omega, by omega, by omega, by unfold Hid; rw [HF.out.2]; exact HP.out, by rw [HF.out.1]; omega, OK2.out, hs3, below_only hB hg3 hg⟩
                case measure => simp [intOf]; omega
              · have HT := Lib.hid (ask_true hr)
                have hge := HT.out.1
                have OK2 := Lib.hid (ok_ask (now := now2) OK.out)
                clear hpp
                have hsub : 1 + per ≤ now2 - last := by omega
                go_wp2_with (go_at_call 9; refine (ask_any s now2 g k _ hsh OK.out (by omega)).mono ?_; rintro e w3 ⟨rfl, hs3, hg3⟩; rw [hr])
                go_roundw
                case rel => exact ⟨k + 1, now2, now2, _, by omega, by omega, by go_num, rfl, rfl, by omega, by omega, by omega, by unfold Hid; rw [HT.out.2]; exact HP.out, by rw [HT.out.2]; simp only [comeS]; rw [HP.out]; omega, OK2.out, hs3, below_only hB hg3 hg⟩
                case measure => simp [intOf]; omega
            · have OK2 := Lib.hid (ok_push (now := now2) OK.out (by omega) (by omega))
              have hat : s.next ≤ (pushS s now2).2 ∧ 0 ≤ (pushS s now2).2 ∧ (pushS s now2).2 ≤ 1048576 * (3 + (k : Int)) := by simp only [pushS]; omega
              have HN : Hid ((pushS s now2).1.next = (pushS s now2).2 + (1 + per) ∧ (pushS s now2).1.period = 1 + per) := by unfold Hid; simp only [pushS]; rw [HP.out]; exact ⟨rfl, rfl⟩
              obtain ⟨q0, q1, q2⟩ := hat
              have hpu := fun W h => push_any s now2 g k W h OK.out (by omega) (by omega) (by omega)
              generalize pushS s now2 = ps at *
              obtain ⟨s2, at2⟩ := ps
              simp only at q0 q1 q2 HN hpu OK2
              have HPU := Lib.hid hpu
              have hsub : 1 + per ≤ at2 - last := by omega
              clear hpp hpu
              go_wp2_with (go_at_call 8; refine (HPU.out _ hsh).mono ?_; rintro e w3 ⟨rfl, hs3, hg3⟩)
              go_roundw
              case rel => exact ⟨k + 1, now2, at2, s2, by omega, by omega, by go_num, rfl, rfl, by omega, by omega, by omega, HN.out.2, by rw [HN.out.1]; omega, OK2.out, hs3, below_only hB hg3 hg⟩
              case measure => simp [intOf]; omega
          · cases hr : (dueS s now2).2
            · have HF := Lib.hid (due_false hr)
              have OK2 := Lib.hid (ok_due (now := now2) OK.out)
              clear hpp
              go_wp2_with (go_at_call 7; refine (due_any s now2 g k _ hsh OK.out (by omega)).mono ?_; rintro e w3 ⟨rfl, hs3, hg3⟩; rw [hr])
              go_roundw
              case rel => exact ⟨k + 1, now2, last, _, by omega, by omega, by go_num, rfl, rfl, by omega, by omega, by omega, by unfold Hid; rw [HF.out.2]; exact HP.out, by rw [HF.out.1]; omega, OK2.out, hs3, below_only hB hg3 hg⟩
              case measure => simp [intOf]; omega
            · have HT := Lib.hid (due_true hr)
              have hge := HT.out.1
              have OK2 := Lib.hid (ok_due (now := now2) OK.out)
              clear hpp
              have hsub : 1 + per ≤ now2 - last := by omega
              go_wp2_with (go_at_call 7; refine (due_any s now2 g k _ hsh OK.out (by omega)).mono ?_; rintro e w3 ⟨rfl, hs3, hg3⟩; rw [hr])
              go_roundw
              case rel => exact ⟨k + 1, now2, now2, _, by omega, by omega, by go_num, rfl, rfl, by omega, by omega, by omega, by unfold Hid; rw [HT.out.2]; exact HP.out, by rw [HT.out.2]; simp only [comeS]; rw [HP.out]; omega, OK2.out, hs3, below_only hB hg3 hg⟩
              case measure => simp [intOf]; omega
      · go_wp2_with (go_at_call 5; refine (awake_any _).mono ?_; rintro e w3 ⟨rfl, hb⟩)
        go_ret
        exact ⟨rfl, bstep hB (Nat.le_refl _) hb⟩
    · go_wp2_with (go_at_call 5; refine (awake_any _).mono ?_; rintro e w3 ⟨rfl, hb⟩)
      go_ret
      exact ⟨rfl, bstep hB (Nat.le_refl _) hb⟩
end Go.Proofs.Ytcalpfpbafnckaa
