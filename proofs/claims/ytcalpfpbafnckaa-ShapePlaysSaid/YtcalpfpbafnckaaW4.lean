/- The statement ShapePlays, walked. -/
import Derived.Test.YtcalpfpbafnckaaW2
import Derived.Test.YtcalpfpbafnckaaW3
namespace Go.Proofs.Ytcalpfpbafnckaa
open Go.RowKit

theorem Sv.keep' {w w' : World} {g : Nat} {s : ShS} (h : Sv w g s) (hb : Below w.heap.size w w') : Sv w' g s := Blk.keep h hb
theorem Sh.keep' {w w' : World} {g : Nat} {s : ShS} (h : Sh w g s) (hb : Below w.heap.size w w') : Sh w' g s := Blk.keep h hb
theorem Sh.far' {w w' : World} {g q : Nat} {s : ShS} (h : Sh w g s) (hb : w.grownBy w' (some q)) (hq : g ≠ q) : Sh w' g s := Blk.grown h hb (fun e => hq (by injection e))
theorem Sv.far' {w w' : World} {g q : Nat} {s : ShS} (h : Sv w g s) (hb : w.grownBy w' (some q)) (hq : g ≠ q) : Sv w' g s := Blk.grown h hb (fun e => hq (by injection e))

theorem quiet_eq {P : Program} {f : Nat} {av : Array Value} {w : World} {n : Nat} {v : Value} (h : Calls P f av (w.drewN n) fun e w' => e = .returned v ∧ w.drewN n = w') :
    Calls P f av (w.drewN n) fun e w' => e = .returned v ∧ ∃ m, w' = w.drewN m := h.mono fun _ _ h => ⟨h.1, n, h.2.symm⟩
/-- the document's shaper was written over, and a copy made: what holds behind it -/
theorem behind {w w4 : World} {g gb : Nat} {s : ShS} (t : ShS) (hB : Below w.heap.size w w4) (hsh : Sh w4 g s) (hsv : Sv w4 gb s) (hne : g < gb) (hwb : w.heap.size ≤ gb) :
    Below w.heap.size w ((putS w4 gb t).alloc (.cells (shC t) 39)) ∧ Sh ((putS w4 gb t).alloc (.cells (shC t) 39)) g s ∧ Sv ((putS w4 gb t).alloc (.cells (shC t) 39)) gb t := by
  have h1 : w4.grownBy (putS w4 gb t) (some gb) := Sv.only (only_refl _ _) t
  have h2 := below_only hB h1 hwb
  exact ⟨h2.alloc h2.size _, Blk.alloc (hsh.far' h1 (by omega)) _, Blk.alloc (hsv.put t) _⟩

set_option maxRecDepth 100000 in
set_option maxHeartbeats 4000000 in
theorem plays_any (p : Int) (A : Option Addr) (l : List ActS) (c : Nat) (w : World) (hs : Sl eA 2 w A l) (hl : l.length ≤ 9223372036854775807) :
    Calls Try.prog 4 #[.int .i64 p, .slice A l.length c] w fun e w' => e = .returned (.bool true) ∧ Below w.heap.size w w' := by
  by_cases hp : p < 1 ∨ 1048576 < p
  · go_enter Try.func4, Try.ntmps4
    go_wp2_with fail
    refine (awake_any _).mono ?_
    rintro e w1 ⟨rfl, hB⟩
    go_wp2_with fail
    refine (new_no p _ hp).mono ?_
    rintro e w2 ⟨rfl, rfl⟩
    go_wp2_with (first | (go_at_call 9; refine (nil_ask _ _).mono ?_; rintro e w2 ⟨rfl, rfl⟩) | (go_at_call 10; refine (nil_count _).mono ?_; rintro e w2 ⟨rfl, rfl⟩) | (go_at_call 7; refine (nil_due _ _).mono ?_; rintro e w2 ⟨rfl, rfl⟩) | (go_at_call 11; refine (nil_waits _).mono ?_; rintro e w2 ⟨rfl, rfl⟩) | (go_at_call 12; refine (nil_next _).mono ?_; rintro e w2 ⟨rfl, rfl⟩) | (go_at_call 8; refine (nil_push _ _).mono ?_; rintro e w2 ⟨rfl, rfl⟩) | (go_at_call 5; refine (awake_any _).mono ?_; rintro e w3 ⟨rfl, hb⟩))
    all_goals
      go_ret
      exact ⟨rfl, bstep hB (Nat.le_refl _) hb⟩
  · obtain ⟨p0, p1⟩ : 1 ≤ p ∧ p ≤ 1048576 := by omega
    clear hp
    go_enter Try.func4, Try.ntmps4
    go_wp2_with fail
    refine (awake_any _).mono ?_
    rintro e w1 ⟨rfl, hB⟩
    go_wp2_with fail
    refine (new_yes p _ p0 p1).mono ?_
    rintro e w2 ⟨g, rfl, hg, hsh, hb⟩
    replace hg : w.heap.size ≤ g := Nat.le_trans hB.size hg
    replace hB := bstep hB (Nat.le_refl _) hb
    clear hb
    go_wp2_with (first | (go_at_call 9; refine (nil_ask _ _).mono ?_; rintro e w2 ⟨rfl, rfl⟩) | (go_at_call 10; refine (nil_count _).mono ?_; rintro e w2 ⟨rfl, rfl⟩) | (go_at_call 7; refine (nil_due _ _).mono ?_; rintro e w2 ⟨rfl, rfl⟩) | (go_at_call 11; refine (nil_waits _).mono ?_; rintro e w2 ⟨rfl, rfl⟩) | (go_at_call 12; refine (nil_next _).mono ?_; rintro e w2 ⟨rfl, rfl⟩) | (go_at_call 8; refine (nil_push _ _).mono ?_; rintro e w2 ⟨rfl, rfl⟩))
    have hgb : g < w2.heap.size := Blk.lt hsh
    have hsv : Sv (w2.alloc (Obj.cells #[.int .i64 p, .int .i64 0, .bool false, .int .i64 0, .int .i64 0] 39)) w2.heap.size (newS p) := Blk.new _ _ _
    replace hsh : Sh (w2.alloc (Obj.cells #[.int .i64 p, .int .i64 0, .bool false, .int .i64 0, .int .i64 0] 39)) g (newS p) := Blk.alloc hsh _
    have hwb : w.heap.size ≤ w2.heap.size := hB.size
    replace hB := bstep hB (Nat.le_refl _) (below1 w2 (Obj.cells #[.int .i64 p, .int .i64 0, .bool false, .int .i64 0, .int .i64 0] 39))
    revert hsv hsh hB
    generalize w2.alloc (Obj.cells #[.int .i64 p, .int .i64 0, .bool false, .int .i64 0, .int .i64 0] 39) = w3
    generalize w2.heap.size = gb at *
    intro hsv hsh hB
    go_loopw [13] (fun vi wr => ∃ (k : Nat) (s : ShS), k ≤ l.length ∧ k ≤ 60 ∧ vi = .int .i64 k ∧ Okay s k ∧ Sh wr g s ∧ Sv wr gb s ∧ Below w.heap.size w wr) (fun i _ => l.length - (intOf i).toNat)
    case atStart => exact ⟨0, newS p, Nat.zero_le _, by omega, rfl, ok_new p0 p1, hsh, hsv, hB⟩
    case round =>
      clear hB hsh hsv
      obtain ⟨k, s, hk, hk2, rfl, ok, hsh, hsv, hB⟩ := hrel
      by_cases hlt : k < l.length
      · by_cases hlt2 : k < 60
        · obtain ⟨b, off, rfl, a0, a1⟩ := (hs.keep hB).act_at hlt
          obtain ⟨c0, c1, c2, c3, c4⟩ := hsv.cells
          have OK := Lib.hid ok
          clear ok
          cases e1 : (l[k].kind == 1)
          · cases e2 : (l[k].kind == 2)
            · have OK2 := Lib.hid (ok_ask (now := l[k].n) OK.out)
              have hR := Lib.hid (fun W => rask_any s l[k].n k W OK.out (by omega))
              have hS := Lib.hid (fun W h => ask_any s l[k].n g k W h OK.out (by omega))
              revert OK2 hR hS
              generalize askS s l[k].n = ds
              obtain ⟨t, ans, err⟩ := ds
              intro OK2 hR hS
              simp only [shV] at OK2 hR hS
              go_wp2_with fail
              refine (hR.out _).mono ?_
              rintro e w4 ⟨rfl, hb⟩
              replace c0 := kcell hb c0
              replace c1 := kcell hb c1
              replace c2 := kcell hb c2
              replace c3 := kcell hb c3
              replace c4 := kcell hb c4
              replace a0 := kcell hb a0
              replace a1 := kcell hb a1
              replace hB := bstep hB (Nat.le_refl _) hb
              replace hsh := hsh.keep' hb
              replace hsv := hsv.keep' hb
              obtain ⟨f0, f1, f2, f3, f4⟩ := hsv.free
              clear hb
              have hgb4 : gb < w4.heap.size := Blk.lt hsv
              go_wp2_with fail
              obtain ⟨hB5, hsh5, hsv5⟩ := behind t hB hsh hsv hgb hwb
              clear hB hsh hsv c0 c1 c2 c3 c4 f0 f1 f2 f3 f4 a0 a1
              change Calls _ _ _ ((putS w4 gb t).alloc (.cells (shC t) 39)) _
              generalize (putS w4 gb t).alloc (.cells (shC t) 39) = w5 at *
              refine (hS.out _ hsh5).mono ?_
              rintro e w6 ⟨rfl, hsh6, hg6⟩
              replace hsv5 := hsv5.far' hg6 (by omega)
              replace hB5 := below_only hB5 hg6 hg
              clear hg6 hsh5
              go_wp2_with (go_at_call 10; refine (count_any t g _ hsh6).mono ?_; rintro e w7 ⟨rfl, n7, hw7⟩; (replace hsh6 : Sh w7 g t := by rw [hw7]; exact hsh6); (replace hsv5 : Sv w7 gb t := by rw [hw7]; exact hsv5); (replace hB5 : Below w.heap.size w w7 := by rw [hw7]; exact bdrewN hB5 _); clear hw7)
              obtain ⟨c0, c1, c2, c3, c4⟩ := hsv5.cells
              have g1 : (t.next != t.next) = false := by simp
              have g2 : (t.waits != t.waits) = false := by simp
              have g3 : (t.came != t.came) = false := by simp
              have g4 : (t.refused != t.refused) = false := by simp
              go_quiet (first | (go_at_call 12; refine quiet_eq (next_any t g _ (Blk.drewN hsh6 _))) | (go_at_call 11; refine quiet_eq (waits_any t g _ (Blk.drewN hsh6 _))))
              go_wp2_with fail
              go_roundw
              case rel => exact ⟨k + 1, t, by omega, by omega, by go_num, OK2.out, hsh6, hsv5, bdrewN hB5 _⟩
              case measure => simp [intOf]; omega
            · by_cases hn : l[k].n < 0 ∨ 1048576 < l[k].n
              · go_wp2_with fail
                all_goals go_roundw
                all_goals first
                  | exact ⟨k + 1, s, by omega, by omega, by go_num, ok_more OK.out, hsh, hsv, hB⟩
                  | (simp [intOf]; omega)
              · obtain ⟨n0, n1⟩ : 0 ≤ l[k].n ∧ l[k].n ≤ 1048576 := by omega
                clear hn
                have OK2 := Lib.hid (ok_push (now := l[k].n) OK.out n0 n1)
                have hR := Lib.hid (fun W => rpush_any s l[k].n k W OK.out (by omega) n0 n1)
                have hS := Lib.hid (fun W h => push_any s l[k].n g k W h OK.out (by omega) n0 n1)
                revert OK2 hR hS
                generalize pushS s l[k].n = ds
                obtain ⟨t, ans⟩ := ds
                intro OK2 hR hS
                simp only [shV] at OK2 hR hS
                go_wp2_with fail
                refine (hR.out _).mono ?_
                rintro e w4 ⟨rfl, hb⟩
                replace c0 := kcell hb c0
                replace c1 := kcell hb c1
                replace c2 := kcell hb c2
                replace c3 := kcell hb c3
                replace c4 := kcell hb c4
                replace a0 := kcell hb a0
                replace a1 := kcell hb a1
                replace hB := bstep hB (Nat.le_refl _) hb
                replace hsh := hsh.keep' hb
                replace hsv := hsv.keep' hb
                obtain ⟨f0, f1, f2, f3, f4⟩ := hsv.free
                clear hb
                have hgb4 : gb < w4.heap.size := Blk.lt hsv
                go_wp2_with fail
                obtain ⟨hB5, hsh5, hsv5⟩ := behind t hB hsh hsv hgb hwb
                clear hB hsh hsv c0 c1 c2 c3 c4 f0 f1 f2 f3 f4 a0 a1
                change Calls _ _ _ ((putS w4 gb t).alloc (.cells (shC t) 39)) _
                generalize (putS w4 gb t).alloc (.cells (shC t) 39) = w5 at *
                refine (hS.out _ hsh5).mono ?_
                rintro e w6 ⟨rfl, hsh6, hg6⟩
                replace hsv5 := hsv5.far' hg6 (by omega)
                replace hB5 := below_only hB5 hg6 hg
                clear hg6 hsh5
                go_wp2_with (go_at_call 10; refine (count_any t g _ hsh6).mono ?_; rintro e w7 ⟨rfl, n7, hw7⟩; (replace hsh6 : Sh w7 g t := by rw [hw7]; exact hsh6); (replace hsv5 : Sv w7 gb t := by rw [hw7]; exact hsv5); (replace hB5 : Below w.heap.size w w7 := by rw [hw7]; exact bdrewN hB5 _); clear hw7)
                obtain ⟨c0, c1, c2, c3, c4⟩ := hsv5.cells
                have g1 : (t.next != t.next) = false := by simp
                have g2 : (t.waits != t.waits) = false := by simp
                have g3 : (t.came != t.came) = false := by simp
                have g4 : (t.refused != t.refused) = false := by simp
                go_quiet (first | (go_at_call 12; refine quiet_eq (next_any t g _ (Blk.drewN hsh6 _))) | (go_at_call 11; refine quiet_eq (waits_any t g _ (Blk.drewN hsh6 _))))
                go_wp2_with fail
                go_roundw
                case rel => exact ⟨k + 1, t, by omega, by omega, by go_num, OK2.out, hsh6, hsv5, bdrewN hB5 _⟩
                case measure => simp [intOf]; omega
          · have OK2 := Lib.hid (ok_due (now := l[k].n) OK.out)
            have hR := Lib.hid (fun W => rdue_any s l[k].n k W OK.out (by omega))
            have hS := Lib.hid (fun W h => due_any s l[k].n g k W h OK.out (by omega))
            revert OK2 hR hS
            generalize dueS s l[k].n = ds
            obtain ⟨t, ans⟩ := ds
            intro OK2 hR hS
            simp only [shV] at OK2 hR hS
            go_wp2_with fail
            refine (hR.out _).mono ?_
            rintro e w4 ⟨rfl, hb⟩
            replace c0 := kcell hb c0
            replace c1 := kcell hb c1
            replace c2 := kcell hb c2
            replace c3 := kcell hb c3
            replace c4 := kcell hb c4
            replace a0 := kcell hb a0
            replace a1 := kcell hb a1
            replace hB := bstep hB (Nat.le_refl _) hb
            replace hsh := hsh.keep' hb
            replace hsv := hsv.keep' hb
            obtain ⟨f0, f1, f2, f3, f4⟩ := hsv.free
            clear hb
            have hgb4 : gb < w4.heap.size := Blk.lt hsv
            go_wp2_with fail
            obtain ⟨hB5, hsh5, hsv5⟩ := behind t hB hsh hsv hgb hwb
            clear hB hsh hsv c0 c1 c2 c3 c4 f0 f1 f2 f3 f4 a0 a1
            change Calls _ _ _ ((putS w4 gb t).alloc (.cells (shC t) 39)) _
            generalize (putS w4 gb t).alloc (.cells (shC t) 39) = w5 at *
            refine (hS.out _ hsh5).mono ?_
            rintro e w6 ⟨rfl, hsh6, hg6⟩
            replace hsv5 := hsv5.far' hg6 (by omega)
            replace hB5 := below_only hB5 hg6 hg
            clear hg6 hsh5
            go_wp2_with (go_at_call 10; refine (count_any t g _ hsh6).mono ?_; rintro e w7 ⟨rfl, n7, hw7⟩; (replace hsh6 : Sh w7 g t := by rw [hw7]; exact hsh6); (replace hsv5 : Sv w7 gb t := by rw [hw7]; exact hsv5); (replace hB5 : Below w.heap.size w w7 := by rw [hw7]; exact bdrewN hB5 _); clear hw7)
            obtain ⟨c0, c1, c2, c3, c4⟩ := hsv5.cells
            have g1 : (t.next != t.next) = false := by simp
            have g2 : (t.waits != t.waits) = false := by simp
            have g3 : (t.came != t.came) = false := by simp
            have g4 : (t.refused != t.refused) = false := by simp
            go_quiet (first | (go_at_call 12; refine quiet_eq (next_any t g _ (Blk.drewN hsh6 _))) | (go_at_call 11; refine quiet_eq (waits_any t g _ (Blk.drewN hsh6 _))))
            go_wp2_with fail
            go_roundw
            case rel => exact ⟨k + 1, t, by omega, by omega, by go_num, OK2.out, hsh6, hsv5, bdrewN hB5 _⟩
            case measure => simp [intOf]; omega
        · go_wp2_with (go_at_call 5; refine (awake_any _).mono ?_; rintro e w4 ⟨rfl, hb⟩)
          go_ret
          exact ⟨rfl, bstep hB (Nat.le_refl _) hb⟩
      · go_wp2_with (go_at_call 5; refine (awake_any _).mono ?_; rintro e w4 ⟨rfl, hb⟩)
        go_ret
        exact ⟨rfl, bstep hB (Nat.le_refl _) hb⟩
end Go.Proofs.Ytcalpfpbafnckaa
