/- Walks over package edf: who has each tick. -/
import Derived.Test.YtefeekdnhiggoaaW1
namespace Go.Proofs.Ytefeekdnhiggoaa
open Go.RowKit

theorem info_int : (Try.prog.info? 3).map (fun i => (i.zero, i.size, i.bytes)) = some (some (.int .i64 0), 1, 8) := by kernel_rfl
theorem own_new_ne {v : Value} {gh gg H n cap : Nat} (hne : v.ownBlock ≠ some gh) (hat : v.ownBlock = some gg ∨ gg = H + 1) (hlt : gh < H) : (Value.slice (some ⟨gg, 0, none⟩) n cap).ownBlock ≠ some gh := by
  simp only [Value.ownBlock]
  intro e
  injection e with e
  rcases hat with h | h
  · rw [e] at h; exact hne h
  · omega

set_option maxRecDepth 100000 in
set_option maxHeartbeats 4000000 in
theorem run_yes (A : Option Addr) (js : List Job) (c : Nat) (T : Nat) (w : World) (hs : Sl eJ 3 w A js) (hr : rightJ js = true) (hl : js.length ≤ 32) (hT : T ≤ 2048) :
    Calls Try.prog 9 #[.slice A js.length c, .int .i64 T] w (RetOwn 3 1 T ((runTo js T).2.flatMap eI) w) := by
  obtain ⟨i0, hi0, hz0, hz1, hz2⟩ := info_parts info_int
  have t1 : decide ((T : Int) < 0) = false := decide_eq_false (by omega)
  have t2 : decide ((2048 : Int) < (T : Int)) = false := decide_eq_false (by omega)
  go_enter Try.func9, Try.ntmps9
  go_wp2_with (first | (go_at_call 10; refine (right_any _ _ _ _ hs (by omega)).mono ?_; rintro e w2 ⟨rfl, hB⟩) | (at_make; refine wpList_make_full _ rfl _ _ 26 rfl w.heap.size 3 i0 _ 1 Try.underlying26 hi0 hz0 hz1 _ _ _ _ js.length rfl rfl rfl rfl (by rw [hz2]; omega) (by simp only [maxLen]; omega) hB.size ?_; intro w3 ownH hg3) | (at_make; refine wpList_make_own _ rfl _ _ 26 rfl w.heap.size 3 i0 _ 1 Try.underlying26 hi0 hz0 hz1 _ _ _ T rfl rfl rfl (by rw [hz2]; omega) (by simp only [maxLen]; omega) (Nat.le_trans hB.size hg3.size) ?_; intro w4 ownW hg4))
  have hB4 : Below w.heap.size w w4 := (hB.grown hg3 hB.size (fun k hk => by cases hk)).grown hg4 (Nat.le_trans hB.size hg3.size) (fun k hk => by cases hk)
  have ownH4 := ownH.kept hg4 (.inr (by simp [Value.ownBlock]))
  have hne : (Value.slice (some ⟨w3.heap.size, 0, none⟩) 0 T).ownBlock ≠ some w2.heap.size := by
    have := (ownH.lt _ rfl).2
    simp [Value.ownBlock] at this ⊢
    omega
  rw [made_ints] at ownH4
  clear ownH hg3 hg4 t1 t2
  generalize w2.heap.size = gh at *
  go_loopw [6, 28] (fun v i wr => ∃ k : Nat, k ≤ T ∧ i = .int .i64 k ∧ wr.ownsRow w.heap.size 3 1 (.slice (some ⟨gh, 0, none⟩) js.length js.length) js.length ((runTo js k).1.flatMap eI) ∧ wr.ownsRow w.heap.size 3 1 v k ((runTo js k).2.flatMap eI) ∧ v.ownBlock ≠ some gh ∧ Below w.heap.size w wr) (fun _ i _ => T - (intOf i).toNat)
  case atStart => exact ⟨0, Nat.zero_le _, rfl, ownH4, ownW, hne, hB4⟩
  case round =>
    clear ownH4 ownW hne hB4 hB
    obtain ⟨k, hk, rfl, ownH, ownW, hne, hB⟩ := hrel
    obtain ⟨wo, rfl⟩ : ∃ wo : World, wo = wr := ⟨_, rfl⟩
    by_cases hlt : k < T
    · have rl := run_len js k
      have rb := had_bd js k
      have HN := Lib.hid (show runTo js (k + 1) = (hadStep (runTo js k).1 (pickTo js (runTo js k).1 k js.length), (runTo js k).2 ++ [pickTo js (runTo js k).1 k js.length]) from rfl)
      generalize hst : runTo js k = st at *
      obtain ⟨had, who⟩ := st
      simp only at ownH ownW rl rb HN
      obtain ⟨rl1, rl2⟩ := rl
      have RB := Lib.hid rb
      have RL1 := Lib.hid rl1
      clear rb rl1 rl2 hst
      go_wp2
      go_loopw [8, 33] (fun f i wi => ∃ (m : Nat) (y : Int), m ≤ js.length ∧ i = .int .i64 m ∧ f = .int .i64 y ∧ -1 ≤ y ∧ y < js.length ∧ Hid (y = pickTo js had k m) ∧ wi.ownsRow w.heap.size 3 1 (.slice (some ⟨gh, 0, none⟩) js.length js.length) js.length (had.flatMap eI) ∧ wi.ownsRow w.heap.size 3 1 u6 k (who.flatMap eI) ∧ Below w.heap.size w wi) (fun _ i _ => js.length - (intOf i).toNat)
      case atStart => exact ⟨0, -1, Nat.zero_le _, rfl, rfl, by omega, by omega, rfl, ownH, ownW, hB⟩
      case round =>
        clear ownH ownW hB
        obtain ⟨m, y, hm, rfl, rfl, y0, y1, HY, ownH, ownW, hB⟩ := hrel
        by_cases hmlt : m < js.length
        · have hml2 : m < had.length := by rw [RL1.out]; exact hmlt
          obtain ⟨b, off, rfl, c0, c1, c2⟩ := (hs.keep hB).job_at hmlt
          have h0 : wr.cell? ⟨gh, m, none⟩ = some (.int .i64 had[m]) := own_int_at ownH RL1.out hml2
          have HS := Lib.hid (pickTo_succ js had k m)
          have HP := Lib.hid (pick_at js had k y m hmlt hml2)
          go_wp2
          have d0 : (wr.alloc (Obj.cells #[.int .i64 js[m].come, .int .i64 js[m].dead, .int .i64 js[m].cost] 44)).cell? ⟨wr.heap.size, 0, none⟩ = some (.int .i64 js[m].come) := by simp
          have d1 : (wr.alloc (Obj.cells #[.int .i64 js[m].come, .int .i64 js[m].dead, .int .i64 js[m].cost] 44)).cell? ⟨wr.heap.size, 1, none⟩ = some (.int .i64 js[m].dead) := by simp
          have d2 : (wr.alloc (Obj.cells #[.int .i64 js[m].come, .int .i64 js[m].dead, .int .i64 js[m].cost] 44)).cell? ⟨wr.heap.size, 2, none⟩ = some (.int .i64 js[m].cost) := by simp
          replace h0 := kcell (below1 wr (Obj.cells #[.int .i64 js[m].come, .int .i64 js[m].dead, .int .i64 js[m].cost] 44)) h0
          replace ownH := ownH.alloc (Obj.cells #[.int .i64 js[m].come, .int .i64 js[m].dead, .int .i64 js[m].cost] 44)
          replace ownW := ownW.alloc (Obj.cells #[.int .i64 js[m].come, .int .i64 js[m].dead, .int .i64 js[m].cost] 44)
          replace hB := hB.alloc hB.size (Obj.cells #[.int .i64 js[m].come, .int .i64 js[m].dead, .int .i64 js[m].cost] 44)
          clear c0 c1 c2
          generalize hgw : (wr.alloc (Obj.cells #[.int .i64 js[m].come, .int .i64 js[m].dead, .int .i64 js[m].cost] 44)) = w5 at *
          clear hgw
          have m0 : (0 : Int) ≤ (m : Int) := by omega
          have m1 : (m : Int) < (js.length : Int) := by omega
          by_cases hcome : js[m].come ≤ k
          · have gd : decide ((k : Int) < js[m].come) = false := by simp; omega
            go_quiet (fail)
            by_cases hcost : js[m].cost ≤ had[m]
            · have HK : Hid (skipJ js[m] had[m] k = true) := by unfold Hid skipJ; simp [hcost]
              go_wp2
              go_roundw
              case rel => exact ⟨m + 1, y, by omega, by go_num, rfl, y0, y1, by unfold Hid; rw [HS.out, ← HY.out, HP.out, HK.out]; rfl, ownH, ownW, bdrewN hB _⟩
              case measure => simp [intOf]; omega
            · have HK : Hid (skipJ js[m] had[m] k = false) := by unfold Hid skipJ; simp; omega
              by_cases hf : y < 0
              · have HBt : Hid (betterJ js js[m] y = true) := by unfold Hid betterJ; simp [hf]
                have gf : decide (y < 0) = true := by simp [hf]
                go_wp2
                go_quiet (fail)
                go_wp2
                go_roundw
                case rel => exact ⟨m + 1, m, by omega, by go_num, rfl, by omega, by omega, by unfold Hid; rw [HS.out, ← HY.out, HP.out, HK.out, HBt.out]; rfl, ownH, ownW, bdrewN hB _⟩
                case measure => simp [intOf]; omega
              · have gf : decide (y < 0) = false := by simp; omega
                obtain ⟨Y, rfl⟩ := Int.eq_ofNat_of_zero_le (show 0 ≤ y by omega)
                have hYl : Y < js.length := by omega
                obtain ⟨b', off', hA', _, c1', _⟩ := (hs.keep hB).job_at hYl
                injection hA' with hA'
                injection hA' with e1 e2
                subst e1 e2
                have Y0 : (0 : Int) ≤ (Y : Int) := by omega
                have HBt : Hid (betterJ js js[m] Y = decide (js[m].dead < js[Y].dead)) := by
                  unfold Hid betterJ; simp [hYl]; omega
                go_wp2
                go_quiet (fail)
                by_cases hd : js[m].dead < js[Y].dead
                · go_wp2
                  go_roundw
                  case rel => exact ⟨m + 1, m, by omega, by go_num, rfl, by omega, by omega, by unfold Hid; rw [HS.out, ← HY.out, HP.out, HK.out, HBt.out]; simp [hd], ownH, ownW, bdrewN hB _⟩
                  case measure => simp [intOf]; omega
                · go_wp2
                  go_roundw
                  case rel => exact ⟨m + 1, Y, by omega, by go_num, rfl, by omega, by omega, by unfold Hid; rw [HS.out, ← HY.out, HP.out, HK.out, HBt.out]; simp [hd], ownH, ownW, bdrewN hB _⟩
                  case measure => simp [intOf]; omega
          · have gd : decide ((k : Int) < js[m].come) = true := by simp; omega
            have HK : Hid (skipJ js[m] had[m] k = true) := by unfold Hid skipJ; simp; omega
            go_quiet (fail)
            go_wp2
            go_roundw
            case rel => exact ⟨m + 1, y, by omega, by go_num, rfl, y0, y1, by unfold Hid; rw [HS.out, ← HY.out, HP.out, HK.out]; rfl, ownH, ownW, bdrewN hB _⟩
            case measure => simp [intOf]; omega
        · obtain rfl : m = js.length := by omega
          by_cases hf : y < 0
          · go_wp2_with (at_builtin; refine wpList_append_lies _ rfl _ _ _ rfl w.heap.size 3 i0 _ 1 8 Try.underlying26 hi0 hz0 hz1 hz2 rfl (by omega) u6 k _ rfl (ownW.alloc _) ⟨wr.heap.size, 0, none⟩ 1 1 [.int .i64 y] rfl rfl (World.news_of_block (cs := #[.int .i64 y]) (t := 3) (fr := (0, 0)) (heap_alloc_new wr _)) (by simp [Value.oneCell']) (by omega) (by simp only [maxLen]; omega) (by omega) (by simp; have := hB.size; omega) (wr.heap.size + 1) (by simp) ?_; intro gg cap w6 ownW1 hgrow hat hlt1)
            go_roundw
            case rel => exact ⟨k + 1, by omega, by go_num, by rw [HN.out]; simp only; rw [← HY.out]; unfold hadStep; rw [if_neg (by omega)]; exact (ownH.alloc _).kept hgrow (.inr (Ne.symm hne)), by rw [HN.out]; simp only; rw [← HY.out, List.flatMap_append]; exact ownW1, own_new_ne hne hat (ownH.lt gh rfl).2, (hB.alloc hB.size _).grown hgrow (by simp; have := hB.size; omega) (fun q hq => (ownW.lt q hq).1)⟩
            case measure => simp [intOf]; omega
          · obtain ⟨Y, rfl⟩ := Int.eq_ofNat_of_zero_le (show 0 ≤ y by omega)
            have hYl : Y < had.length := by rw [RL1.out]; omega
            have h0 : wr.cell? ⟨gh, Y, none⟩ = some (.int .i64 had[Y]) := own_int_at ownH RL1.out hYl
            have hfz : wr.frozen? ⟨gh, Y, none⟩ = false := ownH.frozenAt Y
            have hby := RB.out had[Y] (List.getElem_mem hYl)
            have Y1 : Y < js.length := by omega
            have hgl := (ownH.lt gh rfl).2
            have hgb := (ownH.lt gh rfl).1
            obtain ⟨ownS, hgS⟩ := own_int_set ownH Y (had[Y] + 1)
            have ownWS := ownW.kept hgS (.inr hne)
            go_wp2_with (at_builtin; refine wpList_append_lies _ rfl _ _ _ rfl w.heap.size 3 i0 _ 1 8 Try.underlying26 hi0 hz0 hz1 hz2 rfl (by omega) u6 k _ rfl (ownWS.alloc _) ⟨wr.heap.size, 0, none⟩ 1 1 [.int .i64 Y] rfl rfl (World.news_of_block (cs := #[.int .i64 Y]) (t := 3) (fr := (0, 0)) (by simpa using heap_alloc_new (wr.setCell ⟨gh, Y, none⟩ (.int .i64 (had[Y] + 1))) _)) (by simp [Value.oneCell']) (by omega) (by simp only [maxLen]; omega) (by omega) (by simp; have := hB.size; omega) (wr.heap.size + 1) (by simp) ?_; intro gg cap w6 ownW1 hgrow hat hlt1)
            have hBS : Below w.heap.size w (wr.setCell ⟨gh, Y, none⟩ (.int .i64 (had[Y] + 1))) := hB.setCell hgb _
            go_roundw
            case rel => exact ⟨k + 1, by omega, by go_num, by rw [HN.out]; simp only; rw [← HY.out]; unfold hadStep; rw [if_pos (by omega)]; simp only [Int.toNat_natCast]; rw [List.getD_eq_getElem?_getD, List.getElem?_eq_getElem hYl]; exact (ownS.alloc _).kept hgrow (.inr (Ne.symm hne)), by rw [HN.out]; simp only; rw [← HY.out, List.flatMap_append]; exact ownW1, own_new_ne hne hat hgl, (hBS.alloc hBS.size _).grown hgrow (by simp; have := hB.size; omega) (fun q hq => (ownW.lt q hq).1)⟩
            case measure => simp [intOf]; omega
    · obtain rfl : k = T := by omega
      go_wp2
      go_ret
      exact ⟨_, rfl, ownW, hB⟩

set_option maxHeartbeats 400000 in
theorem run_no (A : Option Addr) (js : List Job) (c : Nat) (t : Int) (w : World) (hs : Sl eJ 3 w A js) (hl : js.length ≤ 9223372036854775807) (h : rightJ js = false ∨ (rightJ js = true ∧ (t < 0 ∨ 2048 < t))) :
    Calls Try.prog 9 #[.slice A js.length c, .int .i64 t] w fun e w' => e = .returned (.slice none 0 0) ∧ Below w.heap.size w w' := by
  rcases h with h | ⟨h, h2⟩
  · go_enter Try.func9, Try.ntmps9
    go_wp2_with (go_at_call 10; refine (right_any _ _ _ _ hs hl).mono ?_; rintro e w2 ⟨rfl, hB⟩)
    go_ret
    exact ⟨rfl, hB⟩
  · rcases h2 with h2 | h2
    · go_enter Try.func9, Try.ntmps9
      go_wp2_with (go_at_call 10; refine (right_any _ _ _ _ hs hl).mono ?_; rintro e w2 ⟨rfl, hB⟩)
      go_ret
      exact ⟨rfl, hB⟩
    · go_enter Try.func9, Try.ntmps9
      go_wp2_with (go_at_call 10; refine (right_any _ _ _ _ hs hl).mono ?_; rintro e w2 ⟨rfl, hB⟩)
      go_ret
      exact ⟨rfl, hB⟩
end Go.Proofs.Ytefeekdnhiggoaa
