/- Walks: Count, Waits, no shaper at all, and the document's answers. -/
import Derived.Test.YtcalpfpbafnckaaW1
namespace Go.Proofs.Ytcalpfpbafnckaa
open Go.RowKit

set_option maxHeartbeats 400000 in
theorem waits_any (s : ShS) (g : Nat) (w : World) (h : Sh w g s) :
    Calls Try.prog 11 #[.pointer (some ⟨g, 0, none⟩)] w fun e w' => e = .returned (.bool s.waits) ∧ w = w' := by
  obtain ⟨c0, c1, c2, c3, c4⟩ := h.cells
  clear h
  go_enter Try.func11, Try.ntmps11
  go_wp2
  go_ret
  exact ⟨rfl, rfl⟩
set_option maxHeartbeats 400000 in
theorem count_any (s : ShS) (g : Nat) (w : World) (h : Sh w g s) :
    Calls Try.prog 10 #[.pointer (some ⟨g, 0, none⟩)] w fun e w' => e = .returned (.tuple #[.int .i64 s.came, .int .i64 s.refused]) ∧ ∃ n, w' = w.drewN n := by
  obtain ⟨c0, c1, c2, c3, c4⟩ := h.cells
  clear h
  go_enter Try.func10, Try.ntmps10
  go_wp2_with fail
  go_quiet (fail)
  go_wp2_with fail
  go_ret2
  exact ⟨rfl, _, rfl⟩

theorem nil_ask (n : Int) (w : World) : Calls Try.prog 9 #[.pointer none, .int .i64 n] w fun e w' => e = .returned (.tuple #[.bool false, .int .i64 3]) ∧ w = w' := by
  go_enter Try.func9, Try.ntmps9
  go_wp2
  go_ret2
  exact ⟨rfl, rfl⟩
theorem nil_due (n : Int) (w : World) : Calls Try.prog 7 #[.pointer none, .int .i64 n] w fun e w' => e = .returned (.bool false) ∧ w = w' := by
  go_enter Try.func7, Try.ntmps7
  go_wp2
  go_ret
  exact ⟨rfl, rfl⟩
theorem nil_push (n : Int) (w : World) : Calls Try.prog 8 #[.pointer none, .int .i64 n] w fun e w' => e = .returned (.int .i64 0) ∧ w = w' := by
  go_enter Try.func8, Try.ntmps8
  go_wp2
  go_ret
  exact ⟨rfl, rfl⟩
theorem nil_next (w : World) : Calls Try.prog 12 #[.pointer none] w fun e w' => e = .returned (.int .i64 0) ∧ w = w' := by
  go_enter Try.func12, Try.ntmps12
  go_wp2
  go_ret
  exact ⟨rfl, rfl⟩
theorem nil_waits (w : World) : Calls Try.prog 11 #[.pointer none] w fun e w' => e = .returned (.bool false) ∧ w = w' := by
  go_enter Try.func11, Try.ntmps11
  go_wp2
  go_ret
  exact ⟨rfl, rfl⟩
theorem nil_count (w : World) : Calls Try.prog 10 #[.pointer none] w fun e w' => e = .returned (.tuple #[.int .i64 0, .int .i64 0]) ∧ w = w' := by
  go_enter Try.func10, Try.ntmps10
  go_wp2
  go_ret2
  exact ⟨rfl, rfl⟩

/-! the document's answers: a shaper by value -/
def shV (s : ShS) : Value := .agg #[.int .i64 s.period, .int .i64 s.next, .bool s.waits, .int .i64 s.came, .int .i64 s.refused]

def Sv (w : World) (g : Nat) (s : ShS) : Prop := Blk w g 39 (shC s)
theorem Sv.cells {w : World} {g : Nat} {s : ShS} (h : Sv w g s) : w.cell? ⟨g, 0, none⟩ = some (.int .i64 s.period) ∧ w.cell? ⟨g, 1, none⟩ = some (.int .i64 s.next) ∧ w.cell? ⟨g, 2, none⟩ = some (.bool s.waits) ∧ w.cell? ⟨g, 3, none⟩ = some (.int .i64 s.came) ∧ w.cell? ⟨g, 4, none⟩ = some (.int .i64 s.refused) :=
  ⟨h.cell 0 _ rfl, h.cell 1 _ rfl, h.cell 2 _ rfl, h.cell 3 _ rfl, h.cell 4 _ rfl⟩
theorem Sv.free {w : World} {g : Nat} {s : ShS} (h : Sv w g s) : w.frozen? ⟨g, 0, none⟩ = false ∧ w.frozen? ⟨g, 1, none⟩ = false ∧ w.frozen? ⟨g, 2, none⟩ = false ∧ w.frozen? ⟨g, 3, none⟩ = false ∧ w.frozen? ⟨g, 4, none⟩ = false :=
  ⟨Blk.frozen h 0, Blk.frozen h 1, Blk.frozen h 2, Blk.frozen h 3, Blk.frozen h 4⟩
theorem Sv.second (w : World) (o : Obj) (s : ShS) : Sv ((w.alloc o).alloc (.cells (shC s) 39)) (w.heap.size + 1) s := by
  have h := Blk.new (w.alloc o) 39 (shC s)
  rw [show (w.alloc o).heap.size = w.heap.size + 1 by simp] at h
  exact h
def putS (w : World) (g : Nat) (t : ShS) : World := ((((w.setCell ⟨g, 0, none⟩ (.int .i64 t.period)).setCell ⟨g, 1, none⟩ (.int .i64 t.next)).setCell ⟨g, 2, none⟩ (.bool t.waits)).setCell ⟨g, 3, none⟩ (.int .i64 t.came)).setCell ⟨g, 4, none⟩ (.int .i64 t.refused)
theorem Sv.put {w : World} {g : Nat} {s : ShS} (h : Sv w g s) (t : ShS) : Sv (putS w g t) g t :=
  ((((h.set_ 0 _).set_ 1 _).set_ 2 _).set_ 3 _).set_ 4 _
theorem Sv.only {a w : World} {g : Nat} (h : a.grownBy w (some g)) (t : ShS) : a.grownBy (putS w g t) (some g) :=
  only_set (only_set (only_set (only_set (only_set h 0 _) 1 _) 2 _) 3 _) 4 _
def zeroS : ShS := ⟨0, 0, false, 0, 0⟩

set_option maxHeartbeats 1000000 in
theorem rcome_any (s : ShS) (now : Int) (k : Nat) (w : World) (ok : Okay s k) (hk : k ≤ 100000) (h0 : 0 ≤ now) (h1 : now ≤ 1048576) :
    Calls Try.prog 17 #[shV s, .int .i64 now] w fun e w' => e = .returned (shV (comeS s now)) ∧ Below w.heap.size w w' := by
  obtain ⟨p0, p1, n0, n1, a0, a1, r0, r1⟩ := ok
  unfold shV
  go_enter Try.func17, Try.ntmps17
  go_wp2
  exact bodyPost_ret (v := shV (comeS s now)) (by simp [results, Try.results17, go_sem, shV, comeS]) rfl ⟨rfl, (below1 _ _).alloc (by simp) _⟩

theorem come_to (s : ShS) (now : Int) (k : Nat) (w : World) (ok : Okay s k) (hk : k ≤ 100000) (hw : s.waits = false) (h0 : 0 ≤ now) (h1 : now ≤ 1048576) :
    Calls Try.prog 17 #[.agg #[.int .i64 s.period, .int .i64 s.next, .bool false, .int .i64 s.came, .int .i64 s.refused], .int .i64 now] w fun e w' => e = .returned (.agg #[.int .i64 s.period, .int .i64 (now + s.period), .bool false, .int .i64 (s.came + 1), .int .i64 s.refused]) ∧ Below w.heap.size w w' := by
  have h := rcome_any s now k w ok hk h0 h1
  unfold shV comeS at h
  rw [hw] at h
  exact h
theorem due_to (s : ShS) (now : Int) (k : Nat) (w : World) (ok : Okay s k) (hk : k ≤ 100000) (hw : s.waits = true) (h0 : 0 ≤ now) (h1 : now ≤ 1048576) :
    Calls Try.prog 17 #[.agg #[.int .i64 s.period, .int .i64 s.next, .bool true, .int .i64 s.came, .int .i64 s.refused], .int .i64 now] w fun e w' => e = .returned (.agg #[.int .i64 s.period, .int .i64 (now + s.period), .bool false, .int .i64 (s.came + 1), .int .i64 s.refused]) ∧ Below w.heap.size w w' := by
  have h := rcome_any s now k w ok hk h0 h1
  unfold shV comeS at h
  rw [hw] at h
  exact h
theorem okw {w : World} (a b : Obj) : Below w.heap.size w ((w.alloc a).alloc b) := (below1 _ _).alloc (by simp) _

set_option maxHeartbeats 1000000 in
theorem rask_any (s : ShS) (now : Int) (k : Nat) (w : World) (ok : Okay s k) (hk : k ≤ 100000) :
    Calls Try.prog 15 #[shV s, .int .i64 now] w fun e w' => e = .returned (.tuple #[shV (askS s now).1, .bool (askS s now).2.1, .int .i64 (askS s now).2.2]) ∧ Below w.heap.size w w' := by
  have HK := Lib.hid ok
  obtain ⟨p0, p1, n0, n1, a0, a1, r0, r1⟩ := ok
  unfold shV
  by_cases b1 : now < 0 ∨ 1048576 < now
  · have HA : askS s now = (s, false, 1) := by unfold askS; rw [if_pos b1]
    rw [HA]
    clear HA
    rcases b1 with b1 | b1
    all_goals
      go_enter Try.func15, Try.ntmps15
      go_wp2
      exact bodyPost_ret (v := .tuple #[shV s, .bool false, .int .i64 1]) (by simp [results, Try.results15, go_sem, shV]) rfl ⟨rfl, okw _ _⟩
  · cases b3 : s.waits
    · by_cases b4 : now < s.next
      · have HA : askS s now = ({ s with waits := true }, false, 0) := by unfold askS; rw [if_neg (by omega), if_neg (by simp [b3]), if_pos b4]
        rw [HA]
        clear HA
        go_enter Try.func15, Try.ntmps15
        go_wp2
        exact bodyPost_ret (v := .tuple #[shV { s with waits := true }, .bool false, .int .i64 0]) (by simp [results, Try.results15, go_sem, shV]) rfl ⟨rfl, okw _ _⟩
      · have HA : askS s now = (comeS s now, true, 0) := by unfold askS; rw [if_neg (by omega), if_neg (by simp [b3]), if_neg b4]
        rw [HA]
        clear HA
        go_enter Try.func15, Try.ntmps15
        go_wp2_with ((go_at_call 17; refine (come_to s now k _ HK.out hk b3 (by omega) (by omega)).mono ?_; rintro e w4 ⟨rfl, hb⟩); have hR : Sv w4 (w.heap.size + 1) zeroS := (Sv.second w _ zeroS).keep hb; obtain ⟨c0, c1, c2, c3, c4⟩ := hR.cells; obtain ⟨f0, f1, f2, f3, f4⟩ := hR.free; have HR := Lib.hid hR; clear hR; simp only [zeroS] at c0 c1 c2 c3 c4)
        obtain ⟨d0, d1, d2, d3, d4⟩ := (HR.out.put (comeS s now)).cells
        change bodyPost _ _ _ _ _ (putS w4 (w.heap.size + 1) (comeS s now))
        exact bodyPost_ret (v := .tuple #[shV (comeS s now), .bool true, .int .i64 0]) (by simp [results, Try.results15, go_sem, shV, d0, d1, d2, d3, d4]) rfl ⟨rfl, below_only (bstep (okw _ _) (by simp) hb) (Sv.only (only_refl _ _) (comeS s now)) (by omega)⟩
    · have HA : askS s now = ({ s with refused := s.refused + 1 }, false, 20) := by unfold askS; rw [if_neg (by omega), if_pos b3]
      rw [HA]
      clear HA
      go_enter Try.func15, Try.ntmps15
      go_wp2
      exact bodyPost_ret (v := .tuple #[shV { s with refused := s.refused + 1 }, .bool false, .int .i64 20]) (by simp [results, Try.results15, go_sem, shV, b3]) rfl ⟨rfl, okw _ _⟩

set_option maxHeartbeats 1000000 in
theorem rpush_any (s : ShS) (now : Int) (k : Nat) (w : World) (ok : Okay s k) (hk : k ≤ 100000) (h0 : 0 ≤ now) (h1 : now ≤ 1048576) :
    Calls Try.prog 14 #[shV s, .int .i64 now] w fun e w' => e = .returned (.tuple #[shV (pushS s now).1, .int .i64 (pushS s now).2]) ∧ Below w.heap.size w w' := by
  obtain ⟨p0, p1, n0, n1, a0, a1, r0, r1⟩ := ok
  unfold shV
  by_cases b : now < s.next
  · have HA : pushS s now = ({ s with next := s.next + s.period }, s.next) := by unfold pushS; rw [Int.max_eq_right (by omega)]
    rw [HA]
    clear HA
    go_enter Try.func14, Try.ntmps14
    go_wp2
    exact bodyPost_ret (v := .tuple #[shV { s with next := s.next + s.period }, .int .i64 s.next]) (by simp [results, Try.results14, go_sem, shV]) rfl ⟨rfl, okw _ _⟩
  · have HA : pushS s now = ({ s with next := now + s.period }, now) := by unfold pushS; rw [Int.max_eq_left (by omega)]
    rw [HA]
    clear HA
    go_enter Try.func14, Try.ntmps14
    go_wp2
    exact bodyPost_ret (v := .tuple #[shV { s with next := now + s.period }, .int .i64 now]) (by simp [results, Try.results14, go_sem, shV]) rfl ⟨rfl, okw _ _⟩


set_option maxHeartbeats 1000000 in
theorem rdue_any (s : ShS) (now : Int) (k : Nat) (w : World) (ok : Okay s k) (hk : k ≤ 100000) :
    Calls Try.prog 13 #[shV s, .int .i64 now] w fun e w' => e = .returned (.tuple #[shV (dueS s now).1, .bool (dueS s now).2]) ∧ Below w.heap.size w w' := by
  have HK := Lib.hid ok
  obtain ⟨p0, p1, n0, n1, a0, a1, r0, r1⟩ := ok
  unfold shV
  cases b3 : s.waits
  · have HA : dueS s now = (s, false) := by unfold dueS; rw [if_pos (.inl b3)]
    rw [HA]
    clear HA
    go_enter Try.func13, Try.ntmps13
    go_wp2
    exact bodyPost_ret (v := .tuple #[shV s, .bool false]) (by simp [results, Try.results13, go_sem, shV, b3]) rfl ⟨by simp [shV, b3], okw _ _⟩
  · by_cases b4 : now < s.next ∨ 1048576 < now
    · have HA : dueS s now = (s, false) := by unfold dueS; rw [if_pos (.inr b4)]
      rw [HA]
      clear HA
      rcases b4 with b4 | b4
      · go_enter Try.func13, Try.ntmps13
        go_wp2
        exact bodyPost_ret (v := .tuple #[shV s, .bool false]) (by simp [results, Try.results13, go_sem, shV, b3]) rfl ⟨by simp [shV, b3], okw _ _⟩
      · by_cases b5 : now < s.next
        all_goals
          go_enter Try.func13, Try.ntmps13
          go_wp2
          exact bodyPost_ret (v := .tuple #[shV s, .bool false]) (by simp [results, Try.results13, go_sem, shV, b3]) rfl ⟨by simp [shV, b3], okw _ _⟩
    · have HA : dueS s now = (comeS s now, true) := by unfold dueS; rw [if_neg (by simp [b3]; omega)]
      rw [HA]
      clear HA
      obtain ⟨b5, b6⟩ : ¬ now < s.next ∧ ¬ 1048576 < now := by omega
      clear b4
      go_enter Try.func13, Try.ntmps13
      go_wp2_with ((go_at_call 17; refine (due_to s now k _ HK.out hk b3 (by omega) (by omega)).mono ?_; rintro e w4 ⟨rfl, hb⟩); have hR : Sv w4 (w.heap.size + 1) zeroS := (Sv.second w _ zeroS).keep hb; obtain ⟨c0, c1, c2, c3, c4⟩ := hR.cells; obtain ⟨f0, f1, f2, f3, f4⟩ := hR.free; have HR := Lib.hid hR; clear hR; simp only [zeroS] at c0 c1 c2 c3 c4)
      obtain ⟨d0, d1, d2, d3, d4⟩ := (HR.out.put (comeS s now)).cells
      change bodyPost _ _ _ _ _ (putS w4 (w.heap.size + 1) (comeS s now))
      exact bodyPost_ret (v := .tuple #[shV (comeS s now), .bool true]) (by simp [results, Try.results13, go_sem, shV, d0, d1, d2, d3, d4]) rfl ⟨rfl, below_only (bstep (okw _ _) (by simp) hb) (Sv.only (only_refl _ _) (comeS s now)) (by omega)⟩
end Go.Proofs.Ytcalpfpbafnckaa
