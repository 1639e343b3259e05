/- Walks over package shape: what each method does to a shaper. -/
import Derived.Test.YtcalpfpbafnckaaBlk
import Derived.Test.YtcalpfpbafnckaaMem
namespace Go.Proofs.Ytcalpfpbafnckaa
open Go.RowKit

structure ShS where
  period : Int
  next : Int
  waits : Bool
  came : Int
  refused : Int

def shC (s : ShS) : Array Value := #[.int .i64 s.period, .int .i64 s.next, .bool s.waits, .int .i64 s.came, .int .i64 s.refused]
def Sh (w : World) (g : Nat) (s : ShS) : Prop := Blk w g 48 (shC s)
theorem Sh.cells {w : World} {g : Nat} {s : ShS} (h : Sh w g s) : w.cell? ⟨g, 0, none⟩ = some (.int .i64 s.period) ∧ w.cell? ⟨g, 1, none⟩ = some (.int .i64 s.next) ∧ w.cell? ⟨g, 2, none⟩ = some (.bool s.waits) ∧ w.cell? ⟨g, 3, none⟩ = some (.int .i64 s.came) ∧ w.cell? ⟨g, 4, none⟩ = some (.int .i64 s.refused) :=
  ⟨h.cell 0 _ rfl, h.cell 1 _ rfl, h.cell 2 _ rfl, h.cell 3 _ rfl, h.cell 4 _ rfl⟩
theorem Sh.free {w : World} {g : Nat} {s : ShS} (h : Sh w g s) : w.frozen? ⟨g, 1, none⟩ = false ∧ w.frozen? ⟨g, 2, none⟩ = false ∧ w.frozen? ⟨g, 3, none⟩ = false ∧ w.frozen? ⟨g, 4, none⟩ = false :=
  ⟨Blk.frozen h 1, Blk.frozen h 2, Blk.frozen h 3, Blk.frozen h 4⟩

def comeS (s : ShS) (now : Int) : ShS := { s with next := now + s.period, waits := false, came := s.came + 1 }
/-- the numbers are small -/
structure Okay (s : ShS) (k : Nat) : Prop where
  p0 : 1 ≤ s.period
  p1 : s.period ≤ 1048576
  n0 : 0 ≤ s.next
  n1 : s.next ≤ 1048576 * (2 + (k : Int))
  c0 : 0 ≤ s.came
  c1 : s.came ≤ k
  r0 : 0 ≤ s.refused
  r1 : s.refused ≤ k

/-- a method's answer, and what became of the shaper -/
def RetSh (v : Value) (s : ShS) (g : Nat) (w : World) (e : Ending) (w' : World) : Prop := e = .returned v ∧ Sh w' g s ∧ w.grownBy w' (some g)

set_option maxHeartbeats 400000 in
theorem comes_any (s : ShS) (now : Int) (g : Nat) (k : Nat) (w : World) (h : Sh w g s) (ok : Okay s k) (hk : k ≤ 100000) (h0 : 0 ≤ now) (h1 : now ≤ 1048576) :
    Calls Try.prog 16 #[.pointer (some ⟨g, 0, none⟩), .int .i64 now] w (RetSh (.tuple #[]) (comeS s now) g w) := by
  obtain ⟨c0, c1, c2, c3, c4⟩ := h.cells
  obtain ⟨f1, f2, f3, f4⟩ := h.free
  obtain ⟨p0, p1, n0, n1, a0, a1, r0, r1⟩ := ok
  have H := Lib.hid h
  clear h
  go_enter Try.func16, Try.ntmps16
  go_wp2
  go_end0
  exact ⟨rfl, ((H.out.set_ 1 _).set_ 2 _).set_ 3 _, only_set (only_set (only_set (only_refl w g) 1 _) 2 _) 3 _⟩

def askS (s : ShS) (now : Int) : ShS × Bool × Int :=
  if now < 0 ∨ 1048576 < now then (s, false, 1) else if s.waits then ({ s with refused := s.refused + 1 }, false, 20) else if now < s.next then ({ s with waits := true }, false, 0) else (comeS s now, true, 0)
def dueS (s : ShS) (now : Int) : ShS × Bool := if s.waits = false ∨ now < s.next ∨ 1048576 < now then (s, false) else (comeS s now, true)
def pushS (s : ShS) (now : Int) : ShS × Int := ({ s with next := max now s.next + s.period }, max now s.next)

theorem ok_come {s : ShS} {k : Nat} {now : Int} (h : Okay s k) (h0 : 0 ≤ now) (h1 : now ≤ 1048576) : Okay (comeS s now) (k + 1) := by
  obtain ⟨p0, p1, n0, n1, a0, a1, r0, r1⟩ := h
  exact ⟨p0, p1, by simp [comeS]; omega, by simp [comeS]; omega, by simp [comeS]; omega, by simp [comeS]; omega, by simp [comeS]; omega, by simp [comeS]; omega⟩
theorem ok_more {s : ShS} {k : Nat} (h : Okay s k) : Okay s (k + 1) := by
  obtain ⟨p0, p1, n0, n1, a0, a1, r0, r1⟩ := h
  exact ⟨p0, p1, n0, by omega, a0, by omega, r0, by omega⟩
theorem ok_ask {s : ShS} {k : Nat} {now : Int} (h : Okay s k) : Okay (askS s now).1 (k + 1) := by
  unfold askS
  split
  · exact ok_more h
  · split
    · obtain ⟨p0, p1, n0, n1, a0, a1, r0, r1⟩ := h
      exact ⟨p0, p1, n0, by simp; omega, a0, by simp; omega, by simp; omega, by simp; omega⟩
    · split
      · obtain ⟨p0, p1, n0, n1, a0, a1, r0, r1⟩ := h
        exact ⟨p0, p1, n0, by simp; omega, a0, by simp; omega, r0, by simp; omega⟩
      · exact ok_come h (by omega) (by omega)
theorem ok_due {s : ShS} {k : Nat} {now : Int} (h : Okay s k) : Okay (dueS s now).1 (k + 1) := by
  unfold dueS
  split
  · exact ok_more h
  · have := h.n0
    exact ok_come h (by omega) (by omega)
theorem ok_push {s : ShS} {k : Nat} {now : Int} (h : Okay s k) (h0 : 0 ≤ now) (h1 : now ≤ 1048576) : Okay (pushS s now).1 (k + 1) := by
  obtain ⟨p0, p1, n0, n1, a0, a1, r0, r1⟩ := h
  exact ⟨p0, p1, by simp [pushS]; omega, by simp [pushS]; omega, a0, by simp [pushS]; omega, r0, by simp [pushS]; omega⟩

set_option maxHeartbeats 1000000 in
theorem ask_any (s : ShS) (now : Int) (g : Nat) (k : Nat) (w : World) (h : Sh w g s) (ok : Okay s k) (hk : k ≤ 100000) :
    Calls Try.prog 9 #[.pointer (some ⟨g, 0, none⟩), .int .i64 now] w (RetSh (.tuple #[.bool (askS s now).2.1, .int .i64 (askS s now).2.2]) (askS s now).1 g w) := by
  have HK := Lib.hid ok
  obtain ⟨c0, c1, c2, c3, c4⟩ := h.cells
  obtain ⟨f1, f2, f3, f4⟩ := h.free
  obtain ⟨p0, p1, n0, n1, a0, a1, r0, r1⟩ := ok
  have H := Lib.hid h
  clear h
  by_cases b1 : now < 0
  · have HA : Hid (askS s now = (s, false, 1)) := by unfold Hid askS; rw [if_pos (.inl b1)]
    go_enter Try.func9, Try.ntmps9
    go_wp2
    go_ret2
    rw [HA.out]
    exact ⟨rfl, H.out, only_refl w g⟩
  · by_cases b2 : 1048576 < now
    · have HA : Hid (askS s now = (s, false, 1)) := by unfold Hid askS; rw [if_pos (.inr b2)]
      go_enter Try.func9, Try.ntmps9
      go_wp2
      go_ret2
      rw [HA.out]
      exact ⟨rfl, H.out, only_refl w g⟩
    · cases b3 : s.waits
      · rw [b3] at c2
        by_cases b4 : now < s.next
        · have HA : Hid (askS s now = ({ s with waits := true }, false, 0)) := by unfold Hid askS; rw [if_neg (by omega), if_neg (by simp [b3]), if_pos b4]
          go_enter Try.func9, Try.ntmps9
          go_wp2
          go_ret2
          rw [HA.out]
          exact ⟨rfl, H.out.set_ 2 _, only_set (only_refl w g) 2 _⟩
        · have HA : Hid (askS s now = (comeS s now, true, 0)) := by unfold Hid askS; rw [if_neg (by omega), if_neg (by simp [b3]), if_neg b4]
          go_enter Try.func9, Try.ntmps9
          go_wp2_with (go_at_call 16; refine (comes_any s now g k _ H.out HK.out hk (by omega) (by omega)).mono ?_; rintro e w2 ⟨rfl, hs2, hg2⟩)
          go_ret2
          rw [HA.out]
          exact ⟨rfl, hs2, hg2⟩
      · rw [b3] at c2
        have HA : Hid (askS s now = ({ s with refused := s.refused + 1 }, false, 20)) := by unfold Hid askS; rw [if_neg (by omega), if_pos b3]
        go_enter Try.func9, Try.ntmps9
        go_wp2
        go_ret2
        rw [HA.out]
        exact ⟨rfl, H.out.set_ 4 _, only_set (only_refl w g) 4 _⟩

set_option maxHeartbeats 1000000 in
theorem due_any (s : ShS) (now : Int) (g : Nat) (k : Nat) (w : World) (h : Sh w g s) (ok : Okay s k) (hk : k ≤ 100000) :
    Calls Try.prog 7 #[.pointer (some ⟨g, 0, none⟩), .int .i64 now] w (RetSh (.bool (dueS s now).2) (dueS s now).1 g w) := by
  have HK := Lib.hid ok
  obtain ⟨c0, c1, c2, c3, c4⟩ := h.cells
  obtain ⟨f1, f2, f3, f4⟩ := h.free
  obtain ⟨p0, p1, n0, n1, a0, a1, r0, r1⟩ := ok
  have H := Lib.hid h
  clear h
  cases b3 : s.waits
  · rw [b3] at c2
    have HA : Hid (dueS s now = (s, false)) := by unfold Hid dueS; rw [if_pos (.inl b3)]
    go_enter Try.func7, Try.ntmps7
    go_wp2
    go_ret
    rw [HA.out]
    exact ⟨rfl, H.out, only_refl w g⟩
  · rw [b3] at c2
    by_cases b4 : now < s.next
    · have HA : Hid (dueS s now = (s, false)) := by unfold Hid dueS; rw [if_pos (.inr (.inl b4))]
      go_enter Try.func7, Try.ntmps7
      go_wp2
      go_ret
      rw [HA.out]
      exact ⟨rfl, H.out, only_refl w g⟩
    · by_cases b2 : 1048576 < now
      · have HA : Hid (dueS s now = (s, false)) := by unfold Hid dueS; rw [if_pos (.inr (.inr b2))]
        go_enter Try.func7, Try.ntmps7
        go_wp2
        go_ret
        rw [HA.out]
        exact ⟨rfl, H.out, only_refl w g⟩
      · have HA : Hid (dueS s now = (comeS s now, true)) := by unfold Hid dueS; rw [if_neg (by simp [b3]; omega)]
        go_enter Try.func7, Try.ntmps7
        go_wp2_with (go_at_call 16; refine (comes_any s now g k _ H.out HK.out hk (by omega) (by omega)).mono ?_; rintro e w2 ⟨rfl, hs2, hg2⟩)
        go_ret
        rw [HA.out]
        exact ⟨rfl, hs2, hg2⟩

set_option maxHeartbeats 1000000 in
theorem push_any (s : ShS) (now : Int) (g : Nat) (k : Nat) (w : World) (h : Sh w g s) (ok : Okay s k) (hk : k ≤ 100000) (h0 : 0 ≤ now) (h1 : now ≤ 1048576) :
    Calls Try.prog 8 #[.pointer (some ⟨g, 0, none⟩), .int .i64 now] w (RetSh (.int .i64 (pushS s now).2) (pushS s now).1 g w) := by
  obtain ⟨c0, c1, c2, c3, c4⟩ := h.cells
  obtain ⟨f1, f2, f3, f4⟩ := h.free
  obtain ⟨p0, p1, n0, n1, a0, a1, r0, r1⟩ := ok
  have H := Lib.hid h
  clear h
  by_cases b : now < s.next
  · have HA : Hid (pushS s now = ({ s with next := s.next + s.period }, s.next)) := by unfold Hid pushS; rw [Int.max_eq_right (by omega)]
    go_enter Try.func8, Try.ntmps8
    go_wp2
    go_ret
    rw [HA.out]
    exact ⟨rfl, H.out.set_ 1 _, only_set (only_refl w g) 1 _⟩
  · have HA : Hid (pushS s now = ({ s with next := now + s.period }, now)) := by unfold Hid pushS; rw [Int.max_eq_left (by omega)]
    go_enter Try.func8, Try.ntmps8
    go_wp2
    go_ret
    rw [HA.out]
    exact ⟨rfl, H.out.set_ 1 _, only_set (only_refl w g) 1 _⟩

set_option maxHeartbeats 400000 in
theorem next_any (s : ShS) (g : Nat) (w : World) (h : Sh w g s) :
    Calls Try.prog 12 #[.pointer (some ⟨g, 0, none⟩)] w fun e w' => e = .returned (.int .i64 s.next) ∧ w = w' := by
  obtain ⟨c0, c1, c2, c3, c4⟩ := h.cells
  clear h
  go_enter Try.func12, Try.ntmps12
  go_wp2
  go_ret
  exact ⟨rfl, rfl⟩

def newS (p : Int) : ShS := ⟨p, 0, false, 0, 0⟩
theorem ok_new {p : Int} (h0 : 1 ≤ p) (h1 : p ≤ 1048576) : Okay (newS p) 0 := ⟨h0, h1, by simp [newS], by simp [newS], by simp [newS], by simp [newS], by simp [newS], by simp [newS]⟩

/-- a new shaper -/
def RetNew (p : Int) (w : World) (e : Ending) (w' : World) : Prop := ∃ g, e = .returned (.tuple #[.pointer (some ⟨g, 0, none⟩), .int .i64 0]) ∧ w.heap.size ≤ g ∧ Sh w' g (newS p) ∧ Below w.heap.size w w'
set_option maxHeartbeats 400000 in
theorem new_yes (p : Int) (w : World) (h0 : 1 ≤ p) (h1 : p ≤ 1048576) : Calls Try.prog 6 #[.int .i64 p] w (RetNew p w) := by
  go_enter Try.func6, Try.ntmps6
  go_wp2
  go_ret2
  exact ⟨w.heap.size, rfl, Nat.le_refl _, Blk.new w _ _, below1 _ _⟩
set_option maxHeartbeats 400000 in
theorem new_no (p : Int) (w : World) (h : p < 1 ∨ 1048576 < p) : Calls Try.prog 6 #[.int .i64 p] w fun e w' => e = .returned (.tuple #[.pointer none, .int .i64 1]) ∧ w = w' := by
  rcases h with h | h
  all_goals
    go_enter Try.func6, Try.ntmps6
    go_wp2
    go_ret2
    exact ⟨rfl, rfl⟩

set_option maxHeartbeats 2000000 in
theorem awake_any (w : World) : Calls Try.prog 5 #[] w fun e w' => e = .returned (.bool true) ∧ Below w.heap.size w w' := by
  have k1 : askS (newS 5) 2 = (⟨5, 7, false, 1, 0⟩, true, 0) := rfl
  have k2 : askS ⟨5, 7, false, 1, 0⟩ 3 = (⟨5, 7, true, 1, 0⟩, false, 0) := rfl
  have k3 : dueS ⟨5, 7, true, 1, 0⟩ 6 = (⟨5, 7, true, 1, 0⟩, false) := rfl
  have k4 : dueS ⟨5, 7, true, 1, 0⟩ 7 = (⟨5, 12, false, 2, 0⟩, true) := rfl
  have o1 : Okay (newS 5) 0 := ok_new (by omega) (by omega)
  have o2 : Okay ⟨5, 7, false, 1, 0⟩ 1 := ⟨by decide, by decide, by decide, by decide, by decide, by decide, by decide, by decide⟩
  have o3 : Okay ⟨5, 7, true, 1, 0⟩ 1 := ⟨by decide, by decide, by decide, by decide, by decide, by decide, by decide, by decide⟩
  have K1 := Lib.hid k1
  have K2 := Lib.hid k2
  have K3 := Lib.hid k3
  have K4 := Lib.hid k4
  clear k1 k2 k3 k4
  go_enter Try.func5, Try.ntmps5
  go_wp2_with fail
  refine (new_yes 5 _ (by omega) (by omega)).mono ?_
  rintro e w1 ⟨g, rfl, hg, hs, hB⟩
  go_wp2_with fail
  refine (ask_any _ 2 g 0 _ hs o1 (by omega)).mono ?_
  rintro e w2 ⟨rfl, hs2, hg2⟩
  rw [K1.out] at hs2 ⊢
  replace hB := below_only hB hg2 hg
  go_wp2_with fail
  refine (ask_any _ 3 g 1 _ hs2 o2 (by omega)).mono ?_
  rintro e w3 ⟨rfl, hs3, hg3⟩
  rw [K2.out] at hs3 ⊢
  replace hB := below_only hB hg3 hg
  go_wp2_with fail
  refine (due_any _ 6 g 1 _ hs3 o3 (by omega)).mono ?_
  rintro e w4 ⟨rfl, hs4, hg4⟩
  rw [K3.out] at hs4 ⊢
  replace hB := below_only hB hg4 hg
  go_wp2_with fail
  refine (due_any _ 7 g 1 _ hs4 o3 (by omega)).mono ?_
  rintro e w5 ⟨rfl, hs5, hg5⟩
  rw [K4.out] at hs5 ⊢
  replace hB := below_only hB hg5 hg
  go_wp2_with fail
  refine (next_any _ g _ hs5).mono ?_
  rintro e w6 ⟨rfl, rfl⟩
  go_wp2_with fail
  go_ret
  exact ⟨rfl, hB⟩
end Go.Proofs.Ytcalpfpbafnckaa
