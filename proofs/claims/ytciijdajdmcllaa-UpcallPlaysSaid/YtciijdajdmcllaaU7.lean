/- Walks: no rows at all; the calls over what both sides hold. -/
import Derived.Test.YtciijdajdmcllaaU5
import Derived.Test.YtciijdajdmcllaaU6
namespace Go.Proofs.Ytciijdajdmcllaa
open Go.RowKit Go.Lib

set_option maxHeartbeats 1000000 in
theorem nil_of (i : Int) (w : World) : Calls Try.prog 17 #[.pointer none, .int .i64 i] w fun e w' => e = .returned (.pointer none) ∧ w = w' := by
  go_enter Try.func17, Try.ntmps17
  go_wp2
  go_ret
  exact ⟨rfl, rfl⟩
set_option maxHeartbeats 1000000 in
theorem nil_put (u : Up) (w : World) : Calls Try.prog 6 #[.pointer none, .int .i64 0, .agg #[.int .i64 u.kind, .int .i64 u.a, .int .u64 u.b]] w fun e w' => e = .returned (.int .i64 3) ∧ Below w.heap.size w w' := by
  go_enter Try.func6, Try.ntmps6
  go_wp2
  go_ret
  exact ⟨rfl, below1 _ _⟩
set_option maxHeartbeats 1000000 in
theorem nil_take (w : World) : Calls Try.prog 8 #[.pointer none, .int .i64 0] w fun e w' => e = .returned (.tuple #[.agg #[.int .i64 0, .int .i64 0, .int .u64 0], .int .i64 3]) ∧ Below w.heap.size w w' := by
  go_enter Try.func8, Try.ntmps8
  go_wp2
  exact bodyPost_ret (v := .tuple #[.agg #[.int .i64 0, .int .i64 0, .int .u64 0], .int .i64 3]) (by simp [results, Try.results8, go_sem]) rfl ⟨rfl, below1 _ _⟩
set_option maxHeartbeats 1000000 in
theorem nil_ofs (w : World) : Calls Try.prog 14 #[.pointer none, .int .i64 0] w fun e w' => e = .returned (.tuple #[.slice none 0 0, .int .i64 0]) ∧ w = w' := by
  have H := Lib.hid (fun W => nil_of 0 W)
  go_enter Try.func14, Try.ntmps14
  go_wp2_with fail
  refine (H.out _).mono ?_
  rintro e w2 ⟨rfl, rfl⟩
  go_wp2_with fail
  go_ret2
  exact ⟨rfl, rfl⟩
set_option maxHeartbeats 1000000 in
theorem nil_clear (w : World) : Calls Try.prog 11 #[.pointer none, .int .i64 0] w fun e w' => e = .returned (.int .i64 0) ∧ w = w' := by
  have H := Lib.hid (fun W => nil_of 0 W)
  go_enter Try.func11, Try.ntmps11
  go_wp2_with fail
  refine (H.out _).mono ?_
  rintro e w2 ⟨rfl, rfl⟩
  go_wp2_with fail
  go_ret
  exact ⟨rfl, rfl⟩

/-! both sides: the program's rows at g, the document's at A, of the same contents, apart -/
structure Both (w : World) (g : Nat) (A : Option Addr) (c : Nat) (R : List RwS) (F : Nat → Prop) : Prop where
  p : Rf (fun b => F b ∨ FB A R b) w g (R.map ctOf)
  q : Qs w A c R
theorem Both.keep {w w' : World} {g : Nat} {A : Option Addr} {c : Nat} {R : List RwS} {F : Nat → Prop} (h : Both w g A c R F) (hb : Below w.heap.size w w') : Both w' g A c R F := ⟨h.p.keep hb, h.q.keep hb⟩
theorem Both.drew {w : World} {g : Nat} {A : Option Addr} {c : Nat} {R : List RwS} {F : Nat → Prop} (h : Both w g A c R F) : Both w.drew g A c R F := ⟨h.p.drew, h.q.drew⟩
/-- behind a call of the program's -/
structure Half (F : Nat → Prop) (w : World) (g : Nat) (C : List Ct) (A : Option Addr) (c : Nat) (R : List RwS) : Prop where
  p : Rf (fun b => F b ∨ FB A R b) w g C
  q : Qs w A c R
theorem Half.keep {w w' : World} {g : Nat} {C : List Ct} {A : Option Addr} {c : Nat} {R : List RwS} {F : Nat → Prop} (h : Half F w g C A c R) (hb : Below w.heap.size w w') : Half F w' g C A c R := ⟨h.p.keep hb, h.q.keep hb⟩
/-- .. then of the document's -/
theorem Half.both {w w' : World} {g : Nat} {C : List Ct} {A O : Option Addr} {c d : Nat} {R R' : List RwS} {F : Nat → Prop} (h : Half F w g C A c R) (hb : Below w.heap.size w w') (hq : Qs w' O d R') (hC : R'.map ctOf = C) (hF : ∀ b, FB O R' b → FB A R b ∨ (w.heap.size ≤ b ∧ b < w'.heap.size)) : Both w' g O d R' F := by
  refine ⟨?_, hq⟩
  rw [hC]
  refine Rf.turn (B := 0) h.p (fun _ => trivial) hb (fun b hb2 => ?_)
  rcases hb2 with h1 | h1
  · exact .inl (.inl h1)
  · rcases hF b h1 with h2 | h2
    · exact .inl (.inr h2)
    · exact .inr h2
theorem half_of {w w' : World} {g : Nat} {C : List Ct} {A : Option Addr} {c : Nat} {R : List RwS} {F : Nat → Prop} (h : Both w g A c R F) (hp : Rf (fun b => F b ∨ FB A R b) w' g C) (hk : Kp (fun b => F b ∨ FB A R b) w w') : Half F w' g C A c R := ⟨hp, h.q.kept hk (fun b hb => .inr hb)⟩
end Go.Proofs.Ytciijdajdmcllaa
