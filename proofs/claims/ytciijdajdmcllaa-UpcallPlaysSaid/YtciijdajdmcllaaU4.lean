/- Walk: the document's Put. -/
import Derived.Test.YtciijdajdmcllaaU3
import Derived.Deep.DeepCutAuto
import Derived.Deep.CutBlock
namespace Go.Proofs.Ytciijdajdmcllaa
open Go.RowKit Go.Lib

def RetQP (A : Option Addr) (R : List RwS) (C : List Ct) (v : Int) (w : World) (e : Ending) (w' : World) : Prop := ∃ (O : Option Addr) (d : Nat) (R' : List RwS), e = .returned (.tuple #[.slice O 8 d, .int .i64 v]) ∧ Qs w' O d R' ∧ R'.map ctOf = C ∧ (∀ b, FB O R' b → FB A R b ∨ (w.heap.size ≤ b ∧ b < w'.heap.size)) ∧ Below w.heap.size w w'
set_option maxHeartbeats 1000000 in
theorem rput_env (A : Option Addr) (c : Nat) (R : List RwS) (i : Int) (u : Up) (w : World) (hQ : Qs w A c R) (hi : i < 0 ∨ 7 < i) : Calls Try.prog 12 #[.slice A 8 c, .int .i64 i, .agg #[.int .i64 u.kind, .int .i64 u.a, .int .u64 u.b]] w (RetQP A R (R.map ctOf) 1 w) := by
  have hB := below1 w (Obj.cells #[.int .i64 u.kind, .int .i64 u.a, .int .u64 u.b] 33)
  have HQ := Lib.hid (hQ.keep hB)
  clear hQ
  rcases hi with h | h
  · go_enter Try.func12, Try.ntmps12
    go_wp2
    go_ret2
    exact ⟨A, c, R, rfl, HQ.out, rfl, fun b hb => .inl hb, hB⟩
  · have h0 : ¬ i < 0 := by omega
    go_enter Try.func12, Try.ntmps12
    go_wp2
    go_ret2
    exact ⟨A, c, R, rfl, HQ.out, rfl, fun b hb => .inl hb, hB⟩
set_option maxHeartbeats 1000000 in
theorem rput_kind (A : Option Addr) (c : Nat) (R : List RwS) (i : Nat) (u : Up) (w : World) (hQ : Qs w A c R) (hi : i < 8) (hu : okK u.kind = false) : Calls Try.prog 12 #[.slice A 8 c, .int .i64 i, .agg #[.int .i64 u.kind, .int .i64 u.a, .int .u64 u.b]] w (RetQP A R (R.map ctOf) 1 w) := by
  have hB := below1 w (Obj.cells #[.int .i64 u.kind, .int .i64 u.a, .int .u64 u.b] 33)
  have HQ := Lib.hid hQ
  have HN := Lib.hid (fun W => rname_any u.kind W)
  rw [name_not hu] at HN
  have i1 : ¬ (i : Int) < 0 := by omega
  have i2 : ¬ (7 : Int) < (i : Int) := by omega
  clear hQ hu hi
  go_enter Try.func12, Try.ntmps12
  go_wp2_with fail
  refine (HN.out _).mono ?_
  rintro e w2 ⟨rfl, hb⟩
  replace hB := bstep hB (Nat.le_refl _) hb
  go_wp2_with fail
  go_ret2
  exact ⟨A, c, R, rfl, HQ.out.keep hB, rfl, fun b hb => .inl hb, hB⟩

/-- a row's end: the rows with one more turned -/
theorem rput_end {A : Option Addr} {R : List RwS} {i : Nat} {r : RwS} {v : Int} {w W w' : World} {O : Option Addr} {d : Nat} (hB : Below w.heap.size w W) (hq : Qs w' O d (R.set i r)) (hO : ∀ b, blk O = some b → W.heap.size ≤ b ∧ b < w'.heap.size) (hb : Below W.heap.size W w')
    (hr : r.L ≠ [] → ∀ b, blk r.A = some b → FB A R b ∨ (w.heap.size ≤ b ∧ b < W.heap.size)) : RetQP A R ((R.map ctOf).set i (ctOf r)) v w (.returned (.tuple #[.slice O 8 d, .int .i64 v])) w' := by
  refine ⟨O, d, _, rfl, hq, by rw [ct_set], fun b hb2 => ?_, bstep hB (Nat.le_refl _) hb⟩
  have hs := hB.size
  have hs2 := hb.size
  rcases hb2 with hb2 | ⟨x, hx, hxl, hb2⟩
  · right; have := hO b hb2; omega
  · rcases List.mem_or_eq_of_mem_set hx with hx | rfl
    · exact .inl (.inr ⟨x, hx, hxl, hb2⟩)
    · rcases hr hxl b hb2 with h | h
      · exact .inl h
      · right; omega
end Go.Proofs.Ytciijdajdmcllaa
