/- Walks: a Shut, a Put, done to both. -/
import Derived.Test.YtldpplfkimdaaaaW12
namespace Go.Proofs.Ytldpplfkimdaaaa
open Go.RowKit Go.Conc Go.Lib

theorem setCell_id {w : World} {b o : Nat} {v : Value} (h : w.cell? ⟨b, o, none⟩ = some v) : w.setCell ⟨b, o, none⟩ v = w := by
  have key : (w.setCell ⟨b, o, none⟩ v).heap = w.heap := by
    apply Array.ext_getElem?
    intro i
    unfold World.setCell
    simp only [Array.getElem?_modify]
    by_cases hb : b = i
    · subst hb
      rw [if_pos rfl]
      unfold World.cell? at h
      simp only at h
      cases ho : w.heap[b]? with
      | none => rfl
      | some ob =>
        rw [ho] at h
        cases ob <;> simp only [Option.isSome_none, Bool.false_eq_true, if_false] at h ⊢ <;> try rfl
        rename_i c e fz
        simp only [Option.map_some, Option.some.injEq, Obj.cells.injEq, and_true]
        apply Array.ext_getElem?
        intro j
        rw [Array.getElem?_setIfInBounds]
        by_cases hj : o = j
        · subst hj
          rw [if_pos rfl]
          rw [if_pos (Array.getElem?_eq_some_iff.1 h).1, h]
        · rw [if_neg hj]
    · rw [if_neg hb]
  obtain ⟨a1, a2, a3, a4, a5⟩ := w
  have : ∀ W : World, W.heap = a1 → W.tape = a2 → W.drawn = a3 → W.os = a4 → W.output = a5 → W = ⟨a1, a2, a3, a4, a5⟩ := fun W h1 h2 h3 h4 h5 => by
    cases W; simp_all
  exact this _ key rfl rfl rfl rfl
theorem shut_any (b : BoxS) (g : Nat) (w : World) (hb : Bx w g b) : Calls Try.prog 11 #[.pointer (some ⟨g + 1, 0, none⟩)] w fun e w' => e = .returned (.bool (!b.shut)) ∧ Bx w' g (shutB b) ∧ Ch w w' g := by
  rcases Bool.eq_false_or_eq_true b.shut with hs | hs
  · refine (shut_no b g w hb hs).mono ?_
    rintro e w' ⟨rfl, rfl⟩
    refine ⟨by rw [hs]; rfl, ?_, Ch.refl _ _⟩
    obtain ⟨l, r, s⟩ := b
    simp only at hs
    subst hs
    exact hb
  · refine (shut_yes b g w hb hs).mono ?_
    rintro e w' ⟨rfl, h1, h2⟩
    exact ⟨by rw [hs]; rfl, h1, h2⟩

set_option maxRecDepth 100000 in
set_option maxHeartbeats 4000000 in
theorem does_shut (x : RbS) (g q o : Nat) (a : ActS) (w : World) (hk : a.kind = 2) (hb : Bx w g x.b) (hx : RbOk w x) (hat : At w q o x) (hq : q ≠ g ∧ q ≠ g + 1) (hA : ∀ k, blk x.a = some k → k ≠ g ∧ k ≠ g + 1) (hqx : blk x.a ≠ some q) :
    Calls Try.prog 13 #[.pointer (some ⟨g + 1, 0, none⟩), .pointer (some ⟨q, o, none⟩), .agg #[.int .i64 a.kind, .int .i64 a.at_, .int .i64 a.to, .int .i64 a.n, .int .u64 a.w]] w fun e w' =>
      e = .returned (.bool true) ∧ ∃ x' : RbS, x'.b = shutB x.b ∧ Bx w' g x'.b ∧ RbOk w' x' ∧ NewOr w x.a x'.a ∧ Dn w w' g q o (eRb x') := by
  have hB0 : Below w.heap.size w ((w.alloc (Obj.cells #[.int .i64 a.kind, .int .i64 a.at_, .int .i64 a.to, .int .i64 a.n, .int .u64 a.w] 30)).alloc (Obj.cells #[.int .i64 a.n, .int .u64 a.w] 59)) := (below1 _ _).alloc (by simp) _
  have e1 : (a.kind == 1) = false := by simp [hk]
  have e2 : (a.kind == 2) = true := by simp [hk]
  have hb1 := hb.keep hB0
  have at1 := hat.keep hB0
  have hx1 := hx.keep hB0
  have hlt : q < ((w.alloc (Obj.cells #[.int .i64 a.kind, .int .i64 a.at_, .int .i64 a.to, .int .i64 a.n, .int .u64 a.w] 30)).alloc (Obj.cells #[.int .i64 a.n, .int .u64 a.w] 59)).heap.size := at1.lt
  clear hk hb hx hat
  obtain ⟨c2, f2⟩ : _ ∧ _ := ⟨at1.c2, at1.f2⟩
  go_enter Try.func13, Try.ntmps13
  go_wp2_with fail
  have hz : (((w.alloc (Obj.cells #[.int .i64 a.kind, .int .i64 a.at_, .int .i64 a.to, .int .i64 a.n, .int .u64 a.w] 30)).alloc (Obj.cells #[.int .i64 a.n, .int .u64 a.w] 59)).setCell ⟨q, o + 2, none⟩ (.bool true)) = ((w.alloc (Obj.cells #[.int .i64 a.kind, .int .i64 a.at_, .int .i64 a.to, .int .i64 a.n, .int .u64 a.w] 30)).alloc (Obj.cells #[.int .i64 a.n, .int .u64 a.w] 59)).setCells q o (eRb ⟨x.a, x.c, shutB x.b⟩) := by
    unfold eRb World.setCells World.setCells World.setCells World.setCells shutB
    simp only
    rw [setCell_id at1.c0, setCell_id at1.c1]
  have hD := Dn.mk' (g := g) (Ch.of_below hB0) hz
  have hK := kp_cells q o (eRb ⟨x.a, x.c, shutB x.b⟩) ((w.alloc (Obj.cells #[.int .i64 a.kind, .int .i64 a.at_, .int .i64 a.to, .int .i64 a.n, .int .u64 a.w] 30)).alloc (Obj.cells #[.int .i64 a.n, .int .u64 a.w] 59))
  rw [← hz] at hK
  have hb3 := hb1.kp hK ⟨hb1.1.lt, Ne.symm hq.1⟩ ⟨hb1.2.lt, Ne.symm hq.2⟩
  have hx3 := hx1.kp hK (fun k hk => ⟨hx1.lt k hk, fun e => hqx (e ▸ hk)⟩)
  clear hz hK c2 f2 at1 hb1 hx1 hlt hB0
  generalize (((w.alloc (Obj.cells #[.int .i64 a.kind, .int .i64 a.at_, .int .i64 a.to, .int .i64 a.n, .int .u64 a.w] 30)).alloc (Obj.cells #[.int .i64 a.n, .int .u64 a.w] 59)).setCell ⟨q, o + 2, none⟩ (.bool true)) = w3 at *
  refine (shut_any x.b g _ hb3).mono ?_
  rintro e w4 ⟨rfl, hb4, hc4⟩
  go_wp2_with fail
  go_ret
  have hx4 := hx3.ch hc4 hA
  exact ⟨rfl, ⟨x.a, x.c, shutB x.b⟩, rfl, hb4, ⟨hx4.sl, hx4.cap, hx4.len, hx4.room, hx4.shape, hx4.ty⟩, .inl rfl, hD.ch hc4⟩
end Go.Proofs.Ytldpplfkimdaaaa
