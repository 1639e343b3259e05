/- Walks: the statement's small words; the document's boxes as one word. -/
import Derived.Test.YtldpplfkimdaaaaW10
namespace Go.Proofs.Ytldpplfkimdaaaa
open Go.RowKit Go.Conc

set_option maxHeartbeats 1000000 in
theorem to_any (x : Lt) (w : World) : Calls Try.prog 22 #[.agg #[.int .i64 x.from_, .int .u64 x.word]] w fun e w' => e = .returned (.agg #[.int .i64 x.from_, .int .u64 x.word]) ∧ Below w.heap.size w w' := by
  have b2 := Blk.new' (w.alloc (Obj.cells #[.int .i64 x.from_, .int .u64 x.word] 59)) 32 #[.int .i64 x.from_, .int .u64 x.word] (g := w.heap.size + 1) (by simp)
  have d0 := b2.cell 0 (.int .i64 x.from_) rfl
  have d1 := b2.cell 1 (.int .u64 x.word) rfl
  go_enter Try.func22, Try.ntmps22
  go_wp2_with fail
  exact bodyPost_ret (v := .agg #[.int .i64 x.from_, .int .u64 x.word]) (by simp [results, Try.results22, go_sem, d0, d1]) rfl ⟨rfl, (below1 _ _).alloc (by simp) _⟩

set_option maxHeartbeats 1000000 in
theorem same_any (b : BoxS) (g : Nat) (A : Option Addr) (c : Nat) (w : World) (hb : Bx w g b) : Calls Try.prog 14 #[.pointer (some ⟨g + 1, 0, none⟩), .agg #[.slice A b.l.length c, .int .i64 b.room, .bool b.shut]] w fun e w' => e = .returned (.bool true) ∧ Below w.heap.size w w' := by
  have hL := Lib.hid (len_any b g _ (hb.alloc (Obj.cells #[.slice A b.l.length c, .int .i64 b.room, .bool b.shut] 43)))
  have b0 := Blk.new w 43 #[.slice A b.l.length c, .int .i64 b.room, .bool b.shut]
  have hB := below1 w (Obj.cells #[.slice A b.l.length c, .int .i64 b.room, .bool b.shut] 43)
  go_enter Try.func14, Try.ntmps14
  go_wp2_with fail
  refine hL.out.mono ?_
  rintro e w1 ⟨rfl, hb1⟩
  replace b0 := b0.keep hb1
  replace hB := bstep hB (Nat.le_refl _) hb1
  clear hL hb1
  have c0 := b0.cell 0 (.slice A b.l.length c) rfl
  have c1 := b0.cell 1 (.int .i64 b.room) rfl
  go_wp2_with fail
  go_ret
  exact ⟨rfl, hB⟩

/-- a document's box: where its letters lie, with what room, and what it is -/
structure RbS where
  a : Option Addr
  c : Nat
  b : BoxS
def eRb (x : RbS) : List Value := [.slice x.a x.b.l.length x.c, .int .i64 x.b.room, .bool x.b.shut]
structure RbOk (w : World) (x : RbS) : Prop where
  sl : Sl eLt 2 w x.a x.b.l
  cap : x.b.l.length ≤ x.c
  len : x.b.l.length ≤ x.b.room
  room : x.b.room ≤ 64
  shape : (x.a = none ∧ x.c = 0) ∨ ∃ g, x.a = some ⟨g, 0, none⟩
  ty : ∀ q, blk x.a = some q → ∃ cs, Blk w q 59 cs
theorem RbOk.lt {w : World} {x : RbS} (h : RbOk w x) : ∀ q, blk x.a = some q → q < w.heap.size := fun q hq => by
  obtain ⟨cs, hb⟩ := h.ty q hq
  exact hb.lt
/-- a block of another type is not that of the letters -/
theorem RbOk.ne {w : World} {x : RbS} (h : RbOk w x) {q : Nat} {t : TypeId} {cs : Array Value} (hb : Blk w q t cs) (ht : t ≠ 59) : blk x.a ≠ some q := fun e => by
  obtain ⟨cs', hb'⟩ := h.ty q e
  unfold Blk at hb hb'
  rw [hb] at hb'
  injection hb' with hb'
  injection hb' with _ h2
  exact ht h2
theorem RbOk.kp {F : Nat → Prop} {w w' : World} {x : RbS} (h : RbOk w x) (hk : Kp F w w') (hF : ∀ q, blk x.a = some q → F q) : RbOk w' x :=
  ⟨h.sl.kp hk hF, h.cap, h.len, h.room, h.shape, fun q hq => (h.ty q hq).imp fun _ hb => hk.blk hb (hF q hq)⟩
theorem RbOk.keep {w w' : World} {x : RbS} (h : RbOk w x) (hb : Below w.heap.size w w') : RbOk w' x :=
  ⟨h.sl.keep hb, h.cap, h.len, h.room, h.shape, fun q hq => (h.ty q hq).imp fun _ h1 => h1.keep hb⟩
/-- the letters lie where they lay, or in a new block -/
def NewOr (w : World) (A A' : Option Addr) : Prop := A' = A ∨ ∀ q, blk A' = some q → w.heap.size ≤ q
theorem RbOk.of_own {w' : World} {B c room : Nat} {A : Option Addr} {l : List Lt} {sh : Bool} (h : Own eLt 2 w' B 59 A c l) (hl : l.length ≤ room) (hr : room ≤ 64) : RbOk w' ⟨A, c, ⟨l, room, sh⟩⟩ :=
  ⟨h.sl eLt_ok, h.cap, hl, hr, h.shape.imp (fun ⟨a, _, b⟩ => ⟨a, b⟩) id, fun q hq => by
    rcases h.2 with ⟨hv, _⟩ | ⟨g, cap, cur, hv, h2, h3, _⟩
    · injection hv with hv; rw [hv] at hq; cases hq
    · injection hv with hv; rw [hv] at hq; injection hq with hq; subst hq; exact ⟨cur, h3⟩⟩

theorem rput_any (x : RbS) (l : Lt) (w : World) (h : RbOk w x) :
    Calls Try.prog 25 #[.agg #[.slice x.a x.b.l.length x.c, .int .i64 x.b.room, .bool x.b.shut], .agg #[.int .i64 l.from_, .int .u64 l.word]] w fun e w' => ∃ x' : RbS, e = .returned (.tuple #[.agg #[.slice x'.a x'.b.l.length x'.c, .int .i64 x'.b.room, .bool x'.b.shut], .int .i64 (putE x.b)]) ∧ x'.b = putB x.b l ∧ RbOk w' x' ∧ NewOr w x.a x'.a ∧ Below w.heap.size w w' := by
  obtain ⟨A, c, b⟩ := x
  dsimp only
  rcases Bool.eq_false_or_eq_true b.shut with hs | hs
  · refine (rput_shut A c b l w hs).mono ?_
    rintro e w' ⟨rfl, hb⟩
    exact ⟨⟨A, c, b⟩, by simp [putE, hs], by simp [putB, hs], h.keep hb, .inl rfl, hb⟩
  · by_cases hr : b.room ≤ b.l.length
    · refine (rput_full A c b l w hs hr).mono ?_
      rintro e w' ⟨rfl, hb⟩
      exact ⟨⟨A, c, b⟩, by simp [putE, hs, hr], by simp [putB, hs, hr], h.keep hb, .inl rfl, hb⟩
    · have := rput_ok A c b.l b.room l w h.sl h.room hr
      rw [hs]
      refine this.mono ?_
      rintro e w' ⟨A', c', rfl, ho, hb⟩
      exact ⟨⟨A', c', ⟨b.l ++ [l], b.room, false⟩⟩, by simp [putE, hs, hr], by simp [putB, hs, hr], RbOk.of_own ho (by simp; omega) h.room, .inr fun q hq => (ho.lt q hq).1, hb⟩

theorem rtake_any (x : RbS) (w : World) (h : RbOk w x) :
    Calls Try.prog 21 #[.agg #[.slice x.a x.b.l.length x.c, .int .i64 x.b.room, .bool x.b.shut]] w fun e w' => ∃ x' : RbS, e = .returned (.tuple #[.agg #[.slice x'.a x'.b.l.length x'.c, .int .i64 x'.b.room, .bool x'.b.shut], .agg #[.int .i64 (takeL x.b).from_, .int .u64 (takeL x.b).word], .int .i64 (takeE x.b)]) ∧ x'.b = takeB x.b ∧ RbOk w' x' ∧ NewOr w x.a x'.a ∧ Below w.heap.size w w' := by
  obtain ⟨A, c, ⟨l, room, sh⟩⟩ := x
  dsimp only
  cases l with
  | nil =>
    refine (rtake_none A c room sh w).mono ?_
    rintro e w' ⟨rfl, hb⟩
    exact ⟨⟨A, c, ⟨[], room, sh⟩⟩, rfl, rfl, h.keep hb, .inl rfl, hb⟩
  | cons y l =>
    have h1 := h.cap
    have h2 := h.len
    have h3 := h.room
    simp only [List.length_cons] at h1 h2 h3
    refine (rtake_some A c y l room sh w h.sl h1 (by omega)).mono ?_
    rintro e w' ⟨A', c', rfl, ho, hb⟩
    exact ⟨⟨A', c', ⟨l, room, sh⟩⟩, rfl, rfl, RbOk.of_own ho (by omega) h3, .inr fun q hq => (ho.lt q hq).1, hb⟩

theorem rpass_word (x y : RbS) (w : World) (hx : RbOk w x) (hy : RbOk w y) :
    Calls Try.prog 15 #[.agg #[.slice x.a x.b.l.length x.c, .int .i64 x.b.room, .bool x.b.shut], .agg #[.slice y.a y.b.l.length y.c, .int .i64 y.b.room, .bool y.b.shut]] w fun e w' => ∃ x' y' : RbS, e = .returned (.tuple #[.agg #[.slice x'.a x'.b.l.length x'.c, .int .i64 x'.b.room, .bool x'.b.shut], .agg #[.slice y'.a y'.b.l.length y'.c, .int .i64 y'.b.room, .bool y'.b.shut], .int .i64 (passN x.b y.b)]) ∧ x'.b = passB x.b y.b ∧ y'.b = passT x.b y.b ∧ RbOk w' x' ∧ RbOk w' y' ∧ NewOr w x.a x'.a ∧ NewOr w y.a y'.a ∧ Below w.heap.size w w' := by
  have h1 := hx.len
  have h2 := hx.room
  have h3 := hy.len
  have h4 := hy.room
  refine (rpass_any x.a y.a x.c y.c x.b y.b w hx.sl hx.cap (by omega) hy.sl hy.cap (by omega) h4 hx.shape _ (Lib.hid rfl)).mono ?_
  rintro e w' ⟨A, A2, c, c2, rfl, o1, o2, hb⟩
  have hn : passN x.b y.b ≤ x.b.l.length ∧ y.b.l.length + passN x.b y.b ≤ y.b.room := by unfold passN; split <;> omega
  refine ⟨⟨A, c, passB x.b y.b⟩, ⟨A2, c2, passT x.b y.b⟩, rfl, rfl, rfl, RbOk.of_own o1 (by simp; omega) h2, RbOk.of_own o2 (by simp; omega) h4, .inr fun q hq => (o1.lt q hq).1, .inr fun q hq => (o2.lt q hq).1, hb⟩
end Go.Proofs.Ytldpplfkimdaaaa
