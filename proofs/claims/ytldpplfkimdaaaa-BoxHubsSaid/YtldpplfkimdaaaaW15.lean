/- Words for the statements of boxes: the program's boxes and the document's, side by side. -/
import Derived.Test.YtldpplfkimdaaaaW14
namespace Go.Proofs.Ytldpplfkimdaaaa
open Go.RowKit Go.Conc Go.Lib

theorem Own.ty {α : Type} {enc : α → List Value} {sz : Nat} {w : World} {B c : Nat} {e : TypeId} {A : Option Addr} {xs : List α} (h : Own enc sz w B e A c xs) : ∀ q, blk A = some q → ∃ cs, Blk w q e cs := fun q hq => by
  rcases h.2 with ⟨hv, _⟩ | ⟨g, cap, cur, hv, h2, h3, _⟩
  · injection hv with hv; rw [hv] at hq; cases hq
  · injection hv with hv; rw [hv] at hq; injection hq with hq; subst hq; exact ⟨cur, h3⟩
theorem blk_ne {w : World} {p q : Nat} {t t' : TypeId} {cs cs' : Array Value} (h : Blk w p t cs) (h' : Blk w q t' cs') (ht : t ≠ t') : p ≠ q := fun e => by
  subst e
  unfold Blk at h h'
  rw [h] at h'
  injection h' with h'
  injection h' with _ h2
  exact ht h2
theorem chn_ne {w : World} {p q : Nat} {t : TypeId} {cs : Array Value} {b : BoxS} (h : Chn w p b) (h' : Blk w q t cs) : q ≠ p := fun e => by
  subst e
  obtain ⟨s, r, h⟩ := h
  unfold Blk at h'
  rw [h] at h'
  injection h' with h'
  cases h'

def ePt (g : Nat) : List Value := [.pointer (some ⟨g + 1, 0, none⟩)]
theorem ePt_ok : EncOk ePt 1 := ⟨fun _ => rfl, fun x u hu => by simp [ePt] at hu; subst hu; rfl⟩
theorem eRb_ok : EncOk eRb 3 := ⟨fun _ => rfl, fun x u hu => by simp [eRb] at hu; rcases hu with rfl | rfl | rfl <;> rfl⟩
theorem elemPt : Elem Try.prog 38 24 1 8 := elem_mk Try.underlying38 (z := .pointer none) (by kernel_rfl) rfl (by omega)
theorem elemRb : Elem Try.prog 39 43 3 40 := elem_mk Try.underlying39 (z := .agg #[.slice none 0 0, .int .i64 0, .bool false]) (by kernel_rfl) rfl (by omega)

/-- the program's boxes -/
structure PS (w : World) (gs : List Nat) (bs : List BoxS) : Prop where
  len : gs.length = bs.length
  bx : ∀ (i g : Nat) (b : BoxS), gs[i]? = some g → bs[i]? = some b → Bx w g b
  nd : gs.Nodup
theorem PS.kp {F : Nat → Prop} {w w' : World} {gs : List Nat} {bs : List BoxS} (h : PS w gs bs) (hk : Kp F w w') (hF : ∀ g ∈ gs, F g ∧ F (g + 1)) : PS w' gs bs :=
  ⟨h.len, fun i g b hg hb => (h.bx i g b hg hb).kp hk (hF g (List.mem_of_getElem? hg)).1 (hF g (List.mem_of_getElem? hg)).2, h.nd⟩
theorem PS.at_ {w : World} {gs : List Nat} {bs : List BoxS} (h : PS w gs bs) {g : Nat} (hg : g ∈ gs) : ∃ b, Bx w g b := by
  obtain ⟨i, hi, he⟩ := List.getElem_of_mem hg
  exact ⟨bs[i]'(by rw [← h.len]; exact hi), h.bx i g _ (by rw [← he]; exact List.getElem?_eq_getElem hi) (List.getElem?_eq_getElem _)⟩
/-- blocks of two boxes are apart -/
theorem PS.apart {w : World} {gs : List Nat} {bs : List BoxS} (h : PS w gs bs) {g k : Nat} (hg : g ∈ gs) (hk : k ∈ gs) (hne : g ≠ k) : g ≠ k + 1 ∧ g + 1 ≠ k ∧ g + 1 ≠ k + 1 := by
  obtain ⟨b, hb⟩ := h.at_ hg
  obtain ⟨b', hb'⟩ := h.at_ hk
  exact ⟨Ne.symm (chn_ne hb.1 hb'.2), chn_ne hb'.1 hb.2, by omega⟩
/-- one box has turned -/
theorem PS.turn {w w' : World} {gs : List Nat} {bs : List BoxS} (h : PS w gs bs) {i g : Nat} {b : BoxS} (hi : gs[i]? = some g) (hk : Kp (fun q => q < w.heap.size ∧ q ≠ g ∧ q ≠ g + 1 ∧ ∀ t cs, Blk w q t cs → t = 70) w w') (hb : Bx w' g b) : PS w' gs (bs.set i b) := by
  refine ⟨by rw [List.length_set]; exact h.len, fun j k c hj hc => ?_, h.nd⟩
  by_cases hij : i = j
  · subst hij
    rw [hi] at hj
    injection hj with hj
    subst hj
    rw [List.getElem?_set] at hc
    have hl : i < bs.length := by rw [← h.len]; exact (List.getElem?_eq_some_iff.1 hi).1
    simp [hl] at hc
    subst hc
    exact hb
  · rw [List.getElem?_set_ne hij] at hc
    have hx := h.bx j k c hj hc
    have hne : g ≠ k := fun e => hij (by
      subst e
      have h1 := (List.getElem?_eq_some_iff.1 hi)
      have h2 := (List.getElem?_eq_some_iff.1 hj)
      exact (List.getElem_inj h.nd).1 (h1.2.trans h2.2.symm))
    obtain ⟨a1, a2, a3⟩ := h.apart (List.mem_of_getElem? hi) (List.mem_of_getElem? hj) hne
    refine hx.kp hk ⟨hx.1.lt, Ne.symm hne, Ne.symm a2, fun t cs hb => absurd rfl (chn_ne hx.1 hb)⟩ ⟨hx.2.lt, Ne.symm a1, Ne.symm a3, fun t cs hb => ?_⟩
    have := hx.2
    unfold Blk at this hb
    rw [this] at hb
    injection hb with hb
    injection hb with _ h2
    exact h2.symm

/-- all of it: the program's boxes, the document's, and the rows of both -/
structure Al (B : Nat) (w : World) (gs : List Nat) (bs : List BoxS) (xs : List RbS) (AP AR : Option Addr) (cp cr : Nat) : Prop where
  ps : PS w gs bs
  lo : ∀ g ∈ gs, B ≤ g
  rp : Own ePt 1 w B 24 AP cp gs
  rr : Own eRb 3 w B 43 AR cr xs
  ok : ∀ x ∈ xs, RbOk w x
section
variable {B : Nat} {w w' : World} {gs : List Nat} {bs : List BoxS} {xs : List RbS} {AP AR : Option Addr} {cp cr : Nat}
theorem Al.keep (h : Al B w gs bs xs AP AR cp cr) (hb : Below w.heap.size w w') : Al B w' gs bs xs AP AR cp cr := by
  refine ⟨⟨h.ps.len, fun i g b hg hb' => (h.ps.bx i g b hg hb').keep hb, h.ps.nd⟩, h.lo, h.rp.keep hb, h.rr.keep hb, fun x hx => (h.ok x hx).keep hb⟩
theorem Al.rowBox (h : Al B w gs bs xs AP AR cp cr) {g : Nat} (hg : g ∈ gs) : (∀ q, blk AP = some q → q ≠ g ∧ q ≠ g + 1) ∧ (∀ q, blk AR = some q → q ≠ g ∧ q ≠ g + 1) ∧ (∀ x ∈ xs, ∀ q, blk x.a = some q → q ≠ g ∧ q ≠ g + 1) := by
  obtain ⟨b, hb⟩ := h.ps.at_ hg
  refine ⟨fun q hq => ?_, fun q hq => ?_, fun x hx q hq => ?_⟩
  · obtain ⟨cs, h1⟩ := h.rp.ty q hq; exact ⟨chn_ne hb.1 h1, blk_ne h1 hb.2 (by decide)⟩
  · obtain ⟨cs, h1⟩ := h.rr.ty q hq; exact ⟨chn_ne hb.1 h1, blk_ne h1 hb.2 (by decide)⟩
  · obtain ⟨cs, h1⟩ := (h.ok x hx).ty q hq; exact ⟨chn_ne hb.1 h1, blk_ne h1 hb.2 (by decide)⟩
theorem Al.rows (h : Al B w gs bs xs AP AR cp cr) {q : Nat} (hq : blk AR = some q) : blk AP ≠ some q ∧ ∀ x ∈ xs, blk x.a ≠ some q := by
  obtain ⟨cs, h1⟩ := h.rr.ty q hq
  refine ⟨fun e => ?_, fun x hx => (h.ok x hx).ne h1 (by decide)⟩
  obtain ⟨cs', h2⟩ := h.rp.ty q e
  exact blk_ne h2 h1 (by decide) rfl
/-- where a document's box stands -/
theorem Al.at_ {q : Nat} (h : Al B w gs bs xs AP (some ⟨q, 0, none⟩) cp cr) {i : Nat} {x : RbS} (hi : xs[i]? = some x) : At w q (i * 3) x := by
  have hil : i < xs.length := (List.getElem?_eq_some_iff.1 hi).1
  have hx : xs[i] = x := (List.getElem?_eq_some_iff.1 hi).2
  have h0 := own_cell eRb_ok h.rr hil (j := 0) (v := .slice x.a x.b.l.length x.c) (by rw [hx]; rfl)
  have h1 := own_cell eRb_ok h.rr hil (j := 1) (v := .int .i64 x.b.room) (by rw [hx]; rfl)
  have h2 := own_cell eRb_ok h.rr hil (j := 2) (v := .bool x.b.shut) (by rw [hx]; rfl)
  obtain ⟨cs, hb⟩ := h.rr.ty q rfl
  exact ⟨h0, h1, h2, hb.frozen _, hb.frozen _, hb.frozen _⟩
/-- a Put, a Take or a Shut at both -/
theorem Al.done {q : Nat} (h : Al B w gs bs xs AP (some ⟨q, 0, none⟩) cp cr) {i g : Nat} {x x' : RbS} (hi : gs[i]? = some g) (hx : xs[i]? = some x) (hB : B ≤ w.heap.size) (hb : Bx w' g x'.b) (hr : RbOk w' x') (hD : Dn w w' g q (i * 3) (eRb x')) :
    Al B w' gs (bs.set i x'.b) (xs.set i x') AP (some ⟨q, 0, none⟩) cp cr := by
  have hg := List.mem_of_getElem? hi
  obtain ⟨r1, r2, r3⟩ := h.rowBox hg
  obtain ⟨r4, r5⟩ := h.rows (q := q) rfl
  have hil : i < xs.length := (List.getElem?_eq_some_iff.1 hx).1
  obtain ⟨csq, hqb⟩ := h.rr.ty q rfl
  have k1 : Kp (fun b => b < w.heap.size ∧ b ≠ g ∧ b ≠ g + 1 ∧ b ≠ q) w w' := ⟨hD.os, hD.tape, hD.output, hD.size, fun b hb => (hD.block b hb.1 hb.2.1 hb.2.2.1).trans ((grown_setCells q (eRb x') (i * 3) w w (only_refl w q)).block b hb.1 (fun e => hb.2.2.2 (by injection e)))⟩
  have k2 : Kp (fun b => b < w.heap.size ∧ b ≠ g ∧ b ≠ g + 1) (w.setCells q (i * 3) (eRb x')) w' := by
    obtain ⟨s1, s2, s3⟩ := setCells_same q (i * 3) (eRb x') w
    exact ⟨hD.os.trans s1.symm, hD.tape.trans s2.symm, hD.output.trans s3.symm, by rw [size_setCells]; exact hD.size, fun b hb => hD.block b hb.1 hb.2.1 hb.2.2⟩
  refine ⟨h.ps.turn hi (k1.mono fun b hb => ⟨hb.1, hb.2.1, hb.2.2.1, fun e => ?_⟩) hb, h.lo, h.rp.kp k1 (fun k hk => ⟨(h.rp.lt k hk).2, (r1 k hk).1, (r1 k hk).2, fun e => r4 (e ▸ hk)⟩), ?_, fun y hy => ?_⟩
  · have := hb.2.2.2 _ _ (e ▸ hqb)
    exact absurd this (by decide)
  · exact (own_put eRb_ok.len (by omega) h.rr hil x').1.kp k2 (fun k hk => by injection hk with hk; subst hk; exact ⟨hqb.lt, (r2 _ rfl).1, (r2 _ rfl).2⟩)
  · rcases List.mem_or_eq_of_mem_set hy with hy | rfl
    · exact (h.ok y hy).kp k1 (fun k hk => ⟨(h.ok y hy).lt k hk, (r3 y hy k hk).1, (r3 y hy k hk).2, fun e => r5 y hy (e ▸ hk)⟩)
    · exact hr
end
theorem Dn.kp {a w : World} {g q o : Nat} {L : List Value} (h : Dn a w g q o L) : Kp (fun b => b < a.heap.size ∧ b ≠ g ∧ b ≠ g + 1 ∧ b ≠ q) a w :=
  ⟨h.os, h.tape, h.output, h.size, fun b hb => (h.block b hb.1 hb.2.1 hb.2.2.1).trans ((grown_setCells q L o a a (only_refl a q)).block b hb.1 (fun e => hb.2.2.2 (by injection e)))⟩
/-- the worlds of a region that does something to box p at both sides: ga is the act's block -/
structure DoC (B : Nat) (w0 wb : World) (ga P : Nat) (gs : List Nat) (ys : List RbS) (AP AR : Option Addr) (cp cr p : Nat) (b' : BoxS) (k : Nat) (w : World) : Prop where
  e : Kp (fun b => b = ga ∨ b = P) wb w
  low : Below B w0 w
  al : if k = 0 then Al B w gs (ys.map (·.b)) ys AP AR cp cr else ∃ y : RbS, y.b = b' ∧ Al B w gs ((ys.map (·.b)).set p b') (ys.set p y) AP AR cp cr
section
variable {B : Nat} {w0 wb w w' : World} {ga P : Nat} {gs : List Nat} {ys : List RbS} {AP AR : Option Addr} {cp cr p : Nat} {b' : BoxS} {k : Nat}
theorem DoC.keep (hga : ga < wb.heap.size) (hP : P < wb.heap.size) (hB : B ≤ w0.heap.size) (h : DoC B w0 wb ga P gs ys AP AR cp cr p b' k w) (hz : Keeps w w') : DoC B w0 wb ga P gs ys AP AR cp cr p b' k w' := by
  refine ⟨h.e.trans (Kp.of_below hz (fun b hb => Nat.lt_of_lt_of_le (by rcases hb with rfl | rfl <;> assumption) h.e.size)), h.low.trans (hz.mono (Nat.le_trans hB h.low.size)), ?_⟩
  have := h.al
  by_cases hk : k = 0
  · rw [if_pos hk] at this ⊢
    exact this.keep hz
  · rw [if_neg hk] at this ⊢
    exact this.imp fun y hy => ⟨hy.1, hy.2.keep hz⟩
theorem DoC.turn {q g : Nat} {x x' : RbS} {cs : Array Value} (h : DoC B w0 wb ga P gs ys (some ⟨P, 0, none⟩) (some ⟨q, 0, none⟩) cp cr p b' 0 w) (hA : Blk wb ga 30 cs) (hB : B ≤ w0.heap.size) (hi : gs[p]? = some g) (hx : ys[p]? = some x) (hxb : x'.b = b') (hb : Bx w' g x'.b) (hr : RbOk w' x') (hD : Dn w w' g q (p * 3) (eRb x')) :
    DoC B w0 wb ga P gs ys (some ⟨P, 0, none⟩) (some ⟨q, 0, none⟩) cp cr p b' 1 w' := by
  have hal : Al B w gs (ys.map (·.b)) ys (some ⟨P, 0, none⟩) (some ⟨q, 0, none⟩) cp cr := h.al
  have hg := List.mem_of_getElem? hi
  obtain ⟨r1, r2, r3⟩ := hal.rowBox hg
  obtain ⟨r4, r5⟩ := hal.rows (q := q) rfl
  obtain ⟨b, hbx⟩ := hal.ps.at_ hg
  have hA' := h.e.blk hA (.inl rfl)
  obtain ⟨csq, hq⟩ := hal.rr.ty q rfl
  have hP := hal.rp.lt P rfl
  have hq' := hal.rr.lt q rfl
  have hlo := hal.lo g hg
  refine ⟨h.e.trans (hD.kp.mono fun c hc => ?_), h.low.trans (hD.kp.low (fun c hc => ⟨by omega, by omega, by omega, by omega⟩)), ?_⟩
  · rcases hc with rfl | rfl
    · exact ⟨hA'.lt, chn_ne hbx.1 hA', blk_ne hA' hbx.2 (by decide), blk_ne hA' hq (by decide)⟩
    · exact ⟨hP.2, (r1 _ rfl).1, (r1 _ rfl).2, fun e => r4 (by rw [e]; rfl)⟩
  · rw [if_neg (by omega)]
    refine ⟨x', hxb, ?_⟩
    rw [← hxb]
    exact hal.done hi hx (Nat.le_trans hB h.low.size) hb hr hD
theorem DoC.does_ {q g : Nat} {x : RbS} {cs : Array Value} {a : ActS} (h : DoC B w0 wb ga P gs ys (some ⟨P, 0, none⟩) (some ⟨q, 0, none⟩) cp cr p (doB x.b a) 0 w) (hA : Blk wb ga 30 cs) (hB : B ≤ w0.heap.size) (hi : gs[p]? = some g) (hx : ys[p]? = some x) :
    Calls Try.prog 13 #[.pointer (some ⟨g + 1, 0, none⟩), .pointer (some ⟨q, p * 3, none⟩), .agg #[.int .i64 a.kind, .int .i64 a.at_, .int .i64 a.to, .int .i64 a.n, .int .u64 a.w]] w fun e w' => e = .returned (.bool true) ∧ DoC B w0 wb ga P gs ys (some ⟨P, 0, none⟩) (some ⟨q, 0, none⟩) cp cr p (doB x.b a) 1 w' := by
  have hal : Al B w gs (ys.map (·.b)) ys (some ⟨P, 0, none⟩) (some ⟨q, 0, none⟩) cp cr := h.al
  have hg := List.mem_of_getElem? hi
  have hxm := List.mem_of_getElem? hx
  refine (does_any x g q (p * 3) a w (hal.ps.bx p g x.b hi (by rw [List.getElem?_map, hx]; rfl)) (hal.ok x hxm) (hal.at_ hx) ((hal.rowBox hg).2.1 q rfl) ((hal.rowBox hg).2.2 x hxm) ((hal.rows rfl).2 x hxm)).mono ?_
  rintro e w' ⟨rfl, x', e5, b5, r5, _, d5⟩
  exact ⟨rfl, h.turn hA hB hi hx e5 b5 r5 d5⟩
theorem DoC.then_ (h : DoC B w0 wb ga P gs ys AP AR cp cr p b' 1 w) : ∃ y : RbS, y.b = b' ∧ Al B w gs ((ys.map (·.b)).set p b') (ys.set p y) AP AR cp cr := h.al
theorem DoC.box {q g : Nat} (h : DoC B w0 wb ga P gs ys AP (some ⟨q, 0, none⟩) cp cr p b' 1 w) (hi : gs[p]? = some g) (hp : p < ys.length) : Bx w g b' ∧ ∃ y : RbS, y.b = b' ∧ At w q (p * 3) y := by
  obtain ⟨y, hy, hal⟩ := h.then_
  exact ⟨hal.ps.bx p g b' hi (by simp [hp]), y, hy, hal.at_ (i := p) (by simp [hp])⟩
end
end Go.Proofs.Ytldpplfkimdaaaa
