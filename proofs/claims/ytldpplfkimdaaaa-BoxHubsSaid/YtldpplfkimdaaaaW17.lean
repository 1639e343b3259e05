/- Words for Pass at both sides. -/
import Derived.Test.YtldpplfkimdaaaaW15
namespace Go.Proofs.Ytldpplfkimdaaaa
open Go.RowKit Go.Conc Go.Lib

section
variable {B : Nat} {w w' : World} {gs : List Nat} {bs : List BoxS} {xs : List RbS} {AP AR : Option Addr} {cp cr : Nat}
/-- a document's box is stored in its row -/
theorem Al.docSet {q : Nat} (h : Al B w gs bs xs AP (some ⟨q, 0, none⟩) cp cr) {i : Nat} {x : RbS} (hi : i < xs.length) (hx : RbOk w x) : Al B (w.setCells q (i * 3) (eRb x)) gs bs (xs.set i x) AP (some ⟨q, 0, none⟩) cp cr := by
  have hK := kp_cells q (i * 3) (eRb x) w
  obtain ⟨r4, r5⟩ := h.rows (q := q) rfl
  obtain ⟨csq, hq⟩ := h.rr.ty q rfl
  refine ⟨h.ps.kp hK (fun g hg => ?_), h.lo, h.rp.kp hK (fun k hk => ⟨(h.rp.lt k hk).2, fun e => r4 (e ▸ hk)⟩), (own_put eRb_ok.len (by omega) h.rr hi x).1, fun y hy => ?_⟩
  · obtain ⟨b, hb⟩ := h.ps.at_ hg
    have := (h.rowBox hg).2.1 q rfl
    exact ⟨⟨hb.1.lt, Ne.symm this.1⟩, ⟨hb.2.lt, Ne.symm this.2⟩⟩
  · rcases List.mem_or_eq_of_mem_set hy with hy | rfl
    · exact (h.ok y hy).kp hK (fun k hk => ⟨(h.ok y hy).lt k hk, fun e => r5 y hy (e ▸ hk)⟩)
    · exact hx.kp hK (fun k hk => ⟨hx.lt k hk, fun e => hx.ne hq (by decide) (e ▸ hk)⟩)
theorem Ch2.kp {a w : World} {g h : Nat} (k : Ch2 a w g h) : Kp (fun b => b < a.heap.size ∧ b ≠ g ∧ b ≠ g + 1 ∧ b ≠ h ∧ b ≠ h + 1) a w := ⟨k.os, k.tape, k.output, k.size, fun i hi => k.block i hi.1 hi.2.1 hi.2.2.1 hi.2.2.2.1 hi.2.2.2.2⟩
/-- letters have gone from one box to another -/
theorem Al.passed (h : Al B w gs bs xs AP AR cp cr) {i j g k : Nat} {b c : BoxS} (hi : gs[i]? = some g) (hj : gs[j]? = some k) (hij : i ≠ j) (hC : Ch2 w w' g k) (hb : Bx w' g b) (hc : Bx w' k c) : Al B w' gs ((bs.set i b).set j c) xs AP AR cp cr := by
  have hg := List.mem_of_getElem? hi
  have hk := List.mem_of_getElem? hj
  obtain ⟨r1, r2, r3⟩ := h.rowBox hg
  obtain ⟨s1, s2, s3⟩ := h.rowBox hk
  have hK := hC.kp
  refine ⟨⟨by simp [h.ps.len], fun l m d hl hd => ?_, h.ps.nd⟩, h.lo, h.rp.kp hK (fun q hq => ⟨(h.rp.lt q hq).2, (r1 q hq).1, (r1 q hq).2, (s1 q hq).1, (s1 q hq).2⟩), h.rr.kp hK (fun q hq => ⟨(h.rr.lt q hq).2, (r2 q hq).1, (r2 q hq).2, (s2 q hq).1, (s2 q hq).2⟩), fun y hy => (h.ok y hy).kp hK (fun q hq => ⟨(h.ok y hy).lt q hq, (r3 y hy q hq).1, (r3 y hy q hq).2, (s3 y hy q hq).1, (s3 y hy q hq).2⟩)⟩
  have same : ∀ {l l' m : Nat}, gs[l]? = some m → gs[l']? = some m → l = l' := fun h1 h2 => by
    have e1 := List.getElem?_eq_some_iff.1 h1
    have e2 := List.getElem?_eq_some_iff.1 h2
    exact (List.getElem_inj h.ps.nd).1 (e1.2.trans e2.2.symm)
  have hil : i < bs.length := by rw [← h.ps.len]; exact (List.getElem?_eq_some_iff.1 hi).1
  have hjl : j < bs.length := by rw [← h.ps.len]; exact (List.getElem?_eq_some_iff.1 hj).1
  by_cases hlj : j = l
  · subst hlj
    rw [hj] at hl
    injection hl with hl
    subst hl
    simp [hjl] at hd
    subst hd
    exact hc
  · rw [List.getElem?_set_ne hlj] at hd
    by_cases hli : i = l
    · subst hli
      rw [hi] at hl
      injection hl with hl
      subst hl
      simp [hil] at hd
      subst hd
      exact hb
    · rw [List.getElem?_set_ne hli] at hd
      have hx := h.ps.bx l m d hl hd
      have hm := List.mem_of_getElem? hl
      obtain ⟨a1, a2, a3⟩ := h.ps.apart hm hg (fun e => hli (same (e ▸ hi) hl))
      obtain ⟨c1, c2, c3⟩ := h.ps.apart hm hk (fun e => hlj (same (e ▸ hj) hl))
      exact hx.kp hK ⟨hx.1.lt, fun e => hli (same (e ▸ hi) hl), a1, fun e => hlj (same (e ▸ hj) hl), c1⟩ ⟨hx.2.lt, a2, a3, c2, c3⟩
end

/-- the worlds of the region that passes at the document's side -/
structure PaC (B : Nat) (w0 wb : World) (ga P : Nat) (gs : List Nat) (bs : List BoxS) (ys : List RbS) (AP AR : Option Addr) (cp cr i j : Nat) (b c : BoxS) (k : Nat) (w : World) : Prop where
  e : Kp (fun b => b = ga ∨ b = P) wb w
  low : Below B w0 w
  al : ∃ zs : List RbS, (if k = 0 then zs = ys else ∃ y : RbS, y.b = b ∧ (if k = 1 then zs = ys.set i y else ∃ y' : RbS, y'.b = c ∧ zs = (ys.set i y).set j y')) ∧ Al B w gs bs zs AP AR cp cr
def PaD (x z : RbS) (b c : BoxS) (n : Nat) (d : Nat) (v : Value) (w : World) : Prop :=
  if d = 142 then v = .agg #[.slice x.a x.b.l.length x.c, .int .i64 x.b.room, .bool x.b.shut]
  else if d = 147 then v = .agg #[.slice z.a z.b.l.length z.c, .int .i64 z.b.room, .bool z.b.shut]
  else if d = 149 then ∃ y : RbS, v = .agg #[.slice y.a y.b.l.length y.c, .int .i64 y.b.room, .bool y.b.shut] ∧ y.b = b ∧ RbOk w y
  else if d = 150 then ∃ y : RbS, v = .agg #[.slice y.a y.b.l.length y.c, .int .i64 y.b.room, .bool y.b.shut] ∧ y.b = c ∧ RbOk w y
  else ∃ y y' : RbS, v = .tuple #[.agg #[.slice y.a y.b.l.length y.c, .int .i64 y.b.room, .bool y.b.shut], .agg #[.slice y'.a y'.b.l.length y'.c, .int .i64 y'.b.room, .bool y'.b.shut], .int .i64 n] ∧ y.b = b ∧ y'.b = c ∧ RbOk w y ∧ RbOk w y'
section
variable {x z : RbS} {b c : BoxS} {n : Nat} {v : Value} {w w' : World}
theorem pa142 : PaD x z b c n 142 v w ↔ v = .agg #[.slice x.a x.b.l.length x.c, .int .i64 x.b.room, .bool x.b.shut] := by simp [PaD]
theorem pa147 : PaD x z b c n 147 v w ↔ v = .agg #[.slice z.a z.b.l.length z.c, .int .i64 z.b.room, .bool z.b.shut] := by simp [PaD]
theorem pa149 : PaD x z b c n 149 v w ↔ ∃ y : RbS, v = .agg #[.slice y.a y.b.l.length y.c, .int .i64 y.b.room, .bool y.b.shut] ∧ y.b = b ∧ RbOk w y := by simp [PaD]
theorem pa150 : PaD x z b c n 150 v w ↔ ∃ y : RbS, v = .agg #[.slice y.a y.b.l.length y.c, .int .i64 y.b.room, .bool y.b.shut] ∧ y.b = c ∧ RbOk w y := by simp [PaD]
theorem pa131 {d : Nat} (hd : d = 131 ∨ d = 148) : PaD x z b c n d v w ↔ ∃ y y' : RbS, v = .tuple #[.agg #[.slice y.a y.b.l.length y.c, .int .i64 y.b.room, .bool y.b.shut], .agg #[.slice y'.a y'.b.l.length y'.c, .int .i64 y'.b.room, .bool y'.b.shut], .int .i64 n] ∧ y.b = b ∧ y'.b = c ∧ RbOk w y ∧ RbOk w y' := by rcases hd with rfl | rfl <;> simp [PaD]
theorem PaD.mono {d : Nat} (h : PaD x z b c n d v w) (hr : ∀ y, RbOk w y → RbOk w' y) : PaD x z b c n d v w' := by
  unfold PaD at *
  by_cases h1 : d = 142
  · rw [if_pos h1] at h ⊢; exact h
  rw [if_neg h1] at h ⊢
  by_cases h2 : d = 147
  · rw [if_pos h2] at h ⊢; exact h
  rw [if_neg h2] at h ⊢
  by_cases h3 : d = 149
  · rw [if_pos h3] at h ⊢; exact h.imp fun y h => ⟨h.1, h.2.1, hr y h.2.2⟩
  rw [if_neg h3] at h ⊢
  by_cases h4 : d = 150
  · rw [if_pos h4] at h ⊢; exact h.imp fun y h => ⟨h.1, h.2.1, hr y h.2.2⟩
  rw [if_neg h4] at h ⊢
  exact h.imp fun y h => h.imp fun y' h => ⟨h.1, h.2.1, h.2.2.1, hr y h.2.2.2.1, hr y' h.2.2.2.2⟩
end
section
variable {B : Nat} {w0 wb w w' : World} {ga P q : Nat} {gs : List Nat} {bs : List BoxS} {ys : List RbS} {AP : Option Addr} {cp cr i j : Nat} {b c : BoxS} {k : Nat}
theorem PaC.keep {AR : Option Addr} (hga : ga < wb.heap.size) (hP : P < wb.heap.size) (hB : B ≤ w0.heap.size) (h : PaC B w0 wb ga P gs bs ys AP AR cp cr i j b c k w) (hz : Keeps w w') : PaC B w0 wb ga P gs bs ys AP AR cp cr i j b c k w' :=
  ⟨h.e.trans (Kp.of_below hz (fun b hb => Nat.lt_of_lt_of_le (by rcases hb with rfl | rfl <;> assumption) h.e.size)), h.low.trans (hz.mono (Nat.le_trans hB h.low.size)), h.al.imp fun zs h => ⟨h.1, h.2.keep hz⟩⟩
theorem PaC.first (h : PaC B w0 wb ga P gs bs ys AP (some ⟨q, 0, none⟩) cp cr i j b c 0 w) : Al B w gs bs ys AP (some ⟨q, 0, none⟩) cp cr := by
  obtain ⟨zs, h1, h2⟩ := h.al
  rw [if_pos rfl] at h1
  exact h1 ▸ h2
theorem pa_hS {x z : RbS} {n : Nat} {ops : Array Oper} {T : List Nat} : ∀ i', ∀ d ∈ [142, 147, 148, 131, 149, 150], dstOf ops i' ≠ some d → (∀ j, dstOf ops j = some d → ¬ Wayed ops j i') → ∀ p, (i' ∈ T → T.getD p 0 = i') → ∀ v w w', PaC B w0 wb ga P gs bs ys AP (some ⟨q, 0, none⟩) cp cr i j b c p w → PaD x z b c n d v w → ZC T (PaC B w0 wb ga P gs bs ys AP (some ⟨q, 0, none⟩) cp cr i j b c) (fun _ w w' => w.grownBy w' (some q)) i' w w' → PaD x z b c n d v w' := by
  intro i' d _ _ _ p _ v w w' hC hD hZ
  refine hD.mono fun y hy => ?_
  unfold ZC at hZ
  split at hZ
  · obtain ⟨zs, _, hal⟩ := hC.al
    obtain ⟨csq, hq⟩ := hal.rr.ty q rfl
    exact hy.kp (Kp.grown (F := fun b => b < w.heap.size ∧ b ≠ q) hZ.2 (fun b hb => ⟨hb.1, fun e => hb.2 (by injection e)⟩)) (fun m hm => ⟨hy.lt m hm, fun e => hy.ne hq (by decide) (e ▸ hm)⟩)
  · exact hy.keep hZ
theorem PaC.store1 {cs : Array Value} {y : RbS} (h : PaC B w0 wb ga P gs bs ys (some ⟨P, 0, none⟩) (some ⟨q, 0, none⟩) cp cr i j b c 0 w) (hA : Blk wb ga 30 cs) (hi : i < ys.length) (hy : y.b = b) (hr : RbOk w y) :
    PaC B w0 wb ga P gs bs ys (some ⟨P, 0, none⟩) (some ⟨q, 0, none⟩) cp cr i j b c 1 (w.setCells q (i * 3) (eRb y)) := by
  have hal := h.first
  have hK := kp_cells q (i * 3) (eRb y) w
  obtain ⟨csq, hq⟩ := hal.rr.ty q rfl
  have hA' := h.e.blk hA (.inl rfl)
  have hql := hal.rr.lt q rfl
  refine ⟨h.e.trans (hK.mono fun d hd => ?_), h.low.trans (hK.low fun d hd => ⟨by omega, by omega⟩), _, ?_, hal.docSet hi hr⟩
  · rcases hd with rfl | rfl
    · exact ⟨hA'.lt, blk_ne hA' hq (by decide)⟩
    · exact ⟨(hal.rp.lt _ rfl).2, fun e => (hal.rows rfl).1 (by rw [← e]; rfl)⟩
  · rw [if_neg (by omega)]
    exact ⟨y, hy, by rw [if_pos rfl]⟩
theorem PaC.store2 {cs : Array Value} {y : RbS} (h : PaC B w0 wb ga P gs bs ys (some ⟨P, 0, none⟩) (some ⟨q, 0, none⟩) cp cr i j b c 1 w) (hA : Blk wb ga 30 cs) (hj : j < ys.length) (hy : y.b = c) (hr : RbOk w y) :
    PaC B w0 wb ga P gs bs ys (some ⟨P, 0, none⟩) (some ⟨q, 0, none⟩) cp cr i j b c 2 (w.setCells q (j * 3) (eRb y)) := by
  obtain ⟨zs, hz, hal⟩ := h.al
  rw [if_neg (by omega)] at hz
  obtain ⟨y1, hy1, hz⟩ := hz
  rw [if_pos rfl] at hz
  subst hz
  have hK := kp_cells q (j * 3) (eRb y) w
  obtain ⟨csq, hq⟩ := hal.rr.ty q rfl
  have hA' := h.e.blk hA (.inl rfl)
  have hql := hal.rr.lt q rfl
  refine ⟨h.e.trans (hK.mono fun d hd => ?_), h.low.trans (hK.low fun d hd => ⟨by omega, by omega⟩), _, ?_, hal.docSet (by simpa using hj) hr⟩
  · rcases hd with rfl | rfl
    · exact ⟨hA'.lt, blk_ne hA' hq (by decide)⟩
    · exact ⟨(hal.rp.lt _ rfl).2, fun e => (hal.rows rfl).1 (by rw [← e]; rfl)⟩
  · rw [if_neg (by omega)]
    exact ⟨y1, hy1, by rw [if_neg (by omega)]; exact ⟨y, hy, rfl⟩⟩
end
section
variable {B : Nat} {w0 wb w w' : World} {ga P q : Nat} {gs : List Nat} {bs : List BoxS} {ys : List RbS} {AP : Option Addr} {cp cr i j : Nat} {b c : BoxS} {k : Nat}
theorem PaC.there (h : PaC B w0 wb ga P gs bs ys AP (some ⟨q, 0, none⟩) cp cr i j b c k w) {m : Nat} (hm : m < ys.length) : w.there q (m * 3) 3 := by
  obtain ⟨zs, hz, hal⟩ := h.al
  have hl : zs.length = ys.length := by
    by_cases h0 : k = 0
    · rw [if_pos h0] at hz; rw [hz]
    · rw [if_neg h0] at hz
      obtain ⟨y, _, hz⟩ := hz
      by_cases h1 : k = 1
      · rw [if_pos h1] at hz; rw [hz]; simp
      · rw [if_neg h1] at hz
        obtain ⟨y', _, hz⟩ := hz
        rw [hz]; simp
  exact own_there hal.rr (Nat.lt_of_lt_of_le (hl ▸ hm) hal.rr.cap)
theorem PaC.second (h : PaC B w0 wb ga P gs bs ys AP (some ⟨q, 0, none⟩) cp cr i j b c 2 w) : ∃ y y' : RbS, y.b = b ∧ y'.b = c ∧ Al B w gs bs ((ys.set i y).set j y') AP (some ⟨q, 0, none⟩) cp cr := by
  obtain ⟨zs, hz, hal⟩ := h.al
  rw [if_neg (by omega)] at hz
  obtain ⟨y, hy, hz⟩ := hz
  rw [if_neg (by omega)] at hz
  obtain ⟨y', hy', hz⟩ := hz
  subst hz
  exact ⟨y, y', hy, hy', hal⟩
end
/-- what a Pass does, whatever the world, if the document's row is already turned -/
def PassSpec (B : Nat) (gs : List Nat) (bs : List BoxS) (zs : List RbS) (AP AR : Option Addr) (cp cr g k n : Nat) : Prop :=
  ∀ W, Al B W gs bs zs AP AR cp cr → Calls Try.prog 16 #[.pointer (some ⟨g + 1, 0, none⟩), .pointer (some ⟨k + 1, 0, none⟩)] W fun e W' => e = .returned (.int .i64 n) ∧ Al B W' gs (zs.map (·.b)) zs AP AR cp cr ∧ Below B W W' ∧
    Kp (fun b => (∃ cs, Blk W b 30 cs) ∨ (blk AP = some b) ∨ (blk AR = some b)) W W'
theorem passSpec_same {B : Nat} {gs : List Nat} {zs : List RbS} {AP AR : Option Addr} {cp cr g p : Nat} (hi : gs[p]? = some g) (hp : p < zs.length) : PassSpec B gs (zs.map (·.b)) zs AP AR cp cr g g 0 := fun W h => by
  refine (pass_self zs[p].b g W (h.ps.bx p g _ hi (by simp [hp]))).mono ?_
  rintro e W' ⟨rfl, rfl⟩
  exact ⟨rfl, h, Below.refl _ _, Kp.refl _ _⟩
theorem passSpec_two {B : Nat} {gs : List Nat} {ys : List RbS} {AP AR : Option Addr} {cp cr g k p j : Nat} {x z y y' : RbS} (hi : gs[p]? = some g) (hj : gs[j]? = some k) (hx : ys[p]? = some x) (hz : ys[j]? = some z) (hne : p ≠ j) (hy : y.b = passB x.b z.b) (hy' : y'.b = passT x.b z.b) (hr : z.b.room ≤ 64) :
    PassSpec B gs (ys.map (·.b)) ((ys.set p y).set j y') AP AR cp cr g k (passN x.b z.b) := fun W h => by
  have hg := List.mem_of_getElem? hi
  have hk := List.mem_of_getElem? hj
  have hgk : g ≠ k := fun e => hne (by
    subst e
    have e1 := List.getElem?_eq_some_iff.1 hi
    have e2 := List.getElem?_eq_some_iff.1 hj
    exact (List.getElem_inj h.ps.nd).1 (e1.2.trans e2.2.symm))
  obtain ⟨a1, a2, a3⟩ := h.ps.apart hg hk hgk
  have hb := h.ps.bx p g x.b hi (by rw [List.getElem?_map, hx]; rfl)
  have hc := h.ps.bx j k z.b hj (by rw [List.getElem?_map, hz]; rfl)
  obtain ⟨r1, r2, r3⟩ := h.rowBox hg
  obtain ⟨s1, s2, s3⟩ := h.rowBox hk
  refine (pass_any x.b z.b g k W hb hc hgk a1 a2 hr).mono ?_
  rintro e W' ⟨rfl, hb', hc', hC⟩
  refine ⟨rfl, ?_, hC.kp.low (fun c hc9 => ?_), hC.kp.mono fun c hc9 => ?_⟩
  · have := h.passed hi hj hne hC hb' hc'
    rw [List.map_set, List.map_set, hy, hy']
    exact this
  · have h1 := h.lo g hg
    have h2 := h.lo k hk
    have := hb.1.lt
    exact ⟨by omega, by omega, by omega, by omega, by omega⟩
  · rcases hc9 with ⟨cs, hA⟩ | hA | hA
    · exact ⟨hA.lt, chn_ne hb.1 hA, blk_ne hA hb.2 (by decide), chn_ne hc.1 hA, blk_ne hA hc.2 (by decide)⟩
    · exact ⟨(h.rp.lt c hA).2, (r1 c hA).1, (r1 c hA).2, (s1 c hA).1, (s1 c hA).2⟩
    · exact ⟨(h.rr.lt c hA).2, (r2 c hA).1, (r2 c hA).2, (s2 c hA).1, (s2 c hA).2⟩

/-- the worlds of the region that passes at the program's side, and looks at both boxes -/
structure PbC (B : Nat) (w0 wx : World) (ga P q : Nat) (gs : List Nat) (bs : List BoxS) (zs : List RbS) (cp cr : Nat) (k : Nat) (w : World) : Prop where
  e : Kp (fun b => b = ga ∨ b = P ∨ b = q) wx w
  low : Below B w0 w
  al : Al B w gs (if k = 0 then bs else zs.map (·.b)) zs (some ⟨P, 0, none⟩) (some ⟨q, 0, none⟩) cp cr
section
variable {B : Nat} {w0 wx w w' : World} {ga P q : Nat} {gs : List Nat} {bs : List BoxS} {zs : List RbS} {cp cr : Nat} {k : Nat}
theorem PbC.keep (hga : ga < wx.heap.size) (hP : P < wx.heap.size) (hq : q < wx.heap.size) (hB : B ≤ w0.heap.size) (h : PbC B w0 wx ga P q gs bs zs cp cr k w) (hz : Keeps w w') : PbC B w0 wx ga P q gs bs zs cp cr k w' :=
  ⟨h.e.trans (Kp.of_below hz (fun b hb => Nat.lt_of_lt_of_le (by rcases hb with rfl | rfl | rfl <;> assumption) h.e.size)), h.low.trans (hz.mono (Nat.le_trans hB h.low.size)), h.al.keep hz⟩
theorem PbC.pass {cs : Array Value} {g g2 n : Nat} (h : PbC B w0 wx ga P q gs bs zs cp cr 0 w) (hA : Blk wx ga 30 cs) (hS : PassSpec B gs bs zs (some ⟨P, 0, none⟩) (some ⟨q, 0, none⟩) cp cr g g2 n) :
    Calls Try.prog 16 #[.pointer (some ⟨g + 1, 0, none⟩), .pointer (some ⟨g2 + 1, 0, none⟩)] w fun e w' => e = .returned (.int .i64 n) ∧ PbC B w0 wx ga P q gs bs zs cp cr 1 w' := by
  have hal : Al B w gs bs zs (some ⟨P, 0, none⟩) (some ⟨q, 0, none⟩) cp cr := h.al
  refine (hS w hal).mono ?_
  rintro e w' ⟨rfl, h1, h2, h3⟩
  refine ⟨rfl, h.e.trans (h3.mono fun b hb => ?_), h.low.trans h2, h1⟩
  rcases hb with rfl | rfl | rfl
  · exact .inl ⟨cs, h.e.blk hA (.inl rfl)⟩
  · exact .inr (.inl rfl)
  · exact .inr (.inr rfl)
theorem PbC.same_ {i g : Nat} {z : RbS} (h : PbC B w0 wx ga P q gs bs zs cp cr 1 w) (hi : gs[i]? = some g) (hz : zs[i]? = some z) :
    Calls Try.prog 14 #[.pointer (some ⟨g + 1, 0, none⟩), .agg #[.slice z.a z.b.l.length z.c, .int .i64 z.b.room, .bool z.b.shut]] w fun e w' => e = .returned (.bool true) ∧ Below w.heap.size w w' := by
  have hal : Al B w gs (zs.map (·.b)) zs (some ⟨P, 0, none⟩) (some ⟨q, 0, none⟩) cp cr := h.al
  exact same_any z.b g z.a z.c w (hal.ps.bx i g z.b hi (by rw [List.getElem?_map, hz]; rfl))
end
end Go.Proofs.Ytldpplfkimdaaaa
