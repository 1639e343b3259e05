/- Walk: the statement BoxHubs. -/
import Derived.Test.YtldpplfkimdaaaaW23
import Derived.Test.YtldpplfkimdaaaaW16
namespace Go.Proofs.Ytldpplfkimdaaaa
open Go.RowKit Go.Conc Go.Lib

/-- a document's box without letters, of any room -/
def eRi (r : Int) : List Value := [.slice none 0 0, .int .i64 r, .bool false]
theorem eRi_ok : EncOk eRi 3 := ⟨fun _ => rfl, fun x u hu => by simp [eRi] at hu; rcases hu with rfl | rfl | rfl <;> rfl⟩
def newR (r : Int) : RbS := ⟨none, 0, newB r⟩
theorem eRi_eRb (rooms : List Int) (h : ∀ r ∈ rooms, 1 ≤ r) : rooms.flatMap eRi = (rooms.map newR).flatMap eRb := by
  induction rooms with
  | nil => rfl
  | cons r rooms ih =>
    have h1 := h r (by simp)
    simp only [List.flatMap_cons, List.map_cons]
    rw [ih (fun x hx => h x (by simp [hx]))]
    congr 1
    unfold eRi eRb newR newB
    simp
    omega
theorem jok_all {rooms : List Int} (h : jok rooms = true) : 1 ≤ rooms.length ∧ rooms.length ≤ 8 ∧ ∀ r ∈ rooms, 1 ≤ r ∧ r ≤ 64 := by
  simp only [jok, Bool.and_eq_true, List.all_eq_true, decide_eq_true_eq] at h
  exact ⟨h.1.1, h.1.2, h.2⟩
theorem Hl.start {B H cp cr : Nat} {w w' : World} {gs : List Nat} {rooms : List Int} {AP AR : Option Addr} (hj : jok rooms = true) (h : HS B w H gs (rooms.map newB) AP cp) (hlo : ∀ g ∈ gs, B ≤ g) (hB : B ≤ H) (hb : Below w.heap.size w w') (ho : Own eRi 3 w' w.heap.size 43 AR cr rooms) : Hl B w' H gs ((rooms.map newR).map (·.b)) (rooms.map newR) AP AR cp cr := by
  have hk := h.keep hb
  have hr := (jok_all hj).2.2
  have e : (rooms.map newR).map (·.b) = rooms.map newB := by simp [newR]
  have ho2 : Own eRb 3 w' w.heap.size 43 AR cr (rooms.map newR) := by
    unfold Own at ho ⊢
    rw [eRi_eRb rooms (fun r hr' => (hr r hr').1)] at ho
    simpa using ho
  refine ⟨⟨by rw [e]; exact hk.ps, hlo, hk.rp, ho2.from_ (Nat.le_trans hB (Nat.le_of_lt h.hb.lt)), fun x hx => ?_⟩, hk.hb, h.n8, hB⟩
  obtain ⟨r, hr', rfl⟩ := List.mem_map.1 hx
  have := hr r hr'
  exact ⟨Sl.nil _ _, Nat.zero_le _, Nat.zero_le _, by simp [newR, newB]; omega, .inl ⟨rfl, rfl⟩, fun q hq => by cases hq⟩

/-- the worlds of a region that does something to box p at both sides of a hub: ga is the act's block -/
structure HoC (B : Nat) (w0 wb : World) (ga H : Nat) (gs : List Nat) (ys : List RbS) (AP AR : Option Addr) (cp cr p : Nat) (bs0 bs1 : List BoxS) (b' : BoxS) (k : Nat) (w : World) : Prop where
  e : Kp (fun b => b = ga) wb w
  low : Below B w0 w
  hl : if k = 0 then Hl B w H gs bs0 ys AP AR cp cr else ∃ y : RbS, y.b = b' ∧ Hl B w H gs bs1 (ys.set p y) AP AR cp cr
section
variable {B : Nat} {w0 wb w w' : World} {ga H : Nat} {gs : List Nat} {ys : List RbS} {AP AR : Option Addr} {cp cr p : Nat} {bs0 bs1 : List BoxS} {b' : BoxS} {k : Nat}
theorem HoC.keep (hga : ga < wb.heap.size) (hB : B ≤ w0.heap.size) (h : HoC B w0 wb ga H gs ys AP AR cp cr p bs0 bs1 b' k w) (hz : Keeps w w') : HoC B w0 wb ga H gs ys AP AR cp cr p bs0 bs1 b' k w' := by
  refine ⟨h.e.trans (Kp.of_below hz (fun b hb => Nat.lt_of_lt_of_le (by subst hb; assumption) h.e.size)), h.low.trans (hz.mono (Nat.le_trans hB h.low.size)), ?_⟩
  have := h.hl
  by_cases hk : k = 0
  · rw [if_pos hk] at this ⊢
    exact this.keep hz
  · rw [if_neg hk] at this ⊢
    exact this.imp fun y hy => ⟨hy.1, hy.2.keep hz⟩
theorem HoC.first (h : HoC B w0 wb ga H gs ys AP AR cp cr p bs0 bs1 b' 0 w) : Hl B w H gs bs0 ys AP AR cp cr := h.hl
theorem HoC.then_ (h : HoC B w0 wb ga H gs ys AP AR cp cr p bs0 bs1 b' 1 w) : ∃ y : RbS, y.b = b' ∧ Hl B w H gs bs1 (ys.set p y) AP AR cp cr := h.hl
theorem HoC.hs (h : HoC B w0 wb ga H gs ys AP AR cp cr p bs0 bs1 b' k w) : ∃ bs, HS B w H gs bs AP cp := by
  have := h.hl
  by_cases hk : k = 0
  · rw [if_pos hk] at this; exact ⟨_, this.hs⟩
  · rw [if_neg hk] at this; obtain ⟨y, _, h⟩ := this; exact ⟨_, h.hs⟩
theorem HoC.does_ {q g : Nat} {x : RbS} {cs : Array Value} {a : ActS} (h : HoC B w0 wb ga H gs ys AP (some ⟨q, 0, none⟩) cp cr p (ys.map (·.b)) ((ys.map (·.b)).set p (doB x.b a)) (doB x.b a) 0 w) (hA : Blk wb ga 30 cs) (hB : B ≤ w0.heap.size) (hi : gs[p]? = some g) (hx : ys[p]? = some x) :
    Calls Try.prog 13 #[.pointer (some ⟨g + 1, 0, none⟩), .pointer (some ⟨q, p * 3, none⟩), .agg #[.int .i64 a.kind, .int .i64 a.at_, .int .i64 a.to, .int .i64 a.n, .int .u64 a.w]] w fun e w' => e = .returned (.bool true) ∧ HoC B w0 wb ga H gs ys AP (some ⟨q, 0, none⟩) cp cr p (ys.map (·.b)) ((ys.map (·.b)).set p (doB x.b a)) (doB x.b a) 1 w' := by
  have hl := h.first
  have hal := hl.al
  have hg := List.mem_of_getElem? hi
  have hxm := List.mem_of_getElem? hx
  have hA' := h.e.blk hA rfl
  obtain ⟨csq, hq⟩ := hal.rr.ty q rfl
  obtain ⟨b, hbx⟩ := hal.ps.at_ hg
  have hq' := hal.rr.lt q rfl
  have hlo := hal.lo g hg
  refine (does_any x g q (p * 3) a w (hal.ps.bx p g x.b hi (by rw [List.getElem?_map, hx]; rfl)) (hal.ok x hxm) (hal.at_ hx) ((hal.rowBox hg).2.1 q rfl) ((hal.rowBox hg).2.2 x hxm) ((hal.rows rfl).2 x hxm)).mono ?_
  rintro e w' ⟨rfl, x', e5, b5, r5, _, d5⟩
  refine ⟨rfl, h.e.trans (d5.kp.mono fun c hc => ?_), h.low.trans (d5.kp.low (fun c hc => ⟨by omega, by omega, by omega, by omega⟩)), ?_⟩
  · subst hc
    exact ⟨hA'.lt, chn_ne hbx.1 hA', blk_ne hA' hbx.2 (by decide), blk_ne hA' hq (by decide)⟩
  · rw [if_neg (by omega)]
    have := hal.done hi hx (Nat.le_trans hB h.low.size) b5 r5 d5
    rw [e5] at this
    exact ⟨x', e5, this, d5.kp.blk hl.hb ⟨hl.hb.lt, chn_ne hbx.1 hl.hb, blk_ne hl.hb hbx.2 (by decide), blk_ne hl.hb hq (by decide)⟩, hl.n8, hl.lo⟩
theorem HoC.box_ {g : Nat} (h : HoC B w0 wb ga H gs ys AP AR cp cr p bs0 bs1 b' k w) (hi : gs[p]? = some g) : Calls Try.prog 18 #[.pointer (some ⟨H, 0, none⟩), .int .i64 p] w fun e w' => e = .returned (.pointer (some ⟨g + 1, 0, none⟩)) ∧ Below w.heap.size w w' := by
  obtain ⟨bs, hS⟩ := h.hs
  refine (hbox_in w hS p g hi).mono ?_
  rintro e w' ⟨rfl, rfl⟩
  exact ⟨rfl, Below.refl _ _⟩
theorem HoC.there {q : Nat} (h : HoC B w0 wb ga H gs ys AP (some ⟨q, 0, none⟩) cp cr p bs0 bs1 b' 0 w) {m : Nat} (hm : m < ys.length) : w.there q (m * 3) 3 :=
  own_there h.first.al.rr (Nat.lt_of_lt_of_le hm h.first.al.rr.cap)
theorem HoC.store1 {q : Nat} {cs : Array Value} {y : RbS} (h : HoC B w0 wb ga H gs ys AP (some ⟨q, 0, none⟩) cp cr p bs0 bs0 b' 0 w) (hA : Blk wb ga 30 cs) (hB : B ≤ w0.heap.size) (hi : p < ys.length) (hy : y.b = b') (hr : RbOk w y) : HoC B w0 wb ga H gs ys AP (some ⟨q, 0, none⟩) cp cr p bs0 bs0 b' 1 (w.setCells q (p * 3) (eRb y)) := by
  have hs := h.first.setR hi hr
  have hA' := h.e.blk hA rfl
  refine ⟨h.e.trans (hs.2.k.mono fun b hb => by subst hb; exact ⟨_, hA'⟩), h.low.trans hs.2.b, ?_⟩
  rw [if_neg (by omega)]
  exact ⟨y, hy, hs.1⟩
end
/-- what the slots of the region that puts at the document's side hold -/
def HuD (x : RbS) (lt : Lt) (d : Nat) (v : Value) (w : World) : Prop :=
  if d = 125 then v = .agg #[.slice x.a x.b.l.length x.c, .int .i64 x.b.room, .bool x.b.shut]
  else if d = 132 then ∃ y : RbS, v = .agg #[.slice y.a y.b.l.length y.c, .int .i64 y.b.room, .bool y.b.shut] ∧ y.b = putB x.b lt ∧ RbOk w y
  else ∃ y : RbS, v = .tuple #[.agg #[.slice y.a y.b.l.length y.c, .int .i64 y.b.room, .bool y.b.shut], .int .i64 (putE x.b)] ∧ y.b = putB x.b lt ∧ RbOk w y
section
variable {x : RbS} {lt : Lt} {v : Value} {w w' : World}
theorem hu125 : HuD x lt 125 v w ↔ v = .agg #[.slice x.a x.b.l.length x.c, .int .i64 x.b.room, .bool x.b.shut] := by simp [HuD]
theorem hu132 : HuD x lt 132 v w ↔ ∃ y : RbS, v = .agg #[.slice y.a y.b.l.length y.c, .int .i64 y.b.room, .bool y.b.shut] ∧ y.b = putB x.b lt ∧ RbOk w y := by simp [HuD]
theorem hu131 {d : Nat} (hd : d = 131 ∨ d = 117) : HuD x lt d v w ↔ ∃ y : RbS, v = .tuple #[.agg #[.slice y.a y.b.l.length y.c, .int .i64 y.b.room, .bool y.b.shut], .int .i64 (putE x.b)] ∧ y.b = putB x.b lt ∧ RbOk w y := by rcases hd with rfl | rfl <;> simp [HuD]
theorem HuD.mono {d : Nat} (h : HuD x lt d v w) (hr : ∀ y, RbOk w y → RbOk w' y) : HuD x lt d v w' := by
  unfold HuD at *
  by_cases h1 : d = 125
  · rw [if_pos h1] at h ⊢; exact h
  rw [if_neg h1] at h ⊢
  by_cases h2 : d = 132
  · rw [if_pos h2] at h ⊢; exact h.imp fun y h => ⟨h.1, h.2.1, hr y h.2.2⟩
  rw [if_neg h2] at h ⊢
  exact h.imp fun y h => ⟨h.1, h.2.1, hr y h.2.2⟩
end
theorem HoC.rty {B : Nat} {w0 wb w : World} {ga H : Nat} {gs : List Nat} {ys : List RbS} {AP : Option Addr} {cp cr p q : Nat} {bs0 bs1 : List BoxS} {b' : BoxS} {k : Nat} (h : HoC B w0 wb ga H gs ys AP (some ⟨q, 0, none⟩) cp cr p bs0 bs1 b' k w) : ∃ cs, Blk w q 43 cs := by
  have := h.hl
  by_cases hk : k = 0
  · rw [if_pos hk] at this; exact this.al.rr.ty q rfl
  · rw [if_neg hk] at this; obtain ⟨y, _, h⟩ := this; exact h.al.rr.ty q rfl
theorem hu_hS {B : Nat} {w0 wb : World} {ga H : Nat} {gs : List Nat} {ys : List RbS} {AP : Option Addr} {cp cr p q : Nat} {bs0 bs1 : List BoxS} {b' : BoxS} {x : RbS} {lt : Lt} {ops : Array Oper} {T : List Nat} : ∀ i', ∀ d ∈ [125, 131, 117, 132], dstOf ops i' ≠ some d → (∀ j, dstOf ops j = some d → ¬ Wayed ops j i') → ∀ p', (i' ∈ T → T.getD p' 0 = i') → ∀ v w w', HoC B w0 wb ga H gs ys AP (some ⟨q, 0, none⟩) cp cr p bs0 bs1 b' p' w → HuD x lt d v w → ZC T (HoC B w0 wb ga H gs ys AP (some ⟨q, 0, none⟩) cp cr p bs0 bs1 b') (fun _ w w' => w.grownBy w' (some q)) i' w w' → HuD x lt d v w' := by
  intro i' d _ _ _ p' _ v w w' hC hD hZ
  refine hD.mono fun y hy => ?_
  unfold ZC at hZ
  split at hZ
  · obtain ⟨csq, hq⟩ := hC.rty
    exact hy.kp (Kp.grown (F := fun b => b < w.heap.size ∧ b ≠ q) hZ.2 (fun b hb => ⟨hb.1, fun e => hb.2 (by injection e)⟩)) (fun m hm => ⟨hy.lt m hm, fun e => hy.ne hq (by decide) (e ▸ hm)⟩)
  · exact hy.keep hZ
/-- a new letter's block is filled -/
theorem Hl.letter {B H cp cr : Nat} {w : World} {gs : List Nat} {bs : List BoxS} {xs : List RbS} {AP AR : Option Addr} (h : Hl B w H gs bs xs AP AR cp cr) {z : Nat} {cs : Array Value} (hz : Blk w z 59 cs) (hne : ∀ x ∈ xs, blk x.a ≠ some z) (hB : B ≤ z) (L : List Value) : Hl B (w.setCells z 0 L) H gs bs xs AP AR cp cr ∧ Hx B w (w.setCells z 0 L) := by
  have hK := kp_cells z 0 L w
  have nz : ∀ {k t cs'}, Blk w k t cs' → t ≠ 59 → k ≠ z := fun hb ht => blk_ne hb hz ht
  refine ⟨⟨⟨h.al.ps.kp hK (fun g hg => ?_), h.al.lo, h.al.rp.kp hK (fun k hk => ⟨(h.al.rp.lt k hk).2, ?_⟩), h.al.rr.kp hK (fun k hk => ⟨(h.al.rr.lt k hk).2, ?_⟩), fun x hx => (h.al.ok x hx).kp hK (fun k hk => ⟨(h.al.ok x hx).lt k hk, fun e => hne x hx (e ▸ hk)⟩)⟩, hK.blk h.hb ⟨h.hb.lt, nz h.hb (by decide)⟩, h.n8, h.lo⟩, ⟨hK.low fun b hb => ⟨Nat.lt_of_lt_of_le hb (Nat.le_trans hB (Nat.le_of_lt hz.lt)), by omega⟩, hK.mono fun b ⟨cs, hb⟩ => ⟨hb.lt, nz hb (by decide)⟩⟩⟩
  · obtain ⟨b, hb⟩ := h.al.ps.at_ hg
    exact ⟨⟨hb.1.lt, Ne.symm (chn_ne hb.1 hz)⟩, ⟨hb.2.lt, nz hb.2 (by decide)⟩⟩
  · obtain ⟨cs', hb⟩ := h.al.rp.ty k hk; exact nz hb (by decide)
  · obtain ⟨cs', hb⟩ := h.al.rr.ty k hk; exact nz hb (by decide)

set_option maxRecDepth 100000 in
set_option maxHeartbeats 8000000 in
theorem hubs_any (A : Option Addr) (rooms : List Int) (cA : Nat) (A2 : Option Addr) (l : List ActS) (c2 : Nat) (w : World) (hs1 : Sl eI 1 w A rooms) (hs2 : Sl eA 5 w A2 l) (hl1 : rooms.length ≤ 9223372036854775807) (hl2 : l.length ≤ 9223372036854775807) :
    Calls Try.prog 5 #[.slice A rooms.length cA, .slice A2 l.length c2] w fun e w' => e = .returned (.bool true) ∧ Below w.heap.size w w' := by
  go_enter Try.func5, Try.ntmps5
  go_wp2_with fail
  refine (awake_any _).mono ?_
  rintro e w1 ⟨rfl, hB⟩
  by_cases h20 : 20 < rooms.length
  · have k20 : (20 : Int) < (rooms.length : Int) := by omega
    go_wp2_with fail
    refine (awake_any _).mono ?_
    rintro e w2 ⟨rfl, hb2⟩
    go_wp2_with fail
    go_ret
    exact ⟨rfl, bstep hB (Nat.le_refl _) hb2⟩
  · have k20 : ¬ (20 : Int) < (rooms.length : Int) := by omega
    go_upto_region 5 with (fail)
    go_wp2_with fail
    refine (join_any A rooms cA w1 (hs1.keep hB) (by omega)).mono ?_
    rintro e w2 ⟨hb2, hcase⟩
    obtain ⟨hp, ev, rfl, HJ⟩ : ∃ hp ev, e = .returned (.tuple #[.pointer hp, .int .i64 ev]) ∧ Hid ((jok rooms = true ∧ hp = some ⟨w1.heap.size, 0, none⟩ ∧ ev = 0 ∧ ∃ gs AP cp, HS w1.heap.size w2 w1.heap.size gs (rooms.map newB) AP cp ∧ gs.length = rooms.length ∧ ∀ g ∈ gs, w1.heap.size ≤ g) ∨ (jok rooms = false ∧ hp = none ∧ ev = 1)) := by
      rcases hcase with ⟨h1, h2, gs, AP, cp, h3, h4, h5⟩ | ⟨h1, h2⟩
      · exact ⟨_, _, h2, .inl ⟨h1, rfl, rfl, gs, AP, cp, h3, h4, h5⟩⟩
      · exact ⟨_, _, h2, .inr ⟨h1, rfl, rfl⟩⟩
    clear hcase
    have hlt1 : w.heap.size ≤ w1.heap.size := hB.size
    replace hB := bstep hB (Nat.le_refl _) hb2
    have hlt2 : w1.heap.size ≤ w2.heap.size := hb2.size
    clear hb2
    go_upto_region 6 with (fail)
    go_cut [7] (fun s7 wx => ∃ ob : Bool, s7 = .bool ob ∧ Hid (ob = (decide (1 ≤ rooms.length) && decide (rooms.length ≤ 8))) ∧ w2 = wx)
    case first =>
      by_cases h0 : 1 ≤ rooms.length
      · have k0 : (1 : Int) ≤ (rooms.length : Int) := by omega
        by_cases h8 : rooms.length ≤ 8
        · have k8 : (rooms.length : Int) ≤ 8 := by omega
          have HD : Hid (true = (decide (1 ≤ rooms.length) && decide (rooms.length ≤ 8))) := by unfold Hid; simp [h0, h8]
          go_wp2_with fail
          go_meet
          exact ⟨_, rfl, HD, rfl⟩
        · have k8 : ¬ (rooms.length : Int) ≤ 8 := by omega
          have HD : Hid (false = (decide (1 ≤ rooms.length) && decide (rooms.length ≤ 8))) := by unfold Hid; simp [h8]
          go_wp2_with fail
          go_meet
          exact ⟨_, rfl, HD, rfl⟩
      · have k0 : ¬ (1 : Int) ≤ (rooms.length : Int) := by omega
        have HD : Hid (false = (decide (1 ≤ rooms.length) && decide (rooms.length ≤ 8))) := by unfold Hid; simp [h0]
        go_wp2_with fail
        go_meet
        exact ⟨_, rfl, HD, rfl⟩
    case rest =>
    obtain ⟨ob0, rfl, hob0, rfl⟩ := hcut
    go_wp2_with fail
    go_loopw [7, 8, 9] (fun v7 v8 v9 wr => ∃ (k : Nat) (ob : Bool) (AR : Option Addr) (cr : Nat), v9 = .int .i64 k ∧ v8 = .slice AR k cr ∧ v7 = .bool ob ∧ k ≤ rooms.length ∧ Hid (ob = (ob0 && (rooms.take k).all fun r => decide (1 ≤ r) && decide (r ≤ 64))) ∧ Own eRi 3 wr w2.heap.size 43 AR cr (rooms.take k) ∧ Below w2.heap.size w2 wr) (fun _ _ v9 _ => rooms.length - (intOf v9).toNat)
    case atStart => exact ⟨0, ob0, none, 0, rfl, rfl, rfl, Nat.zero_le _, by unfold Hid; simp, Own.nil _ _ _, Below.refl _ _⟩
    case round =>
      obtain ⟨k, ob, AR, cr, rfl, rfl, rfl, hk, hob, hO, hBr⟩ := hrel
      by_cases hlt : k < rooms.length
      · obtain ⟨b, off, rfl, c0w⟩ := (hs1.keep hB).int_at hlt
        have c0 := kcell hBr c0w
        have j0 : (0 : Int) ≤ (k : Int) := by omega
        have j1 : (k : Int) < (rooms.length : Int) := by omega
        have HT := Lib.hid (show rooms.take (k + 1) = rooms.take k ++ [rooms[k]] by rw [List.take_add_one]; simp [hlt])
        generalize rooms[k] = r at *
        have htl : (rooms.take k).length = k := by simp; omega
        have HTL := Lib.hid htl
        clear htl
        have hsz := hBr.size
        go_upto_region 11 with (fail)
        go_cut [7] (fun s7 wx => ∃ ob' : Bool, s7 = .bool ob' ∧ Hid (ob' = (ob && (decide (1 ≤ r) && decide (r ≤ 64)))) ∧ wr = wx)
        case first =>
          cases ob
          · have HD : Hid (false = (false && (decide (1 ≤ r) && decide (r ≤ 64)))) := rfl
            go_wp2_with fail
            go_meet
            exact ⟨_, rfl, HD, rfl⟩
          · by_cases hr : 1 ≤ r ∧ r ≤ 64
            · have hR := Lib.hid (right_yes r wr hr.1 hr.2)
              have HD : Hid (true = (true && (decide (1 ≤ r) && decide (r ≤ 64)))) := by unfold Hid; simp [hr.1, hr.2]
              go_wp2_with fail
              refine hR.out.mono ?_
              rintro e w3 ⟨rfl, rfl⟩
              go_wp2_with fail
              go_meet
              exact ⟨_, rfl, HD, rfl⟩
            · have hR := Lib.hid (right_no r wr (by omega))
              have HD : Hid (false = (true && (decide (1 ≤ r) && decide (r ≤ 64)))) := by
                unfold Hid
                by_cases h1 : 1 ≤ r
                · have h2 : ¬ r ≤ 64 := fun h => hr ⟨h1, h⟩
                  simp [h2]
                · simp [h1]
              go_wp2_with fail
              refine hR.out.mono ?_
              rintro e w3 ⟨rfl, rfl⟩
              go_wp2_with fail
              go_meet
              exact ⟨_, rfl, HD, rfl⟩
        case rest =>
        obtain ⟨ob', rfl, hob', rfl⟩ := hcut
        go_wp2_with (at_builtin; refine wpList_append_sl _ rfl _ _ rfl elemRb eRi_ok (hO.alloc _) (n := k) HTL.out rfl (m := 1) rfl (ys := [r]) rfl (Sl.new eRi_ok _ _ _ rfl _) (by simp only [maxLen]; omega) (by omega) (by simp; omega) _ rfl (k + 1) rfl ?_; intro A5 c5 w6 own6 hg6 at6; (have HW := Lib.hid (And.intro own6 (And.intro hg6 at6))); clear own6 hg6 at6)
        go_roundw
        case rel =>
          refine ⟨k + 1, ob', A5, c5, by go_num, rfl, rfl, by omega, ?_, by rw [HT.out]; exact HW.out.1, ?_⟩
          · unfold Hid
            rw [hob'.out, hob.out, HT.out, List.all_append]
            simp [Bool.and_assoc]
          · exact bgrow (bstep hBr (Nat.le_refl _) (below1 _ _)) HW.out.2.1 (fun q hq => (hO.lt q hq).1)
        case measure => simp [intOf]; omega
      · obtain rfl : k = rooms.length := by omega
        have j1 : ¬ (rooms.length : Int) < (rooms.length : Int) := by omega
        have HJK : Hid (ob = jok rooms) := by
          unfold Hid
          rw [hob.out, hob0.out, List.take_length]
          rfl
        rw [List.take_length] at hO
        clear hob hob0 hlt hk
        have hBw : Below w.heap.size w wr := bstep hB (Nat.le_refl _) hBr
        rcases HJK.out ▸ HJ.out with ⟨hj, rfl, rfl, gs, AP, cp, hS, hgl, hlo⟩ | ⟨hj, rfl, rfl⟩
        · subst hj
          have hl0 := Hl.start HJK.out.symm hS hlo (Nat.le_refl _) hBr hO
          have hm0 := (jok_all HJK.out.symm)
          obtain ⟨hm1, hm8, _⟩ := hm0
          have hyl : (rooms.map newR).length = rooms.length := by simp
          generalize rooms.map newR = ys0 at *
          clear hS hlo hBr hO HJ hs1 hlt2 hB
          generalize w1.heap.size = H0 at *
          generalize rooms.length = m at *
          obtain ⟨P, rfl⟩ : ∃ P, AP = some ⟨P, 0, none⟩ := by
            rcases hl0.al.rp.shape with ⟨_, h, _⟩ | h
            · rw [h] at hgl; simp at hgl; omega
            · exact h
          obtain ⟨q, rfl⟩ : ∃ q, AR = some ⟨q, 0, none⟩ := by
            rcases hl0.al.rr.shape with ⟨_, h, _⟩ | h
            · rw [h] at hyl; simp at hyl; omega
            · exact h
          have HGL := Lib.hid hgl
          have HYL := Lib.hid hyl
          clear hgl hyl HJK
          go_upto_region 15 with (fail)
          go_wp2_with fail
          go_loopw [10] (fun v10 ws => ∃ (i : Nat) (ys : List RbS), v10 = .int .i64 i ∧ Hid (ys.length = m) ∧ i ≤ l.length ∧ i ≤ 80 ∧ Hl H0 ws H0 gs (ys.map (·.b)) ys (some ⟨P, 0, none⟩) (some ⟨q, 0, none⟩) cp cr ∧ Below w.heap.size w ws) (fun v10 _ => 80 - (intOf v10).toNat)
          case atStart => exact ⟨0, ys0, rfl, HYL, Nat.zero_le _, by omega, hl0, hBw⟩
          case round =>
            clear hl0 HYL hBw
            obtain ⟨i, ys, rfl, HYL, hi1, hi2, hl0, hBw⟩ := hrel
            by_cases hlt : i < l.length ∧ i < 80
            · obtain ⟨hlt, hlt2⟩ := hlt
              obtain ⟨b, off, rfl, a0, a1, a2, a3, a4⟩ := (hs2.keep hBw).act_at hlt
              have k0 : (0 : Int) ≤ (i : Int) := by omega
              have k1 : (i : Int) < (l.length : Int) := by omega
              generalize l[i] = a at *
              have hla := hl0.keep (below1 wr (Obj.cells #[.int .i64 a.kind, .int .i64 a.at_, .int .i64 a.to, .int .i64 a.n, .int .u64 a.w] 30))
              have hBa := hBw.alloc hBw.size (Obj.cells #[.int .i64 a.kind, .int .i64 a.at_, .int .i64 a.to, .int .i64 a.n, .int .u64 a.w] 30)
              have bA := Blk.new wr 30 #[.int .i64 a.kind, .int .i64 a.at_, .int .i64 a.to, .int .i64 a.n, .int .u64 a.w]
              clear hl0 hBw
              go_upto_region 19 with (fail)
              have hga := bA.lt
              generalize wr.alloc (Obj.cells #[.int .i64 a.kind, .int .i64 a.at_, .int .i64 a.to, .int .i64 a.n, .int .u64 a.w] 30) = wb at *
              generalize wr.heap.size = ga at *
              have z0 := bA.cell 0 (.int .i64 a.kind) rfl
              have z1 := bA.cell 1 (.int .i64 a.at_) rfl
              have z3 := bA.cell 3 (.int .i64 a.n) rfl
              have z4 := bA.cell 4 (.int .u64 a.w) rfl
              have HL := Lib.hid (And.intro hla hBa)
              clear hla hBa a0 a1 a2 a3 a4
              go_cut [12] (fun s12 wx => ∃ inb : Bool, s12 = .bool inb ∧ Hid (inb = decide (0 ≤ a.at_ ∧ a.at_ < (m : Int))) ∧ wb = wx)
              case first =>
                by_cases h1 : 0 ≤ a.at_
                · by_cases h2 : a.at_ < (m : Int)
                  · have HD : Hid (true = decide (0 ≤ a.at_ ∧ a.at_ < (m : Int))) := by unfold Hid; simp [h1, h2]
                    go_wp2_with fail
                    go_meet
                    exact ⟨_, rfl, HD, rfl⟩
                  · have HD : Hid (false = decide (0 ≤ a.at_ ∧ a.at_ < (m : Int))) := by unfold Hid; simp [h2]
                    go_wp2_with fail
                    go_meet
                    exact ⟨_, rfl, HD, rfl⟩
                · have HD : Hid (false = decide (0 ≤ a.at_ ∧ a.at_ < (m : Int))) := by unfold Hid; simp [h1]
                  go_wp2_with fail
                  go_meet
                  exact ⟨_, rfl, HD, rfl⟩
              case rest =>
              obtain ⟨inb, rfl, hinb, rfl⟩ := hcut
              go_upto_region 20 with (fail)
              go_cut [104] (fun s104 wx => s104 = .bool false ∧ wb = wx)
              case first =>
                by_cases hin : 0 ≤ a.at_ ∧ a.at_ < (m : Int)
                · obtain rfl : inb = true := by rw [hinb.out]; simpa using hin
                  obtain ⟨hat1, hat2⟩ := hin
                  obtain ⟨p, hp⟩ := Int.eq_ofNat_of_zero_le hat1
                  rw [hp] at hat2 z1
                  have hgl : p < gs.length := by have := HGL.out; omega
                  obtain ⟨g, hg⟩ : ∃ g, gs[p]? = some g := ⟨_, List.getElem?_eq_getElem hgl⟩
                  have hBx := Lib.hid (hbox_in wb HL.out.1.hs p g hg)
                  clear hp hat1 hinb
                  go_wp2_with fail
                  refine hBx.out.mono ?_
                  rintro e w3 ⟨rfl, rfl⟩
                  go_wp2_with fail
                  go_meet
                  exact ⟨rfl, rfl⟩
                · obtain rfl : inb = false := by rw [hinb.out]; simpa using hin
                  have hBx := Lib.hid (hbox_out wb HL.out.1.hs a.at_ (by have := HGL.out; omega))
                  clear hin hinb
                  go_wp2_with fail
                  refine hBx.out.mono ?_
                  rintro e w3 ⟨rfl, rfl⟩
                  go_wp2_with fail
                  go_meet
                  exact ⟨rfl, rfl⟩
              case rest =>
              obtain ⟨rfl, rfl⟩ := hcut
              go_upto_block 4 with (fail)
              go_cut [] (fun wx => ∃ ys' : List RbS, Hid (ys'.length = m) ∧ Hl H0 wx H0 gs (ys'.map (·.b)) ys' (some ⟨P, 0, none⟩) (some ⟨q, 0, none⟩) cp cr ∧ Below w.heap.size w wx)
              case first =>
                have hg0 : 0 < gs.length := by have := HGL.out; omega
                by_cases hk1 : a.kind = 1
                · as_aux_lemma =>
                    have e1 : (a.kind == 1) = true := by simpa using hk1
                    have hT := Lib.hid (htake_any wb HL.out.1.hs hg0)
                    have hy8 : ys.length ≤ 1000 := by have := HYL.out; omega
                    clear hk1 hinb z1 z3 z4
                    go_wp2_with fail
                    refine hT.out.mono ?_
                    rintro e wt ⟨he, hH2⟩
                    clear hT
                    rcases he with ⟨p, x, b, hFA, rfl, hS2⟩ | ⟨hno, rfl, hS2⟩
                    · have hl2 := HL.out.1.hub hS2 hH2
                      have hd := hd_of_first _ _ _ _ hFA
                      obtain ⟨y, hy, hyb⟩ : ∃ y, ys[p]? = some y ∧ y.b = ⟨x :: b.l, b.room, b.shut⟩ := by
                        have h1 := hFA.1
                        rw [List.getElem?_map] at h1
                        cases hy : ys[p]? with
                        | none => rw [hy] at h1; cases h1
                        | some y => rw [hy] at h1; injection h1 with h1; exact ⟨y, rfl, h1⟩
                      have hpl : p < ys.length := (List.getElem?_eq_some_iff.1 hy).1
                      have hpm : p < m := by have := HYL.out; omega
                      have hl3 := hl2.1.keep (below1 wt (Obj.cells #[.int .i64 x.from_, .int .u64 x.word] 32))
                      have hl4 := hl3.keep (below1 (wt.alloc (Obj.cells #[.int .i64 x.from_, .int .u64 x.word] 32)) (Obj.cells #[.int .i64 0, .int .u64 0] 59))
                      have xk := (Blk.new wt 32 #[.int .i64 x.from_, .int .u64 x.word]).alloc (Obj.cells #[.int .i64 0, .int .u64 0] 59)
                      have zk := Blk.new' (wt.alloc (Obj.cells #[.int .i64 x.from_, .int .u64 x.word] 32)) 59 #[.int .i64 0, .int .u64 0] (g := wt.heap.size + 1) (by simp)
                      have hF := rfirst_any _ hl3.al.rr hy8
                      rw [HYL.out, (firstP_some hd.1).1, (firstP_some hd.1).2] at hF
                      have HF1 := Lib.hid hF
                      have hat := hl4.al.at_ hy
                      obtain ⟨u0, u1, u2⟩ : _ ∧ _ ∧ _ := ⟨hat.c0, hat.c1, hat.c2⟩
                      have hyok := hl4.al.ok y (List.mem_of_getElem? hy)
                      have hT := rtake_any y _ hyok
                      have e2 : takeL y.b = x := by rw [hyb]; rfl
                      have e3 : takeB y.b = b := by rw [hyb]; rfl
                      have e4 : takeE y.b = 0 := by rw [hyb]; rfl
                      rw [e2, e3, e4] at hT
                      have HT := Lib.hid hT
                      have p0 : (0 : Int) ≤ (p : Int) := by omega
                      have p1 : (p : Int) < (m : Int) := by omega
                      have hnz : ∀ z ∈ ys, blk z.a ≠ some (wt.heap.size + 1) := fun z hz e => by have := (hl2.1.al.ok z hz).lt _ e; omega
                      have hHt : H0 < wt.heap.size := hl2.1.hb.lt
                      have HK := Lib.hid (And.intro hl4 (And.intro hl2.2 (And.intro xk (And.intro zk (And.intro hyok hnz)))))
                      clear hl2 hl3 hl4 xk zk hF hat hyok hT e2 e3 e4 hS2 hH2 hd hnz hyb
                      go_wp2_with fail
                      with_reducible refine HF1.out.mono ?_
                      rintro e w3 ⟨rfl, rfl⟩
                      clear HF1
                      go_wp2_with fail
                      with_reducible refine HT.out.mono ?_
                      rintro e w4 ⟨y', rfl, hb', hok', hnew, hbw⟩
                      have HB' := Lib.hid hb'
                      clear HT u0 u1 u2 hb'
                      have hl5 := HK.out.1.keep hbw
                      have hx5 := ((HK.out.2.1.below (Nat.le_of_lt HL.out.1.hb.lt) (below1 wt (Obj.cells #[.int .i64 x.from_, .int .u64 x.word] 32))).below (Nat.le_of_lt HL.out.1.hb.lt) (below1 _ (Obj.cells #[.int .i64 0, .int .u64 0] 59))).below (Nat.le_of_lt HL.out.1.hb.lt) hbw
                      have xk5 := HK.out.2.2.1.keep hbw
                      have zk5 := HK.out.2.2.2.1.keep hbw
                      have hs5 := hl5.setR hpl hok'
                      have at1 := hl5.al.at_ hy
                      obtain ⟨csq, hqb⟩ := hl5.al.rr.ty q rfl
                      have hK := kp_cells q (p * 3) (eRb y') w4
                      have xk6 := hK.blk xk5 ⟨xk5.lt, blk_ne xk5 hqb (by decide)⟩
                      have zk6 := hK.blk zk5 ⟨zk5.lt, blk_ne zk5 hqb (by decide)⟩
                      have hz7 : ∀ z ∈ ys.set p y', blk z.a ≠ some (wt.heap.size + 1) := fun z hz e => by
                        rcases List.mem_or_eq_of_mem_set hz with hz | rfl
                        · exact HK.out.2.2.2.2.2 z hz e
                        · rcases hnew with h | h
                          · rw [h] at e; exact HK.out.2.2.2.2.2 y (List.mem_of_getElem? hy) e
                          · have := h _ e; simp at this; omega
                      have hs7 := hs5.1.letter zk6 hz7 (by omega) [.int .i64 x.from_, .int .u64 x.word]
                      have zk7 := (zk6.set_ 0 (.int .i64 x.from_)).set_ 1 (.int .u64 x.word)
                      have xk7 : Blk ((w4.setCells q (p * 3) (eRb y')).setCells (wt.heap.size + 1) 0 [.int .i64 x.from_, .int .u64 x.word]) wt.heap.size _ _ := (kp_cells (wt.heap.size + 1) 0 _ _).blk xk6 ⟨xk6.lt, by omega⟩
                      have hx7 := (hx5.trans hs5.2).trans hs7.2
                      have hl7 := hs7.1
                      have d0 := zk5.cell 0 (.int .i64 0) rfl
                      have d1 := zk5.cell 1 (.int .u64 0) rfl
                      have g0 := zk5.frozen 0
                      have g1 := zk5.frozen 1
                      have hzl := zk5.lt
                      have hqz : q ≠ wt.heap.size + 1 := (blk_ne hqb zk5 (by decide))
                      have hql : q < w4.heap.size := hqb.lt
                      obtain ⟨c0, c1, c2⟩ : _ ∧ _ ∧ _ := ⟨at1.c0, at1.c1, at1.c2⟩
                      obtain ⟨f0, f1, f2⟩ : _ ∧ _ ∧ _ := ⟨at1.f0, at1.f1, at1.f2⟩
                      have HR := Lib.hid (And.intro hl7 (And.intro hx7 (And.intro xk7 zk7)))
                      clear hl5 hx5 xk5 zk5 hs5 at1 hqb hK xk6 zk6 hz7 hs7 zk7 xk7 hx7 hl7 hok' hnew hbw HK
                      go_upto_region 34 with (fail)
                      refine at_world (F := Code.wp _ _ _ _) (fun W => Hl H0 W H0 gs ((ys.map (·.b)).set p b) (ys.set p y') (some ⟨P, 0, none⟩) (some ⟨q, 0, none⟩) cp cr ∧ Hx H0 wb W ∧ Blk W wt.heap.size 32 #[.int .i64 x.from_, .int .u64 x.word] ∧ Blk W (wt.heap.size + 1) 59 #[.int .i64 x.from_, .int .u64 x.word]) HR.out ?_
                      rintro w8 ⟨hl8, hx8, xk8, zk8⟩
                      clear c0 c1 c2 f0 f1 f2 d0 d1 g0 g1 hzl hqz hql HR
                      have c0 := xk8.cell 0 (.int .i64 x.from_) rfl
                      have c1 := xk8.cell 1 (.int .u64 x.word) rfl
                      have c2 := zk8.cell 0 (.int .i64 x.from_) rfl
                      have c3 := zk8.cell 1 (.int .u64 x.word) rfl
                      have hmx : max (p : Int) 0 = (p : Int) := by omega
                      have hto := fun W => Lib.hid (to_any x W)
                      have HG := Lib.hid (And.intro hl8 hx8)
                      clear hl8 hx8 xk8 zk8
                      (have aft_c0 := Aft.cell c0; have aft_c1 := Aft.cell c1; have aft_c2 := Aft.cell c2; have aft_c3 := Aft.cell c3; refine wp_region_aft (by kernel_rfl) (by kernel_rfl) ?_; (repeat (go_big_quiet_step ((go_at_call 22; with_reducible exact aft_call (hto _).out)))); refine wpQuiet_nil ?_; clear aft_c0 aft_c1 aft_c2 aft_c3; intro w9 hw2_; have hb9 := Aft.below hw2_; clear hw2_)
                      have HF : Hid (Hl H0 w9 H0 gs ((ys.set p y').map (·.b)) (ys.set p y') (some ⟨P, 0, none⟩) (some ⟨q, 0, none⟩) cp cr ∧ Below w.heap.size w w9) := ⟨by rw [List.map_set, HB'.out]; exact HG.out.1.keep hb9, HL.out.2.trans ((HG.out.2.below (Nat.le_of_lt HL.out.1.hb.lt) hb9).b.mono hlt1)⟩
                      have HYL5 : Hid ((ys.set p y').length = m) := by have := HYL.out; unfold Hid; simpa using this
                      clear c0 c1 c2 c3 hmx hto HG hb9
                      generalize ys.set p y' = ys5 at *
                      go_wp2_with fail
                      go_meet
                      exact ⟨ys5, HYL5, HF.out⟩
                    · have hl2 := HL.out.1.hub hS2 hH2
                      have hd := hd_none _ hno
                      have hl3 := hl2.1.keep (below1 wt (Obj.cells #[.int .i64 0, .int .u64 0] 32))
                      have hl4 := hl3.keep (below1 (wt.alloc (Obj.cells #[.int .i64 0, .int .u64 0] 32)) (Obj.cells #[.int .i64 0, .int .u64 0] 59))
                      have hx4 := (hl2.2.below (Nat.le_of_lt HL.out.1.hb.lt) (below1 wt (Obj.cells #[.int .i64 0, .int .u64 0] 32))).below (Nat.le_of_lt HL.out.1.hb.lt) (below1 (wt.alloc (Obj.cells #[.int .i64 0, .int .u64 0] 32)) (Obj.cells #[.int .i64 0, .int .u64 0] 59))
                      have xk := (Blk.new wt 32 #[.int .i64 0, .int .u64 0]).alloc (Obj.cells #[.int .i64 0, .int .u64 0] 59)
                      have zk := Blk.new' (wt.alloc (Obj.cells #[.int .i64 0, .int .u64 0] 32)) 59 #[.int .i64 0, .int .u64 0] (g := wt.heap.size + 1) (by simp)
                      have hF := rfirst_any _ hl3.al.rr hy8
                      rw [HYL.out, firstP_none hd.1, firstE_none hd.1] at hF
                      have HF1 := Lib.hid hF
                      have HG := Lib.hid (And.intro hl4 hx4)
                      generalize allE (ys.map (·.b)) = ev at *
                      clear hl2 hl3 hl4 hx4 hF hS2 hH2 hd hno
                      go_wp2_with fail
                      with_reducible refine HF1.out.mono ?_
                      rintro e w3 ⟨rfl, rfl⟩
                      clear HF1
                      go_upto_region 34 with (fail)
                      generalize ((wt.alloc (Obj.cells #[.int .i64 0, .int .u64 0] 32)).alloc (Obj.cells #[.int .i64 0, .int .u64 0] 59)) = w8 at *
                      have c0 := xk.cell 0 (.int .i64 0) rfl
                      have c1 := xk.cell 1 (.int .u64 0) rfl
                      have c2 := zk.cell 0 (.int .i64 0) rfl
                      have c3 := zk.cell 1 (.int .u64 0) rfl
                      have hmx : max (-1 : Int) 0 = 0 := by omega
                      have hto := fun W => Lib.hid (to_any ⟨0, 0⟩ W)
                      clear xk zk
                      (have aft_c0 := Aft.cell c0; have aft_c1 := Aft.cell c1; have aft_c2 := Aft.cell c2; have aft_c3 := Aft.cell c3; refine wp_region_aft (by kernel_rfl) (by kernel_rfl) ?_; (repeat (go_big_quiet_step ((go_at_call 22; with_reducible exact aft_call (hto _).out)))); refine wpQuiet_nil ?_; clear aft_c0 aft_c1 aft_c2 aft_c3; intro w9 hw2_; have hb9 := Aft.below hw2_; clear hw2_)
                      have HF : Hid (Hl H0 w9 H0 gs (ys.map (·.b)) ys (some ⟨P, 0, none⟩) (some ⟨q, 0, none⟩) cp cr ∧ Below w.heap.size w w9) := ⟨HG.out.1.keep hb9, HL.out.2.trans ((HG.out.2.below (Nat.le_of_lt HL.out.1.hb.lt) hb9).b.mono hlt1)⟩
                      clear c0 c1 c2 c3 hmx hto HG hb9
                      go_wp2_with fail
                      go_meet
                      exact ⟨ys, HYL, HF.out⟩
                · have e1 : (a.kind == 1) = false := by simpa using hk1
                  clear hk1
                  by_cases hk4 : a.kind = 4
                  · as_aux_lemma =>
                      have e4 : (a.kind == 4) = true := by simpa using hk4
                      have hD := drains_any wb HL.out.1 hg0 a.n
                      rw [HYL.out] at hD
                      have HD := Lib.hid hD
                      clear hD hk4 hinb
                      go_wp2_with fail
                      refine HD.out.mono ?_
                      rintro e w3 ⟨rfl, ⟨ys', hl3⟩, hx3⟩
                      have HYL3 : Hid (ys'.length = m) := by
                        have h1 := hl3.al.ps.len
                        have h2 := HGL.out
                        simp at h1
                        unfold Hid
                        omega
                      have HF := Lib.hid (And.intro hl3 (HL.out.2.trans (hx3.b.mono (by have := HL.out.2; omega))))
                      clear hl3 hx3
                      go_wp2_with fail
                      go_meet
                      exact ⟨ys', HYL3, HF.out⟩
                  · have e4 : (a.kind == 4) = false := by simpa using hk4
                    clear hk4
                    have hH0 : H0 < wb.heap.size := HL.out.1.hb.lt
                    have z2 := bA.cell 2 (.int .i64 a.to) rfl
                    by_cases hk2 : a.kind = 2
                    · have e2 : (a.kind == 2) = true := by simpa using hk2
                      clear hk2
                      go_upto_region 40 with (fail)
                      by_cases hin : 0 ≤ a.at_ ∧ a.at_ < (m : Int)
                      · as_aux_lemma =>
                          obtain rfl : inb = true := by rw [hinb.out]; simpa using hin
                          obtain ⟨hat1, hat2⟩ := hin
                          obtain ⟨p, hp⟩ := Int.eq_ofNat_of_zero_le hat1
                          rw [hp] at hat2 z1
                          have HPQ := Lib.hid hp
                          have hgl : p < gs.length := by have := HGL.out; omega
                          have hyl : p < ys.length := by have := HYL.out; omega
                          obtain ⟨g, hg⟩ : ∃ g, gs[p]? = some g := ⟨_, List.getElem?_eq_getElem hgl⟩
                          obtain ⟨x, hx⟩ : ∃ x, ys[p]? = some x := ⟨_, List.getElem?_eq_getElem hyl⟩
                          clear hp hat1 hinb
                          have p0 : (0 : Int) ≤ (p : Int) := by omega
                          have hB0 : H0 ≤ wb.heap.size := by omega
                          have D0 : HoC H0 wb wb ga H0 gs ys (some ⟨P, 0, none⟩) (some ⟨q, 0, none⟩) cp cr p (ys.map (·.b)) ((ys.map (·.b)).set p (doB x.b a)) (doB x.b a) 0 wb.drew := ⟨(Kp.refl _ _).drew, (Below.refl _ _).drew, by rw [if_pos rfl]; exact HL.out.1.keep (Below.refl _ _).drew⟩
                          haveI ne_ : Nonempty (CW (Kp (fun b => b = ga) wb)) := ⟨⟨_, Kp.refl _ _⟩⟩
                          have aft_z0 : ∀ n : CW (Kp (fun b => b = ga) wb), _ := fun n => n.ok.cell z0 rfl
                          have aft_z1 : ∀ n : CW (Kp (fun b => b = ga) wb), _ := fun n => n.ok.cell z1 rfl
                          have aft_z2 : ∀ n : CW (Kp (fun b => b = ga) wb), _ := fun n => n.ok.cell z2 rfl
                          have aft_z3 : ∀ n : CW (Kp (fun b => b = ga) wb), _ := fun n => n.ok.cell z3 rfl
                          have aft_z4 : ∀ n : CW (Kp (fun b => b = ga) wb), _ := fun n => n.ok.cell z4 rfl
                          refine wp_region_phase (Kp (fun b => b = ga) wb) (HoC H0 wb wb ga H0 gs ys (some ⟨P, 0, none⟩) (some ⟨q, 0, none⟩) cp cr p (ys.map (·.b)) ((ys.map (·.b)).set p (doB x.b a)) (doB x.b a)) (ZC [11] (HoC H0 wb wb ga H0 gs ys (some ⟨P, 0, none⟩) (some ⟨q, 0, none⟩) cp cr p (ys.map (·.b)) ((ys.map (·.b)).set p (doB x.b a)) (doB x.b a)) (fun _ _ _ => True)) [] (fun _ _ _ => True) [11] [(0, 0), (0, 0), (0, 0), (0, 0), (0, 0), (0, 0), (0, 0), (0, 0), (0, 0), (0, 0), (0, 0), (0, 0), (1, 1), (1, 1)] [] 225 (D0) (fun _ _ h => h.e) (zc_hZ (fun _ _ _ h hz => h.keep hga hB0 hz)) (zc_hT (by decide)) (fun _ d hd => by cases hd) (by kernel_rfl) (by kernel_rfl) (by rfl) ?_
                          repeat (first | (refine ph_free (by rfl) (by rfl) (by rfl) (by rfl) (fun K hK => ?_); go_big_quiet_op; refine hK _ ?_; clear hK K) | (refine ph_q (by rfl) (by rfl) (by rfl) (by rfl) (by rfl) (fun K hK => ?_); go_big_quiet_op; refine hK _ ?_; clear hK K) | (refine ph_no (by rfl) (by rfl) (by rfl) ?_; (try simp only [Act.put, List.setIfInBounds_toArray, List.set_cons_zero, List.set_cons_succ])) | (refine ph_call (i := 11) (0, 0) (by rfl) (by rfl) (by rfl) (by rfl) (by rfl) (fun K hK => ?_); go_simp; apply Exists.intro; refine ⟨fun n => ?_, hK _ ?_⟩; (refine gup_turn (k := 0) rfl (((cr_at n.ok).does_ (a := ⟨a.kind, (p : Int), a.to, a.n, a.w⟩) bA hB0 hg hx).mono (fun e w5 h => ⟨h.1, h.2, trivial⟩))); clear hK K; (try simp only [Act.put, List.setIfInBounds_toArray, List.set_cons_zero, List.set_cons_succ])) | (refine ph_call _ (by rfl) (by rfl) (by rfl) (by rfl) (by rfl) (fun K hK => ?_); go_simp; first | (apply Exists.intro; refine ⟨fun n => ?_, hK _ ?_⟩; (with_reducible refine gup_keep rfl ((cr_at n.ok).box_ hg)); clear hK K; (try simp only [Act.put, List.setIfInBounds_toArray, List.set_cons_zero, List.set_cons_succ]))))
                          refine ph_end ?_
                          intro γ w5 hC5 hT
                          clear ne_ aft_z0 aft_z1 aft_z2 aft_z3 aft_z4
                          simp only [putG, Act.put, List.setIfInBounds_toArray, List.set_cons_zero, List.set_cons_succ]
                          obtain ⟨y, hyb, hl5⟩ := HoC.then_ hC5
                          have hlow : Below H0 wb w5 := hC5.low
                          have HYL5 : Hid ((ys.set p y).length = m) := by have := HYL.out; unfold Hid; simpa using this
                          have HF : Hid (Hl H0 w5 H0 gs ((ys.set p y).map (·.b)) (ys.set p y) (some ⟨P, 0, none⟩) (some ⟨q, 0, none⟩) cp cr ∧ Below w.heap.size w w5) := ⟨by rw [List.map_set, hyb]; exact hl5, HL.out.2.trans (hlow.mono hlt1)⟩
                          clear hC5 hT D0 hl5 hyb hlow
                          generalize ys.set p y = ys5 at *
                          go_wp2_with fail
                          go_meet
                          exact ⟨ys5, HYL5, HF.out⟩
                      · as_aux_lemma =>
                          obtain rfl : inb = false := by rw [hinb.out]; simpa using hin
                          clear hin hinb
                          (have aft_z0 := Aft.cell z0; refine wp_region_aft (by kernel_rfl) (by kernel_rfl) ?_; (repeat (go_big_quiet_step (fail))); refine wpQuiet_nil ?_; clear aft_z0; intro w5 hw2_; have hb5 := Aft.below hw2_; clear hw2_)
                          have HF := Lib.hid (And.intro (HL.out.1.keep hb5) (bstep HL.out.2 (Nat.le_refl _) hb5))
                          clear hb5
                          go_wp2_with fail
                          go_meet
                          exact ⟨ys, HYL, HF.out⟩
                    · have e2 : (a.kind == 2) = false := by simpa using hk2
                      clear hk2
                      by_cases hin : 0 ≤ a.at_ ∧ a.at_ < (m : Int)
                      · as_aux_lemma =>
                          obtain rfl : inb = true := by rw [hinb.out]; simpa using hin
                          obtain ⟨hat1, hat2⟩ := hin
                          obtain ⟨p, hp⟩ := Int.eq_ofNat_of_zero_le hat1
                          rw [hp] at hat2 z1
                          have hgl : p < gs.length := by have := HGL.out; omega
                          have hyl : p < ys.length := by have := HYL.out; omega
                          obtain ⟨g, hg⟩ : ∃ g, gs[p]? = some g := ⟨_, List.getElem?_eq_getElem hgl⟩
                          obtain ⟨x, hx⟩ : ∃ x, ys[p]? = some x := ⟨_, List.getElem?_eq_getElem hyl⟩
                          clear hp hat1 hinb
                          have p0 : (0 : Int) ≤ (p : Int) := by omega
                          obtain ⟨lt, hlt9⟩ : ∃ lt : Lt, lt = ⟨a.n, a.w⟩ := ⟨_, rfl⟩
                          have e5 : a.n = lt.from_ := by rw [hlt9]
                          have e6 : a.w = lt.word := by rw [hlt9]
                          rw [e5] at z3
                          rw [e6] at z4
                          clear hlt9 e5 e6 z0 z2
                          have hPu := hput_in wb HL.out.1.hs p g x.b lt hg (by rw [List.getElem?_map, hx]; rfl)
                          have HPu := Lib.hid hPu
                          clear hPu
                          go_wp2_with fail
                          refine HPu.out.mono ?_
                          rintro e wb2 ⟨rfl, hS2, hc2⟩
                          have hl2 := HL.out.1.hub hS2 hc2
                          have bA0 := bA
                          replace z1 := hl2.2.k.cell z1 ⟨_, bA0⟩
                          replace z3 := hl2.2.k.cell z3 ⟨_, bA0⟩
                          replace z4 := hl2.2.k.cell z4 ⟨_, bA0⟩
                          replace bA := hl2.2.k.blk bA ⟨_, bA0⟩
                          replace hga := bA.lt
                          obtain ⟨bs1, hbs1⟩ : ∃ bs1, bs1 = (ys.map (·.b)).set p (putB x.b lt) := ⟨_, rfl⟩
                          rw [← hbs1] at hl2
                          have HBS := Lib.hid hbs1
                          have HL2 := Lib.hid hl2
                          have hB0 : H0 ≤ wb2.heap.size := Nat.le_of_lt hl2.1.hb.lt
                          clear hS2 hc2 hl2 HPu bA0 hbs1
                          go_upto_region 25 with (fail)
                          have hxm := List.mem_of_getElem? hx
                          have D0 : HoC H0 wb2 wb2 ga H0 gs ys (some ⟨P, 0, none⟩) (some ⟨q, 0, none⟩) cp cr p bs1 bs1 (putB x.b lt) 0 wb2.drew := ⟨(Kp.refl _ _).drew, (Below.refl _ _).drew, by rw [if_pos rfl]; exact HL2.out.1.keep (Below.refl _ _).drew⟩
                          haveI ne_ : Nonempty (CW (Kp (fun b => b = ga) wb2)) := ⟨⟨_, Kp.refl _ _⟩⟩
                          have aft_z1 : ∀ n : CW (Kp (fun b => b = ga) wb2), _ := fun n => n.ok.cell z1 rfl
                          have aft_z3 : ∀ n : CW (Kp (fun b => b = ga) wb2), _ := fun n => n.ok.cell z3 rfl
                          have aft_z4 : ∀ n : CW (Kp (fun b => b = ga) wb2), _ := fun n => n.ok.cell z4 rfl
                          refine wp_region_phase (Kp (fun b => b = ga) wb2) (HoC H0 wb2 wb2 ga H0 gs ys (some ⟨P, 0, none⟩) (some ⟨q, 0, none⟩) cp cr p bs1 bs1 (putB x.b lt)) (ZC [18] (HoC H0 wb2 wb2 ga H0 gs ys (some ⟨P, 0, none⟩) (some ⟨q, 0, none⟩) cp cr p bs1 bs1 (putB x.b lt)) (fun _ w w' => w.grownBy w' (some q))) [125, 131, 117, 132] (HuD x lt) [18] [(0, 0), (0, 0), (0, 0), (0, 0), (0, 0), (0, 0), (0, 0), (0, 0), (0, 0), (0, 0), (0, 0), (0, 0), (0, 0), (0, 0), (0, 0), (0, 0), (0, 1), (0, 0), (0, 0), (1, 1)] [] 225 (D0) (fun _ _ h => h.e) (zc_hZ (fun _ _ _ h hz => h.keep hga hB0 hz)) (zc_hT (by decide)) (hu_hS) (by kernel_rfl) (by kernel_rfl) (by rfl) ?_
                          repeat (first | (refine ph_free (by rfl) (by rfl) (by rfl) (by rfl) (fun K hK => ?_); go_big_quiet_op; refine hK _ ?_; clear hK K) | (refine ph_q (by rfl) (by rfl) (by rfl) (by rfl) (by rfl) (fun K hK => ?_); go_big_quiet_op; refine hK _ ?_; clear hK K) | (refine ph_no (by rfl) (by rfl) (by rfl) ?_; (try simp only [Act.put, List.setIfInBounds_toArray, List.set_cons_zero, List.set_cons_succ])) | (refine ph_n 125 [] _ (by rfl) (by rfl) (by rfl) (by rfl) (fun γ w hC hT => ?_) ?_; ((have hat := (cr_at hC).first.al.at_ hx); (obtain ⟨u0, u1, u2⟩ : _ ∧ _ ∧ _ := ⟨hat.c0, hat.c1, hat.c2⟩); simp only [putG]; go_simp; exact gup_v (zc_keep rfl (Below.refl _ _)) (hu125.2 rfl)); (try simp only [Act.put, List.setIfInBounds_toArray, List.set_cons_zero, List.set_cons_succ])) | (refine ph_n 131 [125] _ (by rfl) (by rfl) (by rfl) (by rfl) (fun γ w hC hT => ?_) ?_; ((have v1 := hu125.1 (hT 125 (by simp))); (have hC0 := (cr_at hC).first); simp only [putG, Act.put, List.setIfInBounds_toArray, List.set_cons_zero, List.set_cons_succ]; rw [v1]; go_simp; exact ⟨rfl, (rput_any x lt _ (hC0.al.ok x hxm)).mono (fun e w' ⟨x', h1, e1, k1, _, hb⟩ => ⟨_, h1, zc_keep rfl hb, (hu131 (.inl rfl)).2 ⟨x', rfl, e1, k1⟩⟩)⟩); (try simp only [Act.put, List.setIfInBounds_toArray, List.set_cons_zero, List.set_cons_succ])) | (refine ph_n 117 [131] _ (by rfl) (by rfl) (by rfl) (by rfl) (fun γ w hC hT => ?_) ?_; ((obtain ⟨y, hv, e1, k1⟩ := (hu131 (.inl rfl)).1 (hT 131 (by simp))); (have E1 := Lib.hid e1); clear e1; simp only [putG, Act.put, List.setIfInBounds_toArray, List.set_cons_zero, List.set_cons_succ]; rw [hv]; go_simp; exact gup_v (zc_keep rfl (Below.refl _ _)) ((hu131 (.inr rfl)).2 ⟨y, rfl, E1.out, k1⟩)); (try simp only [Act.put, List.setIfInBounds_toArray, List.set_cons_zero, List.set_cons_succ])) | (refine ph_n 132 [117] _ (by rfl) (by rfl) (by rfl) (by rfl) (fun γ w hC hT => ?_) ?_; ((obtain ⟨y, hv, e1, k1⟩ := (hu131 (.inr rfl)).1 (hT 117 (by simp))); (have E1 := Lib.hid e1); clear e1; simp only [putG, Act.put, List.setIfInBounds_toArray, List.set_cons_zero, List.set_cons_succ]; rw [hv]; go_simp; exact gup_v (zc_keep rfl (Below.refl _ _)) (hu132.2 ⟨y, rfl, E1.out, k1⟩)); (try simp only [Act.put, List.setIfInBounds_toArray, List.set_cons_zero, List.set_cons_succ])) | (refine ph_u (.int .i64 (putE x.b)) [117] _ (by rfl) (by rfl) (by rfl) (by simp) (by rfl) (fun γ w hC hT => ?_) ?_; ((obtain ⟨y, hv, e1, k1⟩ := (hu131 (.inr rfl)).1 (hT 117 (by simp))); (have E1 := Lib.hid e1); clear e1; simp only [putG, Act.put, List.setIfInBounds_toArray, List.set_cons_zero, List.set_cons_succ]; rw [hv]; go_simp; exact gup_v (zc_keep rfl (Below.refl _ _)) rfl); (try simp only [Act.put, List.setIfInBounds_toArray, List.set_cons_zero, List.set_cons_succ])) | (refine ph_u (undef) [132] _ (by rfl) (by rfl) (by rfl) (by simp) (by rfl) (fun γ w hC hT => ?_) ?_; ((obtain ⟨y, hv, e1, k1⟩ := hu132.1 (hT 132 (by simp))); (have hC0 := cr_at hC); simp only [putG, Act.put, List.setIfInBounds_toArray, List.set_cons_zero, List.set_cons_succ]; rw [hv]; refine gup_store_at (k := 0) rfl 43 (.tmp 134) (.tmp 132) rfl q (p * 3) #[.slice y.a y.b.l.length y.c, .int .i64 y.b.room, .bool y.b.shut] rfl rfl (hC0.there hyl) (by kernel_rfl) (by simp [Value.oneCell']) ⟨hC0.store1 bA hB0 hyl e1 k1, grown_setCells q _ _ _ _ (only_refl _ q)⟩); (try simp only [Act.put, List.setIfInBounds_toArray, List.set_cons_zero, List.set_cons_succ])))
                          refine ph_end ?_
                          intro γ w5 hC5 hT
                          clear ne_ aft_z1 aft_z3 aft_z4
                          simp only [putG, Act.put, List.setIfInBounds_toArray, List.set_cons_zero, List.set_cons_succ]
                          obtain ⟨y, hyb, hl5⟩ := HoC.then_ hC5
                          have hlow : Below H0 wb2 w5 := hC5.low
                          have HYL5 : Hid ((ys.set p y).length = m) := by have := HYL.out; unfold Hid; simpa using this
                          have HF : Hid (Hl H0 w5 H0 gs ((ys.set p y).map (·.b)) (ys.set p y) (some ⟨P, 0, none⟩) (some ⟨q, 0, none⟩) cp cr ∧ Below w.heap.size w w5) := ⟨by rw [List.map_set, hyb, ← HBS.out]; exact hl5, (HL.out.2.trans (HL2.out.2.b.mono hlt1)).trans (hlow.mono hlt1)⟩
                          clear hC5 hT D0 hl5 hyb hlow
                          generalize ys.set p y = ys5 at *
                          generalize γ 125 = v125 at *
                          generalize γ 131 = v131 at *
                          generalize γ 117 = v117 at *
                          generalize γ 132 = v132 at *
                          go_wp2_with fail
                          go_meet
                          exact ⟨ys5, HYL5, HF.out⟩
                      · as_aux_lemma =>
                          obtain rfl : inb = false := by rw [hinb.out]; simpa using hin
                          obtain ⟨lt, hlt9⟩ : ∃ lt : Lt, lt = ⟨a.n, a.w⟩ := ⟨_, rfl⟩
                          have e5 : a.n = lt.from_ := by rw [hlt9]
                          have e6 : a.w = lt.word := by rw [hlt9]
                          rw [e5] at z3
                          rw [e6] at z4
                          have HPu := Lib.hid (hput_out wb HL.out.1.hs a.at_ lt (by have := HGL.out; omega))
                          clear hin hinb hlt9 e5 e6 z0 z2
                          go_wp2_with fail
                          refine HPu.out.mono ?_
                          rintro e w5 ⟨rfl, hb5⟩
                          have HF := Lib.hid (And.intro (HL.out.1.keep hb5) (bstep HL.out.2 (Nat.le_refl _) hb5))
                          clear hb5 HPu
                          go_wp2_with fail
                          go_meet
                          exact ⟨ys, HYL, HF.out⟩
              case rest =>
              obtain ⟨ys', HYL', hll, hB1⟩ := hcut
              clear HL HYL z0 z1 z3 z4 bA hga hinb
              go_upto_region 42 with (fail)
              go_wp2_with fail
              go_loopw [21] (fun v21 wt => ∃ k : Nat, v21 = .int .i64 k ∧ k ≤ m ∧ Hl H0 wt H0 gs (ys'.map (·.b)) ys' (some ⟨P, 0, none⟩) (some ⟨q, 0, none⟩) cp cr ∧ Below w.heap.size w wt) (fun v21 _ => m - (intOf v21).toNat)
              case atStart => exact ⟨0, rfl, Nat.zero_le _, hll, hB1⟩
              case round =>
                clear hll hB1
                obtain ⟨k, rfl, hkm, hll, hB1⟩ := hrel
                by_cases hkl : k < m
                · have j0 : (0 : Int) ≤ (k : Int) := by omega
                  have j1 : (k : Int) < (m : Int) := by omega
                  have hgl : k < gs.length := by have := HGL.out; omega
                  have hyl : k < ys'.length := by have := HYL'.out; omega
                  obtain ⟨g, hg⟩ : ∃ g, gs[k]? = some g := ⟨_, List.getElem?_eq_getElem hgl⟩
                  obtain ⟨y, hy⟩ : ∃ y, ys'[k]? = some y := ⟨_, List.getElem?_eq_getElem hyl⟩
                  have hat := hll.al.at_ hy
                  obtain ⟨u0, u1, u2⟩ : _ ∧ _ ∧ _ := ⟨hat.c0, hat.c1, hat.c2⟩
                  have hby : (ys'.map (·.b))[k]? = some y.b := by rw [List.getElem?_map, hy]; rfl
                  have hcb := Lib.hid (fun n : Aft wr => hbox_in n.w (hll.hs.keep n.ok) k g hg)
                  have hcs := Lib.hid (fun n : Aft wr => same_any y.b g y.a y.c n.w ((hll.keep n.ok).al.ps.bx k g y.b hg hby))
                  have HL := Lib.hid (And.intro hll hB1)
                  clear hll hB1 hat hby
                  go_upto_region 45 with (fail)
                  (have aft_u0 := Aft.cell u0; have aft_u1 := Aft.cell u1; have aft_u2 := Aft.cell u2; refine wp_region_aft (by kernel_rfl) (by kernel_rfl) ?_; (repeat (go_big_quiet_step ((first | (go_at_call 18; with_reducible exact aft_same (hcb.out _)) | (go_at_call 14; with_reducible exact aft_call (hcs.out _)))))); refine wpQuiet_nil ?_; clear aft_u0 aft_u1 aft_u2; intro w7 hw2_; have hb7 := Aft.below hw2_; clear hw2_)
                  clear u0 u1 u2 hcb hcs
                  have hl2 := HL.out.1.keep hb7
                  have hB2 := bstep HL.out.2 (Nat.le_refl _) hb7
                  clear HL hb7
                  go_wp2_with fail
                  go_roundw
                  case rel => exact ⟨k + 1, by go_num, by omega, hl2, hB2⟩
                  case measure => simp [intOf]; omega
                · obtain rfl : k = m := by omega
                  have j2 : ¬ (k : Int) < (k : Int) := by omega
                  go_wp2_with fail
                  go_roundw
                  case rel => exact ⟨i + 1, ys', by go_num, HYL', by omega, by omega, hll, hB1⟩
                  case measure => simp [intOf]; omega
            · by_cases h1 : i < l.length
              · obtain rfl : i = 80 := by omega
                have k1 : (80 : Int) < (l.length : Int) := by omega
                clear hlt h1 hi1 hi2
                go_wp2_with fail
                refine (awake_any _).mono ?_
                rintro e w9 ⟨rfl, hb9⟩
                go_wp2_with fail
                go_ret
                exact ⟨rfl, bstep hBw (Nat.le_refl _) hb9⟩
              · have k1 : ¬ (i : Int) < (l.length : Int) := by omega
                clear hlt h1 hi1 hi2
                go_wp2_with fail
                refine (awake_any _).mono ?_
                rintro e w9 ⟨rfl, hb9⟩
                go_wp2_with fail
                go_ret
                exact ⟨rfl, bstep hBw (Nat.le_refl _) hb9⟩
        · subst hj
          go_wp2_with fail
          refine (awake_any _).mono ?_
          rintro e w9 ⟨rfl, hb9⟩
          go_wp2_with fail
          go_ret
          exact ⟨rfl, bstep hBw (Nat.le_refl _) hb9⟩
end Go.Proofs.Ytldpplfkimdaaaa
