/- Walk: Drain at both sides. -/
import Derived.Test.YtldpplfkimdaaaaW22
import Derived.Test.YtldpplfkimdaaaaAft
namespace Go.Proofs.Ytldpplfkimdaaaa
open Go.RowKit Go.Conc Go.Lib

def RetDr (B H : Nat) (gs : List Nat) (AP AR : Option Addr) (cp cr : Nat) (w : World) (e : Ending) (w' : World) : Prop :=
  e = .returned (.bool true) ∧ (∃ xs', Hl B w' H gs (xs'.map (·.b)) xs' AP AR cp cr) ∧ Hx B w w'
theorem firstP_some {bs : List BoxS} {p : Nat} {x : Lt} (h : hdB bs = some (p, x)) : firstP bs = p ∧ firstE bs = 0 := by simp [firstP, firstE, h]
theorem firstP_none {bs : List BoxS} (h : hdB bs = none) : firstP bs = -1 := by simp [firstP, h]
theorem firstE_none {bs : List BoxS} (h : hdB bs = none) : firstE bs = allE bs := by simp [firstE, h]
theorem hd_first : ∀ (bs : List BoxS) (p : Nat) (x : Lt), hdB bs = some (p, x) → ∃ b, FirstAt bs p x b := fun bs p x h => by
  rcases first_or bs with ⟨p', x', b, hF⟩ | hno
  · have := (hd_of_first _ _ _ _ hF).1
    rw [h] at this
    injection this with this
    injection this with h1 h2
    subst h1 h2
    exact ⟨b, hF⟩
  · rw [(hd_none _ hno).1] at h
    cases h

set_option maxRecDepth 100000 in
set_option maxHeartbeats 4000000 in
theorem drains_any {B H cp cr q : Nat} {gs : List Nat} {xs : List RbS} {AP : Option Addr} (w : World) (h : Hl B w H gs (xs.map (·.b)) xs AP (some ⟨q, 0, none⟩) cp cr) (h0 : 0 < gs.length) (most : Int) :
    Calls Try.prog 23 #[.pointer (some ⟨H, 0, none⟩), .slice (some ⟨q, 0, none⟩) xs.length cr, .int .i64 most] w (RetDr B H gs AP (some ⟨q, 0, none⟩) cp cr w) := by
  have hx8 : xs.length ≤ 8 := by have h1 := h.n8; have := h.al.ps.len; simp at this; omega
  have hD := Lib.hid (drain_any w h.hs h0 most (h.tot rfl))
  have H0 := Lib.hid h
  obtain ⟨bs0, hbs0⟩ : ∃ bs0, bs0 = xs.map (·.b) := ⟨_, rfl⟩
  rw [← hbs0] at hD H0
  obtain ⟨n, hn⟩ : ∃ n, n = xs.length := ⟨_, rfl⟩
  rw [← hn]
  have hBw : B ≤ w.heap.size := Nat.le_trans h.lo (Nat.le_of_lt h.hb.lt)
  have HXS : Hid (xs.map (·.b) = nthB bs0 0 ∧ xs.length = n) := ⟨hbs0.symm, hn.symm⟩
  rw [← hn] at hx8
  clear h hbs0 hn
  go_enter Try.func23, Try.ntmps23
  go_wp2_with fail
  refine hD.out.mono ?_
  rintro e w1 ⟨got, A, c, rfl, hO, hDr, hm1, hm2, hS, hH⟩
  clear hD
  have hl1 := H0.out.hub hS hH
  have HD := Lib.hid (And.intro hDr (And.intro hm1 hm2))
  have hgl : got.length ≤ 1000 := by have h1 := hDr.t; have h2 := H0.out.tot (xs := xs) (by rw [HXS.out.1]; rfl); omega
  clear hDr hm1 hm2 hS hH H0
  go_wp2_with fail
  go_loopw [8] (fun v8 wr => ∃ (k : Nat) (ys : List RbS), v8 = .int .i64 k ∧ k ≤ got.length ∧ Hid (ys.map (·.b) = nthB bs0 k ∧ ys.length = n) ∧ Hl B wr H gs (nthB bs0 got.length) ys AP (some ⟨q, 0, none⟩) cp cr ∧ Own eLb 2 wr w.heap.size 32 A c got ∧ Hx B w wr) (fun v8 _ => got.length - (intOf v8).toNat)
  case atStart => exact ⟨0, xs, rfl, Nat.zero_le _, HXS, hl1.1, hO, hl1.2⟩
  case round =>
    clear hl1 hO HXS
    obtain ⟨k, ys, rfl, hk, HYS, hl, hO, hX⟩ := hrel
    have hwr : w.heap.size ≤ wr.heap.size := hX.b.size
    by_cases hlt : (k : Int) < most
    · have hF := rfirst_any wr hl.al.rr (by have := HYS.out.2; omega)
      rw [HYS.out.2, HYS.out.1] at hF
      cases hhd : hdB (nthB bs0 k) with
      | none =>
        rw [firstP_none hhd] at hF
        generalize firstE (nthB bs0 k) = fe at *
        have hkg : k = got.length := by
          rcases Nat.lt_or_ge k got.length with h1 | h1
          · obtain ⟨p, hp⟩ := HD.out.1.h k _ (List.getElem?_eq_getElem h1)
            rw [hhd] at hp; cases hp
          · omega
        subst hkg
        have HF := Lib.hid hF
        have HL := Lib.hid (And.intro hl hX)
        clear hF hl hO hX hhd
        go_wp2_with fail
        refine HF.out.mono ?_
        rintro e w2 ⟨rfl, rfl⟩
        go_wp2_with fail
        go_ret
        refine ⟨rfl, ⟨ys, ?_⟩, HL.out.2⟩
        rw [HYS.out.1]
        exact HL.out.1
      | some px =>
        obtain ⟨p, x⟩ := px
        obtain ⟨b, hFA⟩ := hd_first _ _ _ hhd
        have hkl : k < got.length := by
          rcases Nat.lt_or_ge k got.length with h1 | h1
          · exact h1
          · have : k = got.length := by omega
            subst this
            rcases HD.out.2.2 with h2 | h2
            · omega
            · rw [hhd] at h2; cases h2
        have hgx : got[k]? = some x := by
          obtain ⟨p', hp⟩ := HD.out.1.h k _ (List.getElem?_eq_getElem hkl)
          rw [hhd] at hp
          injection hp with hp
          injection hp with _ h2
          rw [List.getElem?_eq_getElem hkl, h2]
        have hyp : ∃ y, ys[p]? = some y ∧ y.b = ⟨x :: b.l, b.room, b.shut⟩ := by
          have h1 := hFA.1
          rw [← HYS.out.1, List.getElem?_map] at h1
          cases hy : ys[p]? with
          | none => rw [hy] at h1; cases h1
          | some y => rw [hy] at h1; injection h1 with h1; exact ⟨y, rfl, h1⟩
        obtain ⟨y, hy, hyb⟩ := hyp
        have hpl : p < ys.length := (List.getElem?_eq_some_iff.1 hy).1
        have hpn : p < n := by have := HYS.out.2; omega
        rw [(firstP_some hhd).1] at hF
        generalize firstE (nthB bs0 k) = fe at *
        have hat := hl.al.at_ hy
        obtain ⟨u0, u1, u2⟩ : _ ∧ _ ∧ _ := ⟨hat.c0, hat.c1, hat.c2⟩
        have hyok := hl.al.ok y (List.mem_of_getElem? hy)
        have hT := Lib.hid (rtake_any y wr hyok)
        have e1 : takeL y.b = x := by rw [hyb]; rfl
        have e2 : takeB y.b = b := by rw [hyb]; rfl
        have e3 : takeE y.b = 0 := by rw [hyb]; rfl
        rw [e1, e2, e3] at hT
        have HN := Lib.hid (show nthB bs0 (k + 1) = (nthB bs0 k).set p b from (hd_of_first _ _ _ _ hFA).2)
        have p0 : (0 : Int) ≤ (p : Int) := by omega
        have p1 : (p : Int) < (n : Int) := by omega
        have HF := Lib.hid hF
        have HL := Lib.hid (And.intro hl (And.intro hO hX))
        clear hF hl hO hX hhd hat hyok e1 e2 e3 hyb
        go_wp2_with fail
        refine HF.out.mono ?_
        rintro e w2 ⟨rfl, rfl⟩
        clear HF
        go_wp2_with fail
        refine hT.out.mono ?_
        rintro e w2 ⟨y', rfl, hb', hok', _, hbw⟩
        have HB' := Lib.hid hb'
        clear hT u0 u1 u2 hb'
        have hb9 : Below w2.heap.size w2 ((w2.alloc (Obj.cells #[.slice y'.a y'.b.l.length y'.c, .int .i64 y'.b.room, .bool y'.b.shut] 43)).alloc (Obj.cells #[.int .i64 x.from_, .int .u64 x.word] 59)) := (below1 _ _).alloc (by simp) _
        have hl3 := (HL.out.1.keep hbw).keep hb9
        have hO3 := (HL.out.2.1.keep hbw).keep hb9
        have hX3 := (HL.out.2.2.below hBw hbw).below hBw hb9
        have hok3 := hok'.keep hb9
        have z1 := Blk.new' (w2.alloc (Obj.cells #[.slice y'.a y'.b.l.length y'.c, .int .i64 y'.b.room, .bool y'.b.shut] 43)) 59 #[.int .i64 x.from_, .int .u64 x.word] (g := w2.heap.size + 1) (by simp)
        clear HL hok' hbw hb9
        have at1 := hl3.al.at_ hy
        have hs1 := hl3.setR hpl hok3
        have hqw := (hl3.al.rr.lt q rfl).2
        obtain ⟨csq, hqb⟩ := hl3.al.rr.ty q rfl
        have hK := kp_cells q (p * 3) (eRb y') ((w2.alloc (Obj.cells #[.slice y'.a y'.b.l.length y'.c, .int .i64 y'.b.room, .bool y'.b.shut] 43)).alloc (Obj.cells #[.int .i64 x.from_, .int .u64 x.word] 59))
        have z2 := hK.blk z1 ⟨z1.lt, blk_ne z1 hqb (by decide)⟩
        have hO4 := hO3.kp hK (fun k hk => ⟨(hO3.lt k hk).2, by obtain ⟨cs, hb⟩ := hO3.ty k hk; exact blk_ne hb hqb (by decide)⟩)
        have hX4 := hX3.trans hs1.2
        have hl4 := hs1.1
        clear hl3 hO3 hX3 hok3 z1 hs1 hqb hK
        obtain ⟨c0, c1, c2⟩ : _ ∧ _ ∧ _ := ⟨at1.c0, at1.c1, at1.c2⟩
        obtain ⟨f0, f1, f2⟩ : _ ∧ _ ∧ _ := ⟨at1.f0, at1.f1, at1.f2⟩
        change Blk (((((w2.alloc (Obj.cells #[.slice y'.a y'.b.l.length y'.c, .int .i64 y'.b.room, .bool y'.b.shut] 43)).alloc (Obj.cells #[.int .i64 x.from_, .int .u64 x.word] 59)).setCell ⟨q, p * 3, none⟩ (.slice y'.a y'.b.l.length y'.c)).setCell ⟨q, p * 3 + 1, none⟩ (.int .i64 y'.b.room)).setCell ⟨q, p * 3 + 2, none⟩ (.bool y'.b.shut)) _ _ _ at z2
        change Own _ _ (((((w2.alloc (Obj.cells #[.slice y'.a y'.b.l.length y'.c, .int .i64 y'.b.room, .bool y'.b.shut] 43)).alloc (Obj.cells #[.int .i64 x.from_, .int .u64 x.word] 59)).setCell ⟨q, p * 3, none⟩ (.slice y'.a y'.b.l.length y'.c)).setCell ⟨q, p * 3 + 1, none⟩ (.int .i64 y'.b.room)).setCell ⟨q, p * 3 + 2, none⟩ (.bool y'.b.shut)) _ _ _ _ _ at hO4
        change Hx _ _ (((((w2.alloc (Obj.cells #[.slice y'.a y'.b.l.length y'.c, .int .i64 y'.b.room, .bool y'.b.shut] 43)).alloc (Obj.cells #[.int .i64 x.from_, .int .u64 x.word] 59)).setCell ⟨q, p * 3, none⟩ (.slice y'.a y'.b.l.length y'.c)).setCell ⟨q, p * 3 + 1, none⟩ (.int .i64 y'.b.room)).setCell ⟨q, p * 3 + 2, none⟩ (.bool y'.b.shut)) at hX4
        change Hl _ (((((w2.alloc (Obj.cells #[.slice y'.a y'.b.l.length y'.c, .int .i64 y'.b.room, .bool y'.b.shut] 43)).alloc (Obj.cells #[.int .i64 x.from_, .int .u64 x.word] 59)).setCell ⟨q, p * 3, none⟩ (.slice y'.a y'.b.l.length y'.c)).setCell ⟨q, p * 3 + 1, none⟩ (.int .i64 y'.b.room)).setCell ⟨q, p * 3 + 2, none⟩ (.bool y'.b.shut)) _ _ _ _ _ _ _ _ at hl4
        have k1 : (k : Int) < (got.length : Int) := by omega
        have k2 : ¬ got.length ≤ k := by omega
        go_upto_region 8 with (fail)
        clear c0 c1 c2 f0 f1 f2 at1
        generalize (((((w2.alloc (Obj.cells #[.slice y'.a y'.b.l.length y'.c, .int .i64 y'.b.room, .bool y'.b.shut] 43)).alloc (Obj.cells #[.int .i64 x.from_, .int .u64 x.word] 59)).setCell ⟨q, p * 3, none⟩ (.slice y'.a y'.b.l.length y'.c)).setCell ⟨q, p * 3 + 1, none⟩ (.int .i64 y'.b.room)).setCell ⟨q, p * 3 + 2, none⟩ (.bool y'.b.shut)) = w3 at *
        obtain ⟨G, rfl⟩ : ∃ G, A = some ⟨G, 0, none⟩ := by
          rcases hO4.shape with ⟨_, h, _⟩ | h
          · rw [h] at hkl; simp at hkl
          · exact h
        have hgk : got[k] = x := by rw [List.getElem?_eq_getElem hkl] at hgx; injection hgx
        have d0 : w3.cell? ⟨G, k * 2, none⟩ = some (.int .i64 x.from_) := by rw [← hgk]; exact own_cell eLb_ok hO4 hkl (j := 0) rfl
        have d1 : w3.cell? ⟨G, k * 2 + 1, none⟩ = some (.int .u64 x.word) := by rw [← hgk]; exact own_cell eLb_ok hO4 hkl (j := 1) rfl
        have e0 := z2.cell 0 (.int .i64 x.from_) rfl
        have e3 := z2.cell 1 (.int .u64 x.word) rfl
        have hto := fun W => Lib.hid (to_any x W)
        have HG := Lib.hid (And.intro hl4 (And.intro hO4 hX4))
        have HHY := Lib.hid (And.intro hgx hgk)
        clear hl4 hO4 hX4 z2 hgx hgk
        (have aft_d0 := Aft.cell d0; have aft_d1 := Aft.cell d1; have aft_e0 := Aft.cell e0; have aft_e3 := Aft.cell e3; refine wp_region_aft (by kernel_rfl) (by kernel_rfl) ?_; (repeat (go_big_quiet_step ((go_at_call 22; with_reducible exact aft_call (hto _).out)))); refine wpQuiet_nil ?_; clear aft_d0 aft_d1 aft_e0 aft_e3; intro w4 hw2_; have hb4 := Aft.below hw2_; clear hw2_)
        clear d0 d1 e0 e3 hto
        have hMP : Hid ((ys.set p y').map (·.b) = nthB bs0 (k + 1) ∧ (ys.set p y').length = n) := by
          refine ⟨?_, by simpa using HYS.out.2⟩
          rw [List.map_set, HYS.out.1, HB'.out, HN.out]
        go_wp2_with fail
        go_roundw
        case rel => exact ⟨k + 1, ys.set p y', by go_num, by omega, hMP, HG.out.1.keep hb4, HG.out.2.1.keep hb4, HG.out.2.2.below hBw hb4⟩
        case measure => simp [intOf]; omega
    · have hkg : k = got.length := by
        rcases HD.out.2.1 with h1 | h1
        · omega
        · rw [h1] at hk ⊢; simp at hk; simpa using hk
      subst hkg
      have HL := Lib.hid (And.intro hl hX)
      clear hl hO hX
      go_wp2_with fail
      go_ret
      refine ⟨rfl, ⟨ys, ?_⟩, HL.out.2⟩
      rw [HYS.out.1]
      exact HL.out.1
end Go.Proofs.Ytldpplfkimdaaaa
