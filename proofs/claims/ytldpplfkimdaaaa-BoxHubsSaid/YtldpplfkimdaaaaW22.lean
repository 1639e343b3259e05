/- Walks: the document's First, and Drain at both sides. -/
import Derived.Test.YtldpplfkimdaaaaW21
namespace Go.Proofs.Ytldpplfkimdaaaa
open Go.RowKit Go.Conc Go.Lib

def firstE (bs : List BoxS) : Int := match hdB bs with | some _ => 0 | none => allE bs
def firstP (bs : List BoxS) : Int := match hdB bs with | some p => p.1 | none => -1
set_option maxRecDepth 100000 in
set_option maxHeartbeats 4000000 in
theorem rfirst_any {B q cr : Nat} {xs : List RbS} (w : World) (h : Own eRb 3 w B 43 (some ⟨q, 0, none⟩) cr xs) (hl : xs.length ≤ 1000) :
    Calls Try.prog 20 #[.slice (some ⟨q, 0, none⟩) xs.length cr] w fun e w' => e = .returned (.tuple #[.int .i64 (firstP (xs.map (·.b))), .int .i64 (firstE (xs.map (·.b)))]) ∧ w = w' := by
  obtain ⟨FP, hFP⟩ : ∃ FP, FP = firstP (xs.map (·.b)) := ⟨_, rfl⟩
  obtain ⟨FE, hFE⟩ : ∃ FE, FE = firstE (xs.map (·.b)) := ⟨_, rfl⟩
  rw [← hFP, ← hFE]
  have HP := Lib.hid hFP
  have HE := Lib.hid hFE
  clear hFP hFE
  go_enter Try.func20, Try.ntmps20
  go_wp2_with fail
  go_loopw [4, 5] (fun v4 v5 wr => ∃ k : Nat, v5 = .int .i64 k ∧ v4 = .int .i64 (allE ((xs.map (·.b)).take k)) ∧ k ≤ xs.length ∧ Hid (∀ (i : Nat) (c : BoxS), i < k → (xs.map (·.b))[i]? = some c → c.l = []) ∧ w = wr) (fun _ v5 _ => xs.length - (intOf v5).toNat)
  case atStart => exact ⟨0, rfl, rfl, Nat.zero_le _, fun i c hi => by omega, rfl⟩
  case round =>
    obtain ⟨k, rfl, rfl, hk, hem, rfl⟩ := hrel
    by_cases hlt : k < xs.length
    · have k0 : (0 : Int) ≤ (k : Int) := by omega
      have k1 : (k : Int) < (xs.length : Int) := by omega
      have c0 : w.cell? ⟨q, k * 3, none⟩ = some (.slice xs[k].a xs[k].b.l.length xs[k].c) := own_cell eRb_ok h hlt (j := 0) rfl
      have c2 : w.cell? ⟨q, k * 3 + 2, none⟩ = some (.bool xs[k].b.shut) := own_cell eRb_ok h hlt (j := 2) rfl
      have hb : (xs.map (·.b))[k]? = some xs[k].b := by simp [hlt]
      have HA := Lib.hid (show allE ((xs.map (·.b)).take (k + 1)) = if xs[k].b.shut then allE ((xs.map (·.b)).take k) else 6 by
        rw [List.take_add_one, hb]; exact allE_snoc _ _)
      have HB := Lib.hid hb
      generalize xs[k] = x at *
      clear hb
      obtain ⟨xa, xc, ⟨l, room, sh⟩⟩ := x
      simp only at c0 c2
      clear h
      cases l with
      | cons y l =>
        have HF := Lib.hid (hd_of_first (xs.map (·.b)) k y ⟨l, room, sh⟩ ⟨HB.out, hem.out⟩)
        have e1 : Hid (FP = (k : Int)) := by have := HP.out; have h2 := HF.out.1; unfold firstP at this; rw [h2] at this; exact this
        have e2 : Hid (FE = 0) := by have := HE.out; have h2 := HF.out.1; unfold firstE at this; rw [h2] at this; exact this
        clear HF HA
        generalize allE (List.take k (xs.map (·.b))) = ev at *
        go_wp2_with fail
        go_ret2
        exact ⟨by rw [e1.out, e2.out]; rfl, rfl⟩
      | nil =>
        have hem' : Hid (∀ (i : Nat) (c : BoxS), i < k + 1 → (xs.map (·.b))[i]? = some c → c.l = []) := fun i c hi hc => by
          by_cases he : i = k
          · subst he; rw [HB.out] at hc; injection hc with hc; rw [← hc]
          · exact hem.out i c (by omega) hc
        clear hem HB
        generalize allE (List.take k (xs.map (·.b))) = ev at *
        cases sh
        · have HA2 : Hid (allE ((xs.map (·.b)).take (k + 1)) = 6) := by have := HA.out; unfold Hid; simpa using this
          clear HA
          go_wp2_with fail
          go_roundw
          case rel => exact ⟨k + 1, by go_num, by rw [HA2.out], by omega, hem', trivial⟩
          case measure => simp [intOf]; omega
        · have HA2 : Hid (allE ((xs.map (·.b)).take (k + 1)) = ev) := by have := HA.out; unfold Hid; simpa using this
          clear HA
          go_wp2_with fail
          go_roundw
          case rel => exact ⟨k + 1, by go_num, by rw [HA2.out], by omega, hem', trivial⟩
          case measure => simp [intOf]; omega
    · obtain rfl : k = xs.length := by omega
      have k1 : ¬ (xs.length : Int) < (xs.length : Int) := by omega
      have HF := Lib.hid (hd_none (xs.map (·.b)) (fun i c hc => hem.out i c (by have := (List.getElem?_eq_some_iff.1 hc).1; simpa using this) hc))
      have e1 : Hid (FP = -1) := by have := HP.out; have h2 := HF.out.1; unfold firstP at this; rw [h2] at this; exact this
      have e2 : Hid (FE = allE ((xs.map (·.b)).take xs.length)) := by
        have := HE.out; have h2 := HF.out.1; unfold firstE at this; rw [h2] at this
        rw [List.take_of_length_le (by simp)]; exact this
      generalize allE (List.take xs.length (xs.map (·.b))) = ev at *
      clear hem HF
      go_wp2_with fail
      go_ret2
      exact ⟨by rw [e1.out, e2.out]; rfl, rfl⟩

/-- a hub and the document's boxes -/
structure Hl (B : Nat) (w : World) (H : Nat) (gs : List Nat) (bs : List BoxS) (xs : List RbS) (AP AR : Option Addr) (cp cr : Nat) : Prop where
  al : Al B w gs bs xs AP AR cp cr
  hb : Blk w H 72 #[.slice AP gs.length cp]
  n8 : gs.length ≤ 8
  lo : B ≤ H
/-- what is below B, and acts, stay -/
structure Hx (B : Nat) (w w' : World) : Prop where
  b : Below B w w'
  k : Kp (fun b => ∃ cs, Blk w b 30 cs) w w'
section
variable {B H cp cr : Nat} {w w' w'' : World} {gs : List Nat} {bs bs' : List BoxS} {xs : List RbS} {AP AR : Option Addr}
theorem Hx.refl (B : Nat) (w : World) : Hx B w w := ⟨Below.refl _ _, Kp.refl _ _⟩
theorem Hx.trans (h : Hx B w w') (k : Hx B w' w'') : Hx B w w'' := ⟨h.b.trans k.b, Kp.trans h.k (k.k.mono fun b ⟨cs, hb⟩ => ⟨cs, h.k.blk hb ⟨cs, hb⟩⟩)⟩
theorem Hx.keep (hB : B ≤ w.heap.size) (h : Below w.heap.size w w') : Hx B w w' := ⟨h.mono hB, Kp.of_below h fun b ⟨cs, hb⟩ => hb.lt⟩
theorem Hx.below (h : Hx B w w') (hB : B ≤ w.heap.size) (k : Below w'.heap.size w' w'') : Hx B w w'' := h.trans (Hx.keep (Nat.le_trans hB h.b.size) k)
theorem Hl.hs (h : Hl B w H gs bs xs AP AR cp cr) : HS B w H gs bs AP cp := ⟨h.al.ps, h.al.rp, h.hb, h.n8⟩
theorem Hl.keep (h : Hl B w H gs bs xs AP AR cp cr) (hb : Below w.heap.size w w') : Hl B w' H gs bs xs AP AR cp cr := ⟨h.al.keep hb, h.hb.keep hb, h.n8, h.lo⟩
theorem Hl.hub (h : Hl B w H gs bs xs AP AR cp cr) (k : HS B w' H gs bs' AP cp) (hc : Hc gs w w') : Hl B w' H gs bs' xs AP AR cp cr ∧ Hx B w w' := by
  refine ⟨⟨⟨k.ps, h.al.lo, k.rp, h.al.rr.kp hc (fun q hq => ⟨(h.al.rr.lt q hq).2, fun g hg => (h.al.rowBox hg).2.1 q hq⟩), fun x hx => (h.al.ok x hx).kp hc (fun q hq => ⟨(h.al.ok x hx).lt q hq, fun g hg => (h.al.rowBox hg).2.2 x hx q hq⟩)⟩, k.hb, h.n8, h.lo⟩, ⟨Kp.low hc (fun b hb => ⟨Nat.lt_of_lt_of_le hb (Nat.le_trans h.lo (Nat.le_of_lt h.hb.lt)), fun g hg => by have := h.al.lo g hg; omega⟩), Kp.mono hc fun b ⟨cs, hb⟩ => ⟨hb.lt, fun g hg => ?_⟩⟩⟩
  obtain ⟨x, hx⟩ := h.al.ps.at_ hg
  exact ⟨chn_ne hx.1 hb, blk_ne hb hx.2 (by decide)⟩
theorem Hl.setR {q : Nat} (h : Hl B w H gs bs xs AP (some ⟨q, 0, none⟩) cp cr) {i : Nat} {x : RbS} (hi : i < xs.length) (hx : RbOk w x) : Hl B (w.setCells q (i * 3) (eRb x)) H gs bs (xs.set i x) AP (some ⟨q, 0, none⟩) cp cr ∧ Hx B w (w.setCells q (i * 3) (eRb x)) := by
  have hK := kp_cells q (i * 3) (eRb x) w
  obtain ⟨csq, hq⟩ := h.al.rr.ty q rfl
  have hlt := h.al.rr.lt q rfl
  refine ⟨⟨h.al.docSet hi hx, hK.blk h.hb ⟨h.hb.lt, blk_ne h.hb hq (by decide)⟩, h.n8, h.lo⟩, ⟨hK.low fun b hb => ⟨by omega, by omega⟩, hK.mono fun b ⟨cs, hb⟩ => ⟨hb.lt, blk_ne hb hq (by decide)⟩⟩⟩
theorem Hl.tot (h : Hl B w H gs bs xs AP AR cp cr) (he : xs.map (·.b) = bs) : totB bs ≤ 1000 := by
  have hl : xs.length ≤ 8 := by have := h.n8; have := h.al.ps.len; rw [← he] at this; simp at this; omega
  have key : ∀ (ys : List RbS), (∀ y ∈ ys, y.b.l.length ≤ 64) → totB (ys.map (·.b)) ≤ 64 * ys.length := by
    intro ys
    induction ys with
    | nil => intro _; simp [totB]
    | cons y ys ih =>
      intro h
      have h1 := ih (fun z hz => h z (by simp [hz]))
      have h2 := h y (by simp)
      simp [totB] at h1 ⊢
      omega
  have := key xs (fun y hy => by have := (h.al.ok y hy).len; have := (h.al.ok y hy).room; omega)
  rw [he] at this
  omega
end
end Go.Proofs.Ytldpplfkimdaaaa
