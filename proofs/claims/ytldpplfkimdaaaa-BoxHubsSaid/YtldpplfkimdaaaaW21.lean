/- Walks: hubs of boxes: Drain; and the document's First. -/
import Derived.Test.YtldpplfkimdaaaaW20
namespace Go.Proofs.Ytldpplfkimdaaaa
open Go.RowKit Go.Conc Go.Lib

/-- the first letter of a hub, its port, and the hub without it -/
def hdB : List BoxS → Option (Nat × Lt)
  | [] => none
  | b :: bs => match b.l with
    | x :: _ => some (0, x)
    | [] => (hdB bs).map fun p => (p.1 + 1, p.2)
def nxtB : List BoxS → List BoxS
  | [] => []
  | b :: bs => match b.l with
    | _ :: l => ⟨l, b.room, b.shut⟩ :: bs
    | [] => b :: nxtB bs
theorem hd_of_first : ∀ (bs : List BoxS) (p : Nat) (x : Lt) (b : BoxS), FirstAt bs p x b → hdB bs = some (p, x) ∧ nxtB bs = bs.set p b
  | [], p, x, b, h => by have := h.1; simp at this
  | c :: bs, p, x, b, ⟨h1, h2⟩ => by
    obtain ⟨l, room, sh⟩ := c
    cases p with
    | zero =>
      simp at h1
      obtain ⟨rfl, rfl, rfl⟩ := h1
      exact ⟨rfl, rfl⟩
    | succ p =>
      have h3 := h2 0 ⟨l, room, sh⟩ (by omega) rfl
      simp only at h3
      subst h3
      have ih := hd_of_first bs p x b ⟨by simpa using h1, fun i c hi hc => h2 (i + 1) c (by omega) (by simpa using hc)⟩
      simp [hdB, nxtB, ih.1, ih.2]
theorem hd_none : ∀ (bs : List BoxS), (∀ (i : Nat) (c : BoxS), bs[i]? = some c → c.l = []) → hdB bs = none ∧ nxtB bs = bs
  | [], _ => ⟨rfl, rfl⟩
  | c :: bs, h => by
    obtain ⟨l, room, sh⟩ := c
    have h3 := h 0 ⟨l, room, sh⟩ rfl
    simp only at h3
    subst h3
    have ih := hd_none bs (fun i c hc => h (i + 1) c (by simpa using hc))
    simp [hdB, nxtB, ih.1, ih.2]
/-- how many letters a hub has -/
def totB (bs : List BoxS) : Nat := (bs.map (·.l.length)).sum
theorem tot_nxt : ∀ (bs : List BoxS) (p : Nat) (x : Lt), hdB bs = some (p, x) → totB (nxtB bs) + 1 = totB bs
  | [], p, x, h => by simp [hdB] at h
  | b :: bs, p, x, h => by
    obtain ⟨l, room, sh⟩ := b
    cases l with
    | cons y l => simp [nxtB, totB]; omega
    | nil =>
      simp only [hdB] at h
      cases h4 : hdB bs with
      | none => rw [h4] at h; cases h
      | some q =>
        have ih := tot_nxt bs q.1 q.2 h4
        simp [nxtB, totB] at ih ⊢
        omega
/-- n letters taken -/
def nthB (bs : List BoxS) : Nat → List BoxS
  | 0 => bs
  | n + 1 => nxtB (nthB bs n)
def eLb (x : Lt) : List Value := [.int .i64 x.from_, .int .u64 x.word]
theorem eLb_ok : EncOk eLb 2 := ⟨fun _ => rfl, fun x u hu => by simp [eLb] at hu; rcases hu with rfl | rfl <;> rfl⟩
theorem elemLb : Elem Try.prog 73 32 2 16 := elem_mk Try.underlying73 (z := .agg #[.int .i64 0, .int .u64 0]) (by kernel_rfl) rfl (by omega)
/-- what a Drain has taken -/
structure Dr (bs : List BoxS) (got : List Lt) : Prop where
  h : ∀ (k : Nat) (x : Lt), got[k]? = some x → ∃ p, hdB (nthB bs k) = some (p, x)
  t : totB (nthB bs got.length) + got.length = totB bs
theorem Dr.nil (bs : List BoxS) : Dr bs [] := ⟨fun k x h => by simp at h, rfl⟩
theorem Dr.snoc {bs : List BoxS} {got : List Lt} {p : Nat} {x : Lt} (h : Dr bs got) (hx : hdB (nthB bs got.length) = some (p, x)) : Dr bs (got ++ [x]) := by
  refine ⟨fun k y hk => ?_, ?_⟩
  · by_cases hlt : k < got.length
    · rw [List.getElem?_append_left hlt] at hk
      exact h.h k y hk
    · rw [List.getElem?_append_right (by omega)] at hk
      have h1 := (List.getElem?_eq_some_iff.1 hk)
      simp at h1
      obtain rfl : k = got.length := by omega
      exact ⟨p, by rw [hx, h1.2]⟩
  · have := tot_nxt _ _ _ hx
    have := h.t
    simp [nthB]
    omega

/-- a row of letters beside a hub's call -/
theorem hS_far {B B2 H cp c : Nat} {w w' : World} {gs : List Nat} {bs : List BoxS} {AP A : Option Addr} {got : List Lt} (h : HS B w H gs bs AP cp) (hO : Own eLb 2 w B2 32 A c got) (hH : Hc gs w w') : Own eLb 2 w' B2 32 A c got := by
  refine hO.kp hH (fun q hq => ⟨(hO.lt q hq).2, fun g hg => ?_⟩)
  obtain ⟨cs, hb⟩ := hO.ty q hq
  obtain ⟨b, hx⟩ := h.ps.at_ hg
  exact ⟨chn_ne hx.1 hb, blk_ne hb hx.2 (by decide)⟩
/-- a hub beside an append to a row of letters -/
theorem hrow_grow {B B2 H cp c : Nat} {w w' : World} {gs : List Nat} {bs : List BoxS} {AP A : Option Addr} {got : List Lt} {o : Obj} (h : HS B w H gs bs AP cp) (hO : Own eLb 2 w B2 32 A c got) (hg : (w.alloc o).grownBy w' (blk A)) : HS B w' H gs bs AP cp ∧ Kp (fun b => b < w.heap.size ∧ blk A ≠ some b) w w' := by
  have hK : Kp (fun b => b < w.heap.size ∧ blk A ≠ some b) w w' := Kp.trans (Kp.of_below (below1 w o) fun b hb => hb.1) (Kp.grown hg fun b hb => ⟨Nat.lt_of_lt_of_le hb.1 (below1 w o).size, fun e => hb.2 e.symm⟩)
  have nA : ∀ {q t cs}, Blk w q t cs → t ≠ 32 → blk A ≠ some q := fun hb ht e => by
    obtain ⟨cs', hb'⟩ := hO.ty _ e
    exact blk_ne hb hb' ht rfl
  refine ⟨h.kp hK (fun g hg => ?_) (fun q hq => ⟨(h.rp.lt q hq).2, ?_⟩) ⟨h.hb.lt, nA h.hb (by decide)⟩, hK⟩
  · obtain ⟨b, hx⟩ := h.ps.at_ hg
    refine ⟨⟨hx.1.lt, fun e => ?_⟩, ⟨hx.2.lt, nA hx.2 (by decide)⟩⟩
    obtain ⟨cs', hb'⟩ := hO.ty _ e
    exact chn_ne hx.1 hb' rfl
  · obtain ⟨cs, hb⟩ := h.rp.ty q hq
    exact nA hb (by decide)

set_option maxRecDepth 100000 in
set_option maxHeartbeats 4000000 in
theorem drain_any {B H cp : Nat} {gs : List Nat} {bs : List BoxS} {AP : Option Addr} (w : World) (h : HS B w H gs bs AP cp) (h0 : 0 < gs.length) (most : Int) (ht : totB bs ≤ 1000) :
    Calls Try.prog 27 #[.pointer (some ⟨H, 0, none⟩), .int .i64 most] w fun e w' => ∃ (got : List Lt) (A : Option Addr) (c : Nat), e = .returned (.slice A got.length c) ∧ Own eLb 2 w' w.heap.size 32 A c got ∧ Dr bs got ∧ ((got.length : Int) ≤ most ∨ got = []) ∧ (most ≤ (got.length : Int) ∨ hdB (nthB bs got.length) = none) ∧ HS B w' H gs (nthB bs got.length) AP cp ∧ Hc gs w w' := by
  go_enter Try.func27, Try.ntmps27
  go_wp2_with fail
  go_loopw [5] (fun v5 wr => ∃ (got : List Lt) (A : Option Addr) (c : Nat), v5 = .slice A got.length c ∧ Own eLb 2 wr w.heap.size 32 A c got ∧ Dr bs got ∧ ((got.length : Int) ≤ most ∨ got = []) ∧ HS B wr H gs (nthB bs got.length) AP cp ∧ Hc gs w wr) (fun v5 _ => 1000 - (match v5 with | .slice _ n _ => n | _ => 0))
  case atStart => exact ⟨[], none, 0, rfl, Own.nil _ _ _, Dr.nil _, .inr rfl, h, Hc.refl _⟩
  case round =>
    clear h
    obtain ⟨got, A, c, rfl, hO, hD, hM, hS, hH⟩ := hrel
    have hg : got.length ≤ 1000 := by have := hD.t; omega
    by_cases hlt : (got.length : Int) < most
    · have hT := Lib.hid (htake_any wr hS h0)
      have HK := Lib.hid (And.intro hO (And.intro hD hH))
      have HW0 := Lib.hid hS
      clear hS hO hD hM hH
      go_wp2_with fail
      refine hT.out.mono ?_
      rintro e w2 ⟨he, hH2⟩
      rcases he with ⟨p, x, b, hF, rfl, hS2⟩ | ⟨hno, rfl, hS2⟩
      · obtain ⟨h5, h6⟩ := hd_of_first _ p x b hF
        rw [← h6] at hS2
        have hO2 := hS_far HW0.out HK.out.1 hH2
        have HF := Lib.hid (And.intro (hS2.keep (below1 w2 (Obj.cells #[.int .i64 x.from_, .int .u64 x.word] 32))) (And.intro ((HK.out.2.2.trans hH2).trans (Hc.of_below (below1 w2 (Obj.cells #[.int .i64 x.from_, .int .u64 x.word] 32)))) (HK.out.2.1.snoc h5)))
        have hO3 := hO2.alloc (Obj.cells #[.int .i64 x.from_, .int .u64 x.word] 32)
        have xk := Blk.new w2 32 #[.int .i64 x.from_, .int .u64 x.word]
        have x0 := xk.cell 0 (.int .i64 x.from_) rfl
        have x1 := xk.cell 1 (.int .u64 x.word) rfl
        have hws : w.heap.size ≤ w2.heap.size := Kp.size (HK.out.2.2.trans hH2)
        have HLT : Hid ((got.length : Int) + 1 ≤ most) := by unfold Hid; omega
        clear hO2 hS2 hH2 hF h5 h6 hT xk HK HW0
        go_wp2_with (at_builtin; refine wpList_append_sl _ rfl _ _ rfl elemLb eLb_ok (hO3.alloc _) (n := got.length) rfl rfl (m := 1) rfl (ys := [x]) rfl (Sl.new' eLb_ok _ _ _ rfl _ (by simp)) (by simp only [maxLen]; omega) (by omega) (by simp; omega) _ rfl (got.length + 1) rfl ?_; intro A5 c5 w6 own6 hg6 at6; (have HW := Lib.hid (And.intro own6 (And.intro hg6 at6))); clear own6 hg6 at6)
        go_roundw
        case rel =>
          refine ⟨got ++ [x], A5, c5, by simp, HW.out.1, HF.out.2.2, .inl (by have := HLT.out; simp; omega), ?_, ?_⟩
          · have := hrow_grow HF.out.1 hO3 HW.out.2.1
            simpa [nthB] using this.1
          · refine Kp.trans HF.out.2.1 ((hrow_grow HF.out.1 hO3 HW.out.2.1).2.mono fun b hb => ⟨Nat.lt_of_lt_of_le hb.1 (Kp.size HF.out.2.1), fun e => ?_⟩)
            have := (hO3.lt b e).1
            have := hb.1
            omega
        case measure => have := HF.out.2.2.t; simp at this ⊢; omega
      · have HN := hd_none _ hno
        have hE2 : (allE (nthB bs got.length) != 0) = true := by unfold allE; split <;> rfl
        have hO2 := hS_far HW0.out HK.out.1 hH2
        have HF := Lib.hid (And.intro (hS2.keep (below1 w2 (Obj.cells #[.int .i64 0, .int .u64 0] 32))) (And.intro ((HK.out.2.2.trans hH2).trans (Hc.of_below (below1 w2 (Obj.cells #[.int .i64 0, .int .u64 0] 32)))) (And.intro HK.out.2.1 (And.intro hO2 HN.1))))
        generalize allE (nthB bs got.length) = ev at *
        clear hO2 hS2 hH2 hno hT HK HW0 HN
        go_wp2_with fail
        go_ret
        exact ⟨got, A, c, rfl, HF.out.2.2.2.1.alloc _, HF.out.2.2.1, .inl (by omega), .inr HF.out.2.2.2.2, HF.out.1, HF.out.2.1⟩
    · have HF := Lib.hid (And.intro hO (And.intro hD (And.intro hM (And.intro hS hH))))
      clear hO hD hM hS hH
      go_wp2_with fail
      go_ret
      exact ⟨got, A, c, rfl, HF.out.1, HF.out.2.1, HF.out.2.2.1, .inl (by omega), HF.out.2.2.2.1, HF.out.2.2.2.2⟩
end Go.Proofs.Ytldpplfkimdaaaa
