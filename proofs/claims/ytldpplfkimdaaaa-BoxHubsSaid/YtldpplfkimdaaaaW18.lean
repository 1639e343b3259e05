/- Walks: hubs of boxes: Box, Put, Take. -/
import Derived.Test.YtldpplfkimdaaaaW17
namespace Go.Proofs.Ytldpplfkimdaaaa
open Go.RowKit Go.Conc Go.Lib

/-- a hub in block H, its row of boxes, and the boxes -/
structure HS (B : Nat) (w : World) (H : Nat) (gs : List Nat) (bs : List BoxS) (AP : Option Addr) (cp : Nat) : Prop where
  ps : PS w gs bs
  rp : Own ePt 1 w B 24 AP cp gs
  hb : Blk w H 72 #[.slice AP gs.length cp]
  n8 : gs.length ≤ 8
/-- only blocks of boxes, and new ones, have turned -/
def Hc (gs : List Nat) (w w' : World) : Prop := Kp (fun b => b < w.heap.size ∧ ∀ g ∈ gs, b ≠ g ∧ b ≠ g + 1) w w'
section
variable {B H cp : Nat} {w w' w'' : World} {gs : List Nat} {bs : List BoxS} {AP : Option Addr}
theorem Hc.refl (w : World) : Hc gs w w := Kp.refl _ _
theorem Hc.trans (h : Hc gs w w') (k : Hc gs w' w'') : Hc gs w w'' := Kp.trans h (Kp.mono k fun _ hb => ⟨Nat.lt_of_lt_of_le hb.1 (Kp.size h), hb.2⟩)
theorem Hc.of_below (h : Below w.heap.size w w') : Hc gs w w' := Kp.of_below h (fun _ hb => hb.1)
theorem Hc.of_ch {g : Nat} (h : Ch w w' g) (hg : g ∈ gs) : Hc gs w w' := ⟨h.os, h.tape, h.output, h.size, fun i hi => h.block i hi.1 (hi.2 g hg).1 (hi.2 g hg).2⟩
theorem HS.keep (h : HS B w H gs bs AP cp) (hb : Below w.heap.size w w') : HS B w' H gs bs AP cp :=
  ⟨⟨h.ps.len, fun i g b hg hb' => (h.ps.bx i g b hg hb').keep hb, h.ps.nd⟩, h.rp.keep hb, h.hb.keep hb, h.n8⟩
theorem HS.apart (h : HS B w H gs bs AP cp) {g : Nat} (hg : g ∈ gs) : (∀ q, blk AP = some q → q ≠ g ∧ q ≠ g + 1) ∧ H ≠ g ∧ H ≠ g + 1 := by
  obtain ⟨b, hb⟩ := h.ps.at_ hg
  refine ⟨fun q hq => ?_, chn_ne hb.1 h.hb, blk_ne h.hb hb.2 (by decide)⟩
  obtain ⟨cs, h1⟩ := h.rp.ty q hq
  exact ⟨chn_ne hb.1 h1, blk_ne h1 hb.2 (by decide)⟩
theorem HS.turn (h : HS B w H gs bs AP cp) {i g : Nat} {b : BoxS} (hi : gs[i]? = some g) (hC : Ch w w' g) (hb : Bx w' g b) : HS B w' H gs (bs.set i b) AP cp := by
  have hg := List.mem_of_getElem? hi
  obtain ⟨r1, r2, r3⟩ := h.apart hg
  have hK : Kp (fun q => q < w.heap.size ∧ q ≠ g ∧ q ≠ g + 1) w w' := ⟨hC.os, hC.tape, hC.output, hC.size, fun i hi => hC.block i hi.1 hi.2.1 hi.2.2⟩
  exact ⟨h.ps.turn hi (hK.mono fun q hq => ⟨hq.1, hq.2.1, hq.2.2.1⟩) hb, h.rp.kp hK (fun q hq => ⟨(h.rp.lt q hq).2, r1 q hq⟩), hK.blk h.hb ⟨h.hb.lt, r2, r3⟩, h.n8⟩
/-- a pointer of the row -/
theorem HS.ptr {P : Nat} (h : HS B w H gs bs (some ⟨P, 0, none⟩) cp) {i g : Nat} (hi : gs[i]? = some g) : w.cell? ⟨P, i, none⟩ = some (.pointer (some ⟨g + 1, 0, none⟩)) := by
  have hl := (List.getElem?_eq_some_iff.1 hi)
  have := own_cell ePt_ok h.rp hl.1 (j := 0) (v := .pointer (some ⟨g + 1, 0, none⟩)) (by rw [hl.2]; rfl)
  simpa using this
theorem HS.row (h : HS B w H gs bs AP cp) (h0 : 0 < gs.length) : ∃ P, AP = some ⟨P, 0, none⟩ := by
  rcases h.rp.shape with ⟨_, h1, _⟩ | h1
  · rw [h1] at h0; simp at h0
  · exact h1
end

set_option maxHeartbeats 1000000 in
theorem hbox_in {B H cp : Nat} {gs : List Nat} {bs : List BoxS} {AP : Option Addr} (w : World) (h : HS B w H gs bs AP cp) (p g : Nat) (hi : gs[p]? = some g) :
    Calls Try.prog 18 #[.pointer (some ⟨H, 0, none⟩), .int .i64 p] w fun e w' => e = .returned (.pointer (some ⟨g + 1, 0, none⟩)) ∧ w = w' := by
  have hl := (List.getElem?_eq_some_iff.1 hi).1
  have h8 := h.n8
  obtain ⟨P, rfl⟩ := h.row (by omega)
  have c0 := h.hb.cell 0 (.slice (some ⟨P, 0, none⟩) gs.length cp) rfl
  have cP := h.ptr hi
  have k0 : (0 : Int) ≤ (p : Int) := by omega
  have k1 : (p : Int) < (gs.length : Int) := by omega
  clear h
  go_enter Try.func18, Try.ntmps18
  go_wp2_with fail
  go_ret
  exact ⟨rfl, rfl⟩
set_option maxHeartbeats 1000000 in
theorem hbox_out {B H cp : Nat} {gs : List Nat} {bs : List BoxS} {AP : Option Addr} (w : World) (h : HS B w H gs bs AP cp) (k : Int) (hk : k < 0 ∨ (gs.length : Int) ≤ k) :
    Calls Try.prog 18 #[.pointer (some ⟨H, 0, none⟩), .int .i64 k] w fun e w' => e = .returned (.pointer none) ∧ w = w' := by
  have c0 := h.hb.cell 0 (.slice AP gs.length cp) rfl
  clear h
  by_cases h0 : k < 0
  · clear hk
    go_enter Try.func18, Try.ntmps18
    go_wp2_with fail
    go_ret
    exact ⟨rfl, rfl⟩
  · have h1 : (gs.length : Int) ≤ k := by omega
    clear hk
    go_enter Try.func18, Try.ntmps18
    go_wp2_with fail
    go_ret
    exact ⟨rfl, rfl⟩
set_option maxHeartbeats 1000000 in
theorem hput_in {B H cp : Nat} {gs : List Nat} {bs : List BoxS} {AP : Option Addr} (w : World) (h : HS B w H gs bs AP cp) (p g : Nat) (b : BoxS) (x : Lt) (hi : gs[p]? = some g) (hb : bs[p]? = some b) :
    Calls Try.prog 24 #[.pointer (some ⟨H, 0, none⟩), .int .i64 p, .agg #[.int .i64 x.from_, .int .u64 x.word]] w fun e w' => e = .returned (.int .i64 (putE b)) ∧ HS B w' H gs (bs.set p (putB b x)) AP cp ∧ Hc gs w w' := by
  have h1 := h.keep (below1 w (Obj.cells #[.int .i64 x.from_, .int .u64 x.word] 32))
  have hB := Lib.hid (hbox_in _ h1 p g hi)
  have hP := Lib.hid (put_any b x g _ (h1.ps.bx p g b hi hb))
  have H1 := Lib.hid h1
  clear h h1
  go_enter Try.func24, Try.ntmps24
  go_wp2_with fail
  refine hB.out.mono ?_
  rintro e w1 ⟨rfl, rfl⟩
  go_wp2_with fail
  refine hP.out.mono ?_
  rintro e w2 ⟨rfl, hb2, hc2⟩
  go_wp2_with fail
  go_ret
  exact ⟨rfl, H1.out.turn hi hc2 hb2, (Hc.of_below (below1 _ _)).trans (Hc.of_ch hc2 (List.mem_of_getElem? hi))⟩
set_option maxHeartbeats 1000000 in
theorem hput_out {B H cp : Nat} {gs : List Nat} {bs : List BoxS} {AP : Option Addr} (w : World) (h : HS B w H gs bs AP cp) (k : Int) (x : Lt) (hk : k < 0 ∨ (gs.length : Int) ≤ k) :
    Calls Try.prog 24 #[.pointer (some ⟨H, 0, none⟩), .int .i64 k, .agg #[.int .i64 x.from_, .int .u64 x.word]] w fun e w' => e = .returned (.int .i64 1) ∧ Below w.heap.size w w' := by
  have h1 := h.keep (below1 w (Obj.cells #[.int .i64 x.from_, .int .u64 x.word] 32))
  have hB := Lib.hid (hbox_out _ h1 k hk)
  clear h h1 hk
  go_enter Try.func24, Try.ntmps24
  go_wp2_with fail
  refine hB.out.mono ?_
  rintro e w1 ⟨rfl, rfl⟩
  go_wp2_with fail
  go_ret
  exact ⟨rfl, below1 _ _⟩
end Go.Proofs.Ytldpplfkimdaaaa
