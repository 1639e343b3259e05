/- Words for the statement UpcallPlays. -/
import Derived.Test.YtciijdajdmcllaaU8
import Derived.Test.YtciijdajdmcllaaW6
namespace Go.Proofs.Ytciijdajdmcllaa
open Go.RowKit Go.Lib

theorem both_new (w w' : World) {g : Nat} (hg : w.heap.size = g) {O : Option Addr} {d : Nat} (hb : Below (w.alloc (Obj.cells #[.slice none 0 0, .int .i64 0, .slice none 0 0, .int .i64 0, .slice none 0 0, .int .i64 0, .slice none 0 0, .int .i64 0, .slice none 0 0, .int .i64 0, .slice none 0 0, .int .i64 0, .slice none 0 0, .int .i64 0, .slice none 0 0, .int .i64 0] 30)).heap.size (w.alloc (Obj.cells #[.slice none 0 0, .int .i64 0, .slice none 0 0, .int .i64 0, .slice none 0 0, .int .i64 0, .slice none 0 0, .int .i64 0, .slice none 0 0, .int .i64 0, .slice none 0 0, .int .i64 0, .slice none 0 0, .int .i64 0, .slice none 0 0, .int .i64 0] 30)) w')
    (hq : Qs w' O d newR) (hO : ∀ b, blk O = some b → g + 1 ≤ b ∧ b < w'.heap.size) : Both w' g O d newR (fun b => b < g) := by
  refine ⟨?_, hq⟩
  refine ⟨List.replicate 8 ⟨none, 0, [], 0⟩, ?_, rfl, fun b hb2 => ?_⟩
  · have h : Rws (w.alloc (Obj.cells #[.slice none 0 0, .int .i64 0, .slice none 0 0, .int .i64 0, .slice none 0 0, .int .i64 0, .slice none 0 0, .int .i64 0, .slice none 0 0, .int .i64 0, .slice none 0 0, .int .i64 0, .slice none 0 0, .int .i64 0, .slice none 0 0, .int .i64 0] 30)) g (List.replicate 8 ⟨none, 0, [], 0⟩) := by
      refine ⟨rfl, Blk.new' w _ _ hg, fun i hi => ?_, fun i j hi hj _ => ?_⟩
      · rw [List.getElem_replicate]; exact Own.nil _ _ _
      · rw [List.getElem_replicate]; exact .inl rfl
    exact h.keep hb
  · have hs := hb.size
    simp at hs
    refine ⟨?_, ?_, fun r hr e => ?_⟩
    · rcases hb2 with h | h | ⟨r, hr, hrl, _⟩
      · omega
      · exact (hO b h).2
      · rw [List.eq_of_mem_replicate hr] at hrl; exact absurd rfl hrl
    · rcases hb2 with h | h | ⟨r, hr, hrl, _⟩
      · omega
      · have := (hO b h).1; omega
      · rw [List.eq_of_mem_replicate hr] at hrl; exact absurd rfl hrl
    · rw [List.eq_of_mem_replicate hr] at e; cases e
theorem Both.box {w : World} {g : Nat} {A : Option Addr} {c : Nat} {R : List RwS} {F : Nat → Prop} (h : Both w g A c R F) (o : Obj) : Both (w.alloc o) g A c R (fun b => F b ∨ b = w.heap.size) := by
  refine ⟨Rf.turn (B := 0) h.p (fun _ => trivial) (below1 w o) (fun b hb => ?_), h.q.keep (below1 w o)⟩
  rcases hb with (h1 | h1) | h1
  · exact .inl (.inl h1)
  · exact .inr (by subst h1; simp)
  · exact .inl (.inr h1)
theorem Both.less {w : World} {g : Nat} {A : Option Addr} {c : Nat} {R : List RwS} {F G : Nat → Prop} (h : Both w g A c R F) (hG : ∀ b, G b → F b) : Both w g A c R G := by
  obtain ⟨⟨R', h1, h2, h3⟩, hq⟩ := h
  exact ⟨⟨R', h1, h2, fun b hb => h3 b (hb.imp (hG b) id)⟩, hq⟩
theorem Half.less {w : World} {g : Nat} {C : List Ct} {A : Option Addr} {c : Nat} {R : List RwS} {F G : Nat → Prop} (h : Half F w g C A c R) (hG : ∀ b, G b → F b) : Half G w g C A c R := by
  obtain ⟨⟨R', h1, h2, h3⟩, hq⟩ := h
  exact ⟨⟨R', h1, h2, fun b hb => h3 b (hb.imp (hG b) id)⟩, hq⟩
/-- the document's row is let go, in its place -/
theorem Both.gone {w : World} {g q : Nat} {c : Nat} {R : List RwS} {F : Nat → Prop} (h : Both w g (some ⟨q, 0, none⟩) c R F) {i : Nat} (hi : i < R.length) : Half F (w.setCell ⟨q, i * 2, none⟩ (.slice none 0 0)) g (R.map ctOf) (some ⟨q, 0, none⟩) c (R.set i ⟨none, 0, [], R[i].lost⟩) := by
  obtain ⟨⟨R', h1, h2, h3⟩, hq⟩ := h
  have hk := only_set (only_refl w q) (i * 2) (.slice none 0 0)
  have hF := h3 q (.inr (.inl rfl))
  have hst := World.ownsRow.stored hq.own (i * 2) (.slice none 0 0)
  have hfs := flat_set1 R i hi none 0 []
  simp only [List.length_nil] at hfs
  rw [hfs] at hst
  refine ⟨⟨R', h1.far hk (by have := hF.2.1; omega) (fun j hj e => hF.2.2 _ (List.getElem_mem hj) e), h2, fun b hb => ?_⟩, ⟨by rw [List.length_set]; exact hq.len, ?_, fun r hr => ?_, fun r hr => ?_⟩⟩
  · have hb' : F b ∨ FB (some ⟨q, 0, none⟩) R b := by
      rcases hb with hb | hb | ⟨r, hr, hrl, hb⟩
      · exact .inl hb
      · exact .inr (.inl hb)
      · rcases List.mem_or_eq_of_mem_set hr with hr | rfl
        · exact .inr (.inr ⟨r, hr, hrl, hb⟩)
        · exact absurd rfl hrl
    have := h3 b hb'
    exact ⟨by simp [World.setCell]; exact this.1, this.2⟩
  · have h5 := hst.1
    unfold Own
    rw [List.length_set]
    exact h5
  · rcases List.mem_or_eq_of_mem_set hr with hr | rfl
    · intro h0
      obtain ⟨b, off, e, hc⟩ := hq.sl r hr h0
      refine ⟨b, off, e, fun j x m u hx hu => ?_⟩
      have h6 := hc j x m u hx hu
      obtain ⟨q', e', s0, _⟩ := hq.at_ hi
      injection e' with e'
      injection e' with e'
      subst e'
      have hne : (⟨q, i * 2, none⟩ : Addr) ≠ ⟨b, off + (j * 3 + m), none⟩ := fun e2 => by
        rw [← e2, s0] at h6
        injection h6 with h6
        subst h6
        match m, hu with
        | 0, hu => simp [eP] at hu
        | 1, hu => simp [eP] at hu
        | 2, hu => simp [eP] at hu
        | n + 3, hu => simp [eP] at hu
      rw [World.cell?_setCell_other _ _ _ _ hne]
      exact h6
    · exact Sl.nil _ _
  · rcases List.mem_or_eq_of_mem_set hr with hr | rfl
    · exact hq.cap r hr
    · exact Nat.le_refl _

theorem kp_low {F : Nat → Prop} {a w : World} {B : Nat} (h : Kp F a w) (hF : ∀ b, b < B → F b) : Below B a w := ⟨h.os, h.tape, h.output, h.size, fun i hi => h.block i (hF i hi)⟩
theorem fit_lens {n : Nat} {R : List RwS} (h : Fit n (R.map ctOf)) : ∀ r ∈ R, r.L.length ≤ 8 := fun r hr => (h.2 (ctOf r) (List.mem_map.2 ⟨r, hr, rfl⟩)).1
theorem Both.of_half {w : World} {g : Nat} {C : List Ct} {A : Option Addr} {c : Nat} {R : List RwS} {F : Nat → Prop} (h : Half F w g C A c R) (hC : R.map ctOf = C) : Both w g A c R F := ⟨by rw [hC]; exact h.p, h.q⟩
theorem Half.next {w w' : World} {g : Nat} {C C' : List Ct} {A : Option Addr} {c : Nat} {R : List RwS} {F : Nat → Prop} (h : Half F w g C A c R) (hp : Rf (fun b => F b ∨ FB A R b) w' g C') (hk : Kp (fun b => F b ∨ FB A R b) w w') : Half F w' g C' A c R := ⟨hp, h.q.kept hk (fun b hb => .inr hb)⟩
theorem pclear_all (F : Nat → Prop) (g : Nat) (i : Nat) (C : List Ct) (w : World) (h : Rf F w g C) (hi : i < 8) (hiC : i < C.length) :
    Calls Try.prog 11 #[.pointer (some ⟨g, 0, none⟩), .int .i64 i] w (RetPF F g (C.set i ⟨[], C[i].lost⟩) C[i].L.length w) := by
  obtain ⟨R, hR, rfl, hF⟩ := h
  have hiR : i < R.length := by simpa using hiC
  rw [List.getElem_map]
  exact clear_row F g i hi R w hR hiR hF
end Go.Proofs.Ytciijdajdmcllaa
