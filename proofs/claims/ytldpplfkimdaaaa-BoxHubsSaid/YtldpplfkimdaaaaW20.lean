/- Walks: hubs of boxes: Join. -/
import Derived.Test.YtldpplfkimdaaaaW19
namespace Go.Proofs.Ytldpplfkimdaaaa
open Go.RowKit Go.Conc Go.Lib

/-- may rooms be joined? -/
def jok (rooms : List Int) : Bool := decide (1 ≤ rooms.length) && decide (rooms.length ≤ 8) && rooms.all fun r => decide (1 ≤ r) && decide (r ≤ 64)
def newB (r : Int) : BoxS := ⟨[], r.toNat, false⟩
/-- a box is put behind the others -/
theorem HS.grow {B H cp c5 : Nat} {w w6 : World} {gs : List Nat} {bs : List BoxS} {AP A5 : Option Addr} {g : Nat} {b : BoxS} {o : Obj} (h : HS B w H gs bs AP cp) (hg : g ∉ gs) (hx : Bx w g b) (hH : H < g) (hn : gs.length < 8) (hgr : (w.alloc o).grownBy w6 (blk AP)) (ho : Own ePt 1 w6 B 24 A5 c5 (gs ++ [g])) (hA : ∀ q, blk A5 = some q → q ≠ H) :
    HS B (w6.setCell ⟨H, 0, none⟩ (.slice A5 (gs.length + 1) c5)) H (gs ++ [g]) (bs ++ [b]) A5 c5 := by
  have hK : Kp (fun b => b < w.heap.size ∧ blk AP ≠ some b ∧ b ≠ H) w (w6.setCell ⟨H, 0, none⟩ (.slice A5 (gs.length + 1) c5)) := by
    refine Kp.trans (Kp.of_below (below1 w o) fun b hb => hb.1) (Kp.trans (Kp.grown hgr fun b hb => ⟨?_, fun e => hb.2.1 e.symm⟩) (Kp.grown (only_set (only_refl w6 H) 0 _) fun b hb => ⟨?_, fun e => hb.2.2 (by injection e)⟩))
    · exact Nat.lt_of_lt_of_le hb.1 (below1 w o).size
    · exact Nat.lt_of_lt_of_le hb.1 (Nat.le_trans (below1 w o).size hgr.size)
  have nP : ∀ {q t cs}, Blk w q t cs → t ≠ 24 → blk AP ≠ some q := fun hb ht e => by
    obtain ⟨cs', hb'⟩ := h.rp.ty _ e
    exact blk_ne hb hb' ht rfl
  have nC : ∀ {q b}, Chn w q b → blk AP ≠ some q ∧ q ≠ H := fun hc => ⟨fun e => by
    obtain ⟨cs', hb'⟩ := h.rp.ty _ e
    exact chn_ne hc hb' rfl, fun e => chn_ne hc h.hb e.symm⟩
  have kB : ∀ {q b}, Bx w q b → Bx (w6.setCell ⟨H, 0, none⟩ (.slice A5 (gs.length + 1) c5)) q b := fun hb => hb.kp hK ⟨hb.1.lt, (nC hb.1).1, (nC hb.1).2⟩ ⟨hb.2.lt, nP hb.2 (by decide), blk_ne hb.2 h.hb (by decide)⟩
  have hH6 : Blk w6 H 72 #[.slice AP gs.length cp] := Blk.grown (h.hb.alloc o) hgr (fun e => nP h.hb (by decide) e.symm)
  refine ⟨⟨by simp [h.ps.len], fun i k b' hk hb' => ?_, ?_⟩, ?_, ?_, by simp; omega⟩
  · by_cases hi : i < gs.length
    · rw [List.getElem?_append_left hi] at hk
      rw [List.getElem?_append_left (by rw [← h.ps.len]; exact hi)] at hb'
      exact kB (h.ps.bx i k b' hk hb')
    · rw [List.getElem?_append_right (by omega)] at hk
      rw [List.getElem?_append_right (by rw [← h.ps.len]; omega)] at hb'
      have h1 := (List.getElem?_eq_some_iff.1 hk)
      have h2 := (List.getElem?_eq_some_iff.1 hb')
      simp at h1 h2
      rw [← h1.2, ← h2.2]
      exact kB hx
  · rw [List.nodup_append]
    exact ⟨h.ps.nd, by simp, fun a ha b hb e => by simp at hb; subst hb; exact hg (e ▸ ha)⟩
  · refine ho.kept (only_set (only_refl w6 H) 0 _) ?_
    cases hb : blk A5 with
    | none => exact .inl rfl
    | some q => right; intro e; injection e with e; exact hA q hb e
  · have := hH6.set_ 0 (.slice A5 (gs.length + 1) c5)
    simpa using this

set_option maxRecDepth 100000 in
set_option maxHeartbeats 4000000 in
theorem join_any (A : Option Addr) (rooms : List Int) (cA : Nat) (w : World) (hs : Sl eI 1 w A rooms) (hl : rooms.length ≤ 1000) :
    Calls Try.prog 17 #[.slice A rooms.length cA] w fun e w' => Below w.heap.size w w' ∧
      ((jok rooms = true ∧ e = .returned (.tuple #[.pointer (some ⟨w.heap.size, 0, none⟩), .int .i64 0]) ∧ ∃ gs AP cp, HS w.heap.size w' w.heap.size gs (rooms.map newB) AP cp ∧ gs.length = rooms.length ∧ ∀ g ∈ gs, w.heap.size ≤ g) ∨
       (jok rooms = false ∧ e = .returned (.tuple #[.pointer none, .int .i64 1]))) := by
  by_cases h1 : rooms.length < 1
  · have hj : Hid (jok rooms = false) := by unfold Hid; simp [jok]; omega
    have k1 : (rooms.length : Int) < 1 := by omega
    go_enter Try.func17, Try.ntmps17
    go_wp2_with fail
    go_ret2
    exact ⟨Below.refl _ _, .inr ⟨hj.out, rfl⟩⟩
  · by_cases h8 : 8 < rooms.length
    · have hj : Hid (jok rooms = false) := by unfold Hid; simp [jok]; omega
      have k1 : ¬ (rooms.length : Int) < 1 := by omega
      have k2 : (8 : Int) < (rooms.length : Int) := by omega
      go_enter Try.func17, Try.ntmps17
      go_wp2_with fail
      go_ret2
      exact ⟨Below.refl _ _, .inr ⟨hj.out, rfl⟩⟩
    · have k1 : ¬ (rooms.length : Int) < 1 := by omega
      have k2 : ¬ (8 : Int) < (rooms.length : Int) := by omega
      have b0 := Blk.new w 72 #[.slice none 0 0]
      have hB0 := below1 w (Obj.cells #[.slice none 0 0] 72)
      go_enter Try.func17, Try.ntmps17
      go_wp2_with fail
      generalize w.alloc (Obj.cells #[.slice none 0 0] 72) = w0 at *
      go_loopw [21] (fun v21 wr => ∃ (k : Nat) (gs : List Nat) (AP : Option Addr) (cp : Nat), v21 = .int .i64 k ∧ k ≤ rooms.length ∧ Hid (gs.length = k) ∧ HS w.heap.size wr w.heap.size gs ((rooms.take k).map newB) AP cp ∧ Hid (∀ g ∈ gs, w.heap.size ≤ g) ∧ Hid (∀ r ∈ rooms.take k, 1 ≤ r ∧ r ≤ 64) ∧ Below w.heap.size w wr) (fun v21 _ => rooms.length - (intOf v21).toNat)
      case atStart => exact ⟨0, [], none, 0, rfl, Nat.zero_le _, rfl, ⟨⟨rfl, fun i g b h => by simp at h, by simp⟩, Own.nil _ _ _, b0, by simp⟩, by unfold Hid; simp, by unfold Hid; simp, hB0⟩
      case round =>
        clear b0 hB0
        obtain ⟨k, gs, AP, cp, rfl, hk, hgl, hS, hlo, hrs, hB⟩ := hrel
        by_cases hlt : k < rooms.length
        · obtain ⟨b, off, rfl, c0⟩ := (hs.keep hB).int_at hlt
          have j0 : (0 : Int) ≤ (k : Int) := by omega
          have j1 : (k : Int) < (rooms.length : Int) := by omega
          have HR := Lib.hid (show rooms.take (k + 1) = rooms.take k ++ [rooms[k]] by rw [List.take_add_one]; simp [hlt])
          have hmem := Lib.hid (List.getElem_mem hlt)
          generalize rooms[k] = r at *
          by_cases hr : 1 ≤ r ∧ r ≤ 64
          · obtain ⟨n, rfl⟩ := Int.eq_ofNat_of_zero_le (by omega : 0 ≤ r)
            have n1 : 1 ≤ n := by omega
            have n2 : n ≤ 64 := by omega
            have hN := Lib.hid (new_yes n wr n1 n2)
            go_wp2_with fail
            refine hN.out.mono ?_
            rintro e w2 ⟨rfl, hx, hb⟩
            have hnew : wr.heap.size ∉ gs := fun hm => by
              obtain ⟨b', hb'⟩ := hS.ps.at_ hm
              have := hb'.1.lt
              omega
            have hHg : w.heap.size < wr.heap.size := hS.hb.lt
            have hS2 := hS.keep hb
            have hB2 := bstep hB (Nat.le_refl _) hb
            clear hS hB hb hN c0
            generalize wr.heap.size = g at *
            have c0 := hS2.hb.cell 0 (.slice AP gs.length cp) rfl
            have hg8 : gs.length ≤ 7 := by have := hgl.out; omega
            have HS2 := Lib.hid (And.intro hS2 (And.intro hB2 hx))
            have hrp := hS2.rp
            clear hS2 hB2 hx
            go_wp2_with (at_builtin; refine wpList_append_sl _ rfl _ _ rfl elemPt ePt_ok (hrp.alloc _) (n := gs.length) rfl rfl (m := 1) rfl (ys := [g]) rfl (Sl.new ePt_ok w2 _ _ rfl _) (by simp only [maxLen]; omega) (by omega) (by have := HS2.out.2.1.size; simp; omega) _ rfl (gs.length + 1) rfl ?_; intro A5 c5 w6 own6 hg6 at6; (have hbH : Blk w6 w.heap.size 72 #[.slice AP gs.length cp] := Blk.grown (HS2.out.1.hb.alloc _) hg6 (fun e => by obtain ⟨cs', hb'⟩ := HS2.out.1.rp.ty _ e.symm; exact blk_ne HS2.out.1.hb hb' (by decide) rfl)); (have f0 := hbH.frozen 0); (have d0 := hbH.cell 0 (.slice AP gs.length cp) rfl); (have hl6 := hbH.lt); (have HW := Lib.hid (And.intro own6 (And.intro hg6 at6))); clear own6 hg6 at6 hbH)
            go_roundw
            case rel =>
              have hA5 : ∀ q, blk A5 = some q → q ≠ w.heap.size := fun q hq => by
                rcases HW.out.2.2 with h5 | h5
                · obtain ⟨cs', hb'⟩ := HS2.out.1.rp.ty q (h5 ▸ hq)
                  exact blk_ne hb' HS2.out.1.hb (by decide)
                · rw [h5] at hq
                  injection hq with hq
                  have := HS2.out.1.hb.lt
                  rw [← hq]
                  simp
                  omega
              have hS9 := HS2.out.1.grow hnew HS2.out.2.2 hHg (by omega) HW.out.2.1 HW.out.1 hA5
              refine ⟨k + 1, gs ++ [g], A5, c5, by go_num, by omega, ?_, ?_, ?_, ?_, ?_⟩
              · have := hgl.out; unfold Hid; simp [this]
              · rw [HR.out, List.map_append]; exact hS9
              · intro x hx
                simp at hx
                rcases hx with hx | rfl
                · exact hlo.out x hx
                · omega
              · intro x hx
                rw [HR.out] at hx
                simp at hx
                rcases hx with hx | rfl
                · exact hrs.out x hx
                · exact hr
              · have hB6 := HS2.out.2.1.trans (((below1 w2 (Obj.cells #[.pointer (some ⟨g + 1, 0, none⟩)] 24)).mono HS2.out.2.1.size))
                have hB7 : Below w.heap.size w w6 := bgrow hB6 HW.out.2.1 (fun q hq => (HS2.out.1.rp.lt q hq).1)
                exact hB7.setCell (p := ⟨w.heap.size, 0, none⟩) (Nat.le_refl _) _
            case measure => simp [intOf]; omega
          · have hr2 : r < 1 ∨ 64 < r := by omega
            have hN := Lib.hid (new_no r wr hr2)
            have hj : Hid (jok rooms = false) := by
              unfold Hid
              rw [Bool.eq_false_iff]
              intro h
              simp only [jok, Bool.and_eq_true, List.all_eq_true, decide_eq_true_eq] at h
              exact hr (h.2 r hmem.out)
            clear hr hr2
            go_wp2_with fail
            refine hN.out.mono ?_
            rintro e w2 ⟨rfl, rfl⟩
            go_wp2_with fail
            go_ret2
            exact ⟨hB, .inr ⟨hj.out, rfl⟩⟩
        · obtain rfl : k = rooms.length := by omega
          have j1 : ¬ (rooms.length : Int) < (rooms.length : Int) := by omega
          have hj : Hid (jok rooms = true) := by
            unfold Hid
            simp only [jok, Bool.and_eq_true, List.all_eq_true, decide_eq_true_eq]
            have := hrs.out
            rw [List.take_length] at this
            exact ⟨⟨by omega, by omega⟩, this⟩
          rw [List.take_length] at hS
          have HF := Lib.hid (And.intro hS (And.intro hgl hlo))
          clear hS hgl hlo hrs hlt hk
          go_wp2_with fail
          go_ret2
          exact ⟨hB, .inl ⟨hj.out, rfl, gs, ⟨AP, cp, HF.out.1⟩, HF.out.2.1.out, HF.out.2.2.out⟩⟩
end Go.Proofs.Ytldpplfkimdaaaa
