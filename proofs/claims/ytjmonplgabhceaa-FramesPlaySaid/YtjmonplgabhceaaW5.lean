/- Walk over package frames: Bytes. -/
import Derived.Test.YtjmonplgabhceaaW4
import Derived.Lib.SliceRun
namespace Go.Proofs.Ytjmonplgabhceaa
open Go.RowKit

def eB (x : Int) : List Value := [.int .u8 x]
theorem eB_ok : EncOk eB 1 := ⟨fun _ => rfl, fun x u hu => by simp [eB] at hu; subst hu; rfl⟩
theorem info_by : (Try.prog.info? 5).map (fun i => (i.zero, i.size, i.bytes)) = some (some (.int .u8 0), 1, 1) := by kernel_rfl
theorem elB : Elem Try.prog 61 5 1 1 := elem_mk Try.underlying61 info_by rfl (by omega)
/-- a frame's bytes -/
def rowB (s : FrS) (i : Nat) : List Int := (s.B.drop (i * 16)).take 16
theorem rowB_len {s : FrS} (hb : s.B.length = 512) {i : Nat} (hi : i < 32) : (rowB s i).length = 16 := by unfold rowB; simp; omega
theorem Fm.row {w : World} {g : Nat} {s : FrS} (h : Fm w g s) {i : Nat} (hi : i < 32) : Sl eB 1 w (some ⟨g, 33 + i * 16, none⟩) (rowB s i) := fun _ => by
  refine ⟨g, 33 + i * 16, rfl, fun j x m u hx hu => ?_⟩
  have hj : j < 16 := by have := (List.getElem?_eq_some_iff.1 hx).1; rw [rowB_len h.b hi] at this; exact this
  have hm : m = 0 := by
    have := (List.getElem?_eq_some_iff.1 hu).1
    simp [eB] at this
    exact this
  subst hm
  simp [eB] at hu
  subst hu
  have hc := h.cb (m := i * 16 + j) (by omega)
  rw [show 33 + i * 16 + (j * 1 + 0) = 33 + (i * 16 + j) by omega, hc]
  unfold rowB at hx
  rw [List.getElem?_take, if_pos hj, List.getElem?_drop, List.getElem?_eq_getElem (by rw [h.b]; omega)] at hx
  injection hx with hx
  rw [hx]
def RetB (L : List Int) (w : World) (e : Ending) (w' : World) : Prop := ∃ (O : Option Addr) (d : Nat), e = .returned (.slice O L.length d) ∧ Sl eB 1 w' O L ∧ Below w.heap.size w w'
set_option maxHeartbeats 1000000 in
theorem clone_any (q off : Nat) (L : List Int) (c : Nat) (w : World) (hs : Sl eB 1 w (some ⟨q, off, none⟩) L) (hq : q < w.heap.size) (hl : L.length ≤ 1000) :
    Calls Try.prog 24 #[.slice (some ⟨q, off, none⟩) L.length c] w (RetB L w) := by
  have hqq := fun w => Lib.run_eql_slice_nil (P := Try.prog) w 61 5 (some ⟨q, off, none⟩) L.length c 0 0 Try.underlying61
  go_enter Try.func24, Try.ntmps24
  go_wp2_with (at_builtin; refine wpList_append_sl _ rfl _ _ rfl elB eB_ok (Own.empty w 5 (base := w.heap.size) (Nat.le_refl _)) (n := 0) rfl rfl (m := L.length) rfl (ys := L) rfl (hs.alloc _) (by simp only [maxLen]; omega) (by omega) (by simp) _ rfl L.length (by simp) ?_; intro A1 e1 w1 own1 hg1 at1; simp only [List.nil_append] at own1)
  go_ret
  exact ⟨A1, e1, rfl, own1.sl eB_ok, (below1 _ _).grown hg1 (by simp) (fun k hk => by simp [blk] at hk; omega)⟩
set_option maxHeartbeats 1000000 in
theorem bytes_yes (s : FrS) (g k : Nat) (w : World) (h : Fm w g s) (hk : k < s.n) : Calls Try.prog 22 #[.pointer (some ⟨g, 0, none⟩), .int .i64 k] w (RetB (rowB s k) w) := by
  have hn := h.n0
  have hk32 : k < 32 := by omega
  have H := Lib.hid (has_any s g k w h)
  have hh : hasF s k = true := decide_eq_true (by omega)
  rw [hh] at H
  have hlen := rowB_len h.b hk32
  have HC : Hid (Calls Try.prog 24 #[.slice (some ⟨g, 33 + k * 16, none⟩) 16 16] w (RetB (rowB s k) w)) := by
    have := clone_any g (33 + k * 16) (rowB s k) 16 w (h.row hk32) h.at_.lt (by omega)
    rw [hlen] at this
    exact this
  have k0 : (0 : Int) ≤ (k : Int) := by omega
  have k1 : (k : Int) < 32 := by omega
  clear h hh hlen
  go_enter Try.func22, Try.ntmps22
  go_wp2_with fail
  refine H.out.mono ?_
  rintro e w2 ⟨rfl, rfl⟩
  go_wp2_with fail
  refine HC.out.mono ?_
  rintro e w3 ⟨O, d, rfl, hs3, hb3⟩
  go_wp2_with fail
  go_ret
  exact ⟨O, d, rfl, hs3, hb3⟩
end Go.Proofs.Ytjmonplgabhceaa
