/- Walks: Look. -/
import Derived.Test.YtfaddnedlloaiaaW4
namespace Go.Proofs.Ytfaddnedlloaiaa
open Go.RowKit Go.Lib

def RetLk (g : Nat) (v r : Int) (L : List En) (h m : Int) (w : World) (e : Ending) (w' : World) : Prop := ∃ (A : Option Addr) (c : Nat), e = .returned (.tuple #[.int .i64 v, .int .i64 r]) ∧ Tb w' g A c L h m ∧ Below g w w'

theorem Tb.low {w : World} {g : Nat} {A : Option Addr} {c : Nat} {L : List En} {h m : Int} (t : Tb w g A c L h m) (i : Nat) (u : Value) {h' m' : Int} (hb : Blk (w.setCell ⟨g, i, none⟩ u) g 30 #[.slice A L.length c, .int .i64 h', .int .i64 m']) : Tb (w.setCell ⟨g, i, none⟩ u) g A c L h' m' := by
  refine ⟨hb, t.2.kept (only_set (only_refl w g) i u) ?_⟩
  cases e : Go.Proofs.Ytfaddnedlloaiaa.blk A with
  | none => exact .inl rfl
  | some q => exact .inr (fun e2 => by injection e2 with e2; have := (t.2.lt q e).1; omega)
theorem below_at {w : World} {g : Nat} (i : Nat) (u : Value) : Below g w (w.setCell ⟨g, i, none⟩ u) := ⟨rfl, rfl, rfl, by simp [World.setCell], fun k hk => Below.heap_setCell w ⟨g, i, none⟩ u k (by simp; omega)⟩

set_option maxHeartbeats 1000000 in
theorem look_no (a p : Int) (wr : Bool) (g : Nat) (A : Option Addr) (c : Nat) (L : List En) (h m : Int) (w : World) (ht : Tb w g A c L h m) (hl : L.length ≤ 100) (hf : fi L a p = none) (hm0 : 0 ≤ m) (hm1 : m ≤ 1000) :
    Calls Try.prog 8 #[.pointer (some ⟨g, 0, none⟩), .int .i64 a, .int .i64 p, .bool wr] w (RetLk g 0 29 L h (m + 1) w) := by
  have HP := Lib.hid (place_any g A c L h m a p w ht (by omega))
  have hp : plc L a p = -1 := by unfold plc; rw [hf]
  rw [hp] at HP
  clear hf hp
  go_enter Try.func8, Try.ntmps8
  go_wp2_with fail
  refine HP.out.mono ?_
  rintro e w2 ⟨rfl, hb⟩
  have hgw : g < w.heap.size := ht.1.lt
  replace ht := ht.keep hb
  have c2 := ht.1.cell 2 (.int .i64 m) rfl
  have f2 := ht.1.frozen 2
  have HT := Lib.hid (ht.low 2 (.int .i64 (m + 1)) (ht.1.set_ 2 _))
  clear ht HP
  go_wp2_with fail
  go_ret2
  exact ⟨A, c, rfl, HT.out, (hb.mono (by omega)).trans (below_at 2 _)⟩

set_option maxHeartbeats 1000000 in
theorem look_cap (a p : Int) (g : Nat) (A : Option Addr) (c : Nat) (L : List En) (h m : Int) (i : Nat) (x : En) (w : World) (ht : Tb w g A c L h m) (hl : L.length ≤ 100) (hf : fi L a p = some i) (hx : L[i]? = some x) (hw : x.write = false) :
    Calls Try.prog 8 #[.pointer (some ⟨g, 0, none⟩), .int .i64 a, .int .i64 p, .bool true] w (RetLk g 0 23 L h m w) := by
  have HP := Lib.hid (place_any g A c L h m a p w ht (by omega))
  have hp : plc L a p = i := by unfold plc; rw [hf]
  rw [hp] at HP
  clear hf hp
  obtain ⟨hi, rfl⟩ := List.getElem?_eq_some_iff.1 hx
  rcases ht.2.shape with ⟨rfl, rfl, rfl⟩ | ⟨q, rfl⟩
  · exact absurd hi (by simp)
  have hi0 : (0 : Int) ≤ (i : Int) := by omega
  have hi1 : (i : Int) < (L.length : Int) := by omega
  go_enter Try.func8, Try.ntmps8
  go_wp2_with fail
  refine HP.out.mono ?_
  rintro e w2 ⟨rfl, hb⟩
  have hgw : g < w.heap.size := ht.1.lt
  replace ht := ht.keep hb
  have c0 := ht.1.cell 0 (.slice (some ⟨q, 0, none⟩) L.length c) rfl
  have y3 := (own_en ht.2 hi).2.2.2
  rw [hw] at y3
  have HT := Lib.hid ht
  clear ht HP hx
  go_wp2_with fail
  go_ret2
  exact ⟨_, c, rfl, HT.out, hb.mono (by omega)⟩

set_option maxRecDepth 100000 in
set_option maxHeartbeats 4000000 in
theorem look_yes (a p : Int) (wr : Bool) (g : Nat) (A : Option Addr) (c : Nat) (L : List En) (h m : Int) (i : Nat) (x : En) (w : World) (ht : Tb w g A c L h m) (hl : L.length ≤ 100) (hf : fi L a p = some i) (hx : L[i]? = some x) (hw : wr = true → x.write = true) (hm0 : 0 ≤ h) (hm1 : h ≤ 1000) :
    Calls Try.prog 8 #[.pointer (some ⟨g, 0, none⟩), .int .i64 a, .int .i64 p, .bool wr] w (RetLk g x.frame 0 (L.eraseIdx i ++ [x]) (h + 1) m w) := by
  have HP := Lib.hid (place_any g A c L h m a p w ht (by omega))
  have hp : plc L a p = i := by unfold plc; rw [hf]
  rw [hp] at HP
  clear hf hp
  obtain ⟨hi, hxi⟩ := List.getElem?_eq_some_iff.1 hx
  clear hx
  have HL3 := Lib.hid ht.own_lt
  rcases ht.2.shape with ⟨rfl, rfl, rfl⟩ | ⟨q, rfl⟩
  · exact absurd hi (by simp)
  have hi0 : (0 : Int) ≤ (i : Int) := by omega
  have hi1 : (i : Int) < (L.length : Int) := by omega
  have hgw : g < w.heap.size := ht.1.lt
  obtain ⟨hq1, hq2⟩ := HL3.out q rfl
  have HRM := Lib.hid (fun W hW => rm_any g (some ⟨q, 0, none⟩) c L (h + 1) m i W hW (by omega) hi)
  rw [hxi] at HRM
  have hle : (L.eraseIdx i).length ≤ 100 := Nat.le_trans (List.length_eraseIdx_le _ _) hl
  go_enter Try.func8, Try.ntmps8
  go_wp2_with fail
  refine HP.out.mono ?_
  rintro e w2 ⟨rfl, hb⟩
  replace ht := ht.keep hb
  have c0 := ht.1.cell 0 (.slice (some ⟨q, 0, none⟩) L.length c) rfl
  have c1 := ht.1.cell 1 (.int .i64 h) rfl
  have f1 := ht.1.frozen 1
  have y3 := (own_en ht.2 hi).2.2.2
  rw [hxi] at y3
  have HT := Lib.hid (ht.low 1 (.int .i64 (h + 1)) (ht.1.set_ 1 _))
  clear ht HP hxi
  have HB2 := Lib.hid hb
  have hz2 := hb.size
  clear hb
  have HXW : Hid (wr = true → x.write = true) := hw
  clear hw
  cases wr
  all_goals
    first | (have hxw := HXW.out rfl; rw [hxw] at y3; clear hxw) | skip
    clear HXW
    go_wp2_with fail
    refine (HRM.out _ HT.out).mono ?_
    rintro e w3 ⟨rfl, t3, hw3⟩
    clear HRM HT c0 c1 f1 y3
    have hg3 : g < w3.heap.size := t3.1.lt
    have hz3 : w2.heap.size ≤ w3.heap.size := Nat.le_trans (by simp [World.setCell]) hw3.size
    have HW3 : Hid (Tw w2 w3 g (blk (some ⟨q, 0, none⟩))) := ((Tw.refl w2 g _).set_ 1 _).trans hw3
    clear hw3
    have r11 := Blk.new w3 31 #[.int .i64 x.env, .int .i64 x.page, .int .i64 x.frame, .bool x.write]
    have hb3 := below1 w3 (Obj.cells #[.int .i64 x.env, .int .i64 x.page, .int .i64 x.frame, .bool x.write] 31)
    generalize hLL : L.eraseIdx i = L1 at *
    clear hLL hi hi1
    go_upto_region 11 with (fail)
    have HW4 : Hid (Tw w2 (w3.alloc (Obj.cells #[.int .i64 x.env, .int .i64 x.page, .int .i64 x.frame, .bool x.write] 31)) g (blk (some ⟨q, 0, none⟩))) := HW3.out.trans (Tw.of_below hb3)
    have t4 := t3.keep hb3
    have hb11 : w3.heap.size < (w3.alloc (Obj.cells #[.int .i64 x.env, .int .i64 x.page, .int .i64 x.frame, .bool x.write] 31)).heap.size := r11.lt
    clear hb3 t3 HW3
    generalize w3.heap.size = b11 at *
    generalize w3.alloc (Obj.cells #[.int .i64 x.env, .int .i64 x.page, .int .i64 x.frame, .bool x.write] 31) = wc at *
    have c0 := t4.1.cell 0 (.slice (some ⟨q, 0, none⟩) L1.length c) rfl
    have x0 := r11.cell 0 (.int .i64 x.env) rfl
    have x1 := r11.cell 1 (.int .i64 x.page) rfl
    have x2 := r11.cell 2 (.int .i64 x.frame) rfl
    have x3 := r11.cell 3 (.bool x.write) rfl
    have hgc : g < wc.heap.size := t4.1.lt
    have hbn := below1 wc.drew (Obj.cells #[.int .i64 x.env, .int .i64 x.page, .int .i64 x.frame, .bool x.write] 31)
    have ta := Tb.keep (w := wc.drew) t4 hbn
    have c0a := ta.1.cell 0 (.slice (some ⟨q, 0, none⟩) L1.length c) rfl
    have HTA := Lib.hid ta
    have HBN := Lib.hid hbn
    have H11 := Lib.hid (Blk.keep (w := wc.drew) r11 hbn)
    clear hbn ta t4 r11
    go_region_law (refine step_append_sl _ rfl (.tmp 53) (.tmp 55) rfl elE eE_ok (base := g + 1) (xs := L1) HTA.out.2 (n := L1.length) rfl rfl (m := 1) rfl (ys := [x]) rfl (Sl.new' eE_ok wc.drew x _ rfl _ rfl) (by simp only [maxLen]; omega) (by omega) (by simp [World.drew]; omega) _ rfl (L1.length + 1) rfl ?_; intro A5 c5 w5 own5 hg5 at5; (have b5 := HTA.out.1.grown hg5 (fun e => by have := HL3.out g e.symm; omega)); (have f5 := b5.frozen 0); (have z5 := b5.cell 0 (.slice (some ⟨q, 0, none⟩) L1.length c) rfl))
    all_goals
      have HT : Hid (Tb (w5.setCell ⟨g, 0, none⟩ (.slice A5 (L1.length + 1) c5)) g A5 c5 (L1 ++ [x]) (h + 1) m) := by
        have := HTA.out.slot b5 own5
        rw [List.length_append] at this
        exact this
      have HTW : Hid (Tw w2 (w5.setCell ⟨g, 0, none⟩ (.slice A5 (L1.length + 1) c5)) g (blk (some ⟨q, 0, none⟩))) := ((HW4.out.trans (Tw.of_below (Below.drew (Below.refl _ _)))).trans (Tw.of_below HBN.out)).trans (Tw.grown hg5) |>.set_ 0 _
      have r11 := (H11.out.grown hg5 (by simp [blk]; omega)).far (p := ⟨g, 0, none⟩) (by simp; omega) (.slice A5 (L1.length + 1) c5)
      have y2 := r11.cell 2 (.int .i64 x.frame) rfl
      clear r11 c0 c0a x0 x1 x2 x3 own5 hg5 at5 b5 f5 z5 HTA HBN HW4 H11
      generalize w5.setCell ⟨g, 0, none⟩ (.slice A5 (L1.length + 1) c5) = w6 at *
      go_wp2_with fail
      go_ret2
      exact ⟨A5, c5, rfl, HT.out, (HB2.out.mono (by omega)).trans (HTW.out.below (fun k hk => by have := HL3.out k hk; omega) (by omega))⟩
end Go.Proofs.Ytfaddnedlloaiaa
