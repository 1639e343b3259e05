/- Walks: the document's Pass. -/
import Derived.Test.YtldpplfkimdaaaaW9
import Derived.Test.YtldpplfkimdaaaaPhs
namespace Go.Proofs.Ytldpplfkimdaaaa
open Go.RowKit Go.Conc

/-- three cells of a document's box, stored one by one -/
def put3 (w : World) (g : Nat) (v0 v1 v2 : Value) : World := ((w.setCell ⟨g, 0, none⟩ v0).setCell ⟨g, 1, none⟩ v1).setCell ⟨g, 2, none⟩ v2

def PassS (wb : World) (l : List Lt) (d : Nat) (v : Value) (w : World) : Prop := if d = 30 then EmptyS wb v w else AnewS wb l v w
theorem pass30 {wb : World} {l : List Lt} {v : Value} {w : World} : PassS wb l 30 v w ↔ EmptyS wb v w := by simp [PassS]
theorem pass33 {wb : World} {l : List Lt} {v : Value} {w : World} : PassS wb l 33 v w ↔ AnewS wb l v w := by simp [PassS]
theorem PassS.keep {wb : World} {l : List Lt} {d : Nat} {v : Value} {w w' : World} (h : PassS wb l d v w) (hz : Keeps w w') : PassS wb l d v w' := by
  unfold PassS at *
  by_cases h1 : d = 30
  · simp only [h1, if_true] at h ⊢; exact h.keep hz
  · simp only [h1, if_false] at h ⊢; exact h.keep hz
set_option maxRecDepth 100000 in
set_option maxHeartbeats 4000000 in
theorem rpass_any (A A2 : Option Addr) (c c2 : Nat) (b t : BoxS) (w : World) (h : Sl eLt 2 w A b.l) (hc : b.l.length ≤ c) (h64 : b.l.length ≤ 64) (h2 : Sl eLt 2 w A2 t.l) (hc2 : t.l.length ≤ c2) (h642 : t.l.length ≤ 64) (hr : t.room ≤ 64) (hA : (A = none ∧ c = 0) ∨ ∃ g, A = some ⟨g, 0, none⟩) (N : Nat) (hN : Hid (N = passN b t)) :
    Calls Try.prog 15 #[.agg #[.slice A b.l.length c, .int .i64 b.room, .bool b.shut], .agg #[.slice A2 t.l.length c2, .int .i64 t.room, .bool t.shut]] w fun e w' => ∃ (A' A2' : Option Addr) (c' c2' : Nat),
      e = .returned (.tuple #[.agg #[.slice A' (b.l.drop N).length c', .int .i64 b.room, .bool b.shut], .agg #[.slice A2' (t.l ++ b.l.take N).length c2', .int .i64 t.room, .bool t.shut], .int .i64 N]) ∧
      Own eLt 2 w' w.heap.size 59 A' c' (b.l.drop N) ∧ Own eLt 2 w' w.heap.size 59 A2' c2' (t.l ++ b.l.take N) ∧ Below w.heap.size w w' := by
  have b0 := (((Blk.new w 43 #[.slice A b.l.length c, .int .i64 b.room, .bool b.shut]).alloc (Obj.cells #[.slice A2 t.l.length c2, .int .i64 t.room, .bool t.shut] 43)).alloc (Obj.cells #[.slice none 0 0, .int .i64 0, .bool false] 43)).alloc (Obj.cells #[.slice none 0 0, .int .i64 0, .bool false] 43)
  have b1 := ((Blk.new' (w.alloc (Obj.cells #[.slice A b.l.length c, .int .i64 b.room, .bool b.shut] 43)) 43 #[.slice A2 t.l.length c2, .int .i64 t.room, .bool t.shut] (g := w.heap.size + 1) (by simp)).alloc (Obj.cells #[.slice none 0 0, .int .i64 0, .bool false] 43)).alloc (Obj.cells #[.slice none 0 0, .int .i64 0, .bool false] 43)
  have b2 := (Blk.new' ((w.alloc (Obj.cells #[.slice A b.l.length c, .int .i64 b.room, .bool b.shut] 43)).alloc (Obj.cells #[.slice A2 t.l.length c2, .int .i64 t.room, .bool t.shut] 43)) 43 #[.slice none 0 0, .int .i64 0, .bool false] (g := w.heap.size + 1 + 1) (by simp)).alloc (Obj.cells #[.slice none 0 0, .int .i64 0, .bool false] 43)
  have b3 := Blk.new' (((w.alloc (Obj.cells #[.slice A b.l.length c, .int .i64 b.room, .bool b.shut] 43)).alloc (Obj.cells #[.slice A2 t.l.length c2, .int .i64 t.room, .bool t.shut] 43)).alloc (Obj.cells #[.slice none 0 0, .int .i64 0, .bool false] 43)) 43 #[.slice none 0 0, .int .i64 0, .bool false] (g := w.heap.size + 1 + 1 + 1) (by simp)
  have hB : Below w.heap.size w ((((w.alloc (Obj.cells #[.slice A b.l.length c, .int .i64 b.room, .bool b.shut] 43)).alloc (Obj.cells #[.slice A2 t.l.length c2, .int .i64 t.room, .bool t.shut] 43)).alloc (Obj.cells #[.slice none 0 0, .int .i64 0, .bool false] 43)).alloc (Obj.cells #[.slice none 0 0, .int .i64 0, .bool false] 43)) := (((below1 _ _).alloc (by simp) _).alloc (by simp; omega) _).alloc (by simp; omega) _
  have h1 := h.keep hB
  have h3 := h2.keep hB
  have hsz : w.heap.size + 1 + 1 + 1 < ((((w.alloc (Obj.cells #[.slice A b.l.length c, .int .i64 b.room, .bool b.shut] 43)).alloc (Obj.cells #[.slice A2 t.l.length c2, .int .i64 t.room, .bool t.shut] 43)).alloc (Obj.cells #[.slice none 0 0, .int .i64 0, .bool false] 43)).alloc (Obj.cells #[.slice none 0 0, .int .i64 0, .bool false] 43)).heap.size := b3.lt
  have HH := Lib.hid h
  clear h h2
  have HR := Lib.hid (And.intro h64 (And.intro h642 hr))
  clear h64 h642 hr
  have hNl : Hid (N ≤ b.l.length ∧ N ≤ 64) := by
    have h1 := hN.out
    have h2 := HR.out
    unfold passN at h1
    constructor <;> (split at h1 <;> omega)
  go_enter Try.func15, Try.ntmps15
  go_wp2_with fail
  generalize (((w.alloc (Obj.cells #[.slice A b.l.length c, .int .i64 b.room, .bool b.shut] 43)).alloc (Obj.cells #[.slice A2 t.l.length c2, .int .i64 t.room, .bool t.shut] 43)).alloc (Obj.cells #[.slice none 0 0, .int .i64 0, .bool false] 43)).alloc (Obj.cells #[.slice none 0 0, .int .i64 0, .bool false] 43) = wb at *
  have z0 := b0.cell 0 (.slice A b.l.length c) rfl
  have y0 := b1.cell 0 (.slice A2 t.l.length c2) rfl
  have y1 := b1.cell 1 (.int .i64 t.room) rfl
  have y2 := b1.cell 2 (.bool t.shut) rfl
  go_loopw [7] (fun vn wr => ∃ k : Nat, vn = .int .i64 k ∧ k ≤ N ∧ wr = wb) (fun vn _ => N - (intOf vn).toNat)
  case atStart => exact ⟨0, rfl, Nat.zero_le _, rfl⟩
  case round =>
    obtain ⟨k, rfl, hk, rfl⟩ := hrel
    have hk64 : k ≤ 64 := by have := hNl.out; omega
    have hl64 : t.l.length ≤ 64 := HR.out.2.1
    obtain ⟨g, hg⟩ : ∃ g : Bool, Hid (g = decide (k < N)) := ⟨_, rfl⟩
    go_upto_region 2 with (fail)
    go_cut [27] (fun s27 wx => s27 = .bool g ∧ wx = wr)
    case first =>
      rcases Bool.eq_false_or_eq_true t.shut with hs | hs
      rotate_left
      · have hp : N = min b.l.length (t.room - t.l.length) := by have := hN.out; simpa [passN, hs] using this
        rw [hs] at y2
        by_cases g1 : k < b.l.length
        · have g1' : (k : Int) < (b.l.length : Int) := by omega
          by_cases g2 : t.l.length + k < t.room
          · have g2' : (t.l.length : Int) + (k : Int) < (t.room : Int) := by omega
            have hgt : Hid (g = true) := by have := hg.out; unfold Hid; rw [this]; simp; omega
            clear hp g1 g2 hs
            go_wp2_with fail
            go_meet
            exact ⟨by rw [hgt.out], rfl⟩
          · have g2' : ¬ (t.l.length : Int) + (k : Int) < (t.room : Int) := by omega
            have hgt : Hid (g = false) := by have := hg.out; unfold Hid; rw [this]; simp; omega
            clear hp g1 g2 hs
            go_wp2_with fail
            go_meet
            exact ⟨by rw [hgt.out], rfl⟩
        · have g1' : ¬ (k : Int) < (b.l.length : Int) := by omega
          have hgt : Hid (g = false) := by have := hg.out; unfold Hid; rw [this]; simp; omega
          clear hp g1 hs
          go_wp2_with fail
          go_meet
          exact ⟨by rw [hgt.out], rfl⟩
      · have hp : N = 0 := by have := hN.out; simpa [passN, hs] using this
        have hgt : Hid (g = false) := by have := hg.out; unfold Hid; rw [this]; simp; omega
        rw [hs] at y2
        clear hp hs
        go_wp2_with fail
        go_meet
        exact ⟨by rw [hgt.out], rfl⟩
    case rest =>
      cases g
      · obtain rfl : k = N := by have := hg.out; simp at this; omega
        clear hg
        have hb := Lib.hid hB
        have hn64 : k ≤ 64 := hk64
        obtain ⟨rfl, rfl⟩ := hcut
        clear y1 y2 hk
        have HB0 := Lib.hid b0
        have HB1 := Lib.hid b1
        have HB2 := Lib.hid b2
        have HB3 := Lib.hid b3
        clear b0 b1 b2 b3 hB
        have hkl : k ≤ b.l.length := hNl.out.1
        have hkc : k ≤ c := by omega
        have HS30 : Hid (∀ W : World, Below wc.heap.size wc W → EmptyS wc (.slice (some ⟨W.heap.size, 0, none⟩) 0 0) (W.alloc (.cells #[] 59))) := fun W h => ⟨_, rfl, h.size, Own.empty W _ h.size⟩
        go_upto_region 4 with (fail)
        have aft_z0 := cw_cell z0
        have aft_y0 := cw_cell y0
        refine wp_region_grand (Keeps _) (fun _ => Keeps) [30, 33] (PassS wc t.l) [8, 10] [[8, 3, 0], [8, 3, 2], [8, 7, 5]] 50 (keeps_drew _) (fun _ _ _ h hz => keeps_trans h hz) (fun _ d hd _ v w w' _ h hz => h.keep hz) (by kernel_rfl) (by kernel_rfl) (by rfl) ?_
        repeat (first | (refine gr_row (by rfl) ?_; (try simp only [Act.put, List.setIfInBounds_toArray, List.set_cons_zero, List.set_cons_succ])) | (refine gr_free (by rfl) (by rfl) (by rfl) (by rfl) (by rfl) (fun K hK => ?_); go_big_quiet_op; refine hK _ ?_; clear hK K) | (refine gr_q (by rfl) (by rfl) (by rfl) (by rfl) (by rfl) (by rfl) (fun K hK => ?_); go_big_quiet_op; refine hK _ ?_; clear hK K) | (refine gr_no (by rfl) (by rfl) (by rfl) ?_; (try simp only [Act.put, List.setIfInBounds_toArray, List.set_cons_zero, List.set_cons_succ])) | (refine gr_call (by rfl) (by rfl) (by rfl) (by rfl) (by rfl) (fun K hK => ?_); go_simp; (try simp only [RUp, true_and]); first | (apply Exists.intro; refine ⟨fun n => rfl, hK _ ?_⟩; clear hK K; (try simp only [Act.put, List.setIfInBounds_toArray, List.set_cons_zero, List.set_cons_succ]))) | (refine gr_n 30 [] (by rfl) (by rfl) (by rfl) (by rfl) (fun γ w hC hT => ?_) ?_; (simp only [putG]; go_simp; exact gup_v (below1 w _) (pass30.2 (HS30.out w hC))); (try simp only [Act.put, List.setIfInBounds_toArray, List.set_cons_zero, List.set_cons_succ])) | (refine gr_n 33 [30] (by rfl) (by rfl) (by rfl) (by rfl) (fun γ w hC hT => ?_) ?_; ((obtain ⟨G, hv, hG, hO⟩ := pass30.1 (hT 30 (by simp))); refine gup_append_fresh w (.tmp 30) (.tmp 32) rfl elemLt eLt_ok hO (by simp only [putG, Act.put, List.setIfInBounds_toArray, List.set_cons_zero, List.set_cons_succ]; rw [hv]; rfl) (by rfl) (m := t.l.length) (ys := t.l) rfl (Sl.keep (w := wc) h3 hC) (by have := HR.out; simp only [maxLen]; omega) (by have := HR.out; omega) (Below.size hC) (fun A1 e1 w1 h => pass33.2 ⟨A1, e1, rfl, h⟩)); (try simp only [Act.put, List.setIfInBounds_toArray, List.set_cons_zero, List.set_cons_succ])))
        refine gr_end ?_
        intro γ w5 hb5 hT
        clear aft_z0 aft_y0
        simp only [putG, Act.put, List.setIfInBounds_toArray, List.set_cons_zero, List.set_cons_succ]
        simp only [List.filterMap_cons, List.filterMap_nil, List.getElem?_cons_succ, List.getElem?_cons_zero]
        obtain ⟨A1, e1, g33, own1⟩ := pass33.1 (hT 33 (by simp))
        rw [g33]
        generalize γ 30 = v30 at *
        clear g33 hT HS30
        have hs1 := (h1.keep hb5).take k
        have hlt : (b.l.take k).length = k := by simp; omega
        refine wpList_append_sl w5 rfl (.tmp 33) (.tmp 37) rfl elemLt eLt_ok (base := wc.heap.size) (xs := t.l) own1 (n := t.l.length) rfl rfl (m := k) rfl (ys := b.l.take k) hlt hs1 (by simp only [maxLen]; omega) (by omega) (Below.size hb5) _ rfl (t.l.length + k) rfl ?_
        intro A3 e3 w6 own3 hg6 at6
        have hB6 : Below wc.heap.size wc w6 := bgrow hb5 hg6 (fun q hq => (own1.lt q hq).1)
        have b6 := HB1.out.keep hB6
        refine wpList_store_cell w6 rfl 41 _ _ rfl (w.heap.size + 1) 0 (.slice A3 (t.l.length + k) e3) rfl rfl (by kernel_rfl) rfl (b6.one (by simp)) ?_
        refine only_end ?_
        simp only [Act.put, List.setIfInBounds_toArray, List.set_cons_zero, List.set_cons_succ]
        have hG7 := only_set (only_refl w6 (w.heap.size + 1)) 0 (.slice A3 (t.l.length + k) e3)
        have b7 := b6.set_ 0 (.slice A3 (t.l.length + k) e3)
        simp only [List.setIfInBounds_toArray, List.set_cons_zero, List.set_cons_succ] at b7
        have a7 := (HB0.out.keep hB6).grown hG7 (fun e => by injection e with e; omega)
        have c7 := (HB2.out.keep hB6).grown hG7 (fun e => by injection e with e; omega)
        have d7 := (HB3.out.keep hB6).grown hG7 (fun e => by injection e with e; omega)
        have own7 := own3.kept hG7 (own_ne own3 (by omega))
        have hB7 : Below w.heap.size w (w6.setCell ⟨w.heap.size + 1, 0, none⟩ (.slice A3 (t.l.length + k) e3)) := (bstep hb.out (Nat.le_refl _) hB6).setCell (p := ⟨w.heap.size + 1, 0, none⟩) (by simp) _
        have hs7 : Sl eLt 2 (w6.setCell ⟨w.heap.size + 1, 0, none⟩ (.slice A3 (t.l.length + k) e3)) A b.l := HH.out.keep hB7
        have hl8 : b.l.length ≤ 64 := HR.out.1
        have hz7 : w6.heap.size ≤ (w6.setCell ⟨w.heap.size + 1, 0, none⟩ (.slice A3 (t.l.length + k) e3)).heap.size := hG7.size
        clear own1 own3 hs1 hg6 at6 hB6 b6 hG7 hb5 z0 y0 HB0 HB1 HB2 HB3 h1 h3 hb
        generalize w6.setCell ⟨w.heap.size + 1, 0, none⟩ (.slice A3 (t.l.length + k) e3) = w7 at *
        have z0 := a7.cell 0 (.slice A b.l.length c) rfl
        have l7 := a7.lt
        have l8 := b7.lt
        have l10 := d7.lt
        have f0 := a7.frozen 0
        by_cases hkc2 : c = k
        · have hkd : Hid (b.l.drop k = []) := List.drop_eq_nil_of_le (by omega)
          rcases hA with ⟨rfl, hc0⟩ | ⟨gA, rfl⟩
          · have hsd : Hid (Sl eLt 2 w7 none (b.l.drop k)) := by rw [hkd.out]; exact Sl.nil _ _
            clear hc0
            go_wp2_with (at_builtin; (refine wpList_append_fresh _ rfl _ _ rfl elemLt eLt_ok (Own.empty' w7 _ (base := w7.heap.size) rfl (Nat.le_refl _)) rfl (ys := (b.l.drop k)) rfl (by simp; try omega) (hsd.out.alloc _) (by simp only [maxLen]; omega) (by omega) (by simp) ?_); intro A4 e4 w8 own8 kb8; (have a8 := (a7.alloc (Obj.cells #[] 59)).keep kb8); (have b8 := (b7.alloc (Obj.cells #[] 59)).keep kb8); (have c8 := (c7.alloc (Obj.cells #[] 59)).keep kb8); (have d8 := (d7.alloc (Obj.cells #[] 59)).keep kb8); (have own9 := (own7.alloc (Obj.cells #[] 59)).keep kb8); (have hB8 := bstep (hB7.alloc hB7.size (Obj.cells #[] 59)) (Nat.le_refl _) kb8); (have f8 := a8.frozen 0); (have y8 := a8.cell 0 _ rfl); (have l9 := a8.lt); (have hz8 : w7.heap.size ≤ w8.heap.size := Nat.le_trans (by simp) (Below.size kb8)); clear kb8)
            have hG9 := only_set (only_refl w8 w.heap.size) 0 (.slice A4 (b.l.length - k) e4)
            have r0 := a8.set_ 0 (.slice A4 (b.l.length - k) e4)
            have r1 := b8.grown hG9 (fun e => by injection e with e; omega)
            have r2 := c8.grown hG9 (fun e => by injection e with e; omega)
            have r3 := d8.grown hG9 (fun e => by injection e with e; omega)
            have p8 := own8.kept hG9 (own_ne own8 (by omega))
            have p9 := own9.kept hG9 (own_ne own9 (by omega))
            have hB9 : Below w.heap.size w (w8.setCell ⟨w.heap.size, 0, none⟩ (.slice A4 (b.l.length - k) e4)) := hB8.setCell (p := ⟨w.heap.size, 0, none⟩) (Nat.le_refl _) _
            simp only [List.setIfInBounds_toArray, List.set_cons_zero, List.set_cons_succ] at r0
            clear hG9 a8 b8 c8 d8 own8 own9 hB8 f8 y8 l9 a7 b7 c7 d7 own7 hB7 l7 l8 hs7 hsd HH z0 f0 hz7
            generalize w8.setCell ⟨w.heap.size, 0, none⟩ (.slice A4 (b.l.length - k) e4) = w9 at *
            have x0 := r0.cell 0 (.slice A4 (b.l.length - k) e4) rfl
            have x1 := r0.cell 1 (.int .i64 b.room) rfl
            have x2 := r0.cell 2 (.bool b.shut) rfl
            have y0 := r1.cell 0 (.slice A3 (t.l.length + k) e3) rfl
            have y1 := r1.cell 1 (.int .i64 t.room) rfl
            have y2 := r1.cell 2 (.bool t.shut) rfl
            have hne : w.heap.size + 1 + 1 ≠ w.heap.size + 1 + 1 + 1 := by omega
            have lt9 := r3.lt
            have hFx : (fun b => b < w9.heap.size ∧ b ≠ w.heap.size + 1 + 1 ∧ b ≠ w.heap.size + 1 + 1 + 1) w.heap.size := ⟨by omega, by omega, by omega⟩
            have hFy : (fun b => b < w9.heap.size ∧ b ≠ w.heap.size + 1 + 1 ∧ b ≠ w.heap.size + 1 + 1 + 1) (w.heap.size + 1) := ⟨by omega, by omega, by omega⟩
            go_upto_region 6 with (fail)
            haveI ne_ : Nonempty (CW (Kp (fun b => b < w9.heap.size ∧ b ≠ w.heap.size + 1 + 1 ∧ b ≠ w.heap.size + 1 + 1 + 1) w9)) := ⟨⟨_, Kp.refl _ _⟩⟩
            have aft_x0 : ∀ n : CW (Kp (fun b => b < w9.heap.size ∧ b ≠ w.heap.size + 1 + 1 ∧ b ≠ w.heap.size + 1 + 1 + 1) w9), _ := fun n => n.ok.cell x0 hFx
            have aft_x1 : ∀ n : CW (Kp (fun b => b < w9.heap.size ∧ b ≠ w.heap.size + 1 + 1 ∧ b ≠ w.heap.size + 1 + 1 + 1) w9), _ := fun n => n.ok.cell x1 hFx
            have aft_x2 : ∀ n : CW (Kp (fun b => b < w9.heap.size ∧ b ≠ w.heap.size + 1 + 1 ∧ b ≠ w.heap.size + 1 + 1 + 1) w9), _ := fun n => n.ok.cell x2 hFx
            have aft_y0 : ∀ n : CW (Kp (fun b => b < w9.heap.size ∧ b ≠ w.heap.size + 1 + 1 ∧ b ≠ w.heap.size + 1 + 1 + 1) w9), _ := fun n => n.ok.cell y0 hFy
            have aft_y1 : ∀ n : CW (Kp (fun b => b < w9.heap.size ∧ b ≠ w.heap.size + 1 + 1 ∧ b ≠ w.heap.size + 1 + 1 + 1) w9), _ := fun n => n.ok.cell y1 hFy
            have aft_y2 : ∀ n : CW (Kp (fun b => b < w9.heap.size ∧ b ≠ w.heap.size + 1 + 1 ∧ b ≠ w.heap.size + 1 + 1 + 1) w9), _ := fun n => n.ok.cell y2 hFy
            refine wp_region_phase (Kp (fun b => b < w9.heap.size ∧ b ≠ w.heap.size + 1 + 1 ∧ b ≠ w.heap.size + 1 + 1 + 1) w9) (TwoSt w9 (w.heap.size + 1 + 1) (w.heap.size + 1 + 1 + 1) 43 43 #[.slice none 0 0, .int .i64 0, .bool false] #[.slice A4 (b.l.length - k) e4, .int .i64 b.room, .bool b.shut] #[.slice none 0 0, .int .i64 0, .bool false] #[.slice A3 (t.l.length + k) e3, .int .i64 t.room, .bool t.shut]) (ZC [3, 4] (TwoSt w9 (w.heap.size + 1 + 1) (w.heap.size + 1 + 1 + 1) 43 43 #[.slice none 0 0, .int .i64 0, .bool false] #[.slice A4 (b.l.length - k) e4, .int .i64 b.room, .bool b.shut] #[.slice none 0 0, .int .i64 0, .bool false] #[.slice A3 (t.l.length + k) e3, .int .i64 t.room, .bool t.shut]) (fun _ _ _ => True)) [] (fun _ _ _ => True) [3, 4] [(0, 0), (0, 1), (0, 2), (0, 0), (1, 1), (2, 2)] [] 50 (TwoSt.begin_ r2 r3) (fun _ _ h => h.kp) (zc_hZ (fun _ _ _ h hz => h.keeps hz)) (zc_hT (by decide)) (fun _ d hd => by cases hd) (by kernel_rfl) (by kernel_rfl) (by rfl) ?_
            repeat (first | (refine ph_free (by rfl) (by rfl) (by rfl) (by rfl) (fun K hK => ?_); go_big_quiet_op; refine hK _ ?_; clear hK K) | (refine ph_q (by rfl) (by rfl) (by rfl) (by rfl) (by rfl) (fun K hK => ?_); go_big_quiet_op; refine hK _ ?_; clear hK K) | (refine ph_no (by rfl) (by rfl) (by rfl) ?_; (try simp only [Act.put, List.setIfInBounds_toArray, List.set_cons_zero, List.set_cons_succ])) | (refine ph_call (i := 3) (0, 0) (by rfl) (by rfl) (by rfl) (by rfl) (by rfl) (fun K hK => ?_); apply Exists.intro; refine ⟨fun n => ?_, hK _ ?_⟩; (refine gup_store_blk (k := 0) rfl 43 (.tmp 4) (.tmp 47) rfl (w.heap.size + 1 + 1) #[.slice none 0 0, .int .i64 0, .bool false] #[.slice A4 (b.l.length - k) e4, .int .i64 b.room, .bool b.shut] rfl rfl (cr_at n.ok).b2 rfl (by kernel_rfl) (by simp [Value.oneCell']) (fun w2 hb2 hg2 _ => ⟨TwoSt.one (cr_at n.ok) hne hb2 hg2, trivial⟩)); clear hK K; (try simp only [Act.put, List.setIfInBounds_toArray, List.set_cons_zero, List.set_cons_succ])) | (refine ph_call (i := 4) (1, 1) (by rfl) (by rfl) (by rfl) (by rfl) (by rfl) (fun K hK => ?_); apply Exists.intro; refine ⟨fun n => ?_, hK _ ?_⟩; (refine gup_store_blk (k := 1) rfl 43 (.tmp 5) (.tmp 48) rfl (w.heap.size + 1 + 1 + 1) #[.slice none 0 0, .int .i64 0, .bool false] #[.slice A3 (t.l.length + k) e3, .int .i64 t.room, .bool t.shut] rfl rfl (cr_at n.ok).b3 rfl (by kernel_rfl) (by simp [Value.oneCell']) (fun w2 hb2 hg2 _ => ⟨TwoSt.two (cr_at n.ok) hne hb2 hg2, trivial⟩)); clear hK K; (try simp only [Act.put, List.setIfInBounds_toArray, List.set_cons_zero, List.set_cons_succ])))
            refine ph_end ?_
            intro γ w10 hC hT
            clear ne_ aft_x0 aft_x1 aft_x2 aft_y0 aft_y1 aft_y2
            simp only [putG, Act.put, List.setIfInBounds_toArray, List.set_cons_zero, List.set_cons_succ]
            obtain ⟨hkp, c2b, c3b⟩ := hC
            simp only [List.length_cons, List.length_nil] at c2b c3b
            simp at c2b c3b
            have s0 := c2b.cell 0 (.slice A4 (b.l.length - k) e4) rfl
            have s1 := c2b.cell 1 (.int .i64 b.room) rfl
            have s2 := c2b.cell 2 (.bool b.shut) rfl
            have t0 := c3b.cell 0 (.slice A3 (t.l.length + k) e3) rfl
            have t1 := c3b.cell 1 (.int .i64 t.room) rfl
            have t2 := c3b.cell 2 (.bool t.shut) rfl
            clear x0 x1 x2 y0 y1 y2
            go_wp2_with fail
            have o8 := p8.kp hkp (fun q hq => by have := p8.lt q hq; exact ⟨this.2, by omega, by omega⟩)
            have o9 := p9.kp hkp (fun q hq => by have := p9.lt q hq; exact ⟨this.2, by omega, by omega⟩)
            have hB10 : Below w.heap.size w w10 := hB9.trans (hkp.low (fun b hb => ⟨by omega, by omega, by omega⟩))
            exact bodyPost_ret (v := .tuple #[.agg #[.slice A4 (b.l.length - k) e4, .int .i64 b.room, .bool b.shut], .agg #[.slice A3 (t.l.length + k) e3, .int .i64 t.room, .bool t.shut], .int .i64 k]) (by simp [results, Try.results15, go_sem, s0, s1, s2, t0, t1, t2]) rfl ⟨A4, A3, e4, e3, rfl, o8.from_ (by omega), o9.from_ (by omega), hB10⟩
          · have hsd : Hid (Sl eLt 2 w7 (some ⟨gA, 0, none⟩) (b.l.drop k)) := by rw [hkd.out]; exact Sl.nil _ _
            go_wp2_with (at_builtin; (refine wpList_append_fresh _ rfl _ _ rfl elemLt eLt_ok (Own.empty' w7 _ (base := w7.heap.size) rfl (Nat.le_refl _)) rfl (ys := (b.l.drop k)) rfl (by simp; try omega) (hsd.out.alloc _) (by simp only [maxLen]; omega) (by omega) (by simp) ?_); intro A4 e4 w8 own8 kb8; (have a8 := (a7.alloc (Obj.cells #[] 59)).keep kb8); (have b8 := (b7.alloc (Obj.cells #[] 59)).keep kb8); (have c8 := (c7.alloc (Obj.cells #[] 59)).keep kb8); (have d8 := (d7.alloc (Obj.cells #[] 59)).keep kb8); (have own9 := (own7.alloc (Obj.cells #[] 59)).keep kb8); (have hB8 := bstep (hB7.alloc hB7.size (Obj.cells #[] 59)) (Nat.le_refl _) kb8); (have f8 := a8.frozen 0); (have y8 := a8.cell 0 _ rfl); (have l9 := a8.lt); (have hz8 : w7.heap.size ≤ w8.heap.size := Nat.le_trans (by simp) (Below.size kb8)); clear kb8)
            have hG9 := only_set (only_refl w8 w.heap.size) 0 (.slice A4 (b.l.length - k) e4)
            have r0 := a8.set_ 0 (.slice A4 (b.l.length - k) e4)
            have r1 := b8.grown hG9 (fun e => by injection e with e; omega)
            have r2 := c8.grown hG9 (fun e => by injection e with e; omega)
            have r3 := d8.grown hG9 (fun e => by injection e with e; omega)
            have p8 := own8.kept hG9 (own_ne own8 (by omega))
            have p9 := own9.kept hG9 (own_ne own9 (by omega))
            have hB9 : Below w.heap.size w (w8.setCell ⟨w.heap.size, 0, none⟩ (.slice A4 (b.l.length - k) e4)) := hB8.setCell (p := ⟨w.heap.size, 0, none⟩) (Nat.le_refl _) _
            simp only [List.setIfInBounds_toArray, List.set_cons_zero, List.set_cons_succ] at r0
            clear hG9 a8 b8 c8 d8 own8 own9 hB8 f8 y8 l9 a7 b7 c7 d7 own7 hB7 l7 l8 hs7 hsd HH z0 f0 hz7
            generalize w8.setCell ⟨w.heap.size, 0, none⟩ (.slice A4 (b.l.length - k) e4) = w9 at *
            have x0 := r0.cell 0 (.slice A4 (b.l.length - k) e4) rfl
            have x1 := r0.cell 1 (.int .i64 b.room) rfl
            have x2 := r0.cell 2 (.bool b.shut) rfl
            have y0 := r1.cell 0 (.slice A3 (t.l.length + k) e3) rfl
            have y1 := r1.cell 1 (.int .i64 t.room) rfl
            have y2 := r1.cell 2 (.bool t.shut) rfl
            have hne : w.heap.size + 1 + 1 ≠ w.heap.size + 1 + 1 + 1 := by omega
            have lt9 := r3.lt
            have hFx : (fun b => b < w9.heap.size ∧ b ≠ w.heap.size + 1 + 1 ∧ b ≠ w.heap.size + 1 + 1 + 1) w.heap.size := ⟨by omega, by omega, by omega⟩
            have hFy : (fun b => b < w9.heap.size ∧ b ≠ w.heap.size + 1 + 1 ∧ b ≠ w.heap.size + 1 + 1 + 1) (w.heap.size + 1) := ⟨by omega, by omega, by omega⟩
            go_upto_region 6 with (fail)
            haveI ne_ : Nonempty (CW (Kp (fun b => b < w9.heap.size ∧ b ≠ w.heap.size + 1 + 1 ∧ b ≠ w.heap.size + 1 + 1 + 1) w9)) := ⟨⟨_, Kp.refl _ _⟩⟩
            have aft_x0 : ∀ n : CW (Kp (fun b => b < w9.heap.size ∧ b ≠ w.heap.size + 1 + 1 ∧ b ≠ w.heap.size + 1 + 1 + 1) w9), _ := fun n => n.ok.cell x0 hFx
            have aft_x1 : ∀ n : CW (Kp (fun b => b < w9.heap.size ∧ b ≠ w.heap.size + 1 + 1 ∧ b ≠ w.heap.size + 1 + 1 + 1) w9), _ := fun n => n.ok.cell x1 hFx
            have aft_x2 : ∀ n : CW (Kp (fun b => b < w9.heap.size ∧ b ≠ w.heap.size + 1 + 1 ∧ b ≠ w.heap.size + 1 + 1 + 1) w9), _ := fun n => n.ok.cell x2 hFx
            have aft_y0 : ∀ n : CW (Kp (fun b => b < w9.heap.size ∧ b ≠ w.heap.size + 1 + 1 ∧ b ≠ w.heap.size + 1 + 1 + 1) w9), _ := fun n => n.ok.cell y0 hFy
            have aft_y1 : ∀ n : CW (Kp (fun b => b < w9.heap.size ∧ b ≠ w.heap.size + 1 + 1 ∧ b ≠ w.heap.size + 1 + 1 + 1) w9), _ := fun n => n.ok.cell y1 hFy
            have aft_y2 : ∀ n : CW (Kp (fun b => b < w9.heap.size ∧ b ≠ w.heap.size + 1 + 1 ∧ b ≠ w.heap.size + 1 + 1 + 1) w9), _ := fun n => n.ok.cell y2 hFy
            refine wp_region_phase (Kp (fun b => b < w9.heap.size ∧ b ≠ w.heap.size + 1 + 1 ∧ b ≠ w.heap.size + 1 + 1 + 1) w9) (TwoSt w9 (w.heap.size + 1 + 1) (w.heap.size + 1 + 1 + 1) 43 43 #[.slice none 0 0, .int .i64 0, .bool false] #[.slice A4 (b.l.length - k) e4, .int .i64 b.room, .bool b.shut] #[.slice none 0 0, .int .i64 0, .bool false] #[.slice A3 (t.l.length + k) e3, .int .i64 t.room, .bool t.shut]) (ZC [3, 4] (TwoSt w9 (w.heap.size + 1 + 1) (w.heap.size + 1 + 1 + 1) 43 43 #[.slice none 0 0, .int .i64 0, .bool false] #[.slice A4 (b.l.length - k) e4, .int .i64 b.room, .bool b.shut] #[.slice none 0 0, .int .i64 0, .bool false] #[.slice A3 (t.l.length + k) e3, .int .i64 t.room, .bool t.shut]) (fun _ _ _ => True)) [] (fun _ _ _ => True) [3, 4] [(0, 0), (0, 1), (0, 2), (0, 0), (1, 1), (2, 2)] [] 50 (TwoSt.begin_ r2 r3) (fun _ _ h => h.kp) (zc_hZ (fun _ _ _ h hz => h.keeps hz)) (zc_hT (by decide)) (fun _ d hd => by cases hd) (by kernel_rfl) (by kernel_rfl) (by rfl) ?_
            repeat (first | (refine ph_free (by rfl) (by rfl) (by rfl) (by rfl) (fun K hK => ?_); go_big_quiet_op; refine hK _ ?_; clear hK K) | (refine ph_q (by rfl) (by rfl) (by rfl) (by rfl) (by rfl) (fun K hK => ?_); go_big_quiet_op; refine hK _ ?_; clear hK K) | (refine ph_no (by rfl) (by rfl) (by rfl) ?_; (try simp only [Act.put, List.setIfInBounds_toArray, List.set_cons_zero, List.set_cons_succ])) | (refine ph_call (i := 3) (0, 0) (by rfl) (by rfl) (by rfl) (by rfl) (by rfl) (fun K hK => ?_); apply Exists.intro; refine ⟨fun n => ?_, hK _ ?_⟩; (refine gup_store_blk (k := 0) rfl 43 (.tmp 4) (.tmp 47) rfl (w.heap.size + 1 + 1) #[.slice none 0 0, .int .i64 0, .bool false] #[.slice A4 (b.l.length - k) e4, .int .i64 b.room, .bool b.shut] rfl rfl (cr_at n.ok).b2 rfl (by kernel_rfl) (by simp [Value.oneCell']) (fun w2 hb2 hg2 _ => ⟨TwoSt.one (cr_at n.ok) hne hb2 hg2, trivial⟩)); clear hK K; (try simp only [Act.put, List.setIfInBounds_toArray, List.set_cons_zero, List.set_cons_succ])) | (refine ph_call (i := 4) (1, 1) (by rfl) (by rfl) (by rfl) (by rfl) (by rfl) (fun K hK => ?_); apply Exists.intro; refine ⟨fun n => ?_, hK _ ?_⟩; (refine gup_store_blk (k := 1) rfl 43 (.tmp 5) (.tmp 48) rfl (w.heap.size + 1 + 1 + 1) #[.slice none 0 0, .int .i64 0, .bool false] #[.slice A3 (t.l.length + k) e3, .int .i64 t.room, .bool t.shut] rfl rfl (cr_at n.ok).b3 rfl (by kernel_rfl) (by simp [Value.oneCell']) (fun w2 hb2 hg2 _ => ⟨TwoSt.two (cr_at n.ok) hne hb2 hg2, trivial⟩)); clear hK K; (try simp only [Act.put, List.setIfInBounds_toArray, List.set_cons_zero, List.set_cons_succ])))
            refine ph_end ?_
            intro γ w10 hC hT
            clear ne_ aft_x0 aft_x1 aft_x2 aft_y0 aft_y1 aft_y2
            simp only [putG, Act.put, List.setIfInBounds_toArray, List.set_cons_zero, List.set_cons_succ]
            obtain ⟨hkp, c2b, c3b⟩ := hC
            simp only [List.length_cons, List.length_nil] at c2b c3b
            simp at c2b c3b
            have s0 := c2b.cell 0 (.slice A4 (b.l.length - k) e4) rfl
            have s1 := c2b.cell 1 (.int .i64 b.room) rfl
            have s2 := c2b.cell 2 (.bool b.shut) rfl
            have t0 := c3b.cell 0 (.slice A3 (t.l.length + k) e3) rfl
            have t1 := c3b.cell 1 (.int .i64 t.room) rfl
            have t2 := c3b.cell 2 (.bool t.shut) rfl
            clear x0 x1 x2 y0 y1 y2
            go_wp2_with fail
            have o8 := p8.kp hkp (fun q hq => by have := p8.lt q hq; exact ⟨this.2, by omega, by omega⟩)
            have o9 := p9.kp hkp (fun q hq => by have := p9.lt q hq; exact ⟨this.2, by omega, by omega⟩)
            have hB10 : Below w.heap.size w w10 := hB9.trans (hkp.low (fun b hb => ⟨by omega, by omega, by omega⟩))
            exact bodyPost_ret (v := .tuple #[.agg #[.slice A4 (b.l.length - k) e4, .int .i64 b.room, .bool b.shut], .agg #[.slice A3 (t.l.length + k) e3, .int .i64 t.room, .bool t.shut], .int .i64 k]) (by simp [results, Try.results15, go_sem, s0, s1, s2, t0, t1, t2]) rfl ⟨A4, A3, e4, e3, rfl, o8.from_ (by omega), o9.from_ (by omega), hB10⟩
        · have hkc3 : ¬ c - k = 0 := by omega
          have hkd : Hid ((b.l.drop k).length = b.l.length - k) := by unfold Hid; simp
          rcases hA with ⟨rfl, hc0⟩ | ⟨gA, rfl⟩
          · omega
          · have hsd : Hid (Sl eLt 2 w7 (some ⟨gA, k * 2, none⟩) (b.l.drop k)) := by
              by_cases hk9 : k < b.l.length
              · have := hs7.drop hk9
                rw [Nat.zero_add] at this
                exact this
              · rw [List.drop_eq_nil_of_le (by omega)]; exact Sl.nil _ _
            go_wp2_with (at_builtin; (refine wpList_append_fresh _ rfl _ _ rfl elemLt eLt_ok (Own.empty' w7 _ (base := w7.heap.size) rfl (Nat.le_refl _)) rfl (ys := (b.l.drop k)) rfl (by simp; try omega) (hsd.out.alloc _) (by simp only [maxLen]; omega) (by omega) (by simp) ?_); intro A4 e4 w8 own8 kb8; (have a8 := (a7.alloc (Obj.cells #[] 59)).keep kb8); (have b8 := (b7.alloc (Obj.cells #[] 59)).keep kb8); (have c8 := (c7.alloc (Obj.cells #[] 59)).keep kb8); (have d8 := (d7.alloc (Obj.cells #[] 59)).keep kb8); (have own9 := (own7.alloc (Obj.cells #[] 59)).keep kb8); (have hB8 := bstep (hB7.alloc hB7.size (Obj.cells #[] 59)) (Nat.le_refl _) kb8); (have f8 := a8.frozen 0); (have y8 := a8.cell 0 _ rfl); (have l9 := a8.lt); (have hz8 : w7.heap.size ≤ w8.heap.size := Nat.le_trans (by simp) (Below.size kb8)); clear kb8)
            have hG9 := only_set (only_refl w8 w.heap.size) 0 (.slice A4 (b.l.length - k) e4)
            have r0 := a8.set_ 0 (.slice A4 (b.l.length - k) e4)
            have r1 := b8.grown hG9 (fun e => by injection e with e; omega)
            have r2 := c8.grown hG9 (fun e => by injection e with e; omega)
            have r3 := d8.grown hG9 (fun e => by injection e with e; omega)
            have p8 := own8.kept hG9 (own_ne own8 (by omega))
            have p9 := own9.kept hG9 (own_ne own9 (by omega))
            have hB9 : Below w.heap.size w (w8.setCell ⟨w.heap.size, 0, none⟩ (.slice A4 (b.l.length - k) e4)) := hB8.setCell (p := ⟨w.heap.size, 0, none⟩) (Nat.le_refl _) _
            simp only [List.setIfInBounds_toArray, List.set_cons_zero, List.set_cons_succ] at r0
            clear hG9 a8 b8 c8 d8 own8 own9 hB8 f8 y8 l9 a7 b7 c7 d7 own7 hB7 l7 l8 hs7 hsd HH z0 f0 hz7
            generalize w8.setCell ⟨w.heap.size, 0, none⟩ (.slice A4 (b.l.length - k) e4) = w9 at *
            have x0 := r0.cell 0 (.slice A4 (b.l.length - k) e4) rfl
            have x1 := r0.cell 1 (.int .i64 b.room) rfl
            have x2 := r0.cell 2 (.bool b.shut) rfl
            have y0 := r1.cell 0 (.slice A3 (t.l.length + k) e3) rfl
            have y1 := r1.cell 1 (.int .i64 t.room) rfl
            have y2 := r1.cell 2 (.bool t.shut) rfl
            have hne : w.heap.size + 1 + 1 ≠ w.heap.size + 1 + 1 + 1 := by omega
            have lt9 := r3.lt
            have hFx : (fun b => b < w9.heap.size ∧ b ≠ w.heap.size + 1 + 1 ∧ b ≠ w.heap.size + 1 + 1 + 1) w.heap.size := ⟨by omega, by omega, by omega⟩
            have hFy : (fun b => b < w9.heap.size ∧ b ≠ w.heap.size + 1 + 1 ∧ b ≠ w.heap.size + 1 + 1 + 1) (w.heap.size + 1) := ⟨by omega, by omega, by omega⟩
            go_upto_region 6 with (fail)
            haveI ne_ : Nonempty (CW (Kp (fun b => b < w9.heap.size ∧ b ≠ w.heap.size + 1 + 1 ∧ b ≠ w.heap.size + 1 + 1 + 1) w9)) := ⟨⟨_, Kp.refl _ _⟩⟩
            have aft_x0 : ∀ n : CW (Kp (fun b => b < w9.heap.size ∧ b ≠ w.heap.size + 1 + 1 ∧ b ≠ w.heap.size + 1 + 1 + 1) w9), _ := fun n => n.ok.cell x0 hFx
            have aft_x1 : ∀ n : CW (Kp (fun b => b < w9.heap.size ∧ b ≠ w.heap.size + 1 + 1 ∧ b ≠ w.heap.size + 1 + 1 + 1) w9), _ := fun n => n.ok.cell x1 hFx
            have aft_x2 : ∀ n : CW (Kp (fun b => b < w9.heap.size ∧ b ≠ w.heap.size + 1 + 1 ∧ b ≠ w.heap.size + 1 + 1 + 1) w9), _ := fun n => n.ok.cell x2 hFx
            have aft_y0 : ∀ n : CW (Kp (fun b => b < w9.heap.size ∧ b ≠ w.heap.size + 1 + 1 ∧ b ≠ w.heap.size + 1 + 1 + 1) w9), _ := fun n => n.ok.cell y0 hFy
            have aft_y1 : ∀ n : CW (Kp (fun b => b < w9.heap.size ∧ b ≠ w.heap.size + 1 + 1 ∧ b ≠ w.heap.size + 1 + 1 + 1) w9), _ := fun n => n.ok.cell y1 hFy
            have aft_y2 : ∀ n : CW (Kp (fun b => b < w9.heap.size ∧ b ≠ w.heap.size + 1 + 1 ∧ b ≠ w.heap.size + 1 + 1 + 1) w9), _ := fun n => n.ok.cell y2 hFy
            refine wp_region_phase (Kp (fun b => b < w9.heap.size ∧ b ≠ w.heap.size + 1 + 1 ∧ b ≠ w.heap.size + 1 + 1 + 1) w9) (TwoSt w9 (w.heap.size + 1 + 1) (w.heap.size + 1 + 1 + 1) 43 43 #[.slice none 0 0, .int .i64 0, .bool false] #[.slice A4 (b.l.length - k) e4, .int .i64 b.room, .bool b.shut] #[.slice none 0 0, .int .i64 0, .bool false] #[.slice A3 (t.l.length + k) e3, .int .i64 t.room, .bool t.shut]) (ZC [3, 4] (TwoSt w9 (w.heap.size + 1 + 1) (w.heap.size + 1 + 1 + 1) 43 43 #[.slice none 0 0, .int .i64 0, .bool false] #[.slice A4 (b.l.length - k) e4, .int .i64 b.room, .bool b.shut] #[.slice none 0 0, .int .i64 0, .bool false] #[.slice A3 (t.l.length + k) e3, .int .i64 t.room, .bool t.shut]) (fun _ _ _ => True)) [] (fun _ _ _ => True) [3, 4] [(0, 0), (0, 1), (0, 2), (0, 0), (1, 1), (2, 2)] [] 50 (TwoSt.begin_ r2 r3) (fun _ _ h => h.kp) (zc_hZ (fun _ _ _ h hz => h.keeps hz)) (zc_hT (by decide)) (fun _ d hd => by cases hd) (by kernel_rfl) (by kernel_rfl) (by rfl) ?_
            repeat (first | (refine ph_free (by rfl) (by rfl) (by rfl) (by rfl) (fun K hK => ?_); go_big_quiet_op; refine hK _ ?_; clear hK K) | (refine ph_q (by rfl) (by rfl) (by rfl) (by rfl) (by rfl) (fun K hK => ?_); go_big_quiet_op; refine hK _ ?_; clear hK K) | (refine ph_no (by rfl) (by rfl) (by rfl) ?_; (try simp only [Act.put, List.setIfInBounds_toArray, List.set_cons_zero, List.set_cons_succ])) | (refine ph_call (i := 3) (0, 0) (by rfl) (by rfl) (by rfl) (by rfl) (by rfl) (fun K hK => ?_); apply Exists.intro; refine ⟨fun n => ?_, hK _ ?_⟩; (refine gup_store_blk (k := 0) rfl 43 (.tmp 4) (.tmp 47) rfl (w.heap.size + 1 + 1) #[.slice none 0 0, .int .i64 0, .bool false] #[.slice A4 (b.l.length - k) e4, .int .i64 b.room, .bool b.shut] rfl rfl (cr_at n.ok).b2 rfl (by kernel_rfl) (by simp [Value.oneCell']) (fun w2 hb2 hg2 _ => ⟨TwoSt.one (cr_at n.ok) hne hb2 hg2, trivial⟩)); clear hK K; (try simp only [Act.put, List.setIfInBounds_toArray, List.set_cons_zero, List.set_cons_succ])) | (refine ph_call (i := 4) (1, 1) (by rfl) (by rfl) (by rfl) (by rfl) (by rfl) (fun K hK => ?_); apply Exists.intro; refine ⟨fun n => ?_, hK _ ?_⟩; (refine gup_store_blk (k := 1) rfl 43 (.tmp 5) (.tmp 48) rfl (w.heap.size + 1 + 1 + 1) #[.slice none 0 0, .int .i64 0, .bool false] #[.slice A3 (t.l.length + k) e3, .int .i64 t.room, .bool t.shut] rfl rfl (cr_at n.ok).b3 rfl (by kernel_rfl) (by simp [Value.oneCell']) (fun w2 hb2 hg2 _ => ⟨TwoSt.two (cr_at n.ok) hne hb2 hg2, trivial⟩)); clear hK K; (try simp only [Act.put, List.setIfInBounds_toArray, List.set_cons_zero, List.set_cons_succ])))
            refine ph_end ?_
            intro γ w10 hC hT
            clear ne_ aft_x0 aft_x1 aft_x2 aft_y0 aft_y1 aft_y2
            simp only [putG, Act.put, List.setIfInBounds_toArray, List.set_cons_zero, List.set_cons_succ]
            obtain ⟨hkp, c2b, c3b⟩ := hC
            simp only [List.length_cons, List.length_nil] at c2b c3b
            simp at c2b c3b
            have s0 := c2b.cell 0 (.slice A4 (b.l.length - k) e4) rfl
            have s1 := c2b.cell 1 (.int .i64 b.room) rfl
            have s2 := c2b.cell 2 (.bool b.shut) rfl
            have t0 := c3b.cell 0 (.slice A3 (t.l.length + k) e3) rfl
            have t1 := c3b.cell 1 (.int .i64 t.room) rfl
            have t2 := c3b.cell 2 (.bool t.shut) rfl
            clear x0 x1 x2 y0 y1 y2
            go_wp2_with fail
            have o8 := p8.kp hkp (fun q hq => by have := p8.lt q hq; exact ⟨this.2, by omega, by omega⟩)
            have o9 := p9.kp hkp (fun q hq => by have := p9.lt q hq; exact ⟨this.2, by omega, by omega⟩)
            have hB10 : Below w.heap.size w w10 := hB9.trans (hkp.low (fun b hb => ⟨by omega, by omega, by omega⟩))
            exact bodyPost_ret (v := .tuple #[.agg #[.slice A4 (b.l.length - k) e4, .int .i64 b.room, .bool b.shut], .agg #[.slice A3 (t.l.length + k) e3, .int .i64 t.room, .bool t.shut], .int .i64 k]) (by simp [results, Try.results15, go_sem, s0, s1, s2, t0, t1, t2]) rfl ⟨A4, A3, e4, e3, rfl, o8.from_ (by omega), o9.from_ (by omega), hB10⟩
      · have hgo : k < N := by have := hg.out; simpa using this.symm
        obtain ⟨rfl, rfl⟩ := hcut
        go_wp2_with fail
        go_roundw
        case rel => exact ⟨k + 1, by go_num, by omega, trivial⟩
        case measure => simp [intOf]; omega
end Go.Proofs.Ytldpplfkimdaaaa
