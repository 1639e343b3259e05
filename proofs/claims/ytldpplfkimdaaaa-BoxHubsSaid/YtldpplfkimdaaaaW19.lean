/- Walks: hubs of boxes: Take. -/
import Derived.Test.YtldpplfkimdaaaaW18
namespace Go.Proofs.Ytldpplfkimdaaaa
open Go.RowKit Go.Conc Go.Lib

/-- the error of a hub without letters -/
def allE (bs : List BoxS) : Int := if bs.all (·.shut) = true then 25 else 6
theorem allE_nil : allE [] = 25 := rfl
theorem allE_snoc (bs : List BoxS) (b : BoxS) : allE (bs ++ [b]) = if b.shut then allE bs else 6 := by
  unfold allE
  rw [List.all_append]
  cases h1 : bs.all (·.shut) <;> cases h2 : b.shut <;> simp [h1, h2]
/-- the first box that has a letter -/
def FirstAt (bs : List BoxS) (p : Nat) (x : Lt) (b : BoxS) : Prop := bs[p]? = some ⟨x :: b.l, b.room, b.shut⟩ ∧ ∀ (i : Nat) (c : BoxS), i < p → bs[i]? = some c → c.l = []
theorem first_or (bs : List BoxS) : (∃ p x b, FirstAt bs p x b) ∨ ∀ (i : Nat) (c : BoxS), bs[i]? = some c → c.l = [] := by
  induction bs with
  | nil => exact .inr fun i c h => by simp at h
  | cons b bs ih =>
    obtain ⟨l, room, sh⟩ := b
    cases l with
    | cons x l => exact .inl ⟨0, x, ⟨l, room, sh⟩, rfl, fun i c hi => by omega⟩
    | nil =>
      rcases ih with ⟨p, x, b, h1, h2⟩ | h
      · refine .inl ⟨p + 1, x, b, by simpa using h1, fun i c hi hc => ?_⟩
        cases i with
        | zero => simp at hc; rw [← hc]
        | succ i => exact h2 i c (by omega) (by simpa using hc)
      · refine .inr fun i c hc => ?_
        cases i with
        | zero => simp at hc; rw [← hc]
        | succ i => exact h i c (by simpa using hc)

theorem HS.kp {F : Nat → Prop} {B H cp : Nat} {w w' : World} {gs : List Nat} {bs : List BoxS} {AP : Option Addr} (h : HS B w H gs bs AP cp) (hk : Kp F w w') (h1 : ∀ g ∈ gs, F g ∧ F (g + 1)) (h2 : ∀ q, blk AP = some q → F q) (h3 : F H) : HS B w' H gs bs AP cp :=
  ⟨h.ps.kp hk h1, h.rp.kp hk h2, hk.blk h.hb h3, h.n8⟩
/-- a letter is stored in a block of its own -/
theorem HS.letter {B H cp : Nat} {w : World} {gs : List Nat} {bs : List BoxS} {AP : Option Addr} (h : HS B w H gs bs AP cp) {zr : Nat} {cs : Array Value} (hz : Blk w zr 32 cs) (L : List Value) : HS B (w.setCells zr 0 L) H gs bs AP cp := by
  refine h.kp (kp_cells zr 0 L w) (fun g hg => ?_) (fun q hq => ⟨(h.rp.lt q hq).2, ?_⟩) ⟨h.hb.lt, blk_ne h.hb hz (by decide)⟩
  · obtain ⟨b, hb⟩ := h.ps.at_ hg
    exact ⟨⟨hb.1.lt, Ne.symm (chn_ne hb.1 hz)⟩, ⟨hb.2.lt, blk_ne hb.2 hz (by decide)⟩⟩
  · obtain ⟨cs', hq'⟩ := h.rp.ty q hq
    exact blk_ne hq' hz (by decide)
theorem Hc.letter {gs : List Nat} {w w' : World} (h : Hc gs w w') {zr : Nat} (hz : w.heap.size ≤ zr) (L : List Value) : Hc gs w (w'.setCells zr 0 L) :=
  Kp.trans h ((kp_cells zr 0 L w').mono fun b hb => ⟨Nat.lt_of_lt_of_le hb.1 (Kp.size h), by have := hb.1; omega⟩)

set_option maxRecDepth 100000 in
set_option maxHeartbeats 4000000 in
/-- up to box n, all of them without letters -/
theorem htake_any {B H cp : Nat} {gs : List Nat} {bs : List BoxS} {AP : Option Addr} (w : World) (h : HS B w H gs bs AP cp) (h0 : 0 < gs.length) :
    Calls Try.prog 19 #[.pointer (some ⟨H, 0, none⟩)] w fun e w' =>
      ((∃ p x b, FirstAt bs p x b ∧ e = .returned (.tuple #[.int .i64 p, .agg #[.int .i64 x.from_, .int .u64 x.word], .int .i64 0]) ∧ HS B w' H gs (bs.set p b) AP cp) ∨
       ((∀ (i : Nat) (c : BoxS), bs[i]? = some c → c.l = []) ∧ e = .returned (.tuple #[.int .i64 0, .agg #[.int .i64 0, .int .u64 0], .int .i64 (allE bs)]) ∧ HS B w' H gs bs AP cp)) ∧ Hc gs w w' := by
  obtain ⟨P, rfl⟩ := h.row h0
  have h8 := h.n8
  have bk := Blk.new w 32 #[.int .i64 0, .int .u64 0]
  have h1 := h.keep (below1 w (Obj.cells #[.int .i64 0, .int .u64 0] 32))
  have hH : Hc gs w (w.alloc (Obj.cells #[.int .i64 0, .int .u64 0] 32)) := Hc.of_below (below1 _ _)
  have c0 := h1.hb.cell 0 (.slice (some ⟨P, 0, none⟩) gs.length cp) rfl
  have hlw := Lib.hid (below1 w (Obj.cells #[.int .i64 0, .int .u64 0] 32)).size
  have hq0 : ∀ g ∈ gs, w.heap.size ≠ g ∧ w.heap.size ≠ g + 1 := fun g hg => by
    obtain ⟨b, hb⟩ := h.ps.at_ hg
    have h3 := hb.1.lt
    have h4 := hb.2.lt
    exact ⟨by omega, by omega⟩
  have HQ := Lib.hid hq0
  clear h hq0
  go_enter Try.func19, Try.ntmps19
  go_wp2_with fail
  generalize w.alloc (Obj.cells #[.int .i64 0, .int .u64 0] 32) = wb at *
  have hzr0 : Hid (w.heap.size ≤ w.heap.size) := Nat.le_refl _
  generalize hzr : w.heap.size = zr at hlw bk HQ ⊢
  have hZ : Hid (w.heap.size ≤ zr) := Nat.le_of_eq hzr
  clear hzr hzr0
  go_loopw [5, 18] (fun v5 v18 wr => ∃ k : Nat, v18 = .int .i64 k ∧ v5 = .int .i64 (allE (bs.take k)) ∧ k ≤ gs.length ∧ (∀ (i : Nat) (c : BoxS), i < k → bs[i]? = some c → c.l = []) ∧ HS B wr H gs bs (some ⟨P, 0, none⟩) cp ∧ Blk wr zr 32 #[.int .i64 0, .int .u64 0] ∧ Hc gs w wr) (fun _ v18 _ => gs.length - (intOf v18).toNat)
  case atStart => exact ⟨0, rfl, rfl, Nat.zero_le _, fun i c hi => by omega, h1, bk, hH⟩
  case round =>
    clear h1 bk hH c0
    obtain ⟨k, rfl, rfl, hk, hem, hS, bk, hH⟩ := hrel
    by_cases hlt : k < gs.length
    · obtain ⟨g, hg⟩ : ∃ g, gs[k]? = some g := ⟨_, List.getElem?_eq_getElem hlt⟩
      obtain ⟨b, hb⟩ : ∃ b, bs[k]? = some b := ⟨_, List.getElem?_eq_getElem (by rw [← hS.ps.len]; exact hlt)⟩
      have cP := hS.ptr hg
      have hgm := List.mem_of_getElem? hg
      have k0 : (0 : Int) ≤ (k : Int) := by omega
      have k1 : (k : Int) < (gs.length : Int) := by omega
      have hT := Lib.hid (take_any b g wr (hS.ps.bx k g b hg hb))
      have HE := Lib.hid (show allE (bs.take (k + 1)) = if b.shut then allE (bs.take k) else 6 by
        rw [List.take_add_one, hb]; exact allE_snoc _ _)
      generalize allE (bs.take k) = ev at *
      go_wp2_with fail
      refine hT.out.mono ?_
      rintro e w2 ⟨rfl, hb2, hc2⟩
      clear hT cP
      have hS2 := hS.turn hg hc2 hb2
      have hq := HQ.out g hgm
      have bk2 : Blk w2 zr 32 #[.int .i64 0, .int .u64 0] := (hc2.block zr bk.lt hq.1 hq.2).trans bk
      have hH2 := hH.trans (Hc.of_ch hc2 hgm)
      clear hS bk hH hb2 hc2
      obtain ⟨bl, room, sh⟩ := b
      cases bl with
      | cons x l =>
        simp only [takeL, takeE, takeB, List.tail_cons] at hS2 ⊢
        have xk := (Blk.new w2 32 #[.int .i64 x.from_, .int .u64 x.word])
        have hS3 := hS2.keep (below1 w2 (Obj.cells #[.int .i64 x.from_, .int .u64 x.word] 32))
        have bk3 := bk2.alloc (Obj.cells #[.int .i64 x.from_, .int .u64 x.word] 32)
        have hH3 := hH2.trans (Hc.of_below (below1 w2 (Obj.cells #[.int .i64 x.from_, .int .u64 x.word] 32)))
        have hl2 : zr < w2.heap.size := bk2.lt
        have HF := Lib.hid (And.intro hS3 (And.intro bk3 hH3))
        have x0 := xk.cell 0 (.int .i64 x.from_) rfl
        have x1 := xk.cell 1 (.int .u64 x.word) rfl
        have y0 := bk3.cell 0 (.int .i64 0) rfl
        have y1 := bk3.cell 1 (.int .u64 0) rfl
        have f0 := bk3.frozen 0
        have f1 := bk3.frozen 1
        have HFA := Lib.hid (show FirstAt bs k x ⟨l, room, sh⟩ from ⟨hb, hem⟩)
        clear hS2 bk2 hH2 hS3 bk3 hH3 xk hb hem HE
        go_wp2_with fail
        have HT : Hid (∀ n, ((w2.alloc (Obj.cells #[.int .i64 x.from_, .int .u64 x.word] 32)).drewN n).there zr 0 2) := fun n => Blk.there (HF.out.2.1.drewN n) (by simp)
        refine wp_region_chain [3] 38 (by kernel_rfl) (by kernel_rfl) (by rfl) ?_
        repeat (first | (refine ch_row (by rfl) ?_; (try simp only [Act.put, List.setIfInBounds_toArray, List.set_cons_zero, List.set_cons_succ])) | (refine ch_free (by rfl) (by rfl) (by rfl) (fun K hK => ?_); go_big_quiet_op; refine hK _ ?_; clear hK K) | (refine ch_read (by rfl) (by rfl) (by rfl) (fun K hK => ?_); go_big_quiet_op; refine hK _ ?_; clear hK K) | (refine ch_no (by rfl) (by rfl) ?_; (try simp only [Act.put, List.setIfInBounds_toArray, List.set_cons_zero, List.set_cons_succ])))
        refine ch_end ?_
        intro nd
        simp only [List.filterMap_cons, List.filterMap_nil, List.getElem?_cons_succ, List.getElem?_cons_zero]
        refine wpList_store_mid rfl 32 _ _ rfl zr 0 #[.int .i64 x.from_, .int .u64 x.word] rfl rfl (HT.out nd) (by kernel_rfl) (by simp [Value.oneCell']) ?_
        refine only_end ?_
        simp only [Act.put]
        refine at_world (F := Exit.then _ _ _ _) (fun W => HS B W H gs (bs.set k ⟨l, room, sh⟩) (some ⟨P, 0, none⟩) cp ∧ Hc gs w W ∧ Blk W zr 32 #[.int .i64 x.from_, .int .u64 x.word]) ⟨(HF.out.1.keep (bdrewN (Below.refl _ _) nd)).letter (HF.out.2.1.drewN nd) _, Hc.letter (Kp.drewN HF.out.2.2 nd) hZ.out _, ((HF.out.2.1.drewN nd).set_ 0 (.int .i64 x.from_)).set_ 1 (.int .u64 x.word)⟩ ?_
        rintro w3 ⟨hS9, hH9, bk9⟩
        have d0 := bk9.cell 0 (.int .i64 x.from_) rfl
        have d1 := bk9.cell 1 (.int .u64 x.word) rfl
        have HF9 := Lib.hid (And.intro hS9 hH9)
        clear HF HT x0 x1 y0 y1 f0 f1 bk9 hS9 hH9
        go_wp2_with fail
        exact bodyPost_ret (v := .tuple #[.int .i64 k, .agg #[.int .i64 x.from_, .int .u64 x.word], .int .i64 0]) (by simp [results, Try.results19, go_sem, d0, d1]) rfl ⟨.inl ⟨k, x, _, HFA.out, rfl, HF9.out.1⟩, HF9.out.2⟩
      | nil =>
        simp only [takeL, takeE, takeB, List.tail_nil] at hS2 ⊢
        have xk := (Blk.new w2 32 #[.int .i64 0, .int .u64 0])
        have hS3 := hS2.keep (below1 w2 (Obj.cells #[.int .i64 0, .int .u64 0] 32))
        have bk3 := bk2.alloc (Obj.cells #[.int .i64 0, .int .u64 0] 32)
        have hH3 := hH2.trans (Hc.of_below (below1 w2 (Obj.cells #[.int .i64 0, .int .u64 0] 32)))
        rw [show bs.set k ⟨[], room, sh⟩ = bs by
          have h1 := List.getElem?_eq_some_iff.1 hb
          rw [← h1.2]; exact List.set_getElem_self _] at hS3
        have HF := Lib.hid (And.intro hS3 (And.intro bk3 hH3))
        have hem' : Hid (∀ (i : Nat) (c : BoxS), i < k + 1 → bs[i]? = some c → c.l = []) := fun i c hi hc => by
          by_cases he : i = k
          · subst he; rw [hb] at hc; injection hc with hc; rw [← hc]
          · exact hem i c (by omega) hc
        clear hS2 bk2 hH2 hS3 bk3 hH3 xk hb hem
        cases sh
        · have HE6 : Hid (allE (bs.take (k + 1)) = 6) := by have := HE.out; unfold Hid; simpa using this
          clear HE
          go_wp2_with fail
          go_roundw
          case rel => exact ⟨k + 1, by go_num, by rw [HE6.out], by omega, hem'.out, HF.out.1, HF.out.2.1, HF.out.2.2⟩
          case measure => simp [intOf]; omega
        · have HE6 : Hid (allE (bs.take (k + 1)) = ev) := by have := HE.out; unfold Hid; simpa using this
          clear HE
          go_wp2_with fail
          go_roundw
          case rel => exact ⟨k + 1, by go_num, by rw [HE6.out], by omega, hem'.out, HF.out.1, HF.out.2.1, HF.out.2.2⟩
          case measure => simp [intOf]; omega
    · obtain rfl : k = gs.length := by omega
      have k1 : ¬ (gs.length : Int) < (gs.length : Int) := by omega
      have HF := Lib.hid (And.intro hS (And.intro bk hH))
      have y0 := bk.cell 0 (.int .i64 0) rfl
      have y1 := bk.cell 1 (.int .u64 0) rfl
      have f0 := bk.frozen 0
      have f1 := bk.frozen 1
      have hl2 := bk.lt
      have HTk : Hid (bs.take gs.length = bs) := by unfold Hid; rw [hS.ps.len]; exact List.take_length
      have HEM : Hid (∀ (i : Nat) (c : BoxS), bs[i]? = some c → c.l = []) := fun i c hc => hem i c (by have := (List.getElem?_eq_some_iff.1 hc).1; rw [hS.ps.len]; exact this) hc
      clear hS bk hH hem hlt hk
      rw [HTk.out]
      go_wp2_with fail
      change bodyPost _ _ _ _ _ (wr.setCells zr 0 [.int .i64 0, .int .u64 0])
      have d0 : (wr.setCells zr 0 [.int .i64 0, .int .u64 0]).cell? ⟨zr, 0, none⟩ = some (.int .i64 0) := ((HF.out.2.1.set_ 0 (.int .i64 0)).set_ 1 (.int .u64 0)).cell 0 _ rfl
      have d1 : (wr.setCells zr 0 [.int .i64 0, .int .u64 0]).cell? ⟨zr, 1, none⟩ = some (.int .u64 0) := ((HF.out.2.1.set_ 0 (.int .i64 0)).set_ 1 (.int .u64 0)).cell 1 _ rfl
      exact bodyPost_ret (v := .tuple #[.int .i64 0, .agg #[.int .i64 0, .int .u64 0], .int .i64 (allE bs)]) (by simp [results, Try.results19, go_sem, d0, d1]) rfl ⟨.inr ⟨HEM.out, rfl, HF.out.1.letter HF.out.2.1 _⟩, HF.out.2.2.letter hZ.out _⟩
end Go.Proofs.Ytldpplfkimdaaaa
