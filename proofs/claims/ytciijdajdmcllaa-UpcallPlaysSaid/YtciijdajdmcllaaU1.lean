/- The document's rows in memory; New, with, Name. -/
import Derived.Test.YtciijdajdmcllaaV4
namespace Go.Proofs.Ytciijdajdmcllaa
open Go.RowKit Go.Lib

theorem rowC_ok : EncOk rowC 2 := ⟨rowC_len, fun x u hu => by simp [rowC] at hu; rcases hu with rfl | rfl <;> rfl⟩
theorem info_rw : (Try.prog.info? 49).map (fun i => (i.zero, i.size, i.bytes)) = some (some (.agg #[.slice none 0 0, .int .i64 0]), 2, 32) := by kernel_rfl
theorem elR : Elem Try.prog 43 49 2 32 := elem_mk Try.underlying43 info_rw rfl (by omega)
theorem info_ru : (Try.prog.info? 33).map (fun i => (i.zero, i.size, i.bytes)) = some (some (.agg #[.int .i64 0, .int .i64 0, .int .u64 0]), 3, 24) := by kernel_rfl
theorem elU : Elem Try.prog 47 33 3 24 := elem_mk Try.underlying47 info_ru rfl (by omega)

/-- the document's rows: a row of the law's own, and what each holds -/
structure Qs (w : World) (A : Option Addr) (c : Nat) (R : List RwS) : Prop where
  len : R.length = 8
  own : Own rowC 2 w 0 49 A c R
  sl : ∀ r ∈ R, Sl eP 3 w r.A r.L
  cap : ∀ r ∈ R, r.L.length ≤ r.c
/-- its blocks -/
def FB (A : Option Addr) (R : List RwS) (b : Nat) : Prop := blk A = some b ∨ ∃ r ∈ R, r.L ≠ [] ∧ blk r.A = some b
theorem Qs.keep {w w' : World} {A : Option Addr} {c : Nat} {R : List RwS} (h : Qs w A c R) (hb : Below w.heap.size w w') : Qs w' A c R := ⟨h.len, h.own.keep hb, fun r hr => (h.sl r hr).keep hb, h.cap⟩
theorem Qs.drew {w : World} {A : Option Addr} {c : Nat} {R : List RwS} (h : Qs w A c R) : Qs w.drew A c R := ⟨h.len, h.own.drew, fun r hr => (h.sl r hr).drew, h.cap⟩
theorem sl_blk {w : World} {A : Option Addr} {L : List Up} (h : Sl eP 3 w A L) (hL : L ≠ []) : ∃ b off, A = some ⟨b, off, none⟩ ∧ b < w.heap.size := by
  have h0 : 0 < L.length := List.length_pos_iff.2 hL
  have h1 := h
  obtain ⟨b, off, rfl, _⟩ := h1 h0
  exact ⟨b, off, rfl, h.block_lt h0 (fun x => by simp [eP])⟩
theorem Qs.lt {w : World} {A : Option Addr} {c : Nat} {R : List RwS} (h : Qs w A c R) : ∀ b, FB A R b → b < w.heap.size := fun b hb => by
  rcases hb with e | ⟨r, hr, hl, e⟩
  · exact (h.own.lt b e).2
  · obtain ⟨b', off, e2, hlt⟩ := sl_blk (h.sl r hr) hl
    rw [e2] at e
    injection e with e
    have : b' = b := e
    omega
/-- over a call that keeps these blocks -/
theorem Qs.kept {F : Nat → Prop} {w w' : World} {A : Option Addr} {c : Nat} {R : List RwS} (h : Qs w A c R) (k : Kp F w w') (hF : ∀ b, FB A R b → F b) : Qs w' A c R := by
  refine ⟨h.len, ?_, fun r hr h0 => ?_, h.cap⟩
  · refine ⟨h.own.1, ?_⟩
    rcases h.own.2 with h1 | ⟨g, cap, cur, h1, h2, h3, h4⟩
    · exact .inl h1
    · refine .inr ⟨g, cap, cur, h1, h2, ?_, h4⟩
      injection h1 with h1
      rw [k.block g (hF g (.inl (by rw [h1]; rfl)))]
      exact h3
  · obtain ⟨b, off, hA, hc⟩ := h.sl r hr h0
    refine ⟨b, off, hA, fun i x j u hx hu => k.cell (hc i x j u hx hu) (hF b (.inr ⟨r, hr, fun e => by rw [e] at h0; simp at h0, by rw [hA]; rfl⟩))⟩
theorem Qs.at_ {w : World} {A : Option Addr} {c : Nat} {R : List RwS} (h : Qs w A c R) {i : Nat} (hi : i < R.length) : ∃ q, A = some ⟨q, 0, none⟩ ∧ w.cell? ⟨q, i * 2, none⟩ = some (.slice R[i].A R[i].L.length R[i].c) ∧ w.cell? ⟨q, i * 2 + 1, none⟩ = some (.int .i64 R[i].lost) := by
  rcases h.own.shape with ⟨_, e, _⟩ | ⟨q, rfl⟩
  · rw [e] at hi; simp at hi
  obtain ⟨b, off, hA, hc⟩ := (h.own.sl rowC_ok).at_ hi
  injection hA with hA
  injection hA with h1 h2
  subst h1 h2
  refine ⟨q, rfl, ?_, ?_⟩
  · simpa using hc 0 _ (show (rowC R[i])[0]? = some (.slice R[i].A R[i].L.length R[i].c) from rfl)
  · simpa using hc 1 _ (show (rowC R[i])[1]? = some (.int .i64 R[i].lost) from rfl)

theorem flat_set2 (R : List RwS) (i : Nat) (hi : i < R.length) (r : RwS) : ((R.flatMap rowC).set (i * 2) (.slice r.A r.L.length r.c)).set (i * 2 + 1) (.int .i64 r.lost) = (R.set i r).flatMap rowC := by
  induction R generalizing i with
  | nil => simp at hi
  | cons x R ih =>
    cases i with
    | zero => simp [rowC]
    | succ i =>
      simp only [List.flatMap_cons, List.set_cons_succ]
      rw [List.set_append_right _ _ (by rw [rowC_len]; omega), List.set_append_right _ _ (by rw [rowC_len]; omega), rowC_len, show (i + 1) * 2 - 2 = i * 2 by omega, show (i + 1) * 2 + 1 - 2 = i * 2 + 1 by omega, ih i (by simpa using hi)]
theorem flat_set1 (R : List RwS) (i : Nat) (hi : i < R.length) (A : Option Addr) (c : Nat) (L : List Up) : (R.flatMap rowC).set (i * 2) (.slice A L.length c) = (R.set i ⟨A, c, L, R[i].lost⟩).flatMap rowC := by
  have := set_row R i hi A c L
  rw [List.setIfInBounds_toArray] at this
  exact List.toArray_inj this
def putRow2 (w : World) (q o : Nat) (r : RwS) : World := (w.setCell ⟨q, o, none⟩ (.slice r.A r.L.length r.c)).setCell ⟨q, o + 1, none⟩ (.int .i64 r.lost)
theorem putRow2_own {w : World} {base : Nat} {e : TypeId} {q c : Nat} {R : List RwS} (h : Own rowC 2 w base e (some ⟨q, 0, none⟩) c R) {i : Nat} (hi : i < R.length) (r : RwS) : Own rowC 2 (putRow2 w q (i * 2) r) base e (some ⟨q, 0, none⟩) c (R.set i r) ∧ w.grownBy (putRow2 w q (i * 2) r) (some q) := by
  have h1 := World.ownsRow.stored h (i * 2) (.slice r.A r.L.length r.c)
  have h2 := World.ownsRow.stored h1.1 (i * 2 + 1) (.int .i64 r.lost)
  rw [flat_set2 R i hi] at h2
  refine ⟨?_, only_trans h1.2 h2.2⟩
  unfold Own
  rw [List.length_set]
  exact h2.1

def RetQ (A : Option Addr) (R : List RwS) (R' : List RwS) (w : World) (e : Ending) (w' : World) : Prop := ∃ (O : Option Addr) (d : Nat), e = .returned (.slice O 8 d) ∧ Qs w' O d R' ∧ (∀ b, blk O = some b → w.heap.size ≤ b ∧ b < w'.heap.size) ∧ Below w.heap.size w w'
set_option maxRecDepth 100000 in
set_option maxHeartbeats 2000000 in
theorem with_any (A : Option Addr) (c : Nat) (R : List RwS) (i : Nat) (r : RwS) (w : World) (hQ : Qs w A c R) (hi : i < 8) (hs : Sl eP 3 w r.A r.L) (hc : r.L.length ≤ r.c) :
    Calls Try.prog 20 #[.slice A 8 c, .int .i64 i, .agg #[.slice r.A r.L.length r.c, .int .i64 r.lost]] w (RetQ A R (R.set i r) w) := by
  have hlen := hQ.len
  have hB := below1 w (Obj.cells #[.slice r.A r.L.length r.c, .int .i64 r.lost] 49)
  have hsl := (hQ.own.keep hB).sl rowC_ok
  have bk := Blk.new w 49 #[.slice r.A r.L.length r.c, .int .i64 r.lost]
  have i0 : (0 : Int) ≤ (i : Int) := by omega
  have i1 : (i : Int) < 8 := by omega
  have HQ := Lib.hid hQ
  clear hQ
  go_enter Try.func20, Try.ntmps20
  have hO : Own rowC 2 ((w.alloc (Obj.cells #[.slice r.A r.L.length r.c, .int .i64 r.lost] 49)).alloc (Obj.cells #[] 49)) (w.heap.size + 1) 49 (some ⟨w.heap.size + 1, 0, none⟩) 0 [] := Own.empty' _ 49 (by simp) (by omega)
  have HF1 : Hid (∀ A1 e1 w1, Own rowC 2 w1 (w.heap.size + 1) 49 A1 e1 R → ((w.alloc (Obj.cells #[.slice r.A r.L.length r.c, .int .i64 r.lost] 49)).alloc (Obj.cells #[] 49)).grownBy w1 (blk (some (⟨w.heap.size + 1, 0, none⟩ : Addr))) →
      ∃ q, A1 = some ⟨q, 0, none⟩ ∧ w1.cell? ⟨w.heap.size, 0, none⟩ = some (.slice r.A r.L.length r.c) ∧ w1.cell? ⟨w.heap.size, 1, none⟩ = some (.int .i64 r.lost) ∧ w1.frozen? ⟨q, i * 2, none⟩ = false ∧ w1.frozen? ⟨q, i * 2 + 1, none⟩ = false ∧ (∃ v, w1.cell? ⟨q, i * 2, none⟩ = some v) ∧ (∃ v, w1.cell? ⟨q, i * 2 + 1, none⟩ = some v) ∧ Qs (putRow2 w1 q (i * 2) r) (some ⟨q, 0, none⟩) e1 (R.set i r) ∧ (w.heap.size ≤ q ∧ q < (putRow2 w1 q (i * 2) r).heap.size) ∧ Below w.heap.size w (putRow2 w1 q (i * 2) r)) := fun A1 e1 w1 own1 hg1 => by
    rcases own1.shape with ⟨_, e, _⟩ | ⟨q, rfl⟩
    · rw [e] at hlen; simp at hlen
    have hb1 : Below (w.heap.size + 1) (w.alloc (Obj.cells #[.slice r.A r.L.length r.c, .int .i64 r.lost] 49)) w1 := by
      have h0 := (below1 (w.alloc (Obj.cells #[.slice r.A r.L.length r.c, .int .i64 r.lost] 49)) (Obj.cells #[] 49)).mono (show w.heap.size + 1 ≤ _ by simp)
      refine h0.trans ⟨hg1.os, hg1.tape, hg1.output, hg1.size, fun j hj => hg1.block j (by simp; omega) (by simp [blk]; omega)⟩
    have bk1 : Blk w1 w.heap.size 49 #[.slice r.A r.L.length r.c, .int .i64 r.lost] := (hb1.block w.heap.size (by omega)).trans bk
    have hq1 := own1.lt q rfl
    have hcap := own1.cap
    have hp2 := putRow2_own own1 (i := i) (by omega) r
    have hBw : Below w.heap.size w (putRow2 w1 q (i * 2) r) := by
      refine (hB.trans (hb1.mono (by omega))).trans ⟨hp2.2.os, hp2.2.tape, hp2.2.output, hp2.2.size, fun j hj => hp2.2.block j (by have := hB.size; have := hb1.size; omega) (by simp; omega)⟩
    have r0 := own_room own1 (i * 2) (by omega)
    have r1 := own_room own1 (i * 2 + 1) (by omega)
    refine ⟨q, rfl, bk1.cell 0 _ rfl, bk1.cell 1 _ rfl, r0.2, r1.2, Option.isSome_iff_exists.1 r0.1, Option.isSome_iff_exists.1 r1.1, ⟨by rw [List.length_set]; exact hlen, hp2.1.from_ (by omega), fun x hx => ?_, fun x hx => ?_⟩, ⟨by omega, Nat.lt_of_lt_of_le hq1.2 hp2.2.size⟩, hBw⟩
    · rcases List.mem_or_eq_of_mem_set hx with hx | rfl
      · exact (HQ.out.sl x hx).keep hBw
      · exact hs.keep hBw
    · rcases List.mem_or_eq_of_mem_set hx with hx | rfl
      · exact HQ.out.cap x hx
      · exact hc
  go_wp2_with (at_builtin; refine wpList_append_sl _ rfl _ _ rfl elR rowC_ok hO (n := 0) rfl rfl (m := 8) rfl (ys := R) hlen (hsl.alloc _) (by simp only [maxLen]; omega) (by omega) (by simp) _ rfl 8 rfl ?_; intro A1 e1 w1 own1 hg1 at1; simp only [List.nil_append] at own1; obtain ⟨q, rfl, k0, k1, z0, z1, ⟨v0, y0⟩, ⟨v1, y1⟩, hq, hq2, hBw⟩ := HF1.out A1 e1 w1 own1 hg1; (have HE := Lib.hid (And.intro hq (And.intro hq2 hBw))); clear hq hq2 hBw own1 hg1 at1)
  go_ret
  exact ⟨_, e1, rfl, HE.out.1, fun b hb => by injection hb with hb; have := HE.out.2.1; subst hb; exact this, HE.out.2.2⟩
end Go.Proofs.Ytciijdajdmcllaa
