/- Walk: the statement RatioSums. -/
import Derived.Test.YtojglionlcjkjaaM3
import Derived.Test.YtojglionlcjkjaaW6
import Derived.Test.YtojglionlcjkjaaW7b
import Derived.Deep.RegionWith
namespace Go.Proofs.Ytojglionlcjkjaa
open Go.RowKit

theorem keepA4 {W w1 : World} {p q r t : Addr} {v u x y : Value} (h : Below W.heap.size W w1 ∧ w1.cell? p = some v ∧ w1.cell? q = some u ∧ w1.cell? r = some x ∧ w1.cell? t = some y) (o : Obj) :
    Below W.heap.size W (w1.alloc o) ∧ (w1.alloc o).cell? p = some v ∧ (w1.alloc o).cell? q = some u ∧ (w1.alloc o).cell? r = some x ∧ (w1.alloc o).cell? t = some y :=
  ⟨h.1.alloc h.1.size o, kcell (below1 _ _) h.2.1, kcell (below1 _ _) h.2.2.1, kcell (below1 _ _) h.2.2.2.1, kcell (below1 _ _) h.2.2.2.2⟩
theorem keepB4 {W w0 w1 : World} {p q r t : Addr} {v u x y : Value} (h : Below W.heap.size W w0 ∧ w0.cell? p = some v ∧ w0.cell? q = some u ∧ w0.cell? r = some x ∧ w0.cell? t = some y) (hb : Below w0.heap.size w0 w1) :
    Below W.heap.size W w1 ∧ w1.cell? p = some v ∧ w1.cell? q = some u ∧ w1.cell? r = some x ∧ w1.cell? t = some y :=
  ⟨bstep h.1 (Nat.le_refl _) hb, kcell hb h.2.1, kcell hb h.2.2.1, kcell hb h.2.2.2.1, kcell hb h.2.2.2.2⟩
theorem keepG4 {W w1 w2 : World} {row : Option Nat} {b o1 o2 o3 o4 : Nat} {v u x y : Value} (h : Below W.heap.size W w1 ∧ w1.cell? ⟨b, o1, none⟩ = some v ∧ w1.cell? ⟨b, o2, none⟩ = some u ∧ w1.cell? ⟨b, o3, none⟩ = some x ∧ w1.cell? ⟨b, o4, none⟩ = some y) (hg : w1.grownBy w2 row)
    (hr : ∀ k, row = some k → W.heap.size + 1 ≤ k) (hb : b < W.heap.size) : Below W.heap.size W w2 ∧ w2.cell? ⟨b, o1, none⟩ = some v ∧ w2.cell? ⟨b, o2, none⟩ = some u ∧ w2.cell? ⟨b, o3, none⟩ = some x ∧ w2.cell? ⟨b, o4, none⟩ = some y :=
  have hr' : ∀ k, row = some k → W.heap.size ≤ k := fun k hk => by have := hr k hk; omega
  ⟨bgrow h.1 hg hr', gcell h.2.1 hg hr' hb, gcell h.2.2.1 hg hr' hb, gcell h.2.2.2.1 hg hr' hb, gcell h.2.2.2.2 hg hr' hb⟩

/-- rows in blocks of their own -/
def dis (A B : Option Addr) : Prop := ∀ g, blk A = some g → blk B ≠ some g
theorem dis_ne {A B : Option Addr} (h : dis A B) : blk A = none ∨ blk A ≠ blk B := by
  cases hA : blk A with
  | none => exact .inl rfl
  | some g => right; intro e; exact h g hA e.symm
theorem dis.symm {A B : Option Addr} (h : dis A B) : dis B A := fun g hB hA => h g hA hB
theorem dis_grow {A B A' : Option Addr} {H : Nat} (h : dis A B) (ha : blk A' = blk A ∨ blk A' = some H) (hB : ∀ g, blk B = some g → g < H) : dis A' B := fun g hg hb => by
  rcases ha with ha | ha
  · exact h g (by rw [← ha]; exact hg) hb
  · rw [ha] at hg
    injection hg with hg
    have := hB g hb
    omega

def st (l : List Rt) (k n d e : Nat) : Prop := (e = 0 ∧ sumR 0 1 l = sumR n d (l.drop k)) ∨ (e ≠ 0 ∧ n = 0 ∧ d = 0 ∧ sumR 0 1 l = ⟨0, 0, e⟩)
theorem st_end {l : List Rt} {n d e : Nat} (h : st l l.length n d e) : sumR 0 1 l = ⟨n, d, e⟩ := by
  rcases h with ⟨rfl, h⟩ | ⟨_, rfl, rfl, h⟩
  · rw [h, List.drop_length, sumR]
  · exact h
theorem addR_err {an ad bn bd : Nat} (h : ¬ (addR an ad bn bd).err = 0) : (addR an ad bn bd).num = 0 ∧ (addR an ad bn bd).den = 0 := by
  unfold addR at h ⊢
  split
  · rename_i hr
    split
    · rename_i hf
      rw [if_pos hr, if_pos hf] at h
      exact absurd rfl h
    · exact ⟨rfl, rfl⟩
  · exact ⟨rfl, rfl⟩
theorem st_step {l : List Rt} {k n d : Nat} (hk : k < l.length) (h : st l k n d 0) : st l (k + 1) (addR n d l[k].num l[k].den).num (addR n d l[k].num l[k].den).den (addR n d l[k].num l[k].den).err := by
  have h0 : sumR 0 1 l = sumR n d (l.drop k) := h.elim (·.2) (fun h => absurd rfl h.1)
  rw [sumR_at hk] at h0
  by_cases he : (addR n d l[k].num l[k].den).err = 0
  · rw [if_pos he] at h0
    rw [he]
    exact .inl ⟨rfl, h0⟩
  · rw [if_neg he] at h0
    obtain ⟨e1, e2⟩ := addR_err he
    exact .inr ⟨he, e1, e2, h0⟩
theorem st_stay {l : List Rt} {k n d e : Nat} (he : ¬ e = 0) (h : st l k n d e) : st l (k + 1) n d e := by
  rcases h with h | h
  · exact absurd h.1 he
  · exact .inr h

theorem info_q : (Try.prog.info? 25).map (fun i => (i.zero, i.size, i.bytes)) = some (some (.agg #[.int .u64 0, .int .u64 0]), 2, 16) := by kernel_rfl
theorem elQ : Elem Try.prog 35 25 2 16 := elem_mk Try.underlying35 info_q rfl (by omega)

set_option maxHeartbeats 1000000 in
theorem sums_many (A : Option Addr) (n c : Nat) (w : World) (h : 40 < n) (hl : n ≤ 9223372036854775807) :
    Calls Try.prog 4 #[.slice A n c] w fun e w' => e = .returned (.bool true) ∧ Below w.heap.size w w' := by
  go_enter Try.func4, Try.ntmps4
  go_wp2_with (go_at_call 10; refine (awake_any _).mono ?_; rintro e w2 ⟨rfl, hb⟩)
  go_ret
  exact ⟨rfl, hb⟩

set_option maxRecDepth 100000 in
set_option maxHeartbeats 8000000 in
theorem sums_few (A : Option Addr) (l : List Rt) (c : Nat) (w : World) (hs : Sl eR 2 w A l) (h1 : l.length ≤ 40) (hb : ∀ r ∈ l, r.num < 18446744073709551616 ∧ r.den < 18446744073709551616) :
    Calls Try.prog 4 #[.slice A l.length c] w fun e w' => e = .returned (.bool true) ∧ Below w.heap.size w w' := by
  have HB := Lib.hid hb
  clear hb
  go_enter Try.func4, Try.ntmps4
  go_wp2
  have bs : Blk (w.alloc (Obj.cells #[.int .u64 0, .int .u64 1] 24)) w.heap.size 24 #[.int .u64 (0 : Nat), .int .u64 (1 : Nat)] := Blk.new _ _ _
  have hB := below1 w (Obj.cells #[.int .u64 0, .int .u64 1] 24)
  generalize w.alloc (Obj.cells #[.int .u64 0, .int .u64 1] 24) = W0 at *
  go_loopw [5, 6, 4, 7] (fun vx vb vf vi wr => ∃ (k : Nat) (O1 O2 : Option Addr) (q1 q2 n d e : Nat), k ≤ l.length ∧ vi = .int .i64 k ∧ vx = .slice O1 k q1 ∧ vb = .slice O2 k q2 ∧ vf = .int .i64 e ∧ n < 18446744073709551616 ∧ d < 18446744073709551616 ∧ Hid (st l k n d e) ∧ dis O1 O2 ∧ Own eR 2 wr (w.heap.size + 1) 25 O1 q1 (l.take k) ∧ Own eR 2 wr (w.heap.size + 1) 25 O2 q2 (l.reverse.take k) ∧ Blk wr w.heap.size 24 #[.int .u64 n, .int .u64 d] ∧ Below w.heap.size w wr) (fun _ _ _ i _ => l.length - (intOf i).toNat)
  case atStart => exact ⟨0, none, none, 0, 0, 0, 1, 0, Nat.zero_le _, rfl, rfl, rfl, rfl, by omega, by omega, .inl ⟨rfl, rfl⟩, (fun g hg => by cases hg), Own.nil _ _ _, Own.nil _ _ _, bs, hB⟩
  case round =>
    clear bs hB
    obtain ⟨k, O1, O2, q1, q2, n, d, e, hk, rfl, rfl, rfl, rfl, hn, hd, HS, hdis, own1, own2, bs, hB⟩ := hrel
    by_cases hlt : k < l.length
    · obtain ⟨b, off, rfl, c0, c1⟩ := Sl.rt_at (hs.keep hB) hlt
      obtain ⟨j, hj⟩ : ∃ j : Nat, j = l.length - 1 - k := ⟨_, rfl⟩
      have hjl : j < l.length := by omega
      obtain ⟨b', off', heq, e0, e1⟩ := Sl.rt_at (hs.keep hB) hjl
      injection heq with heq
      injection heq with hq1 hq2
      subst hq1 hq2
      have hbl : b < w.heap.size := hs.block_lt (by omega) (fun x => by simp [eR])
      have HR1 : Hid ((l.take k).length = k) := by simp [Hid]; omega
      have HR2 : Hid ((l.reverse.take k).length = k) := by simp [Hid]; omega
      have HS1 := Lib.hid (List.take_succ_eq_append_getElem hlt)
      have HS2 : Hid (l.reverse.take (k + 1) = l.reverse.take k ++ [l[j]]) := by
        unfold Hid
        rw [List.take_succ_eq_append_getElem (by simpa using hlt), List.getElem_reverse]
        subst hj
        rfl
      have E1 : IntKind.i64.wrap ((l.length : Int) - 1) = ((l.length - 1 : Nat) : Int) := by rw [IntWalk.i64_in _ (by omega)]; omega
      have E2 : IntKind.i64.wrap (((l.length - 1 : Nat) : Int) - (k : Int)) = (j : Int) := by rw [IntWalk.i64_in _ (by omega)]; omega
      have HST := Lib.hid (fun h : e = 0 => st_step hlt (h ▸ HS.out))
      have HSK := Lib.hid (fun h => st_stay h HS.out)
      obtain ⟨r1, r2⟩ := HB.out _ (List.getElem_mem hlt)
      have hA := Lib.hid (fun W => refAdd_any n d l[k].num l[k].den W hn hd r1 r2)
      simp only [r3V] at hA
      obtain ⟨t1, t2⟩ := addR_lt n d l[k].num l[k].den
      generalize addR n d l[k].num l[k].den = t at *
      obtain ⟨tn, td, te⟩ := t
      simp only at HST hA t1 t2
      generalize l.length - 1 = m at *
      have k0 : (0 : Int) ≤ (k : Int) := by omega
      have k1 : (k : Int) < (l.length : Int) := by omega
      have j0 : (0 : Int) ≤ (j : Int) := by omega
      have j1 : (j : Int) < (l.length : Int) := by omega
      clear hj
      generalize l[k] = f at *
      generalize l[j] = g at *
      have hBs := hB.size
      have hgs := bs.lt
      go_wp2_with fail
      go_region_held3 (fun w' => Below w.heap.size w w' ∧ w'.cell? ⟨b, off + k * 2, none⟩ = some (.int .u64 f.num) ∧ w'.cell? ⟨b, off + k * 2 + 1, none⟩ = some (.int .u64 f.den) ∧ w'.cell? ⟨b, off + j * 2, none⟩ = some (.int .u64 g.num) ∧ w'.cell? ⟨b, off + j * 2 + 1, none⟩ = some (.int .u64 g.den))
        (first | exact ⟨hB.drew, c0, c1, e0, e1⟩ | exact keepB4 ‹_› hb4 | exact keepB4 ‹_› hb5 | exact keepA4 ‹_› _ | exact keepG4 ‹_› hgA (fun q hq => (own1.lt q hq).1) hbl | exact keepG4 ‹_› hgB (fun q hq => (own2.lt q hq).1) hbl)
        (first | (go_at_call 8; (with_reducible refine (to_any f.num f.den _).mono ?_); rintro e' w4 ⟨rfl, hb4⟩; have hz4 := hb4.size; (try simp at hz4)) | (go_at_call 8; (with_reducible refine (to_any g.num g.den _).mono ?_); rintro e' w5 ⟨rfl, hb5⟩; have hz5 := hb5.size; (try simp at hz5)) | (refine step_append_sl _ rfl (.tmp 23) (.tmp 29) rfl elQ eR_ok (base := w.heap.size + 1) (xs := l.take k) ((Own.keep (Own.drew own1) hb4).alloc _) (n := k) HR1.out rfl (m := 1) rfl (ys := [f]) rfl (Sl.new eR_ok w4 _ _ rfl _) (by simp only [maxLen]; omega) (by omega) (by simp; omega) _ rfl (k + 1) rfl ?_; intro A1 p1 w1' ownA hgA atA; have hzA := hgA.size; (try simp at hzA)) | (refine step_append_sl _ rfl (.tmp 31) (.tmp 41) rfl elQ eR_ok (base := w.heap.size + 1) (xs := l.reverse.take k) ((Own.keep (Own.kept ((Own.keep (Own.drew own2) hb4).alloc _) hgA (dis_ne hdis.symm)) hb5).alloc _) (n := k) HR2.out rfl (m := 1) rfl (ys := [g]) rfl (Sl.new eR_ok w5 _ _ rfl _) (by simp only [maxLen]; omega) (by omega) (by simp; omega) _ rfl (k + 1) rfl ?_; intro A2 p2 w2' ownB hgB atB; have hzB := hgB.size; (try simp at hzB)))
      rename_i hH
      obtain ⟨hB2, c0', c1', -, -⟩ := hH
      have hd1 : dis A1 O2 := dis_grow hdis atA (fun q hq => by have := (own2.lt q hq).2; simp; omega)
      have hd2 : dis A1 A2 := (dis_grow hd1.symm atB (fun q hq => by have := (ownA.lt q hq).2; simp; omega)).symm
      replace ownA := Own.kept ((ownA.keep hb5).alloc _) hgB (dis_ne hd1)
      replace bs := (((((Blk.drew bs).keep hb4).alloc _).grown hgA (fun h => by have := (own1.lt _ h.symm).1; omega)).keep hb5).alloc (Obj.cells #[.int .u64 g.num, .int .u64 g.den] 25)
      replace bs := bs.grown hgB (fun h => by have := (own2.lt _ h.symm).1; omega)
      rw [← HS1.out] at ownA
      rw [← HS2.out] at ownB
      clear c0 c1 e0 e1 own1 own2 hgA hgB atA atB hb4 hb5 hz4 hz5 hzA hzB hB hBs hgs HR1 HR2 HS1 HS2 E1 E2 hdis hd1
      by_cases he : e = 0
      · subst he
        have HS3 := Lib.hid (HST.out rfl)
        have s0 := bs.cell 0 (.int .u64 n) rfl
        have s1 := bs.cell 1 (.int .u64 d) rfl
        clear HST HSK HS
        go_wp2_with fail
        go_region_with ((go_at_call 9; (with_reducible refine (hA.out _).mono ?_); rintro e' w6 ⟨rfl, hb6⟩; (have b6 : Blk w6 w.heap.size 24 #[.int .u64 n, .int .u64 d] := (Blk.drew bs).keep hb6); have y0 := b6.cell 0 (.int .u64 n) rfl; have y1 := b6.cell 1 (.int .u64 d) rfl; have f0 := b6.frozen 0; have f1 := b6.frozen 1))
        all_goals
          have hg6 : w6.grownBy ((w6.setCell ⟨w.heap.size, 0, none⟩ (.int .u64 tn)).setCell ⟨w.heap.size, 1, none⟩ (.int .u64 td)) (some w.heap.size) := only_set (only_set (only_refl _ _) _ _) _ _
          have hB6 : Below w.heap.size w ((w6.setCell ⟨w.heap.size, 0, none⟩ (.int .u64 tn)).setCell ⟨w.heap.size, 1, none⟩ (.int .u64 td)) := ((bstep hB2.drew (Nat.le_refl _) hb6).setCell (by simp) _).setCell (by simp) _
          have o1 := Own.kept (Own.keep (Own.drew ownA) hb6) hg6 (by right; intro h; have := (ownA.lt _ h).1; omega)
          have o2 := Own.kept (Own.keep (Own.drew ownB) hb6) hg6 (by right; intro h; have := (ownB.lt _ h).1; omega)
          have b7 := (b6.set_ 0 (.int .u64 tn)).set_ 1 (.int .u64 td)
          simp only [List.setIfInBounds_toArray, List.set_cons_zero, List.set_cons_succ] at b7
          clear ownA ownB b6 y0 y1 f0 f1 hg6 hb6 bs s0 s1 hB2 c0' c1'
          generalize (w6.setCell ⟨w.heap.size, 0, none⟩ (.int .u64 tn)).setCell ⟨w.heap.size, 1, none⟩ (.int .u64 td) = w7 at *
          go_wp2_with fail
          go_roundw
        all_goals first | (case rel => exact ⟨k + 1, A1, A2, p1, p2, tn, td, te, by omega, by go_num, rfl, rfl, rfl, t1, t2, HS3.out, hd2, o1, o2, b7, hB6⟩) | skip
        all_goals first | (case measure => simp [intOf]; omega) | skip
      · have HS3 := Lib.hid (HSK.out he)
        have he1 : ((e : Int) == 0) = false := by simp; omega
        clear HST HSK HS
        go_wp2_with fail
        go_roundw
        case rel => exact ⟨k + 1, A1, A2, p1, p2, n, d, e, by omega, by go_num, rfl, rfl, rfl, hn, hd, HS3.out, hd2, ownA, ownB, bs, hB2⟩
        case measure => simp [intOf]; omega
    · obtain rfl : k = l.length := by omega
      rw [List.take_length] at own1
      rw [show l.reverse.take l.length = l.reverse by rw [← List.length_reverse, List.take_length]] at own2
      have HV := Lib.hid (st_end HS.out)
      have HBo := Lib.hid (sum_both l)
      have hx1 := own1.sl eR_ok
      have hx2 := own2.sl eR_ok
      have hS1 := Lib.hid (fun W h => sum_any O1 l q1 W h (by omega) HB.out)
      have hlr : l.reverse.length = l.length := List.length_reverse
      have hS2' := fun W h => sum_any O2 l.reverse q2 W h (by rw [hlr]; omega) (fun r hr => HB.out r (by simpa using hr))
      rw [hlr] at hS2'
      have hS2 := Lib.hid hS2'
      clear hS2' hlr
      rw [HV.out] at hS1 HBo
      simp only [r3V] at hS1 hS2
      generalize sumR 0 1 l.reverse = t at *
      obtain ⟨zn, zd, ze⟩ := t
      simp only at hS2 HBo
      have s0 := bs.cell 0 (.int .u64 n) rfl
      have s1 := bs.cell 1 (.int .u64 d) rfl
      have hee : ((e : Int) == (e : Int)) = true := by simp
      clear own1 own2 bs HS
      go_wp2_with fail
      refine (hS1.out _ hx1).mono ?_
      rintro e' w3 ⟨rfl, hb⟩
      (replace s0 := kcell hb s0; replace s1 := kcell hb s1; replace hx2 := hx2.keep hb; replace hB := bstep hB (Nat.le_refl _) hb; clear hb)
      go_wp2_with fail
      have b8 := Blk.new w3 25 #[.int .u64 n, .int .u64 d]
      have y0 := b8.cell 0 (.int .u64 n) rfl
      have y1 := b8.cell 1 (.int .u64 d) rfl
      (have hb := below1 w3 (Obj.cells #[.int .u64 n, .int .u64 d] 25); replace s0 := kcell hb s0; replace s1 := kcell hb s1; replace hx2 := hx2.keep hb; replace hB := bstep hB (Nat.le_refl _) hb; clear hb b8)
      generalize w3.alloc (Obj.cells #[.int .u64 n, .int .u64 d] 25) = w4 at *
      generalize w3.heap.size = g8 at *
      refine (hS2.out _ hx2).mono ?_
      rintro e' w5 ⟨rfl, hb⟩
      (replace s0 := kcell hb s0; replace s1 := kcell hb s1; replace y0 := kcell hb y0; replace y1 := kcell hb y1; replace hB := bstep hB (Nat.le_refl _) hb; clear hb hx1 hx2)
      go_wp2_with fail
      have b10 := Blk.new w5 25 #[.int .u64 zn, .int .u64 zd]
      have z0 := b10.cell 0 (.int .u64 zn) rfl
      have z1 := b10.cell 1 (.int .u64 zd) rfl
      (have hb := below1 w5 (Obj.cells #[.int .u64 zn, .int .u64 zd] 25); replace s0 := kcell hb s0; replace s1 := kcell hb s1; replace y0 := kcell hb y0; replace y1 := kcell hb y1; replace hB := bstep hB (Nat.le_refl _) hb; clear hb b10)
      generalize w5.alloc (Obj.cells #[.int .u64 zn, .int .u64 zd] 25) = w6 at *
      generalize w5.heap.size = g10 at *
      by_cases he : e = 0
      · subst he
        by_cases hz : ze = 0
        · subst hz
          have hq := HBo.out rfl rfl
          injection hq with hq1 hq2 hq3
          subst hq1 hq2
          clear HBo hq3
          (have aft_s0 := Aft.cell s0; have aft_s1 := Aft.cell s1; have aft_y0 := Aft.cell y0; have aft_y1 := Aft.cell y1; have aft_z0 := Aft.cell z0; have aft_z1 := Aft.cell z1; refine wp_region_aft (by kernel_rfl) (by kernel_rfl) ?_; (repeat (go_big_quiet_step ((first | (go_at_call 8; with_reducible exact aft_call (to_any _ _ _)) | (go_at_call 10; with_reducible exact aft_call (awake_any _)))))); refine wpQuiet_nil ?_; clear aft_s0 aft_s1 aft_y0 aft_y1 aft_z0 aft_z1; intro w7 hw2_; have hb := Aft.below hw2_; clear hw2_)
          replace hB := bstep hB (Nat.le_refl _) hb
          go_wp2_with fail
          go_ret
          exact ⟨rfl, hB⟩
        · have hz1 : ((ze : Int) != 0) = true := by simp; omega
          clear HBo
          (have aft_s0 := Aft.cell s0; have aft_s1 := Aft.cell s1; have aft_y0 := Aft.cell y0; have aft_y1 := Aft.cell y1; have aft_z0 := Aft.cell z0; have aft_z1 := Aft.cell z1; refine wp_region_aft (by kernel_rfl) (by kernel_rfl) ?_; (repeat (go_big_quiet_step ((first | (go_at_call 8; with_reducible exact aft_call (to_any _ _ _)) | (go_at_call 10; with_reducible exact aft_call (awake_any _)))))); refine wpQuiet_nil ?_; clear aft_s0 aft_s1 aft_y0 aft_y1 aft_z0 aft_z1; intro w7 hw2_; have hb := Aft.below hw2_; clear hw2_)
          replace hB := bstep hB (Nat.le_refl _) hb
          go_wp2_with fail
          go_ret
          exact ⟨rfl, hB⟩
      · have he1 : ((e : Int) != 0) = true := by simp; omega
        clear HBo
        (have aft_s0 := Aft.cell s0; have aft_s1 := Aft.cell s1; have aft_y0 := Aft.cell y0; have aft_y1 := Aft.cell y1; have aft_z0 := Aft.cell z0; have aft_z1 := Aft.cell z1; refine wp_region_aft (by kernel_rfl) (by kernel_rfl) ?_; (repeat (go_big_quiet_step ((first | (go_at_call 8; with_reducible exact aft_call (to_any _ _ _)) | (go_at_call 10; with_reducible exact aft_call (awake_any _)))))); refine wpQuiet_nil ?_; clear aft_s0 aft_s1 aft_y0 aft_y1 aft_z0 aft_z1; intro w7 hw2_; have hb := Aft.below hw2_; clear hw2_)
        replace hB := bstep hB (Nat.le_refl _) hb
        go_wp2_with fail
        go_ret
        exact ⟨rfl, hB⟩
end Go.Proofs.Ytojglionlcjkjaa
