/- Walk: the statement HeapOrders. -/
import Derived.Test.YtlkgmedenbfhkaaW6
namespace Go.Proofs.Ytlkgmedenbfhkaa
open Go.RowKit Go.Lib

/-- the thing of a place -/
def mkE (keys : List Int) (i : Nat) : En := ⟨keys[i]?.getD 0, i, (i : Int) + 1, (i : Int) + 1⟩
structure Pq (keys : List Int) (E : List En) (k : Nat) : Prop where
  len : E.length + k = keys.length
  el : ∀ e ∈ E, ∃ i, i < keys.length ∧ e = mkE keys i
  nd : (E.map En.what).Nodup
theorem pq_start {keys : List Int} {E : List En} (h : E.Perm ((List.range keys.length).map (mkE keys))) : Pq keys E 0 := by
  refine ⟨by rw [h.length_eq]; simp, fun e he => ?_, ?_⟩
  · have := h.mem_iff.1 he
    simp at this
    obtain ⟨i, hi, rfl⟩ := this
    exact ⟨i, hi, rfl⟩
  · have h1 := (h.map En.what).nodup_iff
    rw [h1, List.map_map]
    have e : (En.what ∘ mkE keys) = fun i : Nat => (i : Int) := rfl
    rw [e]
    refine List.Pairwise.map _ (fun a b hab => ?_) List.nodup_range
    intro h2
    exact hab (by omega)
theorem pq_step {keys : List Int} {E E' : List En} {k : Nat} (h : Pq keys E k) (hH : HeapB E) (h0 : 0 < E.length) (hp : (atE E 0 :: E').Perm E) :
    Pq keys E' (k + 1) ∧ (∃ i, i < keys.length ∧ atE E 0 = mkE keys i) ∧ ∀ e ∈ E', (atE E 0).key < e.key ∨ (atE E 0).key = e.key ∧ (atE E 0).what < e.what := by
  have hx := h.el _ (atE_mem h0)
  have hnd : ((atE E 0 :: E').map En.what).Nodup := (hp.map En.what).nodup_iff.2 h.nd
  rw [List.map_cons, List.nodup_cons] at hnd
  have hl := hp.length_eq
  simp at hl
  refine ⟨⟨by have := h.len; omega, fun e he => h.el e (hp.mem_iff.1 (List.mem_cons_of_mem _ he)), hnd.2⟩, hx, fun e he => ?_⟩
  have hin := hp.mem_iff.1 (List.mem_cons_of_mem (atE E 0) he)
  have hle := heap_least hH e hin
  have hne : (atE E 0).what ≠ e.what := fun e2 => hnd.1 (by rw [e2]; exact List.mem_map_of_mem he)
  obtain ⟨i, hi, ei⟩ := hx
  obtain ⟨j, hj, ej⟩ := h.el e hin
  have t1 : (atE E 0).turn = (atE E 0).what + 1 := by rw [ei]; rfl
  have t2 : e.turn = e.what + 1 := by rw [ej]; rfl
  unfold leE at hle
  omega
theorem range_step (keys : List Int) (k : Nat) : (List.range (k + 1)).map (mkE keys) = (List.range k).map (mkE keys) ++ [mkE keys k] := by
  rw [List.range_succ, List.map_append]
  rfl
set_option maxRecDepth 100000 in
set_option maxHeartbeats 4000000 in
theorem orders_big (A : Option Addr) (l : List Int) (c : Nat) (w : World) (hl : l.length ≤ 9223372036854775807) (hb : 100 < l.length) :
    Calls Try.prog 3 #[.slice A l.length c] w fun e w' => e = .returned (.bool true) ∧ Below w.heap.size w w' := by
  have b1 : (100 : Int) < (l.length : Int) := by omega
  go_enter Try.func3, Try.ntmps3
  go_wp2_with fail
  refine (awake_any _).mono ?_
  rintro e w1 ⟨rfl, hB⟩
  go_wp2_with fail
  refine (awake_any _).mono ?_
  rintro e w2 ⟨rfl, hb2⟩
  go_wp2_with fail
  go_ret
  exact ⟨rfl, bstep hB (Nat.le_refl _) hb2⟩
set_option maxRecDepth 100000 in
set_option maxHeartbeats 16000000 in
theorem orders_any (A : Option Addr) (l : List Int) (c : Nat) (w : World) (hs : Sl eI 1 w A l) (hl : l.length ≤ 9223372036854775807) :
    Calls Try.prog 3 #[.slice A l.length c] w fun e w' => e = .returned (.bool true) ∧ Below w.heap.size w w' := by
  by_cases hbig : 100 < l.length
  · exact orders_big A l c w hl hbig
  have b1 : ¬ (100 : Int) < (l.length : Int) := by omega
  have b2 : l.length ≤ 100 := by omega
  clear hbig hl
  have HP := Lib.hid (fun F g E hd tn k x W h1 h2 h3 h4 h5 h6 h7 => push_any F g E hd tn k x W h1 h2 h3 h4 h5 h6 h7)
  have HO := Lib.hid (fun F g n E hd tn W h1 h2 h3 h4 => pop_any F g n E hd tn W h1 h2 h3 h4)
  go_enter Try.func3, Try.ntmps3
  go_wp2_with fail
  refine (awake_any _).mono ?_
  rintro e w1 ⟨rfl, hB⟩
  have hs1 := hB.size
  go_wp2_with fail
  refine (new_any _).mono ?_
  rintro e w2 ⟨rfl, h2, hb2⟩
  have h2' := h2.less (G := fun i => i < w.heap.size) (fun i hi => by omega)
  have hk2 : Kp (fun i => i < w.heap.size) w w2 := Kp.of_low (hB.trans (hb2.mono hs1)) (fun _ h => h)
  generalize w1.heap.size + 1 = g at *
  clear h2 hb2 hB hs1
  go_wp2_with fail
  go_loopw [4] (fun s4 wr => ∃ (k : Nat) (E : List En), s4 = .int .i64 k ∧ k ≤ l.length ∧ Hp (fun i => i < w.heap.size) wr g E k k ∧ Hid (E.Perm ((List.range k).map (mkE l)) ∧ HeapB E) ∧ E.length = k ∧ Kp (fun i => i < w.heap.size) w wr) (fun s4 _ => l.length - (intOf s4).toNat)
  case atStart => exact ⟨0, [], rfl, Nat.zero_le _, h2', ⟨by simp, fun j hj => absurd hj (by simp)⟩, rfl, hk2⟩
  case round =>
    clear h2' hk2
    obtain ⟨k, E, rfl, hk, h, HE, hEl, hkp⟩ := hrel
    have k0 : (0 : Int) ≤ (k : Int) := by omega
    by_cases hlt : k < l.length
    · have k1 : (k : Int) < (l.length : Int) := by omega
      have hsr : Sl eI 1 wr A l := hs.keep (by
        have := hkp.low (B := w.heap.size) (fun b h => h)
        exact this)
      obtain ⟨b, off, rfl, y0⟩ := hsr.int_at hlt
      clear hsr
      have HC := Lib.hid (HO.out) 
      have HQ := Lib.hid (HP.out _ g E k k l[k] k wr h HE.out.2 (by omega) (by omega) (by omega) (by omega) (by omega))
      have HM : Hid (mkE l k = ⟨l[k], k, (k : Int) + 1, (k : Int) + 1⟩) := by unfold Hid mkE; rw [List.getElem?_eq_getElem hlt]; rfl
      clear HC h
      generalize l[k] = x at *
      go_wp2_with fail
      refine HQ.out.mono ?_
      rintro e w3 ⟨rfl, ⟨E3, h3, p3, o3⟩, k3⟩
      have hE3 : Hid (E3.Perm ((List.range (k + 1)).map (mkE l)) ∧ HeapB E3) := by
        refine ⟨?_, o3⟩
        rw [range_step, HM.out]
        exact p3.trans (HE.out.1.append_right _)
      have hl3 : E3.length = k + 1 := by rw [hE3.out.1.length_eq]; simp
      have hkp3 := hkp.trans k3
      have h3' : Hp (fun i => i < w.heap.size) w3 g E3 ((k + 1 : Nat) : Int) ((k + 1 : Nat) : Int) := h3
      clear p3 o3 k3 hkp HQ HM HE h3 hEl
      go_wp2_with fail
      go_roundw
      case rel => exact ⟨k + 1, E3, by go_num, by omega, h3', hE3, hl3, hkp3⟩
      case measure => simp [intOf]; omega
    · obtain rfl : k = l.length := by omega
      have HPQ := Lib.hid (pq_start HE.out.1)
      have HHB := Lib.hid HE.out.2
      have hbx := h.box (Obj.cells #[.int .i64 0, .int .i64 0] 28)
      have hkb := hkp.trans (h.kp (below1 wr (Obj.cells #[.int .i64 0, .int .i64 0] 28)))
      have y5 := Blk.new wr 28 #[.int .i64 0, .int .i64 0]
      have hwr : w.heap.size ≤ wr.heap.size := hkp.size
      clear HE h hkp hEl HP
      go_wp2_with fail
      generalize wr.heap.size = b5 at *
      go_loopw [6] (fun s6 wr => ∃ (k : Nat) (E : List En) (lk lw : Int), s6 = .int .i64 k ∧ k ≤ l.length ∧ Hp (fun i => i < w.heap.size ∨ i = b5) wr g E l.length l.length ∧ Hid (HeapB E ∧ Pq l E k ∧ (0 < k → ∀ e ∈ E, lk < e.key ∨ lk = e.key ∧ lw < e.what)) ∧ Blk wr b5 28 #[.int .i64 lk, .int .i64 lw] ∧ Kp (fun i => i < w.heap.size) w wr) (fun s6 _ => l.length - (intOf s6).toNat)
      case atStart => exact ⟨0, E, 0, 0, rfl, Nat.zero_le _, hbx, ⟨HHB.out, HPQ.out, fun h => absurd h (Nat.lt_irrefl _)⟩, y5, hkb⟩
      case round =>
        clear hbx hkb y5 HHB HPQ
        obtain ⟨k, E, lk, lw, rfl, hk, h, HE, y5, hkp⟩ := hrel
        have k0 : (0 : Int) ≤ (k : Int) := by omega
        have hlen := HE.out.2.1.len
        by_cases hlt : k < l.length
        · have k1 : (k : Int) < (l.length : Int) := by omega
          obtain ⟨m, hm⟩ : ∃ m, E.length = m + 1 := ⟨E.length - 1, by omega⟩
          have hmem := atE_mem (E := E) (k := 0) (by omega)
          obtain ⟨i, hi, hx⟩ := HE.out.2.1.el _ hmem
          obtain ⟨xk, hxk⟩ : ∃ xk, xk = l[i] := ⟨_, rfl⟩
          have hxe : (atE E 0).key = xk ∧ (atE E 0).what = (i : Int) := by rw [hx, hxk]; unfold mkE; rw [List.getElem?_eq_getElem hi]; exact ⟨rfl, rfl⟩
          have HXK : Hid (l[i] = xk) := hxk.symm
          have hcmp : 0 < k → lk < xk ∨ lk = xk ∧ lw < (i : Int) := fun h0 => by
            have := HE.out.2.2 h0 _ hmem
            rw [hxe.1, hxe.2] at this
            exact this
          have HO1 : Hid (Calls Try.prog 7 #[.pointer (some ⟨g, 0, none⟩)] wr fun e w' => e = .returned (.tuple #[.agg #[.int .i64 xk, .int .i64 (i : Int)], .bool true]) ∧ (∃ E', Hp (fun i => i < w.heap.size ∨ i = b5) w' g E' l.length l.length ∧ Hid (HeapB E' ∧ Pq l E' (k + 1) ∧ ∀ e ∈ E', xk < e.key ∨ xk = e.key ∧ (i : Int) < e.what)) ∧ Kp (fun i => i < w.heap.size ∨ i = b5) wr w') := by
            refine (HO.out _ g m E l.length l.length wr hm (by omega) h HE.out.1).mono ?_
            rintro e w' ⟨he, ⟨E', h', p', o'⟩, kk⟩
            have hst := pq_step HE.out.2.1 HE.out.1 (by omega) p'
            refine ⟨by rw [he, hxe.1, hxe.2], ⟨E', h', o', hst.1, fun e he => ?_⟩, kk⟩
            have := hst.2.2 e he
            rw [hxe.1, hxe.2] at this
            exact this
          have i0 : (0 : Int) ≤ (i : Int) := by omega
          have i1 : (i : Int) < (l.length : Int) := by omega
          have d1 : decide ((i : Int) < 0) = false := by simp
          have d2 : decide (l.length ≤ i) = false := by simp; omega
          have d2' : decide ((l.length : Int) ≤ (i : Int)) = false := by simp; omega
          have d3 : (xk != xk) = false := by simp
          have hkl := hlt
          clear hxe hx hmem hm hlen h hxk
          by_cases hk0 : 0 < k
          · have e4 : decide ((0 : Int) < (k : Int)) = true := by simp; omega
            have e4' : decide (0 < k) = true := by simp; omega
            have hc := hcmp hk0
            clear hcmp
            by_cases hq : lk = xk
            · have e5 : decide (xk < lk) = false := by simp; omega
              have e6 : (xk == lk) = true := by simp; omega
              have e7 : decide ((i : Int) ≤ lw) = false := by simp; omega
              clear hc hq
              go_wp2_with fail
              refine HO1.out.mono ?_
              rintro e w5 ⟨rfl, ⟨E', h5, HR5⟩, k5⟩
              have hba := below1 w5 (Obj.cells #[.int .i64 xk, .int .i64 (i : Int)] 28)
              have y7 := Blk.new w5 28 #[.int .i64 xk, .int .i64 (i : Int)]
              have y6 := (k5.blk y5 (.inr rfl)).keep hba
              have h6 := h5.keep hba
              have hk6 := (hkp.trans (k5.mono fun j hj => .inl hj)).trans (h5.less (G := fun j => j < w.heap.size) (fun j hj => .inl hj) |>.kp hba)
              have kc := ((hs.keep (hk6.low (B := w.heap.size) fun b h => h)).int_at hi)
              obtain ⟨b, off, rfl, kc⟩ := kc
              have z0 := y7.cell 0 (.int .i64 xk) rfl
              have z1 := y7.cell 1 (.int .i64 (i : Int)) rfl
              have l0 := y6.cell 0 (.int .i64 lk) rfl
              have l1 := y6.cell 1 (.int .i64 lw) rfl
              rw [HXK.out] at kc
              clear hba y7 h5 k5 hkp y5
              go_wp2_with fail
              generalize w5.alloc (Obj.cells #[.int .i64 xk, .int .i64 (i : Int)] 28) = Wa at *
              generalize w5.heap.size = bx at *
              (have aft_z0 := Aft.cell z0; have aft_z1 := Aft.cell z1; have aft_l0 := Aft.cell l0; have aft_l1 := Aft.cell l1; have aft_kc := Aft.cell kc; refine wp_region_aft (by kernel_rfl) (by kernel_rfl) ?_; (repeat (go_big_quiet_step ((fail)))); refine wpQuiet_nil ?_; clear aft_z0 aft_z1 aft_l0 aft_l1 aft_kc; intro w8 hw2_; have hb8 := Aft.below hw2_; clear hw2_)
              have y8 := y6.keep hb8
              have h8 := (h6.keep hb8)
              have hk8 := hk6.trans (h6.less (G := fun j => j < w.heap.size) (fun j hj => .inl hj) |>.kp hb8)
              replace z0 := kcell hb8 z0
              replace z1 := kcell hb8 z1
              have m0 := y8.cell 0 (.int .i64 lk) rfl
              have m1 := y8.cell 1 (.int .i64 lw) rfl
              have f0 := y8.frozen 0
              have f1 := y8.frozen 1
              clear l0 l1 kc y6 h6 hk6 hb8
              have h9 := Lib.hid ((h8.far_set (i := b5) (.inr rfl) 0 (.int .i64 xk)).far_set (i := b5) (.inr rfl) 1 (.int .i64 (i : Int)))
              have y9 := Lib.hid ((y8.set_ 0 (.int .i64 xk)).set_ 1 (.int .i64 (i : Int)))
              have k9 := Lib.hid ((hk8.far_set (i := b5) (fun j hj => ⟨hj, by omega⟩) 0 (.int .i64 xk)).far_set (i := b5) (fun j hj => ⟨hj, by omega⟩) 1 (.int .i64 (i : Int)))
              clear h8 y8 hk8
              go_wp2_with fail
              go_roundw
              case rel => exact ⟨k + 1, E', xk, (i : Int), by go_num, by omega, h9.out, ⟨HR5.out.1, HR5.out.2.1, fun _ => HR5.out.2.2⟩, y9.out, k9.out⟩
              case measure => simp [intOf]; omega
            · have e5 : decide (xk < lk) = false := by simp; omega
              have e6 : (xk == lk) = false := by simp; omega
              clear hc hq
              go_wp2_with fail
              refine HO1.out.mono ?_
              rintro e w5 ⟨rfl, ⟨E', h5, HR5⟩, k5⟩
              have hba := below1 w5 (Obj.cells #[.int .i64 xk, .int .i64 (i : Int)] 28)
              have y7 := Blk.new w5 28 #[.int .i64 xk, .int .i64 (i : Int)]
              have y6 := (k5.blk y5 (.inr rfl)).keep hba
              have h6 := h5.keep hba
              have hk6 := (hkp.trans (k5.mono fun j hj => .inl hj)).trans (h5.less (G := fun j => j < w.heap.size) (fun j hj => .inl hj) |>.kp hba)
              have kc := ((hs.keep (hk6.low (B := w.heap.size) fun b h => h)).int_at hi)
              obtain ⟨b, off, rfl, kc⟩ := kc
              have z0 := y7.cell 0 (.int .i64 xk) rfl
              have z1 := y7.cell 1 (.int .i64 (i : Int)) rfl
              have l0 := y6.cell 0 (.int .i64 lk) rfl
              have l1 := y6.cell 1 (.int .i64 lw) rfl
              rw [HXK.out] at kc
              clear hba y7 h5 k5 hkp y5
              go_wp2_with fail
              generalize w5.alloc (Obj.cells #[.int .i64 xk, .int .i64 (i : Int)] 28) = Wa at *
              generalize w5.heap.size = bx at *
              (have aft_z0 := Aft.cell z0; have aft_z1 := Aft.cell z1; have aft_l0 := Aft.cell l0; have aft_l1 := Aft.cell l1; have aft_kc := Aft.cell kc; refine wp_region_aft (by kernel_rfl) (by kernel_rfl) ?_; (repeat (go_big_quiet_step ((fail)))); refine wpQuiet_nil ?_; clear aft_z0 aft_z1 aft_l0 aft_l1 aft_kc; intro w8 hw2_; have hb8 := Aft.below hw2_; clear hw2_)
              have y8 := y6.keep hb8
              have h8 := (h6.keep hb8)
              have hk8 := hk6.trans (h6.less (G := fun j => j < w.heap.size) (fun j hj => .inl hj) |>.kp hb8)
              replace z0 := kcell hb8 z0
              replace z1 := kcell hb8 z1
              have m0 := y8.cell 0 (.int .i64 lk) rfl
              have m1 := y8.cell 1 (.int .i64 lw) rfl
              have f0 := y8.frozen 0
              have f1 := y8.frozen 1
              clear l0 l1 kc y6 h6 hk6 hb8
              have h9 := Lib.hid ((h8.far_set (i := b5) (.inr rfl) 0 (.int .i64 xk)).far_set (i := b5) (.inr rfl) 1 (.int .i64 (i : Int)))
              have y9 := Lib.hid ((y8.set_ 0 (.int .i64 xk)).set_ 1 (.int .i64 (i : Int)))
              have k9 := Lib.hid ((hk8.far_set (i := b5) (fun j hj => ⟨hj, by omega⟩) 0 (.int .i64 xk)).far_set (i := b5) (fun j hj => ⟨hj, by omega⟩) 1 (.int .i64 (i : Int)))
              clear h8 y8 hk8
              go_wp2_with fail
              go_roundw
              case rel => exact ⟨k + 1, E', xk, (i : Int), by go_num, by omega, h9.out, ⟨HR5.out.1, HR5.out.2.1, fun _ => HR5.out.2.2⟩, y9.out, k9.out⟩
              case measure => simp [intOf]; omega
          · obtain rfl : k = 0 := by omega
            have e4 : decide ((0 : Int) < ((0 : Nat) : Int)) = false := by simp
            clear hcmp hk0
            go_wp2_with fail
            refine HO1.out.mono ?_
            rintro e w5 ⟨rfl, ⟨E', h5, HR5⟩, k5⟩
            have hba := below1 w5 (Obj.cells #[.int .i64 xk, .int .i64 (i : Int)] 28)
            have y7 := Blk.new w5 28 #[.int .i64 xk, .int .i64 (i : Int)]
            have y6 := (k5.blk y5 (.inr rfl)).keep hba
            have h6 := h5.keep hba
            have hk6 := (hkp.trans (k5.mono fun j hj => .inl hj)).trans (h5.less (G := fun j => j < w.heap.size) (fun j hj => .inl hj) |>.kp hba)
            have kc := ((hs.keep (hk6.low (B := w.heap.size) fun b h => h)).int_at hi)
            obtain ⟨b, off, rfl, kc⟩ := kc
            have z0 := y7.cell 0 (.int .i64 xk) rfl
            have z1 := y7.cell 1 (.int .i64 (i : Int)) rfl
            have l0 := y6.cell 0 (.int .i64 lk) rfl
            have l1 := y6.cell 1 (.int .i64 lw) rfl
            rw [HXK.out] at kc
            clear hba y7 h5 k5 hkp y5
            go_wp2_with fail
            generalize w5.alloc (Obj.cells #[.int .i64 xk, .int .i64 (i : Int)] 28) = Wa at *
            generalize w5.heap.size = bx at *
            (have aft_z0 := Aft.cell z0; have aft_z1 := Aft.cell z1; have aft_l0 := Aft.cell l0; have aft_l1 := Aft.cell l1; have aft_kc := Aft.cell kc; refine wp_region_aft (by kernel_rfl) (by kernel_rfl) ?_; (repeat (go_big_quiet_step ((fail)))); refine wpQuiet_nil ?_; clear aft_z0 aft_z1 aft_l0 aft_l1 aft_kc; intro w8 hw2_; have hb8 := Aft.below hw2_; clear hw2_)
            have y8 := y6.keep hb8
            have h8 := (h6.keep hb8)
            have hk8 := hk6.trans (h6.less (G := fun j => j < w.heap.size) (fun j hj => .inl hj) |>.kp hb8)
            replace z0 := kcell hb8 z0
            replace z1 := kcell hb8 z1
            have m0 := y8.cell 0 (.int .i64 lk) rfl
            have m1 := y8.cell 1 (.int .i64 lw) rfl
            have f0 := y8.frozen 0
            have f1 := y8.frozen 1
            clear l0 l1 kc y6 h6 hk6 hb8
            have h9 := Lib.hid ((h8.far_set (i := b5) (.inr rfl) 0 (.int .i64 xk)).far_set (i := b5) (.inr rfl) 1 (.int .i64 (i : Int)))
            have y9 := Lib.hid ((y8.set_ 0 (.int .i64 xk)).set_ 1 (.int .i64 (i : Int)))
            have k9 := Lib.hid ((hk8.far_set (i := b5) (fun j hj => ⟨hj, by omega⟩) 0 (.int .i64 xk)).far_set (i := b5) (fun j hj => ⟨hj, by omega⟩) 1 (.int .i64 (i : Int)))
            clear h8 y8 hk8
            go_wp2_with fail
            go_roundw
            case rel => exact ⟨0 + 1, E', xk, (i : Int), by go_num, by omega, h9.out, ⟨HR5.out.1, HR5.out.2.1, fun _ => HR5.out.2.2⟩, y9.out, k9.out⟩
            case measure => simp [intOf]; omega
        · obtain rfl : k = l.length := by omega
          have hE0 : E.length = 0 := by omega
          have HL : Hid (∀ W, Below wr.heap.size wr W → Calls Try.prog 10 #[.pointer (some ⟨g, 0, none⟩)] W fun e w' => e = .returned (.int .i64 0) ∧ W = w') := fun W hW => by
            have := len_any _ g E l.length l.length W (h.keep hW)
            rw [hE0] at this
            exact this
          have hF := Lib.hid (hkp.low (B := w.heap.size) fun b h => h)
          clear hlen hE0 y5 hkp HE HO h
          go_wp2_with fail
          refine (first_nil _).mono ?_
          rintro e w3 ⟨rfl, hB⟩
          replace hB := hB.alloc hB.size (Obj.cells #[.int .i64 0, .int .i64 0] 28)
          go_wp2_with fail
          refine (pop_nil _).mono ?_
          rintro e w4 ⟨rfl, hb⟩
          replace hB := bstep hB (Nat.le_refl _) hb
          replace hB := hB.alloc hB.size (Obj.cells #[.int .i64 0, .int .i64 0] 28)
          replace hB := hB.alloc hB.size (Obj.cells #[.bool false, .slice none 0 0, .map none, .int .i64 0, .int .i64 0] 36)
          have c0 := (Blk.new' (w4.alloc (Obj.cells #[.int .i64 0, .int .i64 0] 28)) 36 #[.bool false, .slice none 0 0, .map none, .int .i64 0, .int .i64 0] (g := w4.heap.size + 1) (by simp)).cell 0 _ rfl
          go_wp2_with fail
          refine (get_zero _ _ c0).mono ?_
          rintro e w5 ⟨rfl, hb⟩
          replace hB := bstep hB (Nat.le_refl _) hb
          replace hB := hB.alloc hB.size (Obj.cells #[.int .i64 0, .int .i64 0] 28)
          clear c0 hb
          go_wp2_with fail
          refine (HL.out _ hB).mono ?_
          rintro e w6 ⟨rfl, hw6⟩
          rw [hw6] at hB
          clear hw6
          go_wp2_with fail
          refine (len_nil _).mono ?_
          rintro e w7 ⟨rfl, rfl⟩
          go_wp2_with fail
          refine (push_nil 0 0 _).mono ?_
          rintro e w8 ⟨rfl, hb⟩
          replace hB := bstep hB (Nat.le_refl _) hb
          replace hB := hB.alloc hB.size (Obj.cells #[.bool false, .slice none 0 0, .map none, .int .i64 0, .int .i64 0] 36)
          have c0 := (Blk.new w8 36 #[.bool false, .slice none 0 0, .map none, .int .i64 0, .int .i64 0]).cell 0 _ rfl
          go_wp2_with fail
          refine (push_zero _ 0 0 _ c0).mono ?_
          rintro e w9 ⟨rfl, hb⟩
          replace hB := bstep hB (Nat.le_refl _) hb
          clear c0 hb
          go_wp2_with fail
          refine (drop_nil _).mono ?_
          rintro e w10 ⟨rfl, rfl⟩
          go_wp2_with fail
          refine (change_nil _).mono ?_
          rintro e w10 ⟨rfl, rfl⟩
          go_wp2_with fail
          refine (awake_any _).mono ?_
          rintro e w11 ⟨rfl, hb⟩
          replace hB := bstep hB (Nat.le_refl _) hb
          go_wp2_with fail
          go_ret
          exact ⟨rfl, hF.out.trans (hB.mono hF.out.size)⟩
end Go.Proofs.Ytlkgmedenbfhkaa
