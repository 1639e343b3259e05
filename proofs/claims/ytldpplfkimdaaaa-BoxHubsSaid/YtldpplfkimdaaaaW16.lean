/- Walk: the statement BoxPlays, its first loop. -/
import Derived.Test.YtldpplfkimdaaaaW17
namespace Go.Proofs.Ytldpplfkimdaaaa
open Go.RowKit Go.Conc Go.Lib

set_option maxHeartbeats 1000000 in
theorem right_yes (r : Int) (w : World) (h1 : 1 ≤ r) (h2 : r ≤ 64) : Calls Try.prog 12 #[.int .i64 r] w fun e w' => e = .returned (.bool true) ∧ w = w' := by
  go_enter Try.func12, Try.ntmps12
  go_wp2_with fail
  go_ret
  exact ⟨rfl, rfl⟩
set_option maxHeartbeats 1000000 in
theorem right_no (r : Int) (w : World) (h : r < 1 ∨ 64 < r) : Calls Try.prog 12 #[.int .i64 r] w fun e w' => e = .returned (.bool false) ∧ w = w' := by
  rcases h with h | h
  · go_enter Try.func12, Try.ntmps12
    go_wp2_with fail
    go_ret
    exact ⟨rfl, rfl⟩
  · have h' : 1 ≤ r := by omega
    have h2 : ¬ r ≤ 64 := by omega
    go_enter Try.func12, Try.ntmps12
    go_wp2_with fail
    go_ret
    exact ⟨rfl, rfl⟩

/-- what the slots of the region that appends to both rows hold -/
def GrowD (wb : World) (B : Nat) (gs : List Nat) (g : Nat) (xs : List RbS) (x : RbS) (d : Nat) (v : Value) (w : World) : Prop :=
  if d = 53 then ∃ G, v = .slice (some ⟨G, 0, none⟩) 1 1 ∧ Sl ePt 1 w (some ⟨G, 0, none⟩) [g] ∧ wb.heap.size ≤ G
  else if d = 61 then ∃ G, v = .slice (some ⟨G, 0, none⟩) 1 1 ∧ Sl eRb 3 w (some ⟨G, 0, none⟩) [x] ∧ wb.heap.size ≤ G
  else if d = 54 ∨ d = 5 then ∃ A c, v = .slice A (gs.length + 1) c ∧ Own ePt 1 w B 24 A c (gs ++ [g])
  else ∃ A c, v = .slice A (xs.length + 1) c ∧ Own eRb 3 w B 43 A c (xs ++ [x])
section
variable {wb w w' : World} {B : Nat} {gs : List Nat} {g : Nat} {xs : List RbS} {x : RbS} {v : Value}
theorem grow53 : GrowD wb B gs g xs x 53 v w ↔ ∃ G, v = .slice (some ⟨G, 0, none⟩) 1 1 ∧ Sl ePt 1 w (some ⟨G, 0, none⟩) [g] ∧ wb.heap.size ≤ G := by simp [GrowD]
theorem grow61 : GrowD wb B gs g xs x 61 v w ↔ ∃ G, v = .slice (some ⟨G, 0, none⟩) 1 1 ∧ Sl eRb 3 w (some ⟨G, 0, none⟩) [x] ∧ wb.heap.size ≤ G := by simp [GrowD]
theorem grow54 {d : Nat} (hd : d = 54 ∨ d = 5) : GrowD wb B gs g xs x d v w ↔ ∃ A c, v = .slice A (gs.length + 1) c ∧ Own ePt 1 w B 24 A c (gs ++ [g]) := by rcases hd with rfl | rfl <;> simp [GrowD]
theorem grow62 {d : Nat} (hd : d = 62 ∨ d = 6) : GrowD wb B gs g xs x d v w ↔ ∃ A c, v = .slice A (xs.length + 1) c ∧ Own eRb 3 w B 43 A c (xs ++ [x]) := by rcases hd with rfl | rfl <;> simp [GrowD]
theorem GrowD.keep {d : Nat} (h : GrowD wb B gs g xs x d v w) (hz : Keeps w w') : GrowD wb B gs g xs x d v w' := by
  unfold GrowD at *
  by_cases h1 : d = 53
  · simp only [h1, if_true] at h ⊢; exact h.imp fun G h => ⟨h.1, h.2.1.keep hz, h.2.2⟩
  · rw [if_neg h1] at h ⊢
    by_cases h2 : d = 61
    · rw [if_pos h2] at h ⊢; exact h.imp fun G h => ⟨h.1, h.2.1.keep hz, h.2.2⟩
    · rw [if_neg h2] at h ⊢
      by_cases h3 : d = 54 ∨ d = 5
      · rw [if_pos h3] at h ⊢; exact h.imp fun A h => h.imp fun c h => ⟨h.1, h.2.keep hz⟩
      · rw [if_neg h3] at h ⊢; exact h.imp fun A h => h.imp fun c h => ⟨h.1, h.2.keep hz⟩
/-- over an append to a row that was there -/
theorem GrowD.grown {d : Nat} {row : Option Nat} {t : TypeId} (h : GrowD wb B gs g xs x d v w) (hg : w.grownBy w' row) (hr : ∀ q, row = some q → q < wb.heap.size) (ht : ∀ q, row = some q → ∃ cs, Blk w q t cs) (h54 : d = 54 → t ≠ 24) (hd : d = 53 ∨ d = 61 ∨ d = 54) : GrowD wb B gs g xs x d v w' := by
  rcases hd with rfl | rfl | rfl
  · obtain ⟨G, h1, h2, h3⟩ := grow53.1 h
    exact grow53.2 ⟨G, h1, h2.grown hg (fun q hq e => by injection e with e; have := hr q hq; have e2 : G = q := e; omega), h3⟩
  · obtain ⟨G, h1, h2, h3⟩ := grow61.1 h
    exact grow61.2 ⟨G, h1, h2.grown hg (fun q hq e => by injection e with e; have := hr q hq; have e2 : G = q := e; omega), h3⟩
  · obtain ⟨A, c, h1, h2⟩ := (grow54 (.inl rfl)).1 h
    exact (grow54 (.inl rfl)).2 ⟨A, c, h1, h2.kept hg (by
      cases hA : blk A with
      | none => exact .inl rfl
      | some q => right; intro e; obtain ⟨cs, hb⟩ := h2.ty q hA; obtain ⟨cs', hb'⟩ := ht q e.symm; exact blk_ne hb hb' (Ne.symm (h54 rfl)) rfl)⟩
end
/-- the three classes of the region's worlds -/
def GrowC (wb : World) (AP AR : Option Addr) (k : Nat) (w : World) : Prop :=
  Kp (fun b => b < wb.heap.size ∧ (1 ≤ k → blk AP ≠ some b) ∧ (2 ≤ k → blk AR ≠ some b)) wb w
theorem GrowC.keep {wb : World} {AP AR : Option Addr} {k : Nat} {w w' : World} (h : GrowC wb AP AR k w) (hz : Keeps w w') : GrowC wb AP AR k w' :=
  Kp.trans h (Kp.of_below hz (fun b hb => Nat.lt_of_lt_of_le hb.1 (Kp.size h)))

theorem grow_hS {wb : World} {B : Nat} {gs : List Nat} {g : Nat} {xs : List RbS} {x : RbS} {AP AR : Option Addr} {cp cr : Nat} {ops : Array Oper} (hP : Own ePt 1 wb B 24 AP cp gs) (hR : Own eRb 3 wb B 43 AR cr xs) (h3 : dstOf ops 3 = some 54) (h11 : dstOf ops 11 = some 62) (h12 : dstOf ops 12 = some 5) (h13 : dstOf ops 13 = some 6)
    (w3 : Wayed ops 11 3) (w4 : Wayed ops 12 3) (w5 : Wayed ops 13 3) (w6 : Wayed ops 12 11) (w7 : Wayed ops 13 11) :
    ∀ i, ∀ d ∈ [53, 61, 54, 62, 5, 6], dstOf ops i ≠ some d → (∀ j, dstOf ops j = some d → ¬ Wayed ops j i) → ∀ p, (i ∈ [3, 11] → [3, 11].getD p 0 = i) → ∀ v w w', GrowC wb AP AR p w → GrowD wb B gs g xs x d v w → ZC [3, 11] (GrowC wb AP AR) (fun i w w' => w.grownBy w' (if i = 3 then blk AP else blk AR)) i w w' → GrowD wb B gs g xs x d v w' := by
  intro i d hd hne hway p hp v w w' hC hD hZ
  by_cases i3 : i = 3
  · subst i3
    have hp0 : p = 0 := by
      have := hp (by simp)
      match p, this with
      | 0, _ => rfl
      | 1, h => simp at h
      | n + 2, h => simp at h
    subst hp0
    have hg : w.grownBy w' (blk AP) := hZ.2
    have n1 : d ≠ 54 := fun e => hne (e ▸ h3)
    have n2 : d ≠ 62 := fun e => hway 11 (e ▸ h11) w3
    have n3 : d ≠ 5 := fun e => hway 12 (e ▸ h12) w4
    have n4 : d ≠ 6 := fun e => hway 13 (e ▸ h13) w5
    refine hD.grown (t := 24) hg (fun q hq => (hP.lt q hq).2) (fun q hq => ?_) (fun e => absurd e n1) (by simp at hd; omega)
    obtain ⟨cs, hb⟩ := hP.ty q hq
    exact ⟨cs, Kp.blk hC hb ⟨(hP.lt q hq).2, by omega, by omega⟩⟩
  · by_cases i11 : i = 11
    · subst i11
      have hp1 : p = 1 := by
        have := hp (by simp)
        match p, this with
        | 0, h => simp at h
        | 1, _ => rfl
        | n + 2, h => simp at h
      subst hp1
      have hg : w.grownBy w' (blk AR) := hZ.2
      have n2 : d ≠ 62 := fun e => hne (e ▸ h11)
      have n3 : d ≠ 5 := fun e => hway 12 (e ▸ h12) w6
      have n4 : d ≠ 6 := fun e => hway 13 (e ▸ h13) w7
      refine hD.grown (t := 43) hg (fun q hq => (hR.lt q hq).2) (fun q hq => ?_) (fun _ => by decide) (by simp at hd; omega)
      obtain ⟨cs, hb⟩ := hR.ty q hq
      refine ⟨cs, Kp.blk hC hb ⟨(hR.lt q hq).2, fun _ e => ?_, by omega⟩⟩
      obtain ⟨cs', hb'⟩ := hP.ty q e
      exact blk_ne hb hb' (by decide) rfl
    · have : [3, 11].idxOf? i = none := List.idxOf?_eq_none_iff.2 (by simp [i3, i11])
      unfold ZC at hZ
      rw [this] at hZ
      exact hD.keep hZ
/-- behind the region: both rows have one element more -/
theorem Al.grow {B : Nat} {wb w : World} {gs : List Nat} {bs : List BoxS} {xs : List RbS} {AP AR AP' AR' : Option Addr} {cp cr cp' cr' g : Nat} {x : RbS} (h : Al B wb gs bs xs AP AR cp cr) (hC : GrowC wb AP AR 2 w) (hg : g ∉ gs) (hB : B ≤ g) (hx : Bx wb g x.b) (hr : RbOk wb x)
    (hP : Own ePt 1 w B 24 AP' cp' (gs ++ [g])) (hR : Own eRb 3 w B 43 AR' cr' (xs ++ [x])) : Al B w (gs ++ [g]) (bs ++ [x.b]) (xs ++ [x]) AP' AR' cp' cr' := by
  have nP : ∀ {q t cs}, Blk wb q t cs → t ≠ 24 → blk AP ≠ some q := fun hb ht e => by
    obtain ⟨cs', hb'⟩ := h.rp.ty _ e
    exact blk_ne hb hb' ht rfl
  have nR : ∀ {q t cs}, Blk wb q t cs → t ≠ 43 → blk AR ≠ some q := fun hb ht e => by
    obtain ⟨cs', hb'⟩ := h.rr.ty _ e
    exact blk_ne hb hb' ht rfl
  have nC : ∀ {q b}, Chn wb q b → blk AP ≠ some q ∧ blk AR ≠ some q := fun hc => ⟨fun e => by
    obtain ⟨cs', hb'⟩ := h.rp.ty _ e
    exact chn_ne hc hb' rfl, fun e => by
    obtain ⟨cs', hb'⟩ := h.rr.ty _ e
    exact chn_ne hc hb' rfl⟩
  have kB : ∀ {q b}, Bx wb q b → Bx w q b := fun hb => hb.kp hC ⟨hb.1.lt, fun _ => (nC hb.1).1, fun _ => (nC hb.1).2⟩ ⟨hb.2.lt, fun _ => nP hb.2 (by decide), fun _ => nR hb.2 (by decide)⟩
  have kO : ∀ {y}, RbOk wb y → RbOk w y := fun hy => hy.kp hC (fun q hq => by
    obtain ⟨cs, hb⟩ := hy.ty q hq
    exact ⟨hb.lt, fun _ => nP hb (by decide), fun _ => nR hb (by decide)⟩)
  refine ⟨⟨by simp [h.ps.len], fun i k b hk hb => ?_, ?_⟩, fun k hk => ?_, hP, hR, fun y hy => ?_⟩
  · by_cases hi : i < gs.length
    · rw [List.getElem?_append_left hi] at hk
      rw [List.getElem?_append_left (by rw [← h.ps.len]; exact hi)] at hb
      exact kB (h.ps.bx i k b hk hb)
    · rw [List.getElem?_append_right (by omega)] at hk
      rw [List.getElem?_append_right (by rw [← h.ps.len]; omega)] at hb
      have h1 := (List.getElem?_eq_some_iff.1 hk)
      have h2 := (List.getElem?_eq_some_iff.1 hb)
      simp at h1 h2
      rw [← h1.2, ← h2.2]
      exact kB hx
  · rw [List.nodup_append]
    exact ⟨h.ps.nd, by simp, fun a ha b hb e => by simp at hb; subst hb; exact hg (e ▸ ha)⟩
  · simp at hk
    rcases hk with hk | rfl
    · exact h.lo k hk
    · exact hB
  · simp at hy
    rcases hy with hy | rfl
    · exact kO (h.ok y hy)
    · exact kO hr

set_option maxRecDepth 100000 in
set_option maxHeartbeats 8000000 in
theorem plays_any (A : Option Addr) (rooms : List Int) (cA : Nat) (A2 : Option Addr) (l : List ActS) (c2 : Nat) (w : World) (hs1 : Sl eI 1 w A rooms) (hs2 : Sl eA 5 w A2 l) (hl1 : rooms.length ≤ 9223372036854775807) (hl2 : l.length ≤ 9223372036854775807) :
    Calls Try.prog 4 #[.slice A rooms.length cA, .slice A2 l.length c2] w fun e w' => e = .returned (.bool true) ∧ Below w.heap.size w w' := by
  go_enter Try.func4, Try.ntmps4
  go_wp2_with fail
  refine (awake_any _).mono ?_
  rintro e w1 ⟨rfl, hB⟩
  go_wp2_with fail
  go_loopw [5, 6, 7] (fun v5 v6 v7 wr => ∃ (k : Nat) (gs : List Nat) (xs : List RbS) (AP AR : Option Addr) (cp cr : Nat), v7 = .int .i64 k ∧ v5 = .slice AP gs.length cp ∧ v6 = .slice AR xs.length cr ∧ Hid (gs.length = xs.length) ∧ gs.length ≤ k ∧ k ≤ rooms.length ∧ k ≤ 6 ∧ Al w.heap.size wr gs (xs.map (·.b)) xs AP AR cp cr ∧ Below w.heap.size w wr) (fun _ _ v7 _ => 6 - (intOf v7).toNat)
  case atStart => exact ⟨0, [], [], none, none, 0, 0, rfl, rfl, rfl, rfl, Nat.le_refl _, Nat.zero_le _, by omega, ⟨⟨rfl, fun i g b h => by simp at h, by simp⟩, by simp, Own.nil _ _ _, Own.nil _ _ _, by simp⟩, hB⟩
  case round =>
    clear hB
    obtain ⟨k, gs, xs, AP, AR, cp, cr, rfl, rfl, rfl, hlen, hgk, hk1, hk2, hAl, hB⟩ := hrel
    by_cases hlt : k < rooms.length ∧ k < 6
    · obtain ⟨hlt, hlt2⟩ := hlt
      obtain ⟨b, off, rfl, c0w⟩ := hs1.int_at hlt
      have c0 := kcell hB c0w
      have k0 : (0 : Int) ≤ (k : Int) := by omega
      have k1 : (k : Int) < (rooms.length : Int) := by omega
      generalize rooms[k] = r at *
      by_cases hr : 1 ≤ r ∧ r ≤ 64
      · obtain ⟨n, rfl⟩ := Int.eq_ofNat_of_zero_le (by omega : 0 ≤ r)
        have n1 : 1 ≤ n := by omega
        have n2 : n ≤ 64 := by omega
        have hN := Lib.hid (new_yes n wr n1 n2)
        go_wp2_with fail
        refine hN.out.mono ?_
        rintro e w2 ⟨rfl, hx, hb⟩
        have hgl := hx.2.lt
        have hgw : wr.heap.size < w2.heap.size := by omega
        have hg0 := hB.size
        have hnew : wr.heap.size ∉ gs := fun hm => by
          obtain ⟨b', hb'⟩ := hAl.ps.at_ hm
          have := hb'.1.lt
          omega
        replace c0 := kcell hb c0
        replace hAl := hAl.keep hb
        replace hB := bstep hB (Nat.le_refl _) hb
        clear hb hN
        generalize wr.heap.size = g at *
        go_wp2_with fail
        refine (right_yes (n : Int) w2 (by omega) (by omega)).mono ?_
        rintro e w3 ⟨rfl, rfl⟩
        go_upto_region 14 with (fail)
        have hbw : b < w.heap.size := World.block_lt_of_cell? w _ c0w
        have hBw := hB.size
        have hEP : ∀ q, blk AP = some q → w.heap.size ≤ q := fun q hq => (hAl.rp.lt q hq).1
        have hER : ∀ q, blk AR = some q → w.heap.size ≤ q := fun q hq => (hAl.rr.lt q hq).1
        have hxl : xs.length ≤ 6 := by have := hlen.out; omega
        haveI ne_ : Nonempty (CW (Kp (fun q => q < w.heap.size) w2)) := ⟨⟨_, Kp.refl _ _⟩⟩
        have aft_c0 : ∀ n : CW (Kp (fun q => q < w.heap.size) w2), _ := fun n => n.ok.cell c0 hbw
        refine wp_region_phase (Kp (fun q => q < w.heap.size) w2) (GrowC w2 AP AR) (ZC [3, 11] (GrowC w2 AP AR) (fun i w w' => w.grownBy w' (if i = 3 then blk AP else blk AR))) [53, 61, 54, 62, 5, 6] (GrowD w2 w.heap.size gs g xs ⟨none, 0, ⟨[], n, false⟩⟩) [3, 11] [(0, 0), (0, 0), (0, 0), (0, 0), (0, 1), (0, 1), (0, 1), (0, 1), (0, 1), (0, 1), (0, 1), (1, 1), (2, 2), (2, 2)] [[3, 2, 1], [11, 10, 9, 8, 7, 5], [11, 10, 9, 8, 7, 6], [11, 10, 9, 8, 7], [11, 10, 9, 8], [11, 10, 9]] 196 ((Kp.refl _ _).drew) (fun k w h => Kp.mono h (fun q hq => ⟨by omega, fun _ e => by have := hEP q e; omega, fun _ e => by have := hER q e; omega⟩)) (zc_hZ (fun _ _ _ h hz => GrowC.keep h hz)) (zc_hT (by decide)) (grow_hS hAl.rp hAl.rr (by kernel_rfl) (by kernel_rfl) (by kernel_rfl) (by kernel_rfl) (.inl (by kernel_rfl)) (.inr ⟨[12, 11, 3], by rfl, by rfl, by kernel_rfl⟩) (.inr ⟨[13, 12, 11, 3], by rfl, by rfl, by kernel_rfl⟩) (.inl (by kernel_rfl)) (.inr ⟨[13, 12, 11], by rfl, by rfl, by kernel_rfl⟩)) (by kernel_rfl) (by kernel_rfl) (by rfl) ?_
        repeat (first | (refine ph_free (by rfl) (by rfl) (by rfl) (by rfl) (fun K hK => ?_); go_big_quiet_op; refine hK _ ?_; clear hK K) | (refine ph_q (by rfl) (by rfl) (by rfl) (by rfl) (by rfl) (fun K hK => ?_); go_big_quiet_op; refine hK _ ?_; clear hK K) | (refine ph_no (by rfl) (by rfl) (by rfl) ?_; (try simp only [Act.put, List.setIfInBounds_toArray, List.set_cons_zero, List.set_cons_succ])) | (refine ph_n 53 [] _ (by rfl) (by rfl) (by rfl) (by rfl) (fun γ w hC hT => ?_) ?_; (simp only [putG]; go_simp; refine gup_v (zc_keep rfl (below1 w _)) (grow53.2 ⟨_, rfl, Sl.new ePt_ok w g _ rfl _, (by obtain ⟨p, _, _, h⟩ := hC; exact Kp.size h)⟩)); (try simp only [Act.put, List.setIfInBounds_toArray, List.set_cons_zero, List.set_cons_succ])) | (refine ph_n 61 [] _ (by rfl) (by rfl) (by rfl) (by rfl) (fun γ w hC hT => ?_) ?_; (simp only [putG]; go_simp; refine gup_v (zc_keep rfl (below1 w _)) (grow61.2 ⟨_, rfl, Sl.new eRb_ok w ⟨none, 0, ⟨[], n, false⟩⟩ _ rfl _, (by obtain ⟨p, _, _, h⟩ := hC; exact Kp.size h)⟩)); (try simp only [Act.put, List.setIfInBounds_toArray, List.set_cons_zero, List.set_cons_succ])) | (refine ph_n 54 [53] _ (by rfl) (by rfl) (by rfl) (by rfl) (fun γ w hC hT => ?_) ?_; ((obtain ⟨G, hv, hs, hG⟩ := grow53.1 (hT 53 (by simp))); (have hC0 := cr_at hC); (refine gup_append_row w (.tmp 51) (.tmp 53) rfl (k := 0) rfl elemPt ePt_ok (hAl.rp.kp hC0 (fun q hq => ⟨(hAl.rp.lt q hq).2, by omega, by omega⟩)) (n := gs.length) rfl (by rfl) (m := 1) (d := 1) (ys := [g]) (by simp only [putG, Act.put, List.setIfInBounds_toArray, List.set_cons_zero, List.set_cons_succ]; rw [hv]; rfl) rfl hs (by have := hlen.out; simp only [maxLen]; omega) (by have := hlen.out; omega) (by have := Kp.size hC0; omega) (fun A' c' w' ho hg _ => ⟨Kp.trans (hC0.mono (fun b hb => ⟨hb.1, by omega, by omega⟩)) (Kp.grown hg (fun b hb => ⟨Nat.lt_of_lt_of_le hb.1 (Kp.size hC0), fun e => hb.2.1 (by omega) e.symm⟩)), hg, (grow54 (.inl rfl)).2 ⟨A', c', rfl, ho⟩⟩))); (try simp only [Act.put, List.setIfInBounds_toArray, List.set_cons_zero, List.set_cons_succ])) | (refine ph_n 62 [61] _ (by rfl) (by rfl) (by rfl) (by rfl) (fun γ w hC hT => ?_) ?_; ((obtain ⟨G, hv, hs, hG⟩ := grow61.1 (hT 61 (by simp))); (have hC0 := cr_at hC); (refine gup_append_row w (.tmp 55) (.tmp 61) rfl (k := 1) rfl elemRb eRb_ok (hAl.rr.kp hC0 (fun q hq => ⟨(hAl.rr.lt q hq).2, fun _ e => (hAl.rows hq).1 e, by omega⟩)) (n := xs.length) rfl (by rfl) (m := 1) (d := 1) (ys := [⟨none, 0, ⟨[], n, false⟩⟩]) (by simp only [putG, Act.put, List.setIfInBounds_toArray, List.set_cons_zero, List.set_cons_succ]; rw [hv]; rfl) rfl hs (by simp only [maxLen]; omega) (by omega) (by have := Kp.size hC0; omega) (fun A' c' w' ho hg _ => ⟨Kp.trans (hC0.mono (fun b hb => ⟨hb.1, fun _ => hb.2.1 (by omega), by omega⟩)) (Kp.grown hg (fun b hb => ⟨Nat.lt_of_lt_of_le hb.1 (Kp.size hC0), fun e => hb.2.2 (by omega) e.symm⟩)), hg, (grow62 (.inl rfl)).2 ⟨A', c', rfl, ho⟩⟩))); (try simp only [Act.put, List.setIfInBounds_toArray, List.set_cons_zero, List.set_cons_succ])) | (refine ph_n 5 [54] _ (by rfl) (by rfl) (by rfl) (by rfl) (fun γ w hC hT => ?_) ?_; ((obtain ⟨A5, e5, hv, ho⟩ := (grow54 (.inl rfl)).1 (hT 54 (by simp))); simp only [putG, Act.put, List.setIfInBounds_toArray, List.set_cons_zero, List.set_cons_succ]; rw [hv]; go_simp; exact gup_v (zc_keep rfl (Below.refl _ _)) ((grow54 (.inr rfl)).2 ⟨A5, e5, rfl, ho⟩)); (try simp only [Act.put, List.setIfInBounds_toArray, List.set_cons_zero, List.set_cons_succ])) | (refine ph_n 6 [62] _ (by rfl) (by rfl) (by rfl) (by rfl) (fun γ w hC hT => ?_) ?_; ((obtain ⟨A5, e5, hv, ho⟩ := (grow62 (.inl rfl)).1 (hT 62 (by simp))); simp only [putG, Act.put, List.setIfInBounds_toArray, List.set_cons_zero, List.set_cons_succ]; rw [hv]; go_simp; exact gup_v (zc_keep rfl (Below.refl _ _)) ((grow62 (.inr rfl)).2 ⟨A5, e5, rfl, ho⟩)); (try simp only [Act.put, List.setIfInBounds_toArray, List.set_cons_zero, List.set_cons_succ])))
        refine ph_end ?_
        intro γ w4 hC4 hT
        clear ne_ aft_c0
        simp only [putG, Act.put, List.setIfInBounds_toArray, List.set_cons_zero, List.set_cons_succ]
        obtain ⟨A5, c5, h54, own5⟩ := (grow54 (.inr rfl)).1 (hT 5 (by simp))
        obtain ⟨A6, c6, h62, own6⟩ := (grow62 (.inr rfl)).1 (hT 6 (by simp))
        rw [h54, h62]
        have hr0 : RbOk w2 ⟨none, 0, ⟨[], n, false⟩⟩ := ⟨Sl.nil _ _, Nat.le_refl _, Nat.zero_le _, n2, .inl ⟨rfl, rfl⟩, fun q hq => by cases hq⟩
        have hAl4 := hAl.grow hC4 hnew hg0 hx hr0 own5 own6
        have hB4 : Below w.heap.size w w4 := hB.trans (Kp.low hC4 (fun b hb => ⟨by omega, fun _ e => by have := hEP b e; omega, fun _ e => by have := hER b e; omega⟩))
        clear hC4 hAl hB own5 own6 hT h54 h62 hx hr0
        generalize γ 53 = v53 at *
        generalize γ 54 = v54 at *
        generalize γ 61 = v61 at *
        generalize γ 62 = v62 at *
        go_wp2_with fail
        go_roundw
        case rel => exact ⟨k + 1, gs ++ [g], xs ++ [⟨none, 0, ⟨[], n, false⟩⟩], A5, A6, c5, c6, by go_num, by simp, by simp, by have := hlen.out; unfold Hid; simp [this], by simp; omega, by omega, by omega, by simpa using hAl4, hB4⟩
        case measure => simp [intOf]; omega
      · have hr2 : r < 1 ∨ 64 < r := by omega
        have hN := Lib.hid (new_no r wr hr2)
        have hR := Lib.hid (right_no r wr hr2)
        clear hr hr2
        go_wp2_with fail
        refine hN.out.mono ?_
        rintro e w2 ⟨rfl, rfl⟩
        go_wp2_with fail
        refine hR.out.mono ?_
        rintro e w3 ⟨rfl, rfl⟩
        go_wp2_with fail
        go_roundw
        case rel => exact ⟨k + 1, gs, xs, AP, AR, cp, cr, by go_num, rfl, rfl, hlen, by omega, by omega, by omega, hAl, hB⟩
        case measure => simp [intOf]; omega
    · have hm : gs.length ≤ 6 := by omega
      obtain ⟨m, hmx⟩ : ∃ m, m = gs.length := ⟨_, rfl⟩
      have HML : Hid (xs.length = m) := by have := hlen.out; unfold Hid; omega
      have HMG : Hid (gs.length = m) := hmx.symm
      rw [← hmx, hlen.out.symm.trans hmx.symm]
      rw [← hmx] at hm
      clear hlen hgk hmx
      go_upto_region 6 with (fail)
      go_cut [22] (fun s22 wx => s22 = .bool false ∧ wx = wr)
      case first =>
        by_cases h1 : k < rooms.length
        · obtain rfl : k = 6 := by omega
          have k1 : (6 : Int) < (rooms.length : Int) := by omega
          go_wp2_with fail
          go_meet
          exact ⟨rfl, rfl⟩
        · have k1 : ¬ (k : Int) < (rooms.length : Int) := by omega
          go_wp2_with fail
          go_meet
          exact ⟨rfl, rfl⟩
      case rest =>
        obtain ⟨rfl, rfl⟩ := hcut
        clear hlt hk1 hk2
        go_wp2_with fail
        go_loopw [10] (fun v10 ws => ∃ (i : Nat) (ys : List RbS), v10 = .int .i64 i ∧ Hid (ys.length = m) ∧ i ≤ l.length ∧ i ≤ 100 ∧ Al w.heap.size ws gs (ys.map (·.b)) ys AP AR cp cr ∧ Below w.heap.size w ws) (fun v10 _ => 100 - (intOf v10).toNat)
        case atStart => exact ⟨0, xs, rfl, HML, Nat.zero_le _, by omega, hAl, hB⟩
        case round =>
          clear hAl hB HML
          obtain ⟨i, ys, rfl, HML, hi1, hi2, hAl, hB⟩ := hrel
          by_cases hlt : i < l.length ∧ i < 100
          · obtain ⟨hlt, hlt2⟩ := hlt
            obtain ⟨b, off, rfl, a0, a1, a2, a3, a4⟩ := (hs2.keep hB).act_at hlt
            have k0 : (0 : Int) ≤ (i : Int) := by omega
            have k1 : (i : Int) < (l.length : Int) := by omega
            generalize l[i] = a at *
            have hAla := hAl.keep (below1 wr (Obj.cells #[.int .i64 a.kind, .int .i64 a.at_, .int .i64 a.to, .int .i64 a.n, .int .u64 a.w] 30))
            have hBa := hB.alloc hB.size (Obj.cells #[.int .i64 a.kind, .int .i64 a.at_, .int .i64 a.to, .int .i64 a.n, .int .u64 a.w] 30)
            have bA := Blk.new wr 30 #[.int .i64 a.kind, .int .i64 a.at_, .int .i64 a.to, .int .i64 a.n, .int .u64 a.w]
            clear hAl hB
            by_cases hat : 0 ≤ a.at_ ∧ a.at_ < (m : Int)
            · obtain ⟨hat1, hat2⟩ := hat
              go_upto_region 20 with (fail)
              obtain ⟨p, hp⟩ := Int.eq_ofNat_of_zero_le hat1
              rw [hp] at hat2
              have hpm : p < m := by omega
              have hgl : p < gs.length := by have := HMG.out; omega
              have hyl : p < ys.length := by have := HML.out; omega
              obtain ⟨g, hg⟩ : ∃ g, gs[p]? = some g := ⟨_, List.getElem?_eq_getElem hgl⟩
              obtain ⟨x, hx⟩ : ∃ x, ys[p]? = some x := ⟨_, List.getElem?_eq_getElem hyl⟩
              have hga := bA.lt
              generalize wr.alloc (Obj.cells #[.int .i64 a.kind, .int .i64 a.at_, .int .i64 a.to, .int .i64 a.n, .int .u64 a.w] 30) = wb at *
              generalize wr.heap.size = ga at *
              obtain ⟨P, rfl⟩ : ∃ P, AP = some ⟨P, 0, none⟩ := by
                rcases hAla.rp.shape with ⟨_, h, _⟩ | h
                · rw [h] at hgl; simp at hgl
                · exact h
              obtain ⟨q, rfl⟩ : ∃ q, AR = some ⟨q, 0, none⟩ := by
                rcases hAla.rr.shape with ⟨_, h, _⟩ | h
                · rw [h] at hyl; simp at hyl
                · exact h
              have hPw := (hAla.rp.lt P rfl).2
              have HA := Lib.hid hAla
              have HB := Lib.hid hBa
              have cP : wb.cell? ⟨P, p, none⟩ = some (.pointer (some ⟨g + 1, 0, none⟩)) := by
                have hgp : gs[p] = g := (List.getElem?_eq_some_iff.1 hg).2
                have := own_cell ePt_ok hAla.rp hgl (j := 0) (v := .pointer (some ⟨g + 1, 0, none⟩)) (by rw [hgp]; rfl)
                simpa using this
              clear hAla hBa a0 a1 a2 a3 a4
              have z0 := bA.cell 0 (.int .i64 a.kind) rfl
              have z1 := bA.cell 1 (.int .i64 a.at_) rfl
              rw [hp] at z1
              have HP := Lib.hid hp
              clear hp hat1
              have z2 := bA.cell 2 (.int .i64 a.to) rfl
              have z3 := bA.cell 3 (.int .i64 a.n) rfl
              have z4 := bA.cell 4 (.int .u64 a.w) rfl
              have p0 : (0 : Int) ≤ (p : Int) := by omega
              have p1 : (p : Int) < (m : Int) := by omega
              by_cases hk3 : a.kind = 3
              · have hk3b : (a.kind != 3) = false := by simp [hk3]
                clear hk3
                by_cases hto : 0 ≤ a.to ∧ a.to < (m : Int)
                · obtain ⟨ht1, ht2⟩ := hto
                  obtain ⟨j, hj⟩ := Int.eq_ofNat_of_zero_le ht1
                  rw [hj] at ht2 z2
                  have hjm : j < m := by omega
                  have hgl2 : j < gs.length := by have := HMG.out; omega
                  have hyl2 : j < ys.length := by have := HML.out; omega
                  obtain ⟨g2, hg2⟩ : ∃ g2, gs[j]? = some g2 := ⟨_, List.getElem?_eq_getElem hgl2⟩
                  obtain ⟨z, hz⟩ : ∃ z, ys[j]? = some z := ⟨_, List.getElem?_eq_getElem hyl2⟩
                  have cP2 : wb.cell? ⟨P, j, none⟩ = some (.pointer (some ⟨g2 + 1, 0, none⟩)) := by
                    have hgp : gs[j] = g2 := (List.getElem?_eq_some_iff.1 hg2).2
                    have := own_cell ePt_ok HA.out.rp hgl2 (j := 0) (v := .pointer (some ⟨g2 + 1, 0, none⟩)) (by rw [hgp]; rfl)
                    simpa using this
                  have HJ := Lib.hid hj
                  clear hj ht1
                  have j0 : (0 : Int) ≤ (j : Int) := by omega
                  have j1 : (j : Int) < (m : Int) := by omega
                  have HPM := Lib.hid hpm
                  have HJM := Lib.hid hjm
                  clear hpm hjm hat2 ht2
                  obtain ⟨tb, htb⟩ : ∃ tb : Bool, ((j : Int) != (p : Int)) = tb := ⟨_, rfl⟩
                  have HTB := Lib.hid htb
                  go_upto_if 130 with (fail)
                  clear htb
                  go_cut [12] (fun s12 wx => ∃ (n : Nat) (zs : List RbS), s12 = .int .i64 n ∧ Hid (zs.length = m) ∧ Kp (fun b => b = ga ∨ b = P) wb wx ∧ Below w.heap.size w wx ∧ Al w.heap.size wx gs (ys.map (·.b)) zs (some ⟨P, 0, none⟩) (some ⟨q, 0, none⟩) cp cr ∧ PassSpec w.heap.size gs (ys.map (·.b)) zs (some ⟨P, 0, none⟩) (some ⟨q, 0, none⟩) cp cr g g2 n)
                  case first =>
                    cases tb
                    · have hjp : j = p := by have := HTB.out; simp at this; omega
                      have hgg : g2 = g := by rw [hjp, hg] at hg2; injection hg2 with h; exact h.symm
                      clear HTB
                      go_wp2_with fail
                      go_meet
                      exact ⟨0, ys, rfl, HML, Kp.refl _ _, HB.out, HA.out, by rw [hgg]; exact passSpec_same hg hyl⟩
                    · have hjp : Hid (j ≠ p) := by have := HTB.out; simp at this; exact fun e => this (by rw [e])
                      clear HTB
                      go_upto_region 26 with (fail)
                      have D0 : PaC w.heap.size w wb ga P gs (ys.map (·.b)) ys (some ⟨P, 0, none⟩) (some ⟨q, 0, none⟩) cp cr p j (passB x.b z.b) (passT x.b z.b) 0 wb.drew := ⟨(Kp.refl _ _).drew, HB.out.drew, ys, by rw [if_pos rfl], HA.out.keep (Below.refl _ _).drew⟩
                      have hxm := List.mem_of_getElem? hx
                      have hzm := List.mem_of_getElem? hz
                      haveI ne_ : Nonempty (CW (Kp (fun b => b = ga ∨ b = P) wb)) := ⟨⟨_, Kp.refl _ _⟩⟩
                      have aft_z1 : ∀ n : CW (Kp (fun b => b = ga ∨ b = P) wb), _ := fun n => n.ok.cell z1 (.inl rfl)
                      have aft_z2 : ∀ n : CW (Kp (fun b => b = ga ∨ b = P) wb), _ := fun n => n.ok.cell z2 (.inl rfl)
                      refine wp_region_phase (Kp (fun b => b = ga ∨ b = P) wb) (PaC w.heap.size w wb ga P gs (ys.map (·.b)) ys (some ⟨P, 0, none⟩) (some ⟨q, 0, none⟩) cp cr p j (passB x.b z.b) (passT x.b z.b)) (ZC [22, 24] (PaC w.heap.size w wb ga P gs (ys.map (·.b)) ys (some ⟨P, 0, none⟩) (some ⟨q, 0, none⟩) cp cr p j (passB x.b z.b) (passT x.b z.b)) (fun _ w w' => w.grownBy w' (some q))) [142, 147, 148, 131, 149, 150] (PaD x z (passB x.b z.b) (passT x.b z.b) (passN x.b z.b)) [22, 24] [(0, 0), (0, 0), (0, 0), (0, 1), (0, 1), (0, 1), (0, 0), (0, 0), (0, 0), (0, 0), (0, 0), (0, 0), (0, 0), (0, 0), (0, 0), (0, 0), (0, 0), (0, 0), (0, 0), (0, 1), (0, 2), (0, 0), (0, 0), (1, 1), (1, 1), (2, 2)] [] 196 (D0) (fun _ _ h => h.e) (zc_hZ (fun _ _ _ h hz => h.keep hga hPw (Nat.le_refl _) hz)) (zc_hT (by decide)) (pa_hS) (by kernel_rfl) (by kernel_rfl) (by rfl) ?_
                      repeat (first | (refine ph_free (by rfl) (by rfl) (by rfl) (by rfl) (fun K hK => ?_); go_big_quiet_op; refine hK _ ?_; clear hK K) | (refine ph_q (by rfl) (by rfl) (by rfl) (by rfl) (by rfl) (fun K hK => ?_); go_big_quiet_op; refine hK _ ?_; clear hK K) | (refine ph_no (by rfl) (by rfl) (by rfl) ?_; (try simp only [Act.put, List.setIfInBounds_toArray, List.set_cons_zero, List.set_cons_succ])) | (refine ph_n 142 [] _ (by rfl) (by rfl) (by rfl) (by rfl) (fun γ w hC hT => ?_) ?_; ((have hat := (cr_at hC).first.at_ hx); (obtain ⟨u0, u1, u2⟩ : _ ∧ _ ∧ _ := ⟨hat.c0, hat.c1, hat.c2⟩); simp only [putG]; go_simp; exact gup_v (zc_keep rfl (Below.refl _ _)) (pa142.2 rfl)); (try simp only [Act.put, List.setIfInBounds_toArray, List.set_cons_zero, List.set_cons_succ])) | (refine ph_n 147 [] _ (by rfl) (by rfl) (by rfl) (by rfl) (fun γ w hC hT => ?_) ?_; ((have hat := (cr_at hC).first.at_ hz); (obtain ⟨u0, u1, u2⟩ : _ ∧ _ ∧ _ := ⟨hat.c0, hat.c1, hat.c2⟩); simp only [putG]; go_simp; exact gup_v (zc_keep rfl (Below.refl _ _)) (pa147.2 rfl)); (try simp only [Act.put, List.setIfInBounds_toArray, List.set_cons_zero, List.set_cons_succ])) | (refine ph_n 148 [142, 147] _ (by rfl) (by rfl) (by rfl) (by rfl) (fun γ w hC hT => ?_) ?_; ((have v1 := pa142.1 (hT 142 (by simp))); (have v2 := pa147.1 (hT 147 (by simp))); (have hC0 := (cr_at hC).first); simp only [putG, Act.put, List.setIfInBounds_toArray, List.set_cons_zero, List.set_cons_succ]; rw [v1, v2]; go_simp; exact ⟨rfl, (rpass_word x z _ (hC0.ok x hxm) (hC0.ok z hzm)).mono (fun e w' ⟨x', y', h1, e1, e2, k1, k2, _, _, hb⟩ => ⟨_, h1, zc_keep rfl hb, (pa131 (.inr rfl)).2 ⟨x', y', rfl, e1, e2, k1, k2⟩⟩)⟩); (try simp only [Act.put, List.setIfInBounds_toArray, List.set_cons_zero, List.set_cons_succ])) | (refine ph_n 131 [148] _ (by rfl) (by rfl) (by rfl) (by rfl) (fun γ w hC hT => ?_) ?_; ((obtain ⟨y, y', hv, e1, e2, k1, k2⟩ := (pa131 (.inr rfl)).1 (hT 148 (by simp))); (have E1 := Lib.hid e1); (have E2 := Lib.hid e2); clear e1 e2; simp only [putG, Act.put, List.setIfInBounds_toArray, List.set_cons_zero, List.set_cons_succ]; rw [hv]; go_simp; exact gup_v (zc_keep rfl (Below.refl _ _)) ((pa131 (.inl rfl)).2 ⟨y, y', rfl, E1.out, E2.out, k1, k2⟩)); (try simp only [Act.put, List.setIfInBounds_toArray, List.set_cons_zero, List.set_cons_succ])) | (refine ph_n 149 [131] _ (by rfl) (by rfl) (by rfl) (by rfl) (fun γ w hC hT => ?_) ?_; ((obtain ⟨y, y', hv, e1, e2, k1, k2⟩ := (pa131 (.inl rfl)).1 (hT 131 (by simp))); (have E1 := Lib.hid e1); (have E2 := Lib.hid e2); clear e1 e2; simp only [putG, Act.put, List.setIfInBounds_toArray, List.set_cons_zero, List.set_cons_succ]; rw [hv]; go_simp; exact gup_v (zc_keep rfl (Below.refl _ _)) (pa149.2 ⟨y, rfl, E1.out, k1⟩)); (try simp only [Act.put, List.setIfInBounds_toArray, List.set_cons_zero, List.set_cons_succ])) | (refine ph_n 150 [131] _ (by rfl) (by rfl) (by rfl) (by rfl) (fun γ w hC hT => ?_) ?_; ((obtain ⟨y, y', hv, e1, e2, k1, k2⟩ := (pa131 (.inl rfl)).1 (hT 131 (by simp))); (have E1 := Lib.hid e1); (have E2 := Lib.hid e2); clear e1 e2; simp only [putG, Act.put, List.setIfInBounds_toArray, List.set_cons_zero, List.set_cons_succ]; rw [hv]; go_simp; exact gup_v (zc_keep rfl (Below.refl _ _)) (pa150.2 ⟨y', rfl, E2.out, k2⟩)); (try simp only [Act.put, List.setIfInBounds_toArray, List.set_cons_zero, List.set_cons_succ])) | (refine ph_u (.int .i64 (passN x.b z.b : Nat)) [131] _ (by rfl) (by rfl) (by rfl) (by simp) (by rfl) (fun γ w hC hT => ?_) ?_; ((obtain ⟨y, y', hv, e1, e2, k1, k2⟩ := (pa131 (.inl rfl)).1 (hT 131 (by simp))); (have E1 := Lib.hid e1); (have E2 := Lib.hid e2); clear e1 e2; simp only [putG, Act.put, List.setIfInBounds_toArray, List.set_cons_zero, List.set_cons_succ]; rw [hv]; go_simp; exact gup_v (zc_keep rfl (Below.refl _ _)) rfl); (try simp only [Act.put, List.setIfInBounds_toArray, List.set_cons_zero, List.set_cons_succ])) | (refine ph_u (undef) [149] _ (by rfl) (by rfl) (by rfl) (by simp) (by rfl) (fun γ w hC hT => ?_) ?_; ((obtain ⟨y, hv, e1, k1⟩ := pa149.1 (hT 149 (by simp))); (have hC0 := cr_at hC); simp only [putG, Act.put, List.setIfInBounds_toArray, List.set_cons_zero, List.set_cons_succ]; rw [hv]; refine gup_store_at (k := 0) rfl 43 (.tmp 152) (.tmp 149) rfl q (p * 3) #[.slice y.a y.b.l.length y.c, .int .i64 y.b.room, .bool y.b.shut] rfl rfl (hC0.there hyl) (by kernel_rfl) (by simp [Value.oneCell']) ⟨hC0.store1 bA hyl e1 k1, grown_setCells q _ _ _ _ (only_refl _ q)⟩); (try simp only [Act.put, List.setIfInBounds_toArray, List.set_cons_zero, List.set_cons_succ])) | (refine ph_u (undef) [150] _ (by rfl) (by rfl) (by rfl) (by simp) (by rfl) (fun γ w hC hT => ?_) ?_; ((obtain ⟨y, hv, e1, k1⟩ := pa150.1 (hT 150 (by simp))); (have hC0 := cr_at hC); simp only [putG, Act.put, List.setIfInBounds_toArray, List.set_cons_zero, List.set_cons_succ]; rw [hv]; refine gup_store_at (k := 1) rfl 43 (.tmp 153) (.tmp 150) rfl q (j * 3) #[.slice y.a y.b.l.length y.c, .int .i64 y.b.room, .bool y.b.shut] rfl rfl (hC0.there hyl2) (by kernel_rfl) (by simp [Value.oneCell']) ⟨hC0.store2 bA hyl2 e1 k1, grown_setCells q _ _ _ _ (only_refl _ q)⟩); (try simp only [Act.put, List.setIfInBounds_toArray, List.set_cons_zero, List.set_cons_succ])))
                      refine ph_end ?_
                      intro γ w5 hC5 hT
                      clear ne_ aft_z1 aft_z2
                      simp only [putG, Act.put, List.setIfInBounds_toArray, List.set_cons_zero, List.set_cons_succ]
                      obtain ⟨y1, y2, hy1, hy2, hal⟩ := PaC.second hC5
                      have hlow : Below w.heap.size w w5 := hC5.low
                      have hke := hC5.e
                      clear hC5 hT D0
                      generalize γ 142 = v142 at *
                      generalize γ 147 = v147 at *
                      generalize γ 148 = v148 at *
                      generalize γ 131 = v131 at *
                      generalize γ 149 = v149 at *
                      generalize γ 150 = v150 at *
                      go_wp2_with fail
                      go_meet
                      exact ⟨passN x.b z.b, (ys.set p y1).set j y2, rfl, by have := HML.out; unfold Hid; simpa using this, hke, hlow, hal, passSpec_two hg hg2 hx hz (Ne.symm hjp.out) hy1 hy2 (HA.out.ok z hzm).room⟩
                  case rest =>
                    obtain ⟨n, zs, rfl, HZL, hKx, hBx, hAx, hPS⟩ := hcut
                    replace z1 := hKx.cell z1 (.inl rfl)
                    replace z2 := hKx.cell z2 (.inl rfl)
                    replace cP := hKx.cell cP (.inr rfl)
                    replace cP2 := hKx.cell cP2 (.inr rfl)
                    replace bA := hKx.blk bA (.inl rfl)
                    replace hga := bA.lt
                    have hPw' := (hAx.rp.lt P rfl).2
                    have hqw := (hAx.rr.lt q rfl).2
                    have hzl1 : p < zs.length := by have := HZL.out; have := HPM.out; omega
                    have hzl2 : j < zs.length := by have := HZL.out; have := HJM.out; omega
                    obtain ⟨x', hx'⟩ : ∃ x', zs[p]? = some x' := ⟨_, List.getElem?_eq_getElem hzl1⟩
                    obtain ⟨z', hz'⟩ : ∃ z', zs[j]? = some z' := ⟨_, List.getElem?_eq_getElem hzl2⟩
                    have at1 := hAx.at_ hx'
                    have at2 := hAx.at_ hz'
                    obtain ⟨q0, q1, q2⟩ : _ ∧ _ ∧ _ := ⟨at1.c0, at1.c1, at1.c2⟩
                    obtain ⟨r0, r1, r2⟩ : _ ∧ _ ∧ _ := ⟨at2.c0, at2.c1, at2.c2⟩
                    clear HTB z0 z3 z4 at1 at2 hzl1 hzl2 hPw HA HB hKx
                    have D0 : PbC w.heap.size w wc ga P q gs (ys.map (·.b)) zs cp cr 0 wc.drew := ⟨(Kp.refl _ _).drew, hBx.drew, hAx.keep (Below.refl _ _).drew⟩
                    go_upto_region 27 with (fail)
                    haveI ne_ : Nonempty (CW (Kp (fun b => b = ga ∨ b = P ∨ b = q) wc)) := ⟨⟨_, Kp.refl _ _⟩⟩
                    have aft_z1 : ∀ n : CW (Kp (fun b => b = ga ∨ b = P ∨ b = q) wc), _ := fun n => n.ok.cell z1 (.inl rfl)
                    have aft_z2 : ∀ n : CW (Kp (fun b => b = ga ∨ b = P ∨ b = q) wc), _ := fun n => n.ok.cell z2 (.inl rfl)
                    have aft_cP : ∀ n : CW (Kp (fun b => b = ga ∨ b = P ∨ b = q) wc), _ := fun n => n.ok.cell cP (.inr (.inl rfl))
                    have aft_cP2 : ∀ n : CW (Kp (fun b => b = ga ∨ b = P ∨ b = q) wc), _ := fun n => n.ok.cell cP2 (.inr (.inl rfl))
                    have aft_q0 : ∀ n : CW (Kp (fun b => b = ga ∨ b = P ∨ b = q) wc), _ := fun n => n.ok.cell q0 (.inr (.inr rfl))
                    have aft_q1 : ∀ n : CW (Kp (fun b => b = ga ∨ b = P ∨ b = q) wc), _ := fun n => n.ok.cell q1 (.inr (.inr rfl))
                    have aft_q2 : ∀ n : CW (Kp (fun b => b = ga ∨ b = P ∨ b = q) wc), _ := fun n => n.ok.cell q2 (.inr (.inr rfl))
                    have aft_r0 : ∀ n : CW (Kp (fun b => b = ga ∨ b = P ∨ b = q) wc), _ := fun n => n.ok.cell r0 (.inr (.inr rfl))
                    have aft_r1 : ∀ n : CW (Kp (fun b => b = ga ∨ b = P ∨ b = q) wc), _ := fun n => n.ok.cell r1 (.inr (.inr rfl))
                    have aft_r2 : ∀ n : CW (Kp (fun b => b = ga ∨ b = P ∨ b = q) wc), _ := fun n => n.ok.cell r2 (.inr (.inr rfl))
                    refine wp_region_phase (Kp (fun b => b = ga ∨ b = P ∨ b = q) wc) (PbC w.heap.size w wc ga P q gs (ys.map (·.b)) zs cp cr) (ZC [10] (PbC w.heap.size w wc ga P q gs (ys.map (·.b)) zs cp cr) (fun _ _ _ => True)) [] (fun _ _ _ => True) [10] [(0, 0), (0, 0), (0, 0), (0, 0), (0, 0), (0, 0), (0, 0), (0, 0), (0, 0), (0, 0), (0, 0), (0, 1), (1, 1), (1, 1), (1, 1), (1, 1), (1, 1), (1, 1), (1, 1), (1, 1), (1, 1), (1, 1), (1, 1), (1, 1), (1, 1), (1, 1), (1, 1), (1, 1), (1, 1), (1, 1), (1, 1), (1, 1), (1, 1), (1, 1), (1, 1), (1, 1), (1, 1), (1, 1), (1, 1), (1, 1), (1, 1)] [[24, 13, 10], [38, 27, 26, 13, 10]] 196 (D0) (fun _ _ h => h.e) (zc_hZ (fun _ _ _ h hz => h.keep hga hPw' hqw (Nat.le_refl _) hz)) (zc_hT (by decide)) (fun _ d hd => by cases hd) (by kernel_rfl) (by kernel_rfl) (by rfl) ?_
                    repeat (first | (refine ph_free (by rfl) (by rfl) (by rfl) (by rfl) (fun K hK => ?_); go_big_quiet_op; refine hK _ ?_; clear hK K) | (refine ph_q (by rfl) (by rfl) (by rfl) (by rfl) (by rfl) (fun K hK => ?_); go_big_quiet_op; refine hK _ ?_; clear hK K) | (refine ph_no (by rfl) (by rfl) (by rfl) ?_; (try simp only [Act.put, List.setIfInBounds_toArray, List.set_cons_zero, List.set_cons_succ])) | (refine ph_call (i := 10) (0, 0) (by rfl) (by rfl) (by rfl) (by rfl) (by rfl) (fun K hK => ?_); go_simp; apply Exists.intro; refine ⟨fun n => ?_, hK _ ?_⟩; (refine gup_turn (k := 0) rfl (((cr_at n.ok).pass bA hPS).mono (fun e w5 h => ⟨h.1, h.2, trivial⟩))); clear hK K; (try simp only [Act.put, List.setIfInBounds_toArray, List.set_cons_zero, List.set_cons_succ])) | (refine ph_call _ (by rfl) (by rfl) (by rfl) (by rfl) (by rfl) (fun K hK => ?_); go_simp; first | (apply Exists.intro; refine ⟨fun n => ?_, hK _ ?_⟩; (with_reducible refine gup_keep rfl ((cr_at n.ok).same_ hg hx')); clear hK K; (try simp only [Act.put, List.setIfInBounds_toArray, List.set_cons_zero, List.set_cons_succ])) | (apply Exists.intro; refine ⟨fun n => ?_, hK _ ?_⟩; (with_reducible refine gup_keep rfl ((cr_at n.ok).same_ hg2 hz')); clear hK K; (try simp only [Act.put, List.setIfInBounds_toArray, List.set_cons_zero, List.set_cons_succ]))))
                    refine ph_end ?_
                    intro γ w5 hC5 hT
                    clear ne_ aft_z1 aft_z2 aft_cP aft_cP2 aft_q0 aft_q1 aft_q2 aft_r0 aft_r1 aft_r2
                    simp only [putG, Act.put, List.setIfInBounds_toArray, List.set_cons_zero, List.set_cons_succ]
                    have hal : Al w.heap.size w5 gs (zs.map (·.b)) zs (some ⟨P, 0, none⟩) (some ⟨q, 0, none⟩) cp cr := hC5.al
                    have hlow : Below w.heap.size w w5 := hC5.low
                    clear hC5 hT D0 hAx hBx hPS
                    go_wp2_with fail
                    go_roundw
                    case rel => exact ⟨i + 1, zs, by go_num, HZL, by omega, by omega, hal, hlow⟩
                    case measure => simp [intOf]; omega
                · by_cases ht0 : a.to < 0
                  · clear hto
                    go_wp2_with fail
                    go_roundw
                    case rel => exact ⟨i + 1, ys, by go_num, HML, by omega, by omega, HA.out, HB.out⟩
                    case measure => simp [intOf]; omega
                  · have ht1 : (m : Int) ≤ a.to := by omega
                    clear hto
                    go_wp2_with fail
                    go_roundw
                    case rel => exact ⟨i + 1, ys, by go_num, HML, by omega, by omega, HA.out, HB.out⟩
                    case measure => simp [intOf]; omega
              · have hk3b : (a.kind != 3) = true := by simpa using hk3
                clear hk3
                go_upto_region 21 with (fail)
                have hBw : w.heap.size ≤ wb.heap.size := HB.out.size
                have D0 : DoC w.heap.size w wb ga P gs ys (some ⟨P, 0, none⟩) (some ⟨q, 0, none⟩) cp cr p (doB x.b a) 0 wb.drew := ⟨(Kp.refl _ _).drew, HB.out.drew, by rw [if_pos rfl]; exact HA.out.keep (Below.refl _ _).drew⟩
                haveI ne_ : Nonempty (CW (Kp (fun b => b = ga ∨ b = P) wb)) := ⟨⟨_, Kp.refl _ _⟩⟩
                have aft_z0 : ∀ n : CW (Kp (fun b => b = ga ∨ b = P) wb), _ := fun n => n.ok.cell z0 (.inl rfl)
                have aft_z1 : ∀ n : CW (Kp (fun b => b = ga ∨ b = P) wb), _ := fun n => n.ok.cell z1 (.inl rfl)
                have aft_z2 : ∀ n : CW (Kp (fun b => b = ga ∨ b = P) wb), _ := fun n => n.ok.cell z2 (.inl rfl)
                have aft_z3 : ∀ n : CW (Kp (fun b => b = ga ∨ b = P) wb), _ := fun n => n.ok.cell z3 (.inl rfl)
                have aft_z4 : ∀ n : CW (Kp (fun b => b = ga ∨ b = P) wb), _ := fun n => n.ok.cell z4 (.inl rfl)
                have aft_cP : ∀ n : CW (Kp (fun b => b = ga ∨ b = P) wb), _ := fun n => n.ok.cell cP (.inr rfl)
                refine wp_region_phase (Kp (fun b => b = ga ∨ b = P) wb) (DoC w.heap.size w wb ga P gs ys (some ⟨P, 0, none⟩) (some ⟨q, 0, none⟩) cp cr p (doB x.b a)) (ZC [10] (DoC w.heap.size w wb ga P gs ys (some ⟨P, 0, none⟩) (some ⟨q, 0, none⟩) cp cr p (doB x.b a)) (fun _ _ _ => True)) [112] (fun _ v _ => ∃ A c, v = .agg #[.slice A (doB x.b a).l.length c, .int .i64 (doB x.b a).room, .bool (doB x.b a).shut]) [10] [(0, 0), (0, 0), (0, 0), (0, 0), (0, 0), (0, 0), (0, 0), (0, 0), (0, 0), (0, 0), (0, 0), (1, 1), (1, 1), (1, 1), (1, 1), (1, 1), (1, 1), (1, 1), (1, 1), (1, 1), (1, 1), (1, 1), (1, 1), (1, 1), (1, 1), (1, 1)] [[10, 4, 3, 0], [10, 4, 3, 2, 1], [10, 4, 3, 2], [10, 4, 3], [10, 8, 5], [10, 8, 7, 6], [10, 8, 7], [13, 12, 10], [14, 12, 10], [15, 12, 10], [16, 12, 10], [17, 12, 10], [18, 12, 10], [19, 12, 10], [20, 12, 10], [21, 12, 10], [22, 12, 10], [23, 12, 10], [24, 12, 10], [25, 12, 10]] 196 (D0) (fun _ _ h => h.e) (zc_hZ (fun _ _ _ h hz => h.keep hga hPw (Nat.le_refl _) hz)) (zc_hT (by decide)) (fun _ _ _ _ _ _ _ _ _ _ _ h _ => h) (by kernel_rfl) (by kernel_rfl) (by rfl) ?_
                repeat (first | (refine ph_free (by rfl) (by rfl) (by rfl) (by rfl) (fun K hK => ?_); go_big_quiet_op; refine hK _ ?_; clear hK K) | (refine ph_q (by rfl) (by rfl) (by rfl) (by rfl) (by rfl) (fun K hK => ?_); go_big_quiet_op; refine hK _ ?_; clear hK K) | (refine ph_no (by rfl) (by rfl) (by rfl) ?_; (try simp only [Act.put, List.setIfInBounds_toArray, List.set_cons_zero, List.set_cons_succ])) | (refine ph_call (i := 10) (0, 0) (by rfl) (by rfl) (by rfl) (by rfl) (by rfl) (fun K hK => ?_); go_simp; apply Exists.intro; refine ⟨fun n => ?_, hK _ ?_⟩; (refine gup_turn (k := 0) rfl (((cr_at n.ok).does_ (a := ⟨a.kind, (p : Int), a.to, a.n, a.w⟩) bA (Nat.le_refl _) hg hx).mono (fun e w5 h => ⟨h.1, h.2, trivial⟩))); clear hK K; (try simp only [Act.put, List.setIfInBounds_toArray, List.set_cons_zero, List.set_cons_succ])) | (refine ph_n 112 [] _ (by rfl) (by rfl) (by rfl) (by rfl) (fun γ w7 hC hT => ?_) ?_; ((obtain ⟨_, y, hyb, hat⟩ := (cr_at hC).box hg hyl); (obtain ⟨u0, u1, u2⟩ : _ ∧ _ ∧ _ := ⟨hat.c0, hat.c1, hat.c2⟩); rw [hyb] at u0 u1 u2; simp only [putG]; go_simp; exact gup_v (zc_keep rfl (Below.refl _ _)) ⟨_, _, rfl⟩); (try simp only [Act.put, List.setIfInBounds_toArray, List.set_cons_zero, List.set_cons_succ])) | (refine ph_u (.bool true) [112] _ (by rfl) (by rfl) (by rfl) (by simp) (by rfl) (fun γ w7 hC hT => ?_) ?_; ((obtain ⟨A7, c7, hv⟩ := hT 112 (by simp)); (have hb7 := ((cr_at hC).box hg hyl).1); simp only [putG, Act.put, List.setIfInBounds_toArray, List.set_cons_zero, List.set_cons_succ]; rw [hv]; go_simp; exact gup_keep rfl (same_any _ g A7 c7 w7 hb7)); (try simp only [Act.put, List.setIfInBounds_toArray, List.set_cons_zero, List.set_cons_succ])))
                refine ph_end ?_
                intro γ w5 hC5 hT
                clear ne_ aft_z0 aft_z1 aft_z2 aft_z3 aft_z4 aft_cP
                simp only [putG, Act.put, List.setIfInBounds_toArray, List.set_cons_zero, List.set_cons_succ]
                obtain ⟨y, hyb, hal⟩ := DoC.then_ hC5
                have hlow : Below w.heap.size w w5 := hC5.low
                have hal' : Al w.heap.size w5 gs ((ys.set p y).map (·.b)) (ys.set p y) (some ⟨P, 0, none⟩) (some ⟨q, 0, none⟩) cp cr := by
                  rw [List.map_set, hyb]; exact hal
                have HML5 : Hid ((ys.set p y).length = m) := by have := HML.out; unfold Hid; simpa using this
                clear hC5 hT D0 hal HA HB hyb
                generalize ys.set p y = ys5 at *
                go_wp2_with fail
                go_roundw
                case rel => exact ⟨i + 1, ys5, by go_num, HML5, by omega, by omega, hal', hlow⟩
                case measure => simp [intOf]; omega
            · by_cases ht0 : a.at_ < 0
              · clear hat
                go_wp2_with fail
                go_roundw
                case rel => exact ⟨i + 1, ys, by go_num, HML, by omega, by omega, hAla, hBa⟩
                case measure => simp [intOf]; omega
              · have ht1 : (m : Int) ≤ a.at_ := by omega
                clear hat
                go_wp2_with fail
                go_roundw
                case rel => exact ⟨i + 1, ys, by go_num, HML, by omega, by omega, hAla, hBa⟩
                case measure => simp [intOf]; omega
          · have hend : Hid (i ≤ l.length ∧ i ≤ 100 ∧ ¬(i < l.length ∧ i < 100)) := ⟨hi1, hi2, hlt⟩
            by_cases h1 : i < l.length
            · obtain rfl : i = 100 := by omega
              have k1 : (100 : Int) < (l.length : Int) := by omega
              clear hlt h1 hi1 hi2
              go_wp2_with fail
              refine (awake_any _).mono ?_
              rintro e w9 ⟨rfl, hb9⟩
              go_wp2_with fail
              go_ret
              exact ⟨rfl, bstep hB (Nat.le_refl _) hb9⟩
            · have k1 : ¬ (i : Int) < (l.length : Int) := by omega
              clear hlt h1 hi1 hi2
              go_wp2_with fail
              refine (awake_any _).mono ?_
              rintro e w9 ⟨rfl, hb9⟩
              go_wp2_with fail
              go_ret
              exact ⟨rfl, bstep hB (Nat.le_refl _) hb9⟩
end Go.Proofs.Ytldpplfkimdaaaa
