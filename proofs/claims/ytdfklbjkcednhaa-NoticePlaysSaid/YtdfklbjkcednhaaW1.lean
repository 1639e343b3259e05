/- Walks: comparing notices, and swapping ranges of them. -/
import Derived.Test.YtdfklbjkcednhaaM2
import Derived.Test.YtdfklbjkcednhaaAft
import Derived.Test.YtdfklbjkcednhaaChain2
import Derived.Test.YtdfklbjkcednhaaKp
namespace Go.Proofs.Ytdfklbjkcednhaa
open Go.RowKit Go.Lib

def eNt (x : Nt) : List Value := [.int .i64 x.nEnv, .int .i64 x.nFrm, .int .i64 x.nTil]
theorem eNt_ok : EncOk eNt 3 := ⟨fun _ => rfl, fun x u hu => by simp [eNt] at hu; rcases hu with rfl | rfl | rfl <;> rfl⟩
theorem eNt_len : ∀ x, (eNt x).length = 3 := fun _ => rfl
def cmpI (x y : Int) : Int := if x < y then -1 else if y < x then 1 else 0
theorem cmpI_neg (x y : Int) : (cmpI x y < 0) = (x < y) := by unfold cmpI; split <;> (try split) <;> simp <;> omega
theorem nan_no (x : Int) (w : World) : Calls Try.prog 29 #[.int .i64 x] w fun e w' => e = .returned (.bool false) ∧ w = w' := by
  go_enter Try.func29, Try.ntmps29
  go_wp2_with fail
  go_ret
  exact ⟨rfl, rfl⟩
set_option maxHeartbeats 1000000 in
theorem compare_any (x y : Int) (w : World) : Calls Try.prog 20 #[.int .i64 x, .int .i64 y] w fun e w' => e = .returned (.int .i64 (cmpI x y)) ∧ w = w' := by
  have n1 := Lib.hid (nan_no x w)
  have n2 := Lib.hid (nan_no y w)
  by_cases h1 : x < y
  · have hc : cmpI x y = -1 := by simp [cmpI, h1]
    rw [hc]
    clear hc
    go_enter Try.func20, Try.ntmps20
    go_wp2_with (go_at_call 29; (first | (with_reducible refine n1.out.mono ?_) | (with_reducible refine n2.out.mono ?_)); rintro e w2 ⟨rfl, rfl⟩)
    go_ret
    exact ⟨rfl, rfl⟩
  · by_cases h2 : y < x
    · have hc : cmpI x y = 1 := by simp [cmpI, h1, h2]
      rw [hc]
      clear hc
      go_enter Try.func20, Try.ntmps20
      go_wp2_with (go_at_call 29; (first | (with_reducible refine n1.out.mono ?_) | (with_reducible refine n2.out.mono ?_)); rintro e w2 ⟨rfl, rfl⟩)
      go_ret
      exact ⟨rfl, rfl⟩
    · have hc : cmpI x y = 0 := by simp [cmpI, h1, h2]
      rw [hc]
      clear hc
      go_enter Try.func20, Try.ntmps20
      go_wp2_with (go_at_call 29; (first | (with_reducible refine n1.out.mono ?_) | (with_reducible refine n2.out.mono ?_)); rintro e w2 ⟨rfl, rfl⟩)
      go_ret
      exact ⟨rfl, rfl⟩
set_option maxHeartbeats 1000000 in
theorem cmp_any (a b x c d y : Int) (w : World) : Calls Try.prog 19 #[.agg #[.int .i64 a, .int .i64 b, .int .i64 x], .agg #[.int .i64 c, .int .i64 d, .int .i64 y]] w fun e w' => e = .returned (.int .i64 (cmpI x y)) ∧ Below w.heap.size w w' := by
  have hB : Below w.heap.size w ((w.alloc (Obj.cells #[.int .i64 a, .int .i64 b, .int .i64 x] 39)).alloc (Obj.cells #[.int .i64 c, .int .i64 d, .int .i64 y] 39)) := (below1 _ _).alloc (by simp) _
  have x2 := ((Blk.new w 39 #[.int .i64 a, .int .i64 b, .int .i64 x]).alloc (Obj.cells #[.int .i64 c, .int .i64 d, .int .i64 y] 39)).cell 2 (.int .i64 x) rfl
  have y2 := (Blk.new' (w.alloc (Obj.cells #[.int .i64 a, .int .i64 b, .int .i64 x] 39)) 39 #[.int .i64 c, .int .i64 d, .int .i64 y] (g := w.heap.size + 1) (by simp)).cell 2 (.int .i64 y) rfl
  go_enter Try.func19, Try.ntmps19
  go_wp2_with fail
  refine (compare_any x y _).mono ?_
  rintro e w2 ⟨rfl, rfl⟩
  go_wp2_with fail
  go_ret
  exact ⟨rfl, hB⟩

/-- only the row's block, and new ones, have turned -/
def Sw (q : Nat) (w w' : World) : Prop := Kp (fun b => b < w.heap.size ∧ b ≠ q) w w'
section
variable {q : Nat} {w w' w'' : World}
theorem Sw.refl (w : World) : Sw q w w := Kp.refl _ _
theorem Sw.trans (h : Sw q w w') (k : Sw q w' w'') : Sw q w w'' := Kp.trans h (Kp.mono k fun _ hb => ⟨Nat.lt_of_lt_of_le hb.1 (Kp.size h), hb.2⟩)
theorem Sw.of_below (h : Below w.heap.size w w') : Sw q w w' := Kp.of_below h (fun _ hb => hb.1)
theorem Sw.below (h : Sw q w w') (k : Below w'.heap.size w' w'') : Sw q w w'' := h.trans (Sw.of_below k)
theorem Sw.drewN (h : Sw q w w') (n : Nat) : Sw q w (w'.drewN n) := Kp.drewN h n
theorem Sw.only (h : w.grownBy w' (some q)) : Sw q w w' := Kp.grown h fun b hb => ⟨hb.1, fun e => hb.2 (by injection e)⟩
end
abbrev Rw (B : Nat) (w : World) (q c : Nat) (T : List Nt) : Prop := Own eNt 3 w B 39 (some ⟨q, 0, none⟩) c T
theorem rw_swp {B q c : Nat} {w : World} {T : List Nt} (h : Rw B w q c T) {i j : Nat} (hi : i < T.length) (hj : j < T.length) :
    Rw B ((w.setCells q (i * 3) (eNt (atT T j))).setCells q (j * 3) (eNt (atT T i))) q c (swp T i j) ∧ Sw q w ((w.setCells q (i * 3) (eNt (atT T j))).setCells q (j * 3) (eNt (atT T i))) := by
  have h1 := own_put eNt_len (by omega) h hi (atT T j)
  have h2 := own_put eNt_len (by omega) h1.1 (i := j) (by rw [List.length_set]; exact hj) (atT T i)
  exact ⟨h2.1, Sw.only (only_trans h1.2 h2.2)⟩
theorem eNt_size (x : Nt) : (Try.prog.info? 39).map (·.size) = some (eNt x).toArray.size := by
  have h : (Try.prog.info? 39).map (·.size) = some 3 := by kernel_rfl
  exact h
theorem eNt_one (x : Nt) : (eNt x).toArray.all (·.oneCell') = true := all_oneCell_toArray (eNt_ok.one x)
theorem rw_at {B q c : Nat} {w : World} {T : List Nt} (h : Rw B w q c T) {i : Nat} (hi : i < T.length) : w.cell? ⟨q, i * 3, none⟩ = some (.int .i64 (atT T i).nEnv) ∧ w.cell? ⟨q, i * 3 + 1, none⟩ = some (.int .i64 (atT T i).nFrm) ∧ w.cell? ⟨q, i * 3 + 2, none⟩ = some (.int .i64 (atT T i).nTil) := by
  rw [atT_get hi]
  exact ⟨own_cell eNt_ok h hi (j := 0) rfl, own_cell eNt_ok h hi (j := 1) rfl, own_cell eNt_ok h hi (j := 2) rfl⟩

set_option maxRecDepth 100000 in
set_option maxHeartbeats 4000000 in
theorem swapRange_any (B q c L a b n : Nat) (T : List Nt) (w : World) (h : Rw B w q c T) (hL : Hid (T.length = L)) (h1 : a + n ≤ b) (h2 : b + n ≤ L) (h3 : L ≤ 1000) (cf : Value) :
    Calls Try.prog 33 #[.slice (some ⟨q, 0, none⟩) L c, .int .i64 a, .int .i64 b, .int .i64 n, cf] w fun e w' => e = .returned (.tuple #[]) ∧ Rw B w' q c (swpN T a b n) ∧ Sw q w w' := by
  go_enter Try.func33, Try.ntmps33
  go_wp2_with fail
  go_loopw [10] (fun v10 wr => ∃ k : Nat, v10 = .int .i64 k ∧ k ≤ n ∧ Rw B wr q c (swpN T a b k) ∧ Sw q w wr) (fun v10 _ => n - (intOf v10).toNat)
  case atStart => exact ⟨0, rfl, Nat.zero_le _, h, Sw.refl _⟩
  case round =>
    clear h
    obtain ⟨k, rfl, hk, hR, hS⟩ := hrel
    by_cases hlt : k < n
    · have k1 : (k : Int) < (n : Int) := by omega
      have hTl : Hid ((swpN T a b k).length = L) := by unfold Hid; rw [swpN_len]; exact hL.out
      have hI : a + k < (swpN T a b k).length := by have := hTl.out; omega
      have hJ : b + k < (swpN T a b k).length := by have := hTl.out; omega
      obtain ⟨a0, a1, a2⟩ := rw_at hR hI
      obtain ⟨b0, b1, b2⟩ := rw_at hR hJ
      have p1 : (a : Int) + (k : Int) < (L : Int) := by omega
      have p2 : (b : Int) + (k : Int) < (L : Int) := by omega
      have HR := Lib.hid (And.intro hR hS)
      clear hR hS
      go_wp2_with fail
      have HT1 : Hid (∀ m, (wr.drewN m).there q ((a + k) * 3) 3) := fun m => own_there (HR.out.1.drewN m) (Nat.lt_of_lt_of_le hI HR.out.1.cap)
      have HT2 : Hid (∀ m, ((wr.drewN m).setCells q ((a + k) * 3) (eNt (atT (swpN T a b k) (b + k)))).there q ((b + k) * 3) 3) := fun m => World.there_setCells (own_there (HR.out.1.drewN m) (Nat.lt_of_lt_of_le hJ HR.out.1.cap)) _ _ _
      refine wp_region_chain [21, 23] 38 (by kernel_rfl) (by kernel_rfl) (by rfl) ?_
      repeat (first | (refine ch_row (by rfl) ?_; (try simp only [Act.put, List.setIfInBounds_toArray, List.set_cons_zero, List.set_cons_succ])) | (refine ch_free (by rfl) (by rfl) (by rfl) (fun K hK => ?_); go_big_quiet_op; refine hK _ ?_; clear hK K) | (refine ch_read (by rfl) (by rfl) (by rfl) (fun K hK => ?_); go_big_quiet_op; refine hK _ ?_; clear hK K) | (refine ch_no (by rfl) (by rfl) ?_; (try simp only [Act.put, List.setIfInBounds_toArray, List.set_cons_zero, List.set_cons_succ])))
      refine ch_end ?_
      intro nd
      simp only [List.filterMap_cons, List.filterMap_nil, List.getElem?_cons_succ, List.getElem?_cons_zero]
      refine wpList_store_mid rfl 39 _ _ rfl q ((a + k) * 3) (eNt (atT (swpN T a b k) (b + k))).toArray rfl rfl (HT1.out nd) (eNt_size _) (eNt_one _) ?_
      refine wpList_store_mid rfl 39 _ _ rfl q ((b + k) * 3) (eNt (atT (swpN T a b k) (a + k))).toArray rfl rfl (HT2.out nd) (eNt_size _) (eNt_one _) ?_
      refine only_end ?_
      simp only [Act.put]
      refine at_world (F := Exit.inBlock _ _ _ _) (fun W => Rw B W q c (swpN T a b (k + 1)) ∧ Sw q w W) ⟨(rw_swp (HR.out.1.drewN nd) hI hJ).1, (HR.out.2.drewN nd).trans (rw_swp (HR.out.1.drewN nd) hI hJ).2⟩ ?_
      rintro w2 ⟨hR2, hS2⟩
      clear a0 a1 a2 b0 b1 b2 HR HT1 HT2 hTl hI hJ
      go_wp2_with fail
      go_roundw
      case rel => exact ⟨k + 1, by go_num, by omega, hR2, hS2⟩
      case measure => simp [intOf]; omega
    · have k1 : ¬ (k : Int) < (n : Int) := by omega
      obtain rfl : k = n := by omega
      go_wp2_with fail
      go_end0
      exact ⟨rfl, hR, hS⟩
end Go.Proofs.Ytdfklbjkcednhaa
