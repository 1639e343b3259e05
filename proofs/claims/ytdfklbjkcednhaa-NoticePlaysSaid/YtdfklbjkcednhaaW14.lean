/- Walks: the document's board; its place of a notice; comparing lists of notices. -/
import Derived.Test.YtdfklbjkcednhaaM5
import Derived.Test.YtdfklbjkcednhaaWide
namespace Go.Proofs.Ytdfklbjkcednhaa
open Go.RowKit Go.Lib

/-- a document's vector: where it lies, and what it is -/
structure Td where
  tA : Option Addr
  tV : List Int
  tC : Nat
/-- a document's board -/
structure Rd where
  rA : Option Addr
  rL : List Nt
  rC : Nat
  rT : List Td
def eTd (t : Td) : Value := .slice t.tA t.tV.length t.tC
def eRd (x : Rd) : List Value := .slice x.rA x.rL.length x.rC :: x.rT.map eTd
structure TdOk (w : World) (t : Td) : Prop where
  sl : Sl eI 1 w t.tA t.tV
  cap : t.tV.length ≤ t.tC
  len : t.tV.length ≤ 16
  shape : (t.tA = none ∧ t.tC = 0) ∨ ∃ q o, t.tA = some ⟨q, o, none⟩
  ty : ∀ q, blk t.tA = some q → ∃ cs, Blk w q 3 cs
structure RdOk (w : World) (x : Rd) : Prop where
  sl : Sl eNt 3 w x.rA x.rL
  cap : x.rL.length ≤ x.rC
  shape : (x.rA = none ∧ x.rC = 0) ∨ ∃ g, x.rA = some ⟨g, 0, none⟩
  t8 : x.rT.length = 8
  tok : ∀ t ∈ x.rT, TdOk w t
  ty : ∀ q, blk x.rA = some q → ∃ cs, Blk w q 64 cs
theorem TdOk.keep {w w' : World} {t : Td} (h : TdOk w t) (hb : Below w.heap.size w w') : TdOk w' t := ⟨h.sl.keep hb, h.cap, h.len, h.shape, fun q hq => (h.ty q hq).imp fun _ k => k.keep hb⟩
theorem RdOk.keep {w w' : World} {x : Rd} (h : RdOk w x) (hb : Below w.heap.size w w') : RdOk w' x := ⟨h.sl.keep hb, h.cap, h.shape, h.t8, fun t ht => (h.tok t ht).keep hb, fun q hq => (h.ty q hq).imp fun _ k => k.keep hb⟩
theorem eRd_len {w : World} {x : Rd} (h : RdOk w x) : (eRd x).length = 9 := by simp [eRd, h.t8]
theorem eRd_one (x : Rd) : ∀ u ∈ eRd x, u.oneCell' = true := fun u hu => by
  simp [eRd, eTd] at hu
  rcases hu with rfl | ⟨t, _, rfl⟩ <;> rfl
theorem eRd_0 (x : Rd) : (eRd x)[0]? = some (.slice x.rA x.rL.length x.rC) := rfl
theorem eRd_e {x : Rd} {e : Nat} (he : e < x.rT.length) : (eRd x)[1 + e]? = some (eTd x.rT[e]) := by
  rw [Nat.add_comm]
  simp [eRd, he]
theorem rd_info (M : List Value) (h : M.length = 9) : (Try.prog.info? 47).map (·.size) = some M.length := by
  rw [h]
  kernel_rfl

set_option maxRecDepth 100000 in
set_option maxHeartbeats 4000000 in
theorem rat_any (x : Rd) (env frm : Int) (w : World) (h : RdOk w x) (hl : x.rL.length ≤ 1000) :
    Calls Try.prog 22 #[.agg (eRd x).toArray, .int .i64 env, .int .i64 frm] w fun e w' => e = .returned (.int .i64 (plcN x.rL env frm)) ∧ Below w.heap.size w w' := by
  have b0 := Blk.new w 47 (eRd x).toArray
  have c0 := b0.cell 0 (.slice x.rA x.rL.length x.rC) (by simp [eRd])
  have hB := below1 w (Obj.cells (eRd x).toArray 47)
  have hs := h.sl.keep hB
  obtain ⟨A, L, c, ts⟩ := x
  simp only at c0 hs hl ⊢
  generalize eRd ⟨A, L, c, ts⟩ = M at *
  clear h b0
  obtain ⟨n, hn⟩ : ∃ n, n = L.length := ⟨_, rfl⟩
  rw [← hn] at c0
  have HN := Lib.hid hn
  have hn5 : n ≤ 1000 := by omega
  clear hn hl
  go_enter Try.func22, Try.ntmps22
  go_wp2_with fail
  generalize w.alloc (Obj.cells M.toArray 47) = wb at *
  go_loopw [7] (fun v7 wr => ∃ k : Nat, v7 = .int .i64 k ∧ k ≤ n ∧ Hid (∀ j, (hj : j < L.length) → j < k → hasN env frm L[j] = false) ∧ wb = wr) (fun v7 _ => n - (intOf v7).toNat)
  case atStart => exact ⟨0, rfl, Nat.zero_le _, fun j hj h => absurd h (Nat.not_lt_zero _), rfl⟩
  case round =>
    obtain ⟨k, rfl, hk, HA, rfl⟩ := hrel
    by_cases hlt : k < n
    · have hkL : k < L.length := by have := HN.out; omega
      obtain ⟨b, off, rfl, y0, y1, y2⟩ := hs.nt_at hkL
      have k0 : (0 : Int) ≤ (k : Int) := by omega
      have k1 : (k : Int) < (n : Int) := by omega
      have HQ : Hid (hasN env frm L[k] = true → plcN L env frm = k) := fun h => plc_hit hkL h (fun j hj => HA.out j (by omega) hj)
      have HNo : Hid (hasN env frm L[k] = false → ∀ j, (hj : j < L.length) → j < k + 1 → hasN env frm L[j] = false) := fun h j hj hjk => by
        by_cases he : j = k
        · subst he; exact h
        · exact HA.out j hj (by omega)
      clear HA
      generalize L[k] = y at *
      cases e1 : (y.nEnv == env)
      · have HN2 := Lib.hid (HNo.out (by unfold hasN; rw [e1]; rfl))
        clear HQ HNo
        go_wp2_with fail
        go_roundw
        case rel => exact ⟨k + 1, by go_num, by omega, HN2, trivial⟩
        case measure => simp [intOf]; omega
      · cases e2 : (y.nFrm == frm)
        · have HN2 := Lib.hid (HNo.out (by unfold hasN; rw [e1, e2]; rfl))
          clear HQ HNo
          go_wp2_with fail
          go_roundw
          case rel => exact ⟨k + 1, by go_num, by omega, HN2, trivial⟩
          case measure => simp [intOf]; omega
        · have HQ2 := Lib.hid (HQ.out (by unfold hasN; rw [e1, e2]; rfl))
          clear HQ HNo
          go_wp2_with fail
          go_ret
          exact ⟨ret_int HQ2.out.symm, hB⟩
    · obtain rfl : k = n := by omega
      have k1 : ¬ (k : Int) < (k : Int) := by omega
      have HF := Lib.hid (plc_miss (L := L) (a := env) (p := frm) (fun j hj => HA.out j hj (by have := HN.out; omega)))
      clear HA
      go_wp2_with fail
      go_ret
      exact ⟨ret_int HF.out.symm, hB⟩

set_option maxHeartbeats 1000000 in
theorem to_any (x : Nt) (w : World) : Calls Try.prog 23 #[.agg #[.int .i64 x.nEnv, .int .i64 x.nFrm, .int .i64 x.nTil]] w fun e w' => e = .returned (.agg #[.int .i64 x.nEnv, .int .i64 x.nFrm, .int .i64 x.nTil]) ∧ Below w.heap.size w w' := by
  have b2 := Blk.new' (w.alloc (Obj.cells #[.int .i64 x.nEnv, .int .i64 x.nFrm, .int .i64 x.nTil] 64)) 39 #[.int .i64 x.nEnv, .int .i64 x.nFrm, .int .i64 x.nTil] (g := w.heap.size + 1) (by simp)
  have d0 := b2.cell 0 (.int .i64 x.nEnv) rfl
  have d1 := b2.cell 1 (.int .i64 x.nFrm) rfl
  have d2 := b2.cell 2 (.int .i64 x.nTil) rfl
  go_enter Try.func23, Try.ntmps23
  go_wp2_with fail
  exact bodyPost_ret (v := .agg #[.int .i64 x.nEnv, .int .i64 x.nFrm, .int .i64 x.nTil]) (by simp [results, Try.results23, go_sem, d0, d1, d2]) rfl ⟨rfl, (below1 _ _).alloc (by simp) _⟩

set_option maxRecDepth 100000 in
set_option maxHeartbeats 4000000 in
theorem are_any (A A2 : Option Addr) (L : List Nt) (n c c2 : Nat) (w : World) (h : Sl eNt 3 w A L) (h2 : Sl eNt 3 w A2 L) (hn : L.length = n) (hl : n ≤ 1000) :
    Calls Try.prog 11 #[.slice A n c, .slice A2 n c2] w fun e w' => e = .returned (.bool true) ∧ Below w.heap.size w w' := by
  have HN := Lib.hid hn
  clear hn
  go_enter Try.func11, Try.ntmps11
  go_wp2_with fail
  go_loopw [5] (fun v5 wr => ∃ k : Nat, v5 = .int .i64 k ∧ k ≤ n ∧ Below w.heap.size w wr) (fun v5 _ => n - (intOf v5).toNat)
  case atStart => exact ⟨0, rfl, Nat.zero_le _, Below.refl _ _⟩
  case round =>
    obtain ⟨k, rfl, hk, hB⟩ := hrel
    by_cases hlt : k < n
    · have hkL : k < L.length := by have := HN.out; omega
      obtain ⟨b, off, rfl, y0, y1, y2⟩ := (h.keep hB).nt_at hkL
      obtain ⟨b2, off2, rfl, z0, z1, z2⟩ := (h2.keep hB).nt_at hkL
      have k0 : (0 : Int) ≤ (k : Int) := by omega
      have k1 : (k : Int) < (n : Int) := by omega
      generalize L[k] = y at *
      have hto := fun W => Lib.hid (to_any y W)
      go_upto_region 4 with (fail)
      (have aft_y0 := Aft.cell y0; have aft_y1 := Aft.cell y1; have aft_y2 := Aft.cell y2; have aft_z0 := Aft.cell z0; have aft_z1 := Aft.cell z1; have aft_z2 := Aft.cell z2; refine wp_region_aft (by kernel_rfl) (by kernel_rfl) ?_; (repeat (go_big_quiet_step ((go_at_call 23; with_reducible exact aft_call (hto _).out)))); refine wpQuiet_nil ?_; clear aft_y0 aft_y1 aft_y2 aft_z0 aft_z1 aft_z2; intro w5 hw2_; have hb5 := Aft.below hw2_; clear hw2_)
      have HF := Lib.hid (bstep hB (Nat.le_refl _) hb5)
      clear y0 y1 y2 z0 z1 z2 hto hb5 hB
      go_wp2_with fail
      go_roundw
      case rel => exact ⟨k + 1, by go_num, by omega, HF.out⟩
      case measure => simp [intOf]; omega
    · obtain rfl : k = n := by omega
      have k1 : ¬ (k : Int) < (k : Int) := by omega
      go_wp2_with fail
      go_ret
      exact ⟨rfl, hB⟩
end Go.Proofs.Ytdfklbjkcednhaa
