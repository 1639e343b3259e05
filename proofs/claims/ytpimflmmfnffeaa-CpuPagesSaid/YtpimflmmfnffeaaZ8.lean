/- Texts laid as one: GW1, GW2, GW3, GW4, GW5, GU6. -/
import Derived.Test.YtpimflmmfnffeaaZ1
import Derived.Deep.MidRow
import Derived.Lib.SliceRun
import Derived.Laws.BytesArg
/- Walks over package frames: small methods; the memory in one block. -/
namespace Go.Proofs.Ytpimflmmfnffeaa.Fr
open Go.RowKit

/-- so many frames, which are taken (32), and all bytes (512) -/
structure FrS where
  n : Nat
  T : List Bool
  B : List Int

def fc (s : FrS) : List Value := .int .i64 s.n :: (s.T.map Value.bool ++ s.B.map (Value.int .u8))

structure Fm (w : World) (g : Nat) (s : FrS) : Prop where
  n0 : s.n ≤ 32
  t : s.T.length = 32
  b : s.B.length = 512
  at_ : Blk w g 73 (fc s).toArray

theorem fc_n (s : FrS) : (fc s)[0]? = some (.int .i64 s.n) := rfl

theorem fc_t (s : FrS) (ht : s.T.length = 32) {i : Nat} (hi : i < 32) : (fc s)[1 + i]? = some (.bool (s.T[i]'(by omega))) := by
  unfold fc
  rw [Nat.add_comm, List.getElem?_cons_succ, List.getElem?_append_left (by simp; omega), List.getElem?_map, List.getElem?_eq_getElem (by omega)]
  rfl

theorem fc_b (s : FrS) (ht : s.T.length = 32) (hb : s.B.length = 512) {m : Nat} (hm : m < 512) : (fc s)[33 + m]? = some (.int .u8 (s.B[m]'(by omega))) := by
  unfold fc
  rw [show 33 + m = (32 + m) + 1 by omega, List.getElem?_cons_succ, List.getElem?_append_right (by simp; omega), List.getElem?_map, List.length_map, ht, show 32 + m - 32 = m by omega, List.getElem?_eq_getElem (by omega)]
  rfl

theorem fc_setT (s : FrS) (ht : s.T.length = 32) {i : Nat} (hi : i < 32) (v : Bool) : (fc s).set (1 + i) (.bool v) = fc { s with T := s.T.set i v } := by
  unfold fc
  rw [Nat.add_comm, List.set_cons_succ, List.set_append_left _ _ (by simp; omega), List.map_set]

theorem fc_setB (s : FrS) (ht : s.T.length = 32) {m : Nat} (v : Int) : (fc s).set (33 + m) (.int .u8 v) = fc { s with B := s.B.set m v } := by
  unfold fc
  rw [show 33 + m = (32 + m) + 1 by omega, List.set_cons_succ, List.set_append_right _ _ (by simp; omega), List.length_map, ht, show 32 + m - 32 = m by omega, List.map_set]

section

variable {w w' : World} {g : Nat} {s : FrS}

theorem Fm.cn (h : Fm w g s) : w.cell? ⟨g, 0, none⟩ = some (.int .i64 s.n) := h.at_.cell 0 _ (by rw [List.getElem?_toArray]; rfl)

theorem Fm.ct (h : Fm w g s) {i : Nat} (hi : i < 32) : w.cell? ⟨g, 1 + i, none⟩ = some (.bool (s.T[i]'(by rw [h.t]; exact hi))) := h.at_.cell _ _ (by rw [List.getElem?_toArray]; exact fc_t s h.t hi)

theorem Fm.cb (h : Fm w g s) {m : Nat} (hm : m < 512) : w.cell? ⟨g, 33 + m, none⟩ = some (.int .u8 (s.B[m]'(by rw [h.b]; exact hm))) := h.at_.cell _ _ (by rw [List.getElem?_toArray]; exact fc_b s h.t h.b hm)

theorem Fm.keep (h : Fm w g s) (hb : Below w.heap.size w w') : Fm w' g s := ⟨h.n0, h.t, h.b, h.at_.keep hb⟩

theorem Fm.drew (h : Fm w g s) : Fm w.drew g s := ⟨h.n0, h.t, h.b, h.at_⟩

theorem Fm.setT (h : Fm w g s) {i : Nat} (hi : i < 32) (v : Bool) : Fm (w.setCell ⟨g, 1 + i, none⟩ (.bool v)) g { s with T := s.T.set i v } := by
  refine ⟨h.n0, by simpa using h.t, h.b, ?_⟩
  have := h.at_.set_ (1 + i) (.bool v)
  rw [List.setIfInBounds_toArray, fc_setT s h.t hi] at this
  exact this

theorem Fm.setB (h : Fm w g s) (m : Nat) (v : Int) : Fm (w.setCell ⟨g, 33 + m, none⟩ (.int .u8 v)) g { s with B := s.B.set m v } := by
  refine ⟨h.n0, h.t, by simpa using h.b, ?_⟩
  have := h.at_.set_ (33 + m) (.int .u8 v)
  rw [List.setIfInBounds_toArray, fc_setB s h.t] at this
  exact this

end

def hasF (s : FrS) (i : Int) : Bool := decide (0 ≤ i ∧ i < s.n)

def takenF (s : FrS) (i : Int) : Bool := hasF s i && (s.T[i.toNat]?).getD false

set_option maxHeartbeats 1000000 in
theorem has_any (s : FrS) (g : Nat) (i : Int) (w : World) (h : Fm w g s) : Calls Try.prog 16 #[.pointer (some ⟨g, 0, none⟩), .int .i64 i] w fun e w' => e = .returned (.bool (hasF s i)) ∧ w = w' := by
  have c0 := h.cn
  clear h
  by_cases h0 : 0 ≤ i
  · have HH : Hid (hasF s i = decide (i < (s.n : Int))) := by unfold Hid hasF; rw [decide_eq_decide]; omega
    go_enter Try.func16, Try.ntmps16
    go_wp2
    go_ret
    exact ⟨ret_bool HH.out.symm, rfl⟩
  · have HH : Hid (hasF s i = false) := by unfold Hid hasF; exact decide_eq_false (by omega)
    go_enter Try.func16, Try.ntmps16
    go_wp2
    go_ret
    exact ⟨ret_bool HH.out.symm, rfl⟩

theorem hasF_t {s : FrS} {i : Int} (h : hasF s i = true) : ∃ k : Nat, i = k ∧ k < s.n := by
  have h2 : 0 ≤ i ∧ i < s.n := of_decide_eq_true h
  obtain ⟨k, rfl⟩ := Int.eq_ofNat_of_zero_le h2.1
  exact ⟨k, rfl, by omega⟩

set_option maxHeartbeats 1000000 in
theorem taken_any (s : FrS) (g : Nat) (i : Int) (w : World) (h : Fm w g s) : Calls Try.prog 50 #[.pointer (some ⟨g, 0, none⟩), .int .i64 i] w fun e w' => e = .returned (.bool (takenF s i)) ∧ w = w' := by
  have H := Lib.hid (fun W hW => has_any s g i W hW)
  cases hh : hasF s i
  · rw [hh] at H
    have HT : Hid (takenF s i = false) := by unfold Hid takenF; rw [hh]; rfl
    go_enter Try.func50, Try.ntmps50
    go_wp2_with fail
    refine (H.out _ h).mono ?_
    rintro e w2 ⟨rfl, rfl⟩
    go_wp2_with fail
    go_ret
    exact ⟨ret_bool HT.out.symm, rfl⟩
  · rw [hh] at H
    obtain ⟨k, rfl, hk⟩ := hasF_t hh
    have hn := h.n0
    have hk32 : k < 32 := by omega
    have c1 := h.ct hk32
    have hkT : k < s.T.length := by rw [h.t]; exact hk32
    have HT : Hid (takenF s k = s.T[k]) := by unfold Hid takenF; rw [hh, Int.toNat_natCast, List.getElem?_eq_getElem hkT]; rfl
    have k0 : (0 : Int) ≤ (k : Int) := by omega
    have k1 : (k : Int) < 32 := by omega
    generalize s.T[k] = b at *
    go_enter Try.func50, Try.ntmps50
    go_wp2_with fail
    refine (H.out _ h).mono ?_
    rintro e w2 ⟨rfl, rfl⟩
    go_wp2_with fail
    go_ret
    exact ⟨ret_bool HT.out.symm, rfl⟩

end Go.Proofs.Ytpimflmmfnffeaa.Fr

/- Walks over package frames: Free, Read, Write. -/
namespace Go.Proofs.Ytpimflmmfnffeaa.Fr
open Go.RowKit

def byteE (s : FrS) (i a : Int) : Int := if takenF s i = false then 6 else if a < 0 ∨ 15 < a then 1 else 0

set_option maxHeartbeats 1000000 in
theorem byteAt_any (s : FrS) (g : Nat) (i a : Int) (w : World) (h : Fm w g s) : Calls Try.prog 46 #[.pointer (some ⟨g, 0, none⟩), .int .i64 i, .int .i64 a] w fun e w' => e = .returned (.int .i64 (byteE s i a)) ∧ w = w' := by
  have H := Lib.hid (taken_any s g i w h)
  unfold byteE
  cases ht : takenF s i
  · rw [ht] at H
    simp only [if_true]
    go_enter Try.func46, Try.ntmps46
    go_wp2_with fail
    refine H.out.mono ?_
    rintro e w2 ⟨rfl, rfl⟩
    go_wp2_with fail
    go_ret
    exact ⟨rfl, rfl⟩
  · rw [ht] at H
    simp only [Bool.true_eq_false, if_false]
    by_cases h0 : a < 0
    · rw [if_pos (.inl h0)]
      go_enter Try.func46, Try.ntmps46
      go_wp2_with fail
      refine H.out.mono ?_
      rintro e w2 ⟨rfl, rfl⟩
      go_wp2_with fail
      go_ret
      exact ⟨rfl, rfl⟩
    · by_cases h1 : 15 < a
      · rw [if_pos (.inr h1)]
        have h2 : (16 : Int) ≤ a := by omega
        go_enter Try.func46, Try.ntmps46
        go_wp2_with fail
        refine H.out.mono ?_
        rintro e w2 ⟨rfl, rfl⟩
        go_wp2_with fail
        go_ret
        exact ⟨rfl, rfl⟩
      · rw [if_neg (by omega)]
        have h2 : ¬ (16 : Int) ≤ a := by omega
        go_enter Try.func46, Try.ntmps46
        go_wp2_with fail
        refine H.out.mono ?_
        rintro e w2 ⟨rfl, rfl⟩
        go_wp2_with fail
        go_ret
        exact ⟨rfl, rfl⟩

theorem takenF_t {s : FrS} {i : Int} (h : takenF s i = true) : ∃ k : Nat, i = k ∧ k < s.n := by
  unfold takenF at h
  rw [Bool.and_eq_true] at h
  exact hasF_t h.1

theorem byteE_0 {s : FrS} {i a : Int} (h : byteE s i a = 0) : ∃ k m : Nat, i = k ∧ a = m ∧ k < s.n ∧ m < 16 := by
  unfold byteE at h
  cases ht : takenF s i
  · rw [ht] at h; simp at h
  · rw [ht] at h
    simp only [Bool.true_eq_false, if_false] at h
    split at h
    · omega
    · obtain ⟨k, rfl, hk⟩ := takenF_t ht
      obtain ⟨m, rfl⟩ := Int.eq_ofNat_of_zero_le (show 0 ≤ a by omega)
      exact ⟨k, m, rfl, rfl, hk, by omega⟩

def byteV (s : FrS) (i a : Int) : Int := if byteE s i a = 0 then (s.B[i.toNat * 16 + a.toNat]?).getD 0 else 0

set_option maxHeartbeats 1000000 in
theorem read_any (s : FrS) (g : Nat) (i a : Int) (w : World) (h : Fm w g s) : Calls Try.prog 38 #[.pointer (some ⟨g, 0, none⟩), .int .i64 i, .int .i64 a] w fun e w' => e = .returned (.tuple #[.int .u8 (byteV s i a), .int .i64 (byteE s i a)]) ∧ w = w' := by
  have H := Lib.hid (byteAt_any s g i a w h)
  by_cases he : byteE s i a = 0
  · obtain ⟨k, m, rfl, rfl, hk, hm⟩ := byteE_0 he
    have hn := h.n0
    have hx := h.cb (m := k * 16 + m) (by omega)
    have hl : k * 16 + m < s.B.length := by rw [h.b]; omega
    have HV : Hid (byteV s k m = s.B[k * 16 + m]) := by unfold Hid byteV; rw [if_pos he, Int.toNat_natCast, Int.toNat_natCast, List.getElem?_eq_getElem hl]; rfl
    rw [he] at H
    rw [he]
    rw [← Nat.add_assoc] at hx
    have k0 : (0 : Int) ≤ (k : Int) := by omega
    have k1 : (k : Int) < 32 := by omega
    have m0 : (0 : Int) ≤ (m : Int) := by omega
    have m1 : (m : Int) < 16 := by omega
    clear he
    generalize s.B[k * 16 + m] = v at *
    go_enter Try.func38, Try.ntmps38
    go_wp2_with fail
    refine H.out.mono ?_
    rintro e w2 ⟨rfl, rfl⟩
    go_wp2_with fail
    go_ret2
    exact ⟨ret_pair HV.out.symm, rfl⟩
  · have HV : Hid (byteV s i a = 0) := by unfold Hid byteV; rw [if_neg he]
    have hne : (byteE s i a != 0) = true := by simp [he]
    clear he
    generalize byteE s i a = v at *
    go_enter Try.func38, Try.ntmps38
    go_wp2_with fail
    refine H.out.mono ?_
    rintro e w2 ⟨rfl, rfl⟩
    go_wp2_with fail
    go_ret2
    exact ⟨ret_pair HV.out.symm, rfl⟩

def writeF (s : FrS) (i a : Int) (v : Int) : FrS := if byteE s i a = 0 then { s with B := s.B.set (i.toNat * 16 + a.toNat) v } else s

def RetF (s : FrS) (g : Nat) (v : Value) (w : World) (e : Ending) (w' : World) : Prop := e = .returned v ∧ Fm w' g s ∧ w.grownBy w' (some g)

set_option maxHeartbeats 1000000 in
theorem write_any (s : FrS) (g : Nat) (i a v : Int) (w : World) (h : Fm w g s) : Calls Try.prog 39 #[.pointer (some ⟨g, 0, none⟩), .int .i64 i, .int .i64 a, .int .u8 v] w (RetF (writeF s i a v) g (.int .i64 (byteE s i a)) w) := by
  have H := Lib.hid (byteAt_any s g i a w h)
  unfold writeF
  by_cases he : byteE s i a = 0
  · rw [if_pos he]
    obtain ⟨k, m, rfl, rfl, hk, hm⟩ := byteE_0 he
    have hn := h.n0
    obtain ⟨v0, hx⟩ : ∃ v0, w.cell? ⟨g, 33 + (k * 16 + m), none⟩ = some (.int .u8 v0) := ⟨_, h.cb (m := k * 16 + m) (by omega)⟩
    have hf := h.at_.frozen (33 + (k * 16 + m))
    have HS := Lib.hid (h.setB (k * 16 + m) v)
    have HG := Lib.hid (only_set (only_refl w g) (33 + (k * 16 + m)) (.int .u8 v))
    simp only [Int.toNat_natCast]
    rw [he] at H
    rw [he]
    rw [← Nat.add_assoc] at hx hf HS HG
    have k0 : (0 : Int) ≤ (k : Int) := by omega
    have k1 : (k : Int) < 32 := by omega
    have m0 : (0 : Int) ≤ (m : Int) := by omega
    have m1 : (m : Int) < 16 := by omega
    clear he h
    go_enter Try.func39, Try.ntmps39
    go_wp2_with fail
    refine H.out.mono ?_
    rintro e w2 ⟨rfl, rfl⟩
    go_wp2_with fail
    go_ret
    exact ⟨rfl, HS.out, HG.out⟩
  · rw [if_neg he]
    have hne : (byteE s i a != 0) = true := by simp [he]
    clear he
    generalize byteE s i a = e0 at *
    go_enter Try.func39, Try.ntmps39
    go_wp2_with fail
    refine H.out.mono ?_
    rintro e w2 ⟨rfl, rfl⟩
    go_wp2_with fail
    go_ret
    exact ⟨rfl, h, only_refl w g⟩

end Go.Proofs.Ytpimflmmfnffeaa.Fr

/- Walks over package frames: Len, New, Take. -/
namespace Go.Proofs.Ytpimflmmfnffeaa.Fr
open Go.RowKit

def freeN (T : List Bool) (k : Nat) : Nat := ((T.take k).filter (fun b => !b)).length

theorem freeN_succ {T : List Bool} {k : Nat} (hk : k < T.length) : freeN T (k + 1) = if T[k] then freeN T k else freeN T k + 1 := by
  unfold freeN
  rw [List.take_succ_eq_append_getElem hk, List.filter_append, List.length_append]
  cases T[k] <;> simp

theorem freeN_le (T : List Bool) (k : Nat) : freeN T k ≤ k := by
  unfold freeN
  exact Nat.le_trans (List.length_filter_le _ _) (by simp; omega)

def newF (n : Nat) : FrS := ⟨n, List.replicate 32 false, List.replicate 512 0⟩

def RetNF (n : Nat) (w : World) (e : Ending) (w' : World) : Prop := e = .returned (.tuple #[.pointer (some ⟨w.heap.size, 0, none⟩), .int .i64 0]) ∧ Fm w' w.heap.size (newF n) ∧ Below w.heap.size w w'

set_option maxHeartbeats 2000000 in
set_option maxRecDepth 100000 in
theorem new_yes (n : Nat) (w : World) (h1 : 1 ≤ n) (h2 : n ≤ 32) : Calls Try.prog 14 #[.int .i64 n] w (RetNF n w) := by
  have a1 : ¬ (n : Int) < 1 := by omega
  have a2 : ¬ (32 : Int) < (n : Int) := by omega
  obtain ⟨Z, hZ⟩ : ∃ Z, Z = (fc (newF 0)).toArray := ⟨_, rfl⟩
  have hzv : ∀ w, (zeroValue 73).run Try.prog w = .ok (.agg Z) w := fun w => by rw [hZ]; kernel_rfl
  have hne : ¬ Z = #[] := by rw [hZ]; simp [fc]
  have HB : Hid (Z.setIfInBounds 0 (.int .i64 (n : Int)) = (fc (newF n)).toArray) := by unfold Hid; rw [hZ]; rfl
  clear hZ
  go_enter Try.func14, Try.ntmps14
  go_wp2
  go_ret2
  refine ⟨rfl, ⟨h2, rfl, rfl, ?_⟩, below1 _ _⟩
  rw [← HB.out]
  exact Blk.new w _ _

set_option maxHeartbeats 1000000 in
theorem new_no (n : Int) (w : World) (h : n < 1 ∨ 32 < n) : Calls Try.prog 14 #[.int .i64 n] w fun e w' => e = .returned (.tuple #[.pointer none, .int .i64 1]) ∧ w = w' := by
  rcases h with h | h
  · go_enter Try.func14, Try.ntmps14
    go_wp2
    go_ret2
    exact ⟨rfl, rfl⟩
  · have h' : ¬ n < 1 := by omega
    go_enter Try.func14, Try.ntmps14
    go_wp2
    go_ret2
    exact ⟨rfl, rfl⟩

end Go.Proofs.Ytpimflmmfnffeaa.Fr

/- Walk over package frames: Take. -/
namespace Go.Proofs.Ytpimflmmfnffeaa.Fr
open Go.RowKit

/-- the first that isn't taken -/
def firstF (s : FrS) : Option Nat := (s.T.take s.n).findIdx? (fun b => !b)

/-- numbers laid side by side from a place on -/
def layB (B : List Int) : Nat → List Int → List Int
  | _, [] => B
  | m, v :: r => layB (B.set m v) (m + 1) r

def zero16 (B : List Int) (i : Nat) : List Int := layB B (i * 16) [0, 0, 0, 0, 0, 0, 0, 0, 0, 0, 0, 0, 0, 0, 0, 0]

theorem Fm.lay {g : Nat} : ∀ (vs : List Int) (m : Nat) (w : World) (s : FrS), Fm w g s → Fm (w.setCells g (33 + m) (vs.map (Value.int .u8))) g { s with B := layB s.B m vs } ∧ w.grownBy (w.setCells g (33 + m) (vs.map (Value.int .u8))) (some g)
  | [], _, w, _, h => ⟨h, only_refl w g⟩
  | v :: r, m, w, s, h => by
    have h2 := Fm.lay r (m + 1) _ _ (h.setB m v)
    exact ⟨h2.1, only_trans (only_set (only_refl w g) _ _) h2.2⟩

theorem Fm.there {w : World} {g : Nat} {s : FrS} (h : Fm w g s) {k : Nat} (hk : k < 32) : w.there g (33 + k * 16) 16 := fun j hj => by
  rw [Nat.add_assoc]
  exact ⟨by rw [h.cb (m := k * 16 + j) (by omega)]; rfl, h.at_.frozen _⟩

theorem Fm.cell16 {w : World} {g : Nat} {s : FrS} (h : Fm w g s) {k j : Nat} (hk : k < 32) (hj : j < 16) : ∃ v, w.cell? ⟨g, 33 + k * 16 + j, none⟩ = some (.int .u8 v) ∧ w.frozen? ⟨g, 33 + k * 16 + j, none⟩ = false := by
  rw [Nat.add_assoc]
  exact ⟨_, h.cb (m := k * 16 + j) (by omega), h.at_.frozen _⟩

theorem size16 : (Try.prog.info? 69).map (·.size) = some 16 := by kernel_rfl

def takeF (s : FrS) : FrS := match firstF s with
  | some i => { s with T := s.T.set i true, B := zero16 s.B i }
  | none => s

theorem first_hit {s : FrS} {k : Nat} (hn : s.n ≤ s.T.length) (hk : k < s.n) (h : s.T[k] = false) (h2 : ∀ j, (hj : j < k) → s.T[j] = true) : firstF s = some k := by
  unfold firstF
  refine List.findIdx?_eq_some_iff_getElem.2 ⟨by simp; omega, by simp [h], fun j hj => ?_⟩
  simp [h2 j hj]

theorem first_miss {s : FrS} (hn : s.n ≤ s.T.length) (h2 : ∀ j, (hj : j < s.n) → s.T[j] = true) : firstF s = none := by
  unfold firstF
  refine List.findIdx?_eq_none_iff.2 (fun x hx => ?_)
  obtain ⟨j, hj, rfl⟩ := List.getElem_of_mem hx
  have hj2 : j < s.n := by simp at hj; omega
  rw [List.getElem_take, h2 j hj2]
  rfl

def RetTkF (s : FrS) (g : Nat) (w : World) (e : Ending) (w' : World) : Prop := e = .returned (.tuple #[.int .i64 ((firstF s).getD 0 : Nat), .int .i64 (if (firstF s).isSome then 0 else 20)]) ∧ Fm w' g (takeF s) ∧ w.grownBy w' (some g)

set_option maxRecDepth 100000 in
set_option maxHeartbeats 4000000 in
theorem take_any (s : FrS) (g : Nat) (w : World) (h : Fm w g s) : Calls Try.prog 15 #[.pointer (some ⟨g, 0, none⟩)] w (RetTkF s g w) := by
  have c0 := h.cn
  have HM := Lib.hid h
  have hn := h.n0
  have hnT : s.n ≤ s.T.length := by rw [h.t]; exact hn
  clear h
  go_enter Try.func15, Try.ntmps15
  go_wp2_with fail
  go_loop [2, 3, 4, 11] (fun s2 s3 _ s11 => ∃ k : Nat, k ≤ s.n ∧ s11 = .int .i64 k ∧ s2 = .int .i64 0 ∧ s3 = .int .i64 0 ∧ Hid (∀ j, (hj : j < s.T.length) → j < k → s.T[j] = true)) (fun _ _ _ i => s.n - (intOf i).toNat)
  case atStart => exact ⟨0, Nat.zero_le _, rfl, rfl, rfl, fun j hj h => absurd h (Nat.not_lt_zero _)⟩
  case round =>
    obtain ⟨k, hk, rfl, rfl, rfl, HA⟩ := hrel
    by_cases hkn : k < s.n
    · have hkT : k < s.T.length := by omega
      have c1 := HM.out.ct (i := k) (by omega)
      have HH : Hid (s.T[k] = false → firstF s = some k) := fun h => first_hit hnT hkn h (fun j hj => HA.out j (by omega) hj)
      have HN : Hid (s.T[k] = true → ∀ j, (hj : j < s.T.length) → j < k + 1 → s.T[j] = true) := fun h j hj hjk => by
        by_cases he : j = k
        · subst he; exact h
        · exact HA.out j hj (by omega)
      have k0 : (0 : Int) ≤ (k : Int) := by omega
      have k1 : (k : Int) < 32 := by omega
      have k2 : (k : Int) < (s.n : Int) := by omega
      have f1 := HM.out.at_.frozen (1 + k)
      generalize s.T[k] = b at *
      cases b
      · have HF := Lib.hid (HH.out rfl)
        have hT := HM.out.setT (i := k) (by omega) true
        obtain ⟨v0, y0, z0⟩ := hT.cell16 (k := k) (j := 0) (by omega) (by omega)
        obtain ⟨v1, y1, z1⟩ := hT.cell16 (k := k) (j := 1) (by omega) (by omega)
        obtain ⟨v2, y2, z2⟩ := hT.cell16 (k := k) (j := 2) (by omega) (by omega)
        obtain ⟨v3, y3, z3⟩ := hT.cell16 (k := k) (j := 3) (by omega) (by omega)
        obtain ⟨v4, y4, z4⟩ := hT.cell16 (k := k) (j := 4) (by omega) (by omega)
        obtain ⟨v5, y5, z5⟩ := hT.cell16 (k := k) (j := 5) (by omega) (by omega)
        obtain ⟨v6, y6, z6⟩ := hT.cell16 (k := k) (j := 6) (by omega) (by omega)
        obtain ⟨v7, y7, z7⟩ := hT.cell16 (k := k) (j := 7) (by omega) (by omega)
        obtain ⟨v8, y8, z8⟩ := hT.cell16 (k := k) (j := 8) (by omega) (by omega)
        obtain ⟨v9, y9, z9⟩ := hT.cell16 (k := k) (j := 9) (by omega) (by omega)
        obtain ⟨v10, y10, z10⟩ := hT.cell16 (k := k) (j := 10) (by omega) (by omega)
        obtain ⟨v11, y11, z11⟩ := hT.cell16 (k := k) (j := 11) (by omega) (by omega)
        obtain ⟨v12, y12, z12⟩ := hT.cell16 (k := k) (j := 12) (by omega) (by omega)
        obtain ⟨v13, y13, z13⟩ := hT.cell16 (k := k) (j := 13) (by omega) (by omega)
        obtain ⟨v14, y14, z14⟩ := hT.cell16 (k := k) (j := 14) (by omega) (by omega)
        obtain ⟨v15, y15, z15⟩ := hT.cell16 (k := k) (j := 15) (by omega) (by omega)
        simp only [Nat.add_zero] at y0 z0
        have HL := Lib.hid (Fm.lay [0, 0, 0, 0, 0, 0, 0, 0, 0, 0, 0, 0, 0, 0, 0, 0] (k * 16) _ _ hT)
        clear HH HN HA hT
        go_wp2_with fail
        go_ret2
        refine ⟨by rw [HF.out]; rfl, ?_, only_trans (only_set (only_refl w g) (1 + k) (.bool true)) HL.out.2⟩
        unfold takeF
        rw [HF.out]
        exact HL.out.1
      · have HN2 := Lib.hid (HN.out rfl)
        clear HN HH HA
        go_wp2_with fail
        go_round
        case rel => exact ⟨k + 1, by omega, by go_num, rfl, rfl, HN2.out⟩
        case measure => simp [intOf]; omega
    · obtain rfl : k = s.n := by omega
      have HF := Lib.hid (first_miss hnT (fun j hj => HA.out j (by omega) hj))
      go_wp2_with fail
      go_ret2
      refine ⟨by rw [HF.out]; rfl, ?_, only_refl w g⟩
      unfold takeF
      rw [HF.out]
      exact HM.out

end Go.Proofs.Ytpimflmmfnffeaa.Fr

/- Walk over package frames: Bytes. -/
namespace Go.Proofs.Ytpimflmmfnffeaa.Fr
open Go.RowKit

def eB (x : Int) : List Value := [.int .u8 x]

theorem eB_ok : EncOk eB 1 := ⟨fun _ => rfl, fun x u hu => by simp [eB] at hu; subst hu; rfl⟩

theorem info_by : (Try.prog.info? 5).map (fun i => (i.zero, i.size, i.bytes)) = some (some (.int .u8 0), 1, 1) := by kernel_rfl

theorem elB : Elem Try.prog 38 5 1 1 := elem_mk Try.underlying38 info_by rfl (by omega)

/-- a frame's bytes -/
def rowB (s : FrS) (i : Nat) : List Int := (s.B.drop (i * 16)).take 16

theorem rowB_len {s : FrS} (hb : s.B.length = 512) {i : Nat} (hi : i < 32) : (rowB s i).length = 16 := by unfold rowB; simp; omega

theorem Fm.row {w : World} {g : Nat} {s : FrS} (h : Fm w g s) {i : Nat} (hi : i < 32) : Sl eB 1 w (some ⟨g, 33 + i * 16, none⟩) (rowB s i) := fun _ => by
  refine ⟨g, 33 + i * 16, rfl, fun j x m u hx hu => ?_⟩
  have hj : j < 16 := by have := (List.getElem?_eq_some_iff.1 hx).1; rw [rowB_len h.b hi] at this; exact this
  have hm : m = 0 := by
    have := (List.getElem?_eq_some_iff.1 hu).1
    simp [eB] at this
    exact this
  subst hm
  simp [eB] at hu
  subst hu
  have hc := h.cb (m := i * 16 + j) (by omega)
  rw [show 33 + i * 16 + (j * 1 + 0) = 33 + (i * 16 + j) by omega, hc]
  unfold rowB at hx
  rw [List.getElem?_take, if_pos hj, List.getElem?_drop, List.getElem?_eq_getElem (by rw [h.b]; omega)] at hx
  injection hx with hx
  rw [hx]

def RetB (L : List Int) (w : World) (e : Ending) (w' : World) : Prop := ∃ (O : Option Addr) (d : Nat), e = .returned (.slice O L.length d) ∧ Sl eB 1 w' O L ∧ Below w.heap.size w w'

set_option maxHeartbeats 1000000 in
theorem clone_any (q off : Nat) (L : List Int) (c : Nat) (w : World) (hs : Sl eB 1 w (some ⟨q, off, none⟩) L) (hq : q < w.heap.size) (hl : L.length ≤ 1000) :
    Calls Try.prog 17 #[.slice (some ⟨q, off, none⟩) L.length c] w (RetB L w) := by
  have hqq := fun w => Lib.run_eql_slice_nil (P := Try.prog) w 38 5 (some ⟨q, off, none⟩) L.length c 0 0 Try.underlying38
  go_enter Try.func17, Try.ntmps17
  go_wp2_with (at_builtin; refine wpList_append_sl _ rfl _ _ rfl elB eB_ok (Own.empty w 5 (base := w.heap.size) (Nat.le_refl _)) (n := 0) rfl rfl (m := L.length) rfl (ys := L) rfl (hs.alloc _) (by simp only [maxLen]; omega) (by omega) (by simp) _ rfl L.length (by simp) ?_; intro A1 e1 w1 own1 hg1 at1; simp only [List.nil_append] at own1)
  go_ret
  exact ⟨A1, e1, rfl, own1.sl eB_ok, (below1 _ _).grown hg1 (by simp) (fun k hk => by simp [blk] at hk; omega)⟩

set_option maxHeartbeats 1000000 in
theorem bytes_yes (s : FrS) (g k : Nat) (w : World) (h : Fm w g s) (hk : k < s.n) : Calls Try.prog 7 #[.pointer (some ⟨g, 0, none⟩), .int .i64 k] w (RetB (rowB s k) w) := by
  have hn := h.n0
  have hk32 : k < 32 := by omega
  have H := Lib.hid (has_any s g k w h)
  have hh : hasF s k = true := decide_eq_true (by omega)
  rw [hh] at H
  have hlen := rowB_len h.b hk32
  have HC : Hid (Calls Try.prog 17 #[.slice (some ⟨g, 33 + k * 16, none⟩) 16 16] w (RetB (rowB s k) w)) := by
    have := clone_any g (33 + k * 16) (rowB s k) 16 w (h.row hk32) h.at_.lt (by omega)
    rw [hlen] at this
    exact this
  have k0 : (0 : Int) ≤ (k : Int) := by omega
  have k1 : (k : Int) < 32 := by omega
  clear h hh hlen
  go_enter Try.func7, Try.ntmps7
  go_wp2_with fail
  refine H.out.mono ?_
  rintro e w2 ⟨rfl, rfl⟩
  go_wp2_with fail
  refine HC.out.mono ?_
  rintro e w3 ⟨O, d, rfl, hs3, hb3⟩
  go_wp2_with fail
  go_ret
  exact ⟨O, d, rfl, hs3, hb3⟩

end Go.Proofs.Ytpimflmmfnffeaa.Fr

/- The document's memory and the program's are the same. -/
namespace Go.Proofs.Ytpimflmmfnffeaa.Fr
open Go.RowKit Go.Lib

/-- string(b) of a row of bytes -/
theorem conv_row (w : World) (b off c : Nat) (L : List Int) (h : Sl eB 1 w (some ⟨b, off, none⟩) L) (n : Nat) (hn : L.length = n) :
    (convert 38 9 (.slice (some ⟨b, off, none⟩) n c)).run Try.prog w = .ok (.string (strOfNums L)) w := by
  refine run_convert_bytes_arg w 38 5 Try.underlying38 Try.underlying5 b off n c L hn (fun i hi => ?_) _ Try.underlying9
  have hi' : i < L.length := by omega
  obtain ⟨b', off', hA, hc⟩ := h (by omega)
  injection hA with hA
  injection hA with h1 h2
  subst h1 h2
  have := hc i L[i] 0 (.int .u8 L[i]) (List.getElem?_eq_getElem hi') rfl
  rw [Nat.mul_one, Nat.add_zero] at this
  rw [this, List.getD, List.getElem?_eq_getElem hi']
  rfl

end Go.Proofs.Ytpimflmmfnffeaa.Fr
