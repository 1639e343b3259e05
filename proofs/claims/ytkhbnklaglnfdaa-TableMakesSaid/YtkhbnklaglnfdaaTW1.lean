/- Walks: which tasks and sets may be, by the program and by the document. -/
import Derived.Test.YtkhbnklaglnfdaaApp
import Derived.Test.YtkhbnklaglnfdaaAft
import Derived.Test.YtkhbnklaglnfdaaTM1
namespace Go.Proofs.Ytkhbnklaglnfdaa
open Go.RowKit

def eT (t : Tk) : List Value := [.int .i64 t.cost, .int .i64 t.period, .int .i64 t.dead]
theorem eT_ok : EncOk eT 3 := ⟨fun _ => rfl, fun x u hu => by simp [eT] at hu; rcases hu with rfl | rfl | rfl <;> rfl⟩
theorem Sl.tk_at {w : World} {A : Option Addr} {xs : List Tk} {i : Nat} (h : Sl eT 3 w A xs) (hi : i < xs.length) :
    ∃ b off, A = some ⟨b, off, none⟩ ∧ w.cell? ⟨b, off + i * 3, none⟩ = some (.int .i64 xs[i].cost) ∧ w.cell? ⟨b, off + i * 3 + 1, none⟩ = some (.int .i64 xs[i].period) ∧ w.cell? ⟨b, off + i * 3 + 1 + 1, none⟩ = some (.int .i64 xs[i].dead) := by
  obtain ⟨b, off, hA, hc⟩ := h.at_ hi
  refine ⟨b, off, hA, ?_, ?_, ?_⟩
  · simpa using hc 0 _ (show (eT xs[i])[0]? = some (.int .i64 xs[i].cost) from rfl)
  · simpa [Nat.add_assoc] using hc 1 _ (show (eT xs[i])[1]? = some (.int .i64 xs[i].period) from rfl)
  · simpa [Nat.add_assoc] using hc 2 _ (show (eT xs[i])[2]? = some (.int .i64 xs[i].dead) from rfl)

/-- a new block reads as a list -/
theorem Sl.lit {α : Type} {enc : α → List Value} {sz : Nat} (he : EncOk enc sz) (w : World) (xs : List α) (cs : Array Value) (hcs : cs.toList = xs.flatMap enc) (t : TypeId) : Sl enc sz (w.alloc (.cells cs t)) (some ⟨w.heap.size, 0, none⟩) xs := fun _ => by
  refine ⟨w.heap.size, 0, rfl, fun i x j u hx hu => ?_⟩
  have hj : j < sz := by rw [← he.len x]; exact (List.getElem?_eq_some_iff.1 hu).1
  have h1 := cell_of_row (w.alloc (.cells cs t)) w.heap.size (i * sz + j) cs t (0, 0) (heap_alloc_new w _)
  rw [Nat.zero_add, h1, ← Array.getElem?_toList, hcs, flat_at he.len xs i x j hx hj, hu]
theorem Sl.lit' {α : Type} {enc : α → List Value} {sz : Nat} (he : EncOk enc sz) (w : World) (xs : List α) (cs : Array Value) (hcs : cs.toList = xs.flatMap enc) (t : TypeId) {g : Nat} (hg : w.heap.size = g) : Sl enc sz (w.alloc (.cells cs t)) (some ⟨g, 0, none⟩) xs := by
  subst hg
  exact Sl.lit he w xs cs hcs t

set_option maxHeartbeats 1000000 in
theorem tRight_any (t : Tk) (w : World) : Calls Try.prog 26 #[.agg #[.int .i64 t.cost, .int .i64 t.period, .int .i64 t.dead]] w fun e w' => e = .returned (.bool (rightT t)) ∧ Below w.heap.size w w' := by
  go_enter Try.func26, Try.ntmps26
  go_wp2
  all_goals go_ret
  all_goals refine ⟨ret_bool ?_, below1 _ _⟩
  all_goals unfold rightT
  all_goals first | (simp; done) | (simp; omega) | (rw [decide_eq_decide]; omega)
set_option maxHeartbeats 1000000 in
theorem qRight_any (t : Tk) (w : World) : Calls Try.prog 17 #[.agg #[.int .i64 t.cost, .int .i64 t.period, .int .i64 t.dead]] w fun e w' => e = .returned (.bool (rightT t)) ∧ Below w.heap.size w w' := by
  go_enter Try.func17, Try.ntmps17
  go_wp2
  all_goals go_ret
  all_goals refine ⟨ret_bool ?_, below1 _ _⟩
  all_goals unfold rightT
  all_goals first | (simp; done) | (simp; omega) | (rw [decide_eq_decide]; omega)

theorem all_no {l : List Tk} {k : Nat} (hk : k < l.length) (h : rightT l[k] = false) : allT l = false := by
  unfold allT
  have : l.all rightT = false := by
    rw [List.all_eq_false]
    exact ⟨l[k], List.getElem_mem hk, by simp [h]⟩
  rw [this, Bool.and_false]
theorem all_yes {l : List Tk} (hl : l.length ≤ 8) (h : ∀ i (hi : i < l.length), rightT l[i] = true) : allT l = true := by
  unfold allT
  rw [Bool.and_eq_true]
  refine ⟨decide_eq_true hl, List.all_eq_true.2 fun x hx => ?_⟩
  obtain ⟨i, hi, rfl⟩ := List.mem_iff_getElem.1 hx
  exact h i hi
theorem all_long {l : List Tk} (hl : 8 < l.length) : allT l = false := by
  unfold allT
  rw [decide_eq_false (by omega)]
  rfl

set_option maxRecDepth 100000 in
set_option maxHeartbeats 2000000 in
theorem tAll_any (A : Option Addr) (l : List Tk) (c : Nat) (w : World) (hs : Sl eT 3 w A l) (hm : l.length ≤ 9223372036854775807) :
    Calls Try.prog 18 #[.slice A l.length c] w fun e w' => e = .returned (.bool (allT l)) ∧ Below w.heap.size w w' := by
  by_cases hl : 8 < l.length
  · rw [all_long hl]
    go_enter Try.func18, Try.ntmps18
    go_wp2
    go_ret
    exact ⟨rfl, Below.refl _ _⟩
  · go_enter Try.func18, Try.ntmps18
    go_wp2
    go_loopw [10] (fun i wr => ∃ k : Nat, k ≤ l.length ∧ i = .int .i64 k ∧ Hid (∀ i (_ : i < k) (hi : i < l.length), rightT l[i] = true) ∧ Below w.heap.size w wr) (fun i _ => l.length - (intOf i).toNat)
    case atStart => exact ⟨0, Nat.zero_le _, rfl, fun i hi => absurd hi (by omega), Below.refl _ _⟩
    case round =>
      obtain ⟨k, hk, rfl, HA, hB⟩ := hrel
      by_cases hlt : k < l.length
      · obtain ⟨b, off, rfl, c0, c1, c2⟩ := (hs.keep hB).tk_at hlt
        have k0 : (0 : Int) ≤ (k : Int) := by omega
        have k1 : (k : Int) < (l.length : Int) := by omega
        have HN := Lib.hid (all_no hlt)
        have HR := Lib.hid (fun W => tRight_any l[k] W)
        have HY : Hid (rightT l[k] = true → ∀ i (_ : i < k + 1) (hi : i < l.length), rightT l[i] = true) := fun hy i h1 h2 => by
          by_cases he : i = k
          · subst he; exact hy
          · exact HA.out i (by omega) h2
        clear HA
        generalize rightT l[k] = q at *
        generalize l[k] = t at *
        cases q
        · go_wp2_with (go_at_call 26; (with_reducible refine (HR.out _).mono ?_); rintro e w4 ⟨rfl, hb⟩; replace hB := bstep (hB.alloc hB.size _) (Nat.le_refl _) hb; clear hb)
          go_ret
          exact ⟨by rw [HN.out (by trivial)]; rfl, hB⟩
        · go_wp2_with (go_at_call 26; (with_reducible refine (HR.out _).mono ?_); rintro e w4 ⟨rfl, hb⟩; replace hB := bstep (hB.alloc hB.size _) (Nat.le_refl _) hb; clear hb)
          go_roundw
          case rel => exact ⟨k + 1, by omega, by go_num, HY.out (by trivial), hB⟩
          case measure => simp [intOf]; omega
      · obtain rfl : k = l.length := by omega
        go_wp2
        go_ret
        exact ⟨by rw [all_yes (by omega) (fun i hi => HA.out i hi hi)]; rfl, hB⟩

set_option maxRecDepth 100000 in
set_option maxHeartbeats 2000000 in
theorem qAll_any (A : Option Addr) (l : List Tk) (c : Nat) (w : World) (hs : Sl eT 3 w A l) (hm : l.length ≤ 9223372036854775807) :
    Calls Try.prog 6 #[.slice A l.length c] w fun e w' => e = .returned (.bool (allT l)) ∧ Below w.heap.size w w' := by
  go_enter Try.func6, Try.ntmps6
  go_wp2
  go_loopw [3] (fun i wr => ∃ k : Nat, k ≤ l.length ∧ k ≤ 9 ∧ i = .int .i64 k ∧ Hid (∀ i (_ : i < k) (hi : i < l.length), rightT l[i] = true) ∧ Below w.heap.size w wr) (fun i _ => l.length - (intOf i).toNat)
  case atStart => exact ⟨0, Nat.zero_le _, by omega, rfl, fun i hi => absurd hi (by omega), Below.refl _ _⟩
  case round =>
    obtain ⟨k, hk, hk9, rfl, HA, hB⟩ := hrel
    by_cases hlt : k < l.length
    · by_cases hlt9 : k < 9
      · obtain ⟨b, off, rfl, c0, c1, c2⟩ := (hs.keep hB).tk_at hlt
        have k0 : (0 : Int) ≤ (k : Int) := by omega
        have k1 : (k : Int) < (l.length : Int) := by omega
        have HN := Lib.hid (all_no hlt)
        have HR := Lib.hid (fun W => qRight_any l[k] W)
        have HY : Hid (rightT l[k] = true → ∀ i (_ : i < k + 1) (hi : i < l.length), rightT l[i] = true) := fun hy i h1 h2 => by
          by_cases he : i = k
          · subst he; exact hy
          · exact HA.out i (by omega) h2
        clear HA
        generalize rightT l[k] = q at *
        generalize l[k] = t at *
        cases q
        · go_wp2_with (go_at_call 17; (with_reducible refine (HR.out _).mono ?_); rintro e w4 ⟨rfl, hb⟩; replace hB := bstep hB (Nat.le_refl _) hb; clear hb)
          go_ret
          exact ⟨by rw [HN.out (by trivial)]; rfl, hB⟩
        · go_wp2_with (go_at_call 17; (with_reducible refine (HR.out _).mono ?_); rintro e w4 ⟨rfl, hb⟩; replace hB := bstep hB (Nat.le_refl _) hb; clear hb)
          go_roundw
          case rel => exact ⟨k + 1, by omega, by omega, by go_num, HY.out (by trivial), hB⟩
          case measure => simp [intOf]; omega
      · have h9 : (9 : Int) ≤ l.length := by omega
        go_wp2
        go_ret
        exact ⟨by rw [all_long (by omega)]; exact ret_bool (decide_eq_false (by omega)), hB⟩
    · obtain rfl : k = l.length := by omega
      by_cases h8 : l.length ≤ 8
      · go_wp2
        go_ret
        exact ⟨by rw [all_yes h8 (fun i hi => HA.out i hi hi)]; exact ret_bool (decide_eq_true (by omega)), hB⟩
      · have h9 : (9 : Int) ≤ l.length := by omega
        go_wp2
        go_ret
        exact ⟨by rw [all_long (by omega)]; exact ret_bool (decide_eq_false (by omega)), hB⟩
end Go.Proofs.Ytkhbnklaglnfdaa
