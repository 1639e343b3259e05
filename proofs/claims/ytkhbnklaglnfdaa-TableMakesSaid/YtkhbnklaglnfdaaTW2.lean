/- Walks: what sets ask for, by the program and by the document. -/
import Derived.Test.YtkhbnklaglnfdaaTW1
namespace Go.Proofs.Ytkhbnklaglnfdaa
open Go.RowKit

def strT (n : Int) : Bool := decide (0 ≤ n ∧ n ≤ 1048576)

set_option maxHeartbeats 400000 in
theorem tStretch_any (t : Int) (w : World) : Calls Try.prog 29 #[.int .i64 t] w fun e w' => e = .returned (.bool (strT t)) ∧ w = w' := by
  go_enter Try.func29, Try.ntmps29
  go_wp2
  all_goals go_ret
  all_goals refine ⟨ret_bool ?_, rfl⟩
  all_goals unfold strT
  all_goals first | (simp; done) | (simp; omega) | (rw [decide_eq_decide]; omega)

theorem tdiv_in (a b : Int) (h : 0 ≤ a) (h' : a ≤ 9223372036854775807) (hb : 1 ≤ b) : IntKind.i64.wrap (a.tdiv b) = a / b := by
  have hd := div_bd a b h hb
  rw [Int.tdiv_eq_ediv_of_nonneg h, IntWalk.i64_in _ (by omega)]

def demV (l : List Tk) (n : Int) : Int := if allT l && strT n then demL l n else 0

def reqV (l : List Tk) (n : Int) : Int := if allT l && strT n then reqL l n else 0

theorem tDemand_no (A : Option Addr) (l : List Tk) (c : Nat) (n : Int) (w : World) (hs : Sl eT 3 w A l) (hm : l.length ≤ 9223372036854775807) (h : (allT l && strT n) = false) :
    Calls Try.prog 25 #[.slice A l.length c, .int .i64 n] w fun e w' => e = .returned (.int .i64 0) ∧ Below w.heap.size w w' := by
  have HA := Lib.hid (tAll_any A l c w hs hm)
  have HS := Lib.hid (fun W => tStretch_any n W)
  generalize allT l = p at *
  generalize strT n = q at *
  cases p
  · go_enter Try.func25, Try.ntmps25
    go_wp2_with (first | (go_at_call 18; (with_reducible refine HA.out.mono ?_); rintro e w2 ⟨rfl, hB⟩) | (go_at_call 29; (with_reducible refine (HS.out _).mono ?_); rintro e w2 ⟨rfl, rfl⟩))
    go_ret
    exact ⟨rfl, hB⟩
  · simp at h
    subst h
    go_enter Try.func25, Try.ntmps25
    go_wp2_with (first | (go_at_call 18; (with_reducible refine HA.out.mono ?_); rintro e w2 ⟨rfl, hB⟩) | (go_at_call 29; (with_reducible refine (HS.out _).mono ?_); rintro e w2 ⟨rfl, rfl⟩))
    go_ret
    exact ⟨rfl, hB⟩

set_option maxRecDepth 100000 in
set_option maxHeartbeats 4000000 in
theorem tDemand_yes (A : Option Addr) (l : List Tk) (c : Nat) (n : Int) (w : World) (hs : Sl eT 3 w A l) (hm : l.length ≤ 9223372036854775807) (h : allT l = true) (h0 : 0 ≤ n) (h1 : n ≤ 1048576) :
    Calls Try.prog 25 #[.slice A l.length c, .int .i64 n] w fun e w' => e = .returned (.int .i64 (demL l n)) ∧ Below w.heap.size w w' := by
  have HA := Lib.hid (tAll_any A l c w hs hm)
  have HS := Lib.hid (fun W => tStretch_any n W)
  have hs8 := allT_len h
  have hst : strT n = true := decide_eq_true ⟨h0, h1⟩
  rw [h] at HA
  rw [hst] at HS
  clear hst
  have H := Lib.hid h
  clear h
  go_enter Try.func25, Try.ntmps25
  go_wp2_with (first | (go_at_call 18; (with_reducible refine HA.out.mono ?_); rintro e w2 ⟨rfl, hB⟩) | (go_at_call 29; (with_reducible refine (HS.out _).mono ?_); rintro e w2 ⟨rfl, rfl⟩))
  go_loopw [5, 18] (fun s i wr => ∃ (k : Nat) (S : Int), k ≤ l.length ∧ i = .int .i64 k ∧ s = .int .i64 S ∧ Hid (S = sumF (dem1 · n) (l.take k)) ∧ Below w.heap.size w wr) (fun _ i _ => l.length - (intOf i).toNat)
  case atStart => exact ⟨0, 0, Nat.zero_le _, rfl, rfl, rfl, hB⟩
  case round =>
    clear hB
    obtain ⟨k, S, hk, rfl, rfl, HE, hB⟩ := hrel
    by_cases hlt : k < l.length
    · obtain ⟨b, off, rfl, c0, c1, c2⟩ := (hs.keep hB).tk_at hlt
      have k0 : (0 : Int) ≤ (k : Int) := by omega
      have k1 : (k : Int) < (l.length : Int) := by omega
      have hr := allT_at H.out hlt
      have hS1 := demL_bd H.out h0 h1 k
      have hd1 := dem1_bd (allT_mem H.out _ (List.getElem_mem hlt)) h0 h1
      have HE2 : Hid (∀ S', S' = S + dem1 l[k] n → S' = sumF (dem1 · n) (l.take (k + 1))) := fun S' hS' => by rw [sumF_step _ l k hlt, ← HE.out, hS']
      rw [← HE.out] at hS1
      clear HE
      have HD : Hid (dem1 l[k] n = if l[k].dead ≤ n then l[k].cost * ((n - l[k].dead) / l[k].period + 1) else 0) := rfl
      generalize dem1 l[k] n = D at *
      generalize l[k] = t at *
      by_cases hdl : t.dead ≤ n
      · have HD2 : Hid (D = t.cost * ((n - t.dead) / t.period + 1)) := by have := HD.out; rw [if_pos hdl] at this; exact this
        rw [HD2.out] at hd1
        have hq := div_bd (n - t.dead) t.period (by omega) (by omega)
        have e1 := Lib.hid (IntWalk.i64_in (n - t.dead) (by omega))
        have e2 := Lib.hid (tdiv_in (n - t.dead) t.period (by omega) (by omega) (by omega))
        have e3 := Lib.hid (IntWalk.i64_in ((n - t.dead) / t.period + 1) (by omega))
        have e4 := Lib.hid (IntWalk.i64_in (t.cost * ((n - t.dead) / t.period + 1)) (by omega))
        have e5 := Lib.hid (IntWalk.i64_in (S + t.cost * ((n - t.dead) / t.period + 1)) (by omega))
        have hne : ¬ t.period = 0 := by omega
        go_wp2_with fail
        replace e1 := e1.out
        replace e2 := e2.out
        replace e3 := e3.out
        replace e4 := e4.out
        replace e5 := e5.out
        go_quiet (fail)
        clear e1 e2 e3 e4 e5
        go_wp2_with fail
        go_roundw
        case rel => exact ⟨k + 1, _, by omega, by go_num, rfl, HE2.out _ (by rw [HD2.out]), bdrewN (hB.alloc hB.size _) _⟩
        case measure => simp [intOf]; omega
      · have HD2 : Hid (D = 0) := by have := HD.out; rw [if_neg hdl] at this; exact this
        go_wp2_with fail
        go_roundw
        case rel => exact ⟨k + 1, S, by omega, by go_num, rfl, HE2.out _ (by rw [HD2.out]; omega), hB.alloc hB.size _⟩
        case measure => simp [intOf]; omega
    · obtain rfl : k = l.length := by omega
      go_wp2
      go_ret
      refine ⟨ret_int ?_, hB⟩
      rw [HE.out, List.take_length]
      rfl

theorem tDemand_any (A : Option Addr) (l : List Tk) (c : Nat) (n : Int) (w : World) (hs : Sl eT 3 w A l) (hm : l.length ≤ 9223372036854775807) :
    Calls Try.prog 25 #[.slice A l.length c, .int .i64 n] w fun e w' => e = .returned (.int .i64 (demV l n)) ∧ Below w.heap.size w w' := by
  unfold demV
  cases h : (allT l && strT n)
  · exact tDemand_no A l c n w hs hm h
  · rw [Bool.and_eq_true] at h
    have h2 := of_decide_eq_true h.2
    exact tDemand_yes A l c n w hs hm h.1 h2.1 h2.2

end Go.Proofs.Ytkhbnklaglnfdaa
