/- Walks: what sets ask for, by the document, job by job. -/
import Derived.Test.YtojccjdldmjfgaaTW2
namespace Go.Proofs.Ytojccjdldmjfgaa
open Go.RowKit

set_option maxRecDepth 100000 in
set_option maxHeartbeats 4000000 in
theorem qDemand_yes (A : Option Addr) (l : List Tk) (c : Nat) (n : Int) (w : World) (hs : Sl eT 3 w A l) (h : allT l = true) (h0 : 0 ≤ n) (h1 : n ≤ 1048576) :
    Calls Try.prog 32 #[.slice A l.length c, .int .i64 n] w fun e w' => e = .returned (.int .i64 (demL l n)) ∧ w = w' := by
  have hs8 := allT_len h
  have H := Lib.hid h
  clear h
  go_enter Try.func32, Try.ntmps32
  go_wp2
  go_loop [5, 6] (fun s i => ∃ (k : Nat) (S : Int), k ≤ l.length ∧ i = .int .i64 k ∧ s = .int .i64 S ∧ Hid (S = sumF (dem1 · n) (l.take k))) (fun _ i => l.length - (intOf i).toNat)
  case atStart => exact ⟨0, 0, Nat.zero_le _, rfl, rfl, rfl⟩
  case round =>
    obtain ⟨k, S, hk, rfl, rfl, HE⟩ := hrel
    by_cases hlt : k < l.length
    · obtain ⟨b, off, rfl, c0, c1, c2⟩ := hs.tk_at hlt
      have k0 : (0 : Int) ≤ (k : Int) := by omega
      have k1 : (k : Int) < (l.length : Int) := by omega
      have hr := allT_at H.out hlt
      have hS1 := demL_bd H.out h0 h1 k
      have HJ := Lib.hid (fun j => dem_jobs (t := l[k]) (n := n) (j := j) (allT_mem H.out _ (List.getElem_mem hlt)))
      have HE2 : Hid (∀ S', S' = S + dem1 l[k] n → S' = sumF (dem1 · n) (l.take (k + 1))) := fun S' hS' => by rw [sumF_step _ l k hlt, ← HE.out, hS']
      rw [← HE.out] at hS1
      clear HE
      generalize dem1 l[k] n = D at *
      generalize l[k] = t at *
      go_wp2_with fail
      go_loop [5, 7] (fun s a => ∃ (j : Nat) (C at_ : Int), a = .int .i64 at_ ∧ s = .int .i64 (S + C) ∧ Hid (at_ = t.dead + j * t.period) ∧ Hid (C = t.cost * j) ∧ (j = 0 ∨ at_ - t.period ≤ n) ∧ 0 ≤ C ∧ 0 ≤ at_ ∧ at_ ≤ n + 2097152 ∧ C ≤ 1048576 * j ∧ j ≤ at_) (fun _ a => (n + 2097153).toNat - (intOf a).toNat)
      case atStart => exact ⟨0, 0, _, rfl, by simp, by simp [Hid], by simp [Hid], .inl rfl, by omega, by omega, by omega, by omega, by omega⟩
      case round =>
        obtain ⟨j, C, at_, rfl, rfl, HAt, HC, hj, hC0, ha0, ha1, hC1, hja⟩ := hrel
        by_cases hin : at_ ≤ n
        · have HA2 : Hid (at_ + t.period = t.dead + ((j + 1 : Nat) : Int) * t.period) := by
            unfold Hid; rw [HAt.out, Int.natCast_add, Int.add_mul]; first | (simp; done) | (simp; omega)
          have HC2 : Hid (C + t.cost = t.cost * ((j + 1 : Nat) : Int)) := by unfold Hid; rw [HC.out, Int.natCast_add, Int.mul_add]; simp
          go_wp2_with fail
          go_round
          case rel => exact ⟨j + 1, C + t.cost, at_ + t.period, by go_num, by go_num, HA2.out, HC2.out, .inr (by omega), by omega, by omega, by omega, by omega, by omega⟩
          case measure => simp [intOf]; omega
        · have HF : Hid (S + C = S + D) := by
            unfold Hid
            rw [HC.out, HJ.out j (by have := HAt.out; omega) (hj.imp id (fun hj => by have := HAt.out; rw [Int.sub_mul]; omega))]
          go_wp2_with fail
          go_round
          case rel => exact ⟨k + 1, S + C, by omega, by go_num, rfl, HE2.out _ HF.out⟩
          case measure => simp [intOf]; omega
    · obtain rfl : k = l.length := by omega
      go_wp2
      go_ret
      refine ⟨ret_int ?_, rfl⟩
      rw [HE.out, List.take_length]
      rfl

end Go.Proofs.Ytojccjdldmjfgaa
