/- Walks: fields that are apart; Join and Split, and the document's Join. -/
import Derived.Test.YtcenphlgclmjnaaApp
import Derived.Test.YtcenphlgclmjnaaM2
namespace Go.Proofs.Ytcenphlgclmjnaa
open Go.RowKit

def eF (f : Fl) : List Value := [.int .i64 f.at_, .int .i64 f.size]
theorem eF_ok : EncOk eF 2 := ⟨fun _ => rfl, fun x u hu => by simp [eF] at hu; rcases hu with rfl | rfl <;> rfl⟩
theorem Sl.fl_at {w : World} {A : Option Addr} {xs : List Fl} {i : Nat} (h : Sl eF 2 w A xs) (hi : i < xs.length) :
    ∃ b off, A = some ⟨b, off, none⟩ ∧ w.cell? ⟨b, off + i * 2, none⟩ = some (.int .i64 xs[i].at_) ∧ w.cell? ⟨b, off + i * 2 + 1, none⟩ = some (.int .i64 xs[i].size) := by
  obtain ⟨b, off, hA, hc⟩ := h.at_ hi
  exact ⟨b, off, hA, by simpa using hc 0 _ (show (eF xs[i])[0]? = some (.int .i64 xs[i].at_) from rfl), by simpa [Nat.add_assoc] using hc 1 _ (show (eF xs[i])[1]? = some (.int .i64 xs[i].size) from rfl)⟩

theorem mask_at (f : Fl) (w : World) (h : rightF f = true) :
    Calls Try.prog 23 #[.agg #[.int .i64 f.at_, .int .i64 f.size]] w fun e w' => e = .returned (.int .u64 (maskN f : Nat)) ∧ Below w.heap.size w w' := by
  have h1 := rightF_t h
  have := mask_yes f.at_ f.size w h1.1 h1.2.1 h1.2.2.1 h1.2.2.2
  rw [mask_int] at this
  exact this
theorem right_at (f : Fl) (w : World) : Calls Try.prog 11 #[.agg #[.int .i64 f.at_, .int .i64 f.size]] w fun e w' => e = .returned (.bool (rightF f)) ∧ Below w.heap.size w w' := right_any _ _ _
theorem refRight_at (f : Fl) (w : World) : Calls Try.prog 12 #[.agg #[.int .i64 f.at_, .int .i64 f.size]] w fun e w' => e = .returned (.bool (rightF f)) ∧ Below w.heap.size w w' := refRight_any _ _ _

theorem and_test {x y : Nat} (hx : x < 2 ^ 64) (hy : y < 2 ^ 64) : (bits BinOp.and IntKind.u64 (x : Int) (y : Int) == 0) = decide (x &&& y = 0) := by
  rw [u64_and_nat _ _ (by omega) (by omega), Bool.eq_iff_iff]
  simp
set_option maxHeartbeats 1000000 in
theorem apart_any (f g : Fl) (w : World) :
    Calls Try.prog 18 #[.agg #[.int .i64 f.at_, .int .i64 f.size], .agg #[.int .i64 g.at_, .int .i64 g.size]] w fun e w' => e = .returned (.bool (apartB f g)) ∧ Below w.heap.size w w' := by
  have c0 : ((w.alloc (Obj.cells #[.int .i64 f.at_, .int .i64 f.size] 27)).alloc (Obj.cells #[.int .i64 g.at_, .int .i64 g.size] 27)).cell? ⟨w.heap.size, 0, none⟩ = some (.int .i64 f.at_) := by simp
  have c1 : ((w.alloc (Obj.cells #[.int .i64 f.at_, .int .i64 f.size] 27)).alloc (Obj.cells #[.int .i64 g.at_, .int .i64 g.size] 27)).cell? ⟨w.heap.size, 1, none⟩ = some (.int .i64 f.size) := by simp
  have c2 : ((w.alloc (Obj.cells #[.int .i64 f.at_, .int .i64 f.size] 27)).alloc (Obj.cells #[.int .i64 g.at_, .int .i64 g.size] 27)).cell? ⟨w.heap.size + 1, 0, none⟩ = some (.int .i64 g.at_) := by simp
  have c3 : ((w.alloc (Obj.cells #[.int .i64 f.at_, .int .i64 f.size] 27)).alloc (Obj.cells #[.int .i64 g.at_, .int .i64 g.size] 27)).cell? ⟨w.heap.size + 1, 1, none⟩ = some (.int .i64 g.size) := by simp
  have hB : Below w.heap.size w ((w.alloc (Obj.cells #[.int .i64 f.at_, .int .i64 f.size] 27)).alloc (Obj.cells #[.int .i64 g.at_, .int .i64 g.size] 27)) := (below1 _ _).alloc (by simp) _
  cases hf : rightF f
  · go_enter Try.func18, Try.ntmps18
    go_wp2_with (go_at_call 11; (with_reducible refine (right_at f _).mono ?_); rintro e w2 ⟨rfl, hb⟩; rw [hf])
    go_ret
    exact ⟨ret_bool (apart_f1 hf).symm, bstep hB (by simp) hb⟩
  · cases hg : rightF g
    · go_enter Try.func18, Try.ntmps18
      go_wp2_with (first | (go_at_call 11; (with_reducible refine (right_at f _).mono ?_); rintro e w2 ⟨rfl, hb⟩; rw [hf]; replace c2 := kcell hb c2; replace c3 := kcell hb c3; replace hB := bstep hB (by simp) hb; clear hb) | (go_at_call 11; (with_reducible refine (right_at g _).mono ?_); rintro e w2 ⟨rfl, hb⟩; rw [hg]; replace hB := bstep hB (by simp) hb))
      go_ret
      exact ⟨ret_bool (apart_f2 hg).symm, hB⟩
    · have HA := Lib.hid (apart_t hf hg)
      have HT := Lib.hid (and_test (maskN_lt hf) (maskN_lt hg))
      have hmf := Lib.hid (fun W => mask_at f W hf)
      have hmg := Lib.hid (fun W => mask_at g W hg)
      go_enter Try.func18, Try.ntmps18
      go_wp2_with (first | (go_at_call 11; (with_reducible refine (right_at f _).mono ?_); rintro e w2 ⟨rfl, hb⟩; rw [hf]; replace c0 := kcell hb c0; replace c1 := kcell hb c1; replace c2 := kcell hb c2; replace c3 := kcell hb c3; replace hB := bstep hB (by simp) hb; clear hb) | (go_at_call 11; (with_reducible refine (right_at g _).mono ?_); rintro e w3 ⟨rfl, hb⟩; rw [hg]; replace c0 := kcell hb c0; replace c1 := kcell hb c1; replace c2 := kcell hb c2; replace c3 := kcell hb c3; replace hB := bstep hB (by simp) hb; clear hb))
      go_region_held3 (fun w' => Below w3.heap.size w3 w' ∧ w'.cell? ⟨w.heap.size, 0, none⟩ = some (.int .i64 f.at_) ∧ w'.cell? ⟨w.heap.size, 1, none⟩ = some (.int .i64 f.size) ∧ w'.cell? ⟨w.heap.size + 1, 0, none⟩ = some (.int .i64 g.at_) ∧ w'.cell? ⟨w.heap.size + 1, 1, none⟩ = some (.int .i64 g.size))
        (first | exact ⟨(Below.refl _ _).drew, c0, c1, c2, c3⟩ | exact keep4 ‹_› hb)
        (first | (go_at_call 23; (with_reducible refine (hmf.out _).mono ?_); rintro e w4 ⟨rfl, hb⟩) | (go_at_call 23; (with_reducible refine (hmg.out _).mono ?_); rintro e w4 ⟨rfl, hb⟩))
      all_goals rename_i hH
      all_goals go_wp2
      all_goals go_ret
      all_goals exact ⟨ret_bool (HT.out.trans HA.out.symm), bstep hB (Nat.le_refl _) hH.1⟩

/-- bits 0 to k are not in both -/
def clearTo (f g : Fl) (k : Nat) : Prop := ∀ i : Nat, i < k → ¬ (f.at_ ≤ i ∧ i < f.at_ + f.size ∧ g.at_ ≤ i ∧ i < g.at_ + g.size)
theorem clear_all {f g : Fl} (hf : rightF f = true) (hg : rightF g = true) (h : clearTo f g 64) : apartB f g = true := by
  have h1 := rightF_t hf
  have h2 := rightF_t hg
  unfold apartB
  rw [hf, hg]
  simp
  have := h (max f.at_.toNat g.at_.toNat) (by omega)
  omega
theorem clear_not {f g : Fl} (hf : rightF f = true) (hg : rightF g = true) (i : Nat) (h : f.at_ ≤ i ∧ i < f.at_ + f.size ∧ g.at_ ≤ i ∧ i < g.at_ + g.size) : apartB f g = false := by
  unfold apartB
  rw [hf, hg]
  simp
  omega

set_option maxRecDepth 100000 in
set_option maxHeartbeats 2000000 in
theorem refApart_any (f g : Fl) (w : World) :
    Calls Try.prog 19 #[.agg #[.int .i64 f.at_, .int .i64 f.size], .agg #[.int .i64 g.at_, .int .i64 g.size]] w fun e w' => e = .returned (.bool (apartB f g)) ∧ Below w.heap.size w w' := by
  have c0 : ((w.alloc (Obj.cells #[.int .i64 f.at_, .int .i64 f.size] 23)).alloc (Obj.cells #[.int .i64 g.at_, .int .i64 g.size] 23)).cell? ⟨w.heap.size, 0, none⟩ = some (.int .i64 f.at_) := by simp
  have c1 : ((w.alloc (Obj.cells #[.int .i64 f.at_, .int .i64 f.size] 23)).alloc (Obj.cells #[.int .i64 g.at_, .int .i64 g.size] 23)).cell? ⟨w.heap.size, 1, none⟩ = some (.int .i64 f.size) := by simp
  have c2 : ((w.alloc (Obj.cells #[.int .i64 f.at_, .int .i64 f.size] 23)).alloc (Obj.cells #[.int .i64 g.at_, .int .i64 g.size] 23)).cell? ⟨w.heap.size + 1, 0, none⟩ = some (.int .i64 g.at_) := by simp
  have c3 : ((w.alloc (Obj.cells #[.int .i64 f.at_, .int .i64 f.size] 23)).alloc (Obj.cells #[.int .i64 g.at_, .int .i64 g.size] 23)).cell? ⟨w.heap.size + 1, 1, none⟩ = some (.int .i64 g.size) := by simp
  have hB : Below w.heap.size w ((w.alloc (Obj.cells #[.int .i64 f.at_, .int .i64 f.size] 23)).alloc (Obj.cells #[.int .i64 g.at_, .int .i64 g.size] 23)) := (below1 _ _).alloc (by simp) _
  cases hf : rightF f
  · go_enter Try.func19, Try.ntmps19
    go_wp2_with (go_at_call 12; (with_reducible refine (refRight_at f _).mono ?_); rintro e w2 ⟨rfl, hb⟩; rw [hf])
    go_ret
    exact ⟨ret_bool (apart_f1 hf).symm, bstep hB (by simp) hb⟩
  · cases hg : rightF g
    · go_enter Try.func19, Try.ntmps19
      go_wp2_with (first | (go_at_call 12; (with_reducible refine (refRight_at f _).mono ?_); rintro e w2 ⟨rfl, hb⟩; rw [hf]; replace c2 := kcell hb c2; replace c3 := kcell hb c3; replace hB := bstep hB (by simp) hb; clear hb) | (go_at_call 12; (with_reducible refine (refRight_at g _).mono ?_); rintro e w2 ⟨rfl, hb⟩; rw [hg]; replace hB := bstep hB (by simp) hb))
      go_ret
      exact ⟨ret_bool (apart_f2 hg).symm, hB⟩
    · have h1 := rightF_t hf
      have h2 := rightF_t hg
      have HA := Lib.hid (clear_all hf hg)
      have HN := Lib.hid (fun i : Nat => clear_not (f := f) (g := g) hf hg i)
      obtain ⟨g1, g2, g3, g4⟩ := h1
      obtain ⟨g5, g6, g7, g8⟩ := h2
      go_enter Try.func19, Try.ntmps19
      go_wp2_with (first | (go_at_call 12; (with_reducible refine (refRight_at f _).mono ?_); rintro e w2 ⟨rfl, hb⟩; rw [hf]; replace c0 := kcell hb c0; replace c1 := kcell hb c1; replace c2 := kcell hb c2; replace c3 := kcell hb c3; replace hB := bstep hB (by simp) hb; clear hb) | (go_at_call 12; (with_reducible refine (refRight_at g _).mono ?_); rintro e w3 ⟨rfl, hb⟩; rw [hg]; replace c0 := kcell hb c0; replace c1 := kcell hb c1; replace c2 := kcell hb c2; replace c3 := kcell hb c3; replace hB := bstep hB (by simp) hb; clear hb))
      go_loop [5] (fun i => ∃ k : Nat, k ≤ 64 ∧ i = .int .i64 k ∧ Hid (clearTo f g k)) (fun i => 64 - (intOf i).toNat)
      case atStart => exact ⟨0, by omega, rfl, fun i hi => by omega⟩
      case round =>
        obtain ⟨k, hk, rfl, HC⟩ := hrel
        by_cases hlt : k < 64
        · by_cases hin : f.at_ ≤ k ∧ (k : Int) < f.at_ + f.size ∧ g.at_ ≤ k ∧ (k : Int) < g.at_ + g.size
          · have HR := Lib.hid (HN.out k hin)
            obtain ⟨i1, i2, i3, i4⟩ := hin
            go_wp2
            go_ret
            exact ⟨ret_bool HR.out.symm, hB⟩
          · have HC2 : Hid (clearTo f g (k + 1)) := fun i hi => by
              by_cases he : i = k
              · subst he; exact hin
              · exact HC.out i (by omega)
            have HI := Lib.hid hin
            clear hin
            go_wp2
            all_goals first | (exfalso; exact HI.out ⟨by omega, by omega, by omega, by omega⟩) | skip
            all_goals go_round
            all_goals first | (case rel => exact ⟨k + 1, by omega, by go_num, HC2.out⟩) | skip
            all_goals first | (case measure => simp [intOf]; omega) | skip
        · obtain rfl : k = 64 := by omega
          go_wp2
          go_ret
          exact ⟨ret_bool (HA.out HC.out).symm, hB⟩
end Go.Proofs.Ytcenphlgclmjnaa
