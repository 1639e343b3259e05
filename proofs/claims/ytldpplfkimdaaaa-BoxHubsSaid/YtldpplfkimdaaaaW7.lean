/- Walk: Pass, from a box to another one. -/
import Derived.Test.YtldpplfkimdaaaaW5
namespace Go.Proofs.Ytldpplfkimdaaaa
open Go.RowKit Go.Conc

/-- only the blocks of two boxes, and what is new, have turned -/
structure Ch2 (a w : World) (g h : Nat) : Prop where
  os : w.os = a.os
  tape : w.tape = a.tape
  output : w.output = a.output
  size : a.heap.size ≤ w.heap.size
  block : ∀ i, i < a.heap.size → i ≠ g → i ≠ g + 1 → i ≠ h → i ≠ h + 1 → w.heap[i]? = a.heap[i]?
theorem Ch2.refl (w : World) (g h : Nat) : Ch2 w w g h := ⟨rfl, rfl, rfl, Nat.le_refl _, fun _ _ _ _ _ _ => rfl⟩
theorem Ch2.one {a w w' : World} {g h : Nat} (k : Ch2 a w g h) (c : Ch w w' g) : Ch2 a w' g h :=
  ⟨c.os.trans k.os, c.tape.trans k.tape, c.output.trans k.output, Nat.le_trans k.size c.size, fun i hi h1 h2 h3 h4 => (c.block i (Nat.lt_of_lt_of_le hi k.size) h1 h2).trans (k.block i hi h1 h2 h3 h4)⟩
theorem Ch2.two {a w w' : World} {g h : Nat} (k : Ch2 a w g h) (c : Ch w w' h) : Ch2 a w' g h :=
  ⟨c.os.trans k.os, c.tape.trans k.tape, c.output.trans k.output, Nat.le_trans k.size c.size, fun i hi h1 h2 h3 h4 => (c.block i (Nat.lt_of_lt_of_le hi k.size) h3 h4).trans (k.block i hi h1 h2 h3 h4)⟩
theorem Ch2.below {a w w' : World} {g h : Nat} (k : Ch2 a w g h) (c : Below w.heap.size w w') : Ch2 a w' g h := k.one (Ch.of_below c)

def passN (b t : BoxS) : Nat := if t.shut then 0 else min b.l.length (t.room - t.l.length)
def passB (b t : BoxS) : BoxS := ⟨b.l.drop (passN b t), b.room, b.shut⟩
def passT (b t : BoxS) : BoxS := ⟨t.l ++ b.l.take (passN b t), t.room, t.shut⟩

set_option maxHeartbeats 2000000 in
theorem pass_shut (b t : BoxS) (g h : Nat) (w : World) (hb : Bx w g b) (ht : Bx w h t) (hne : g ≠ h) (hs : t.shut = true) :
    Calls Try.prog 16 #[.pointer (some ⟨g + 1, 0, none⟩), .pointer (some ⟨h + 1, 0, none⟩)] w fun e w' => e = .returned (.int .i64 0) ∧ w' = w := by
  have heq := eql_box_no hb ht hne
  have c2 := ht.2.cell 2 (.bool t.shut) rfl
  rw [hs] at c2
  have m1 := Lib.hid (made_yes b g w hb)
  have m2 := Lib.hid (made_yes t h w ht)
  go_enter Try.func16, Try.ntmps16
  go_wp2_with (go_at_call 28; (first | (with_reducible refine m1.out.mono ?_) | (with_reducible refine m2.out.mono ?_)); rintro e w2 ⟨rfl, rfl⟩)
  go_ret
  exact ⟨rfl, rfl⟩

set_option maxRecDepth 100000 in
set_option maxHeartbeats 4000000 in
theorem pass_open (b t : BoxS) (g h : Nat) (w : World) (hb : Bx w g b) (ht : Bx w h t) (hne : g ≠ h) (hn1 : g ≠ h + 1) (hn2 : g + 1 ≠ h) (hs : t.shut = false) (h64 : t.room ≤ 64) (N : Nat) (hN : Hid (N = min b.l.length (t.room - t.l.length))) :
    Calls Try.prog 16 #[.pointer (some ⟨g + 1, 0, none⟩), .pointer (some ⟨h + 1, 0, none⟩)] w fun e w' => e = .returned (.int .i64 N) ∧ Bx w' g ⟨b.l.drop N, b.room, b.shut⟩ ∧ Bx w' h ⟨t.l ++ b.l.take N, t.room, t.shut⟩ ∧ Ch2 w w' g h := by
  have heq := eql_box_no hb ht hne
  have c2 := ht.2.cell 2 (.bool t.shut) rfl
  rw [hs] at c2
  have m1 := Lib.hid (made_yes b g w hb)
  have m2 := Lib.hid (made_yes t h w ht)
  go_enter Try.func16, Try.ntmps16
  go_wp2_with (go_at_call 28; (first | (with_reducible refine m1.out.mono ?_) | (with_reducible refine m2.out.mono ?_)); rintro e w2 ⟨rfl, rfl⟩)
  clear heq c2 m1 m2
  go_loopw [5] (fun vn wr => ∃ k : Nat, vn = .int .i64 k ∧ k ≤ N ∧ Bx wr g ⟨b.l.drop k, b.room, b.shut⟩ ∧ Bx wr h ⟨t.l ++ b.l.take k, t.room, false⟩ ∧ Ch2 w wr g h) (fun vn _ => N - (intOf vn).toNat)
  case atStart => exact ⟨0, rfl, Nat.zero_le _, by simpa using hb, by simpa [hs] using (show Bx w h ⟨t.l, t.room, t.shut⟩ from ht), Ch2.refl _ _ _⟩
  case round =>
    clear hb ht
    obtain ⟨k, rfl, hk, hb, ht, hC⟩ := hrel
    have hlen : (t.l ++ b.l.take k).length = t.l.length + k := by
      have := hN.out
      simp
      omega
    have hL := Lib.hid (len_any _ h _ ht)
    simp only [hlen] at hL
    go_wp2_with fail
    refine hL.out.mono ?_
    rintro e w1 ⟨rfl, hB1⟩
    replace hb := hb.keep hB1
    replace ht := ht.keep hB1
    replace hC := hC.below hB1
    clear hB1 hL
    by_cases hroom : t.room ≤ t.l.length + k
    · have hr : (t.room : Int) ≤ (t.l.length : Int) + (k : Int) := by omega
      obtain rfl : k = N := by have := hN.out; omega
      go_wp2_with fail
      go_ret
      exact ⟨rfl, hb, by rw [hs]; exact ht, hC⟩
    · have hr : ¬ (t.room : Int) ≤ (t.l.length : Int) + (k : Int) := by omega
      by_cases hkb : k < b.l.length
      · have hd : b.l.drop k = b.l[k] :: b.l.drop (k + 1) := List.drop_eq_getElem_cons hkb
        have hT := Lib.hid (take_some b.l[k] (b.l.drop (k + 1)) b.room b.shut g w1 (by rw [← hd]; exact hb))
        have hkN : k + 1 ≤ N := by have := hN.out; omega
        have hk64 : k < 64 := by have := hN.out; omega
        have htk : b.l.take k ++ [b.l[k]] = b.l.take (k + 1) := by rw [List.take_add_one]; simp [hkb]
        generalize b.l[k] = x at *
        clear hd hb
        go_wp2_with fail
        refine hT.out.mono ?_
        rintro e w2 ⟨rfl, hb, hc⟩
        clear hT
        replace ht := (ht.far hc (Ne.symm hne) (by omega) (by omega)).alloc (Obj.cells #[.int .i64 x.from_, .int .u64 x.word] 32)
        replace hC := (hC.one hc).below (below1 w2 (Obj.cells #[.int .i64 x.from_, .int .u64 x.word] 32))
        replace hb := hb.alloc (Obj.cells #[.int .i64 x.from_, .int .u64 x.word] 32)
        have hP := Lib.hid (put_open _ x h _ ht rfl (by simp only [hlen]; omega))
        go_wp2_with fail
        refine hP.out.mono ?_
        rintro e w3 ⟨rfl, ht3, hc3⟩
        replace hb := hb.far hc3 hne (by omega) (by omega)
        replace hC := hC.two hc3
        simp only [List.append_assoc, htk] at ht3
        clear hP ht hc hc3
        go_wp2_with fail
        go_roundw
        case rel => exact ⟨k + 1, by go_num, hkN, hb, ht3, hC⟩
        case measure => simp [intOf]; omega
      · obtain rfl : k = N := by have := hN.out; omega
        have hd : b.l.drop k = [] := List.drop_eq_nil_of_le (by omega)
        rw [hd] at hb
        have hT := Lib.hid (take_any _ g w1 hb)
        have hE : takeE ⟨[], b.room, b.shut⟩ = 25 ∨ takeE ⟨[], b.room, b.shut⟩ = 6 := by
          unfold takeE; cases b.shut <;> simp
        simp only [takeB, takeL, List.tail_nil] at hT
        generalize takeE ⟨[], b.room, b.shut⟩ = E at hE hT
        have hE2 : (E != 0) = true := by rcases hE with rfl | rfl <;> rfl
        clear hE
        go_wp2_with fail
        refine hT.out.mono ?_
        rintro e w2 ⟨rfl, hb2, hc⟩
        clear hT
        replace ht := (ht.far hc (Ne.symm hne) (by omega) (by omega)).alloc (Obj.cells #[.int .i64 0, .int .u64 0] 32)
        replace hC := (hC.one hc).below (below1 w2 (Obj.cells #[.int .i64 0, .int .u64 0] 32))
        replace hb2 := hb2.alloc (Obj.cells #[.int .i64 0, .int .u64 0] 32)
        go_wp2_with fail
        go_ret
        exact ⟨rfl, by rw [hd]; exact hb2, by rw [hs]; exact ht, hC⟩

theorem pass_any (b t : BoxS) (g h : Nat) (w : World) (hb : Bx w g b) (ht : Bx w h t) (hne : g ≠ h) (hn1 : g ≠ h + 1) (hn2 : g + 1 ≠ h) (h64 : t.room ≤ 64) :
    Calls Try.prog 16 #[.pointer (some ⟨g + 1, 0, none⟩), .pointer (some ⟨h + 1, 0, none⟩)] w fun e w' => e = .returned (.int .i64 (passN b t)) ∧ Bx w' g (passB b t) ∧ Bx w' h (passT b t) ∧ Ch2 w w' g h := by
  cases hs : t.shut
  · have hp : passN b t = min b.l.length (t.room - t.l.length) := by simp [passN, hs]
    unfold passB passT
    rw [hp]
    exact pass_open b t g h w hb ht hne hn1 hn2 hs h64 _ (Lib.hid rfl)
  · have hp : passN b t = 0 := by simp [passN, hs]
    unfold passB passT
    rw [hp]
    refine (pass_shut b t g h w hb ht hne hs).mono ?_
    rintro e w' ⟨rfl, rfl⟩
    exact ⟨rfl, by simpa using hb, by simpa using ht, Ch2.refl _ _ _⟩
end Go.Proofs.Ytldpplfkimdaaaa
