/- Walks: the chapter's example; the statement TlbKeeps. -/
import Derived.Test.YtfaddnedlloaiaaW5
import Derived.Test.YtfaddnedlloaiaaAft
namespace Go.Proofs.Ytfaddnedlloaiaa
open Go.RowKit Go.Lib

def RetLA (g : Nat) (L : List En) (h m : Int) (w : World) (e : Ending) (w' : World) : Prop := ∃ (y : En) (b : Bool) (r : Int) (A : Option Addr) (c : Nat), e = .returned (.tuple #[.agg #[.int .i64 y.env, .int .i64 y.page, .int .i64 y.frame, .bool y.write], .bool b, .int .i64 r]) ∧ Tb w' g A c L h m ∧ Below g w w'
theorem load_any (X : En) (g : Nat) (A : Option Addr) (c : Nat) (L : List En) (h m : Int) (w : World) (ht : Tb w g A c L h m) (hl : L.length ≤ 100) :
    Calls Try.prog 6 #[.pointer (some ⟨g, 0, none⟩), .agg #[.int .i64 X.env, .int .i64 X.page, .int .i64 X.frame, .bool X.write]] w (RetLA g (if rightE X then ld L X else L) h m w) := by
  have hgw : g < w.heap.size := ht.1.lt
  cases hX : rightE X
  · refine (load_no X g w hX).mono ?_
    rintro e w' ⟨rfl, hb⟩
    exact ⟨zeroE, false, 1, A, c, rfl, ht.keep hb, hb.mono (by omega)⟩
  · refine (load_yes X g A c L h m w hX ht hl).mono ?_
    rintro e w' ⟨y, b, A', c', rfl, ht', hb⟩
    exact ⟨y, b, 0, A', c', rfl, ht', hb⟩
def RetKA (g : Nat) (L : List En) (h m : Int) (w : World) (e : Ending) (w' : World) : Prop := ∃ (v r : Int) (A : Option Addr) (c : Nat) (h' m' : Int), e = .returned (.tuple #[.int .i64 v, .int .i64 r]) ∧ Tb w' g A c L h' m' ∧ Below g w w' ∧ 0 ≤ h' ∧ h' ≤ h + 1 ∧ 0 ≤ m' ∧ m' ≤ m + 1
theorem look_any (a p : Int) (g : Nat) (A : Option Addr) (c : Nat) (L : List En) (h m : Int) (w : World) (ht : Tb w g A c L h m) (hl : L.length ≤ 100) (hh0 : 0 ≤ h) (hh1 : h ≤ 1000) (hm0 : 0 ≤ m) (hm1 : m ≤ 1000) :
    Calls Try.prog 8 #[.pointer (some ⟨g, 0, none⟩), .int .i64 a, .int .i64 p, .bool false] w (RetKA g (lk L a p) h m w) := by
  unfold lk
  cases hf : fi L a p with
  | none =>
    refine (look_no a p false g A c L h m w ht hl hf hm0 hm1).mono ?_
    rintro e w' ⟨A', c', rfl, ht', hb⟩
    exact ⟨_, _, A', c', _, _, rfl, ht', hb, hh0, by omega, by omega, by omega⟩
  | some i =>
    obtain ⟨hi, hx⟩ := fi_some hf
    simp only [List.getElem?_eq_getElem hi, Option.toList_some]
    refine (look_yes a p false g A c L h m i L[i] w ht hl hf (List.getElem?_eq_getElem hi) (fun h => by cases h) hh0 hh1).mono ?_
    rintro e w' ⟨A', c', rfl, ht', hb⟩
    exact ⟨_, _, A', c', _, _, rfl, ht', hb, by omega, by omega, by omega, by omega⟩
theorem Tb.new (w : World) {g : Nat} (hg : w.heap.size = g) : Tb (w.alloc (Obj.cells #[.slice none 0 0, .int .i64 0, .int .i64 0] 30)) g none 0 [] 0 0 := ⟨Blk.new' w _ _ hg, Own.nil _ _ _⟩
theorem lowblk {w w' : World} {B q : Nat} {t : TypeId} {cs : Array Value} (h : Blk w q t cs) (hb : Below B w w') (hq : q < B) : Blk w' q t cs := (hb.block q hq).trans h

def exE : En := ⟨1, 5, 3, false⟩
set_option maxRecDepth 100000 in
set_option maxHeartbeats 2000000 in
theorem awake_any (w : World) : Calls Try.prog 4 #[] w fun e w' => e = .returned (.bool true) ∧ Below w.heap.size w w' := by
  have H1 : Hid (ld [] exE = [exE]) := rfl
  have H2 : Hid (fi [exE] 1 5 = some 0) := by unfold Hid; decide
  have H3 : Hid (([exE] : List En).eraseIdx 0 ++ [exE] = [exE]) := rfl
  go_enter Try.func4, Try.ntmps4
  go_wp2_with fail
  refine (load_yes exE w.heap.size none 0 [] 0 0 _ (by decide) (Tb.new w rfl) (by simp)).mono ?_
  rintro e w1 ⟨y, b, A1, c1, rfl, ht, hb⟩
  rw [H1.out] at ht
  have hB : Below w.heap.size w w1 := (below1 _ _).trans hb
  clear hb
  replace hB := hB.alloc hB.size (Obj.cells #[.int .i64 y.env, .int .i64 y.page, .int .i64 y.frame, .bool y.write] 31)
  replace ht := ht.keep (below1 w1 (Obj.cells #[.int .i64 y.env, .int .i64 y.page, .int .i64 y.frame, .bool y.write] 31))
  go_wp2_with fail
  refine (look_yes 1 5 false w.heap.size A1 c1 [exE] 0 0 0 exE _ ht (by simp) H2.out rfl (fun h => by cases h) (by omega) (by omega)).mono ?_
  rintro e w2 ⟨A2, c2, rfl, ht2, hb⟩
  rw [H3.out] at ht2
  replace hB := hB.trans hb
  clear hb ht
  go_wp2_with fail
  refine (look_cap 1 5 w.heap.size A2 c2 [exE] _ 0 0 exE _ ht2 (by simp) H2.out rfl rfl).mono ?_
  rintro e w3 ⟨A3, c3, rfl, ht3, hb⟩
  replace hB := hB.trans hb
  clear hb ht2 ht3
  go_wp2_with fail
  go_ret
  exact ⟨rfl, hB⟩

set_option maxRecDepth 100000 in
set_option maxHeartbeats 8000000 in
theorem keeps_any (E : En) (A : Option Addr) (l : List En) (c : Nat) (w : World) (hs : Sl eE 4 w A l) (hl : l.length ≤ 9223372036854775807) :
    Calls Try.prog 3 #[.agg #[.int .i64 E.env, .int .i64 E.page, .int .i64 E.frame, .bool E.write], .slice A l.length c] w fun e w' => e = .returned (.bool true) ∧ Below w.heap.size w w' := by
  have hB1 := below1 w (Obj.cells #[.int .i64 E.env, .int .i64 E.page, .int .i64 E.frame, .bool E.write] 23)
  have bE := Blk.new w 23 #[.int .i64 E.env, .int .i64 E.page, .int .i64 E.frame, .bool E.write]
  have hR := Lib.hid (fun W => rRight_any E W)
  have hT := Lib.hid (fun W => to_any E W)
  cases hX : rightE E
  · rw [hX] at hR
    go_enter Try.func3, Try.ntmps3
    go_wp2_with fail
    refine (awake_any _).mono ?_
    rintro e w1 ⟨rfl, hb⟩
    replace hB1 := bstep hB1 (Nat.le_refl _) hb
    replace bE := bE.keep hb
    have e0 := bE.cell 0 (.int .i64 E.env) rfl
    have e1 := bE.cell 1 (.int .i64 E.page) rfl
    have e2 := bE.cell 2 (.int .i64 E.frame) rfl
    have e3 := bE.cell 3 (.bool E.write) rfl
    go_wp2_with fail
    refine (hR.out _).mono ?_
    rintro e w2 ⟨rfl, hb2⟩
    replace hB1 := bstep hB1 (Nat.le_refl _) hb2
    go_wp2_with fail
    refine (awake_any _).mono ?_
    rintro e w3 ⟨rfl, hb3⟩
    go_wp2_with fail
    go_ret
    exact ⟨rfl, bstep hB1 (Nat.le_refl _) hb3⟩
  · rw [hX] at hR
    by_cases h15 : 15 < l.length
    · have h15' : (15 : Int) < (l.length : Int) := by omega
      go_enter Try.func3, Try.ntmps3
      go_wp2_with fail
      refine (awake_any _).mono ?_
      rintro e w1 ⟨rfl, hb⟩
      replace hB1 := bstep hB1 (Nat.le_refl _) hb
      replace bE := bE.keep hb
      have e0 := bE.cell 0 (.int .i64 E.env) rfl
      have e1 := bE.cell 1 (.int .i64 E.page) rfl
      have e2 := bE.cell 2 (.int .i64 E.frame) rfl
      have e3 := bE.cell 3 (.bool E.write) rfl
      go_wp2_with fail
      refine (hR.out _).mono ?_
      rintro e w2 ⟨rfl, hb2⟩
      replace hB1 := bstep hB1 (Nat.le_refl _) hb2
      go_wp2_with fail
      refine (awake_any _).mono ?_
      rintro e w3 ⟨rfl, hb3⟩
      go_wp2_with fail
      go_ret
      exact ⟨rfl, bstep hB1 (Nat.le_refl _) hb3⟩
    · have h15' : ¬ (15 : Int) < (l.length : Int) := by omega
      go_enter Try.func3, Try.ntmps3
      go_wp2_with fail
      refine (awake_any _).mono ?_
      rintro e w1 ⟨rfl, hb⟩
      replace hB1 := bstep hB1 (Nat.le_refl _) hb
      replace bE := bE.keep hb
      have e0 := bE.cell 0 (.int .i64 E.env) rfl
      have e1 := bE.cell 1 (.int .i64 E.page) rfl
      have e2 := bE.cell 2 (.int .i64 E.frame) rfl
      have e3 := bE.cell 3 (.bool E.write) rfl
      go_wp2_with fail
      refine (hR.out _).mono ?_
      rintro e w2 ⟨rfl, hb2⟩
      replace hB1 := bstep hB1 (Nat.le_refl _) hb2
      have hbg : w.heap.size < w2.heap.size := (bE.keep hb2).lt
      replace bE := (bE.keep hb2).alloc (Obj.cells #[.slice none 0 0, .int .i64 0, .int .i64 0] 30)
      clear e0 e1 e2 e3 hb hb2 hR
      have hgs := hB1.size
      replace hB1 := hB1.alloc hB1.size (Obj.cells #[.slice none 0 0, .int .i64 0, .int .i64 0] 30)
      have ht := Tb.new w2 rfl
      have e0 := bE.cell 0 (.int .i64 E.env) rfl
      have e1 := bE.cell 1 (.int .i64 E.page) rfl
      have e2 := bE.cell 2 (.int .i64 E.frame) rfl
      have e3 := bE.cell 3 (.bool E.write) rfl
      go_wp2_with fail
      refine (hT.out _).mono ?_
      rintro e w3 ⟨rfl, hb⟩
      replace hB1 := bstep hB1 (Nat.le_refl _) hb
      replace ht := ht.keep hb
      replace bE := bE.keep hb
      clear hb e0 e1 e2 e3
      go_wp2_with fail
      refine (load_yes E w2.heap.size none 0 [] 0 0 _ hX ht (by simp)).mono ?_
      rintro e w4 ⟨y, b, A4, c4, rfl, ht4, hb⟩
      replace hB1 := hB1.trans (hb.mono hgs)
      replace bE := lowblk bE hb hbg
      have HI := Lib.hid (new_inv E)
      clear hb ht
      generalize ld [] E = L0 at *
      generalize w2.heap.size = g at *
      clear hT hX
      go_wp2_with fail
      go_loopw [6] (fun vi wr => ∃ (k : Nat) (L : List En) (A' : Option Addr) (c' : Nat) (h m : Int), k ≤ l.length ∧ vi = .int .i64 k ∧ Hid (Inv E k L) ∧ Tb wr g A' c' L h m ∧ 0 ≤ h ∧ h ≤ k ∧ 0 ≤ m ∧ m ≤ k ∧ Blk wr w.heap.size 23 #[.int .i64 E.env, .int .i64 E.page, .int .i64 E.frame, .bool E.write] ∧ Below w.heap.size w wr) (fun i _ => l.length - (intOf i).toNat)
      case atStart => exact ⟨0, L0, A4, c4, 0, 0, Nat.zero_le _, rfl, HI.out, ht4, by omega, by omega, by omega, by omega, bE, hB1⟩
      case round =>
        clear HI ht4 hB1 bE
        obtain ⟨k, L, A', c', h, m, hk, rfl, HI, ht, hh0, hh1, hm0, hm1, bE, hB⟩ := hrel
        have e0 := bE.cell 0 (.int .i64 E.env) rfl
        have e1 := bE.cell 1 (.int .i64 E.page) rfl
        have e2 := bE.cell 2 (.int .i64 E.frame) rfl
        have e3 := bE.cell 3 (.bool E.write) rfl
        have hlen := HI.out.len
        by_cases hlt : k < l.length
        · obtain ⟨b0, off, rfl, y0, y1, y2, y3⟩ := (hs.keep hB).en_at hlt
          have k0 : (0 : Int) ≤ (k : Int) := by omega
          have k1 : (k : Int) < (l.length : Int) := by omega
          have HY := Lib.hid (fun W (hW : Below w.heap.size w W) => (hs.keep hW).en_at hlt)
          generalize l[k] = X at *
          by_cases hkey : X.env = E.env ∧ X.page = E.page
          · have q1 : (X.env != E.env) = false := by simp [hkey.1]
            have q2 : (X.page != E.page) = false := by simp [hkey.2]
            clear hkey
            go_wp2_with fail
            go_quiet (fail)
            go_wp2_with fail
            go_roundw
            case rel => exact ⟨k + 1, L, A', c', h, m, by omega, by go_num, more_inv HI.out, ⟨ht.1.drewN _, ht.2.drewN _⟩, hh0, by omega, hm0, by omega, bE.drewN _, bdrewN hB _⟩
            case measure => simp [intOf]; omega
          · have HK := Lib.hid hkey
            have HI2 : Hid (Inv E (k + 1) (lk (if rightE X then ld L X else L) X.env X.page)) := by
              show Inv E (k + 1) _
              cases rightE X
              · exact lk_inv HI.out hkey
              · exact step_inv HI.out hkey (by omega)
            have hl2 : (if rightE X then ld L X else L).length ≤ 100 := by
              split
              · have := gone_len L X
                simp [ld]; omega
              · omega
            have tX := Lib.hid (fun W => to_any X W)
            have HLD := Lib.hid (fun W hW => load_any X g A' c' L h m W hW (by omega))
            have HLK := Lib.hid (fun W A2 c2 hW => look_any X.env X.page g A2 c2 (if rightE X then ld L X else L) h m W hW hl2 hh0 (by omega) hm0 (by omega))
            have HEQ : Hid ((X.env != E.env) = true ∨ ((X.env != E.env) = false ∧ (X.page != E.page) = true)) := by
              show _ ∨ _
              by_cases hE : X.env = E.env
              · right; exact ⟨by simp [hE], by simp; intro h; exact hkey ⟨hE, h⟩⟩
              · left; simp [hE]
            clear hkey
            rcases HEQ.out with q1 | ⟨q1, q2⟩
            all_goals
              go_wp2_with fail
              go_quiet (fail)
              go_wp2_with fail
              refine (tX.out _).mono ?_
              rintro e w5 ⟨rfl, hb5⟩
              have hB5 := bstep (bdrewN hB _) (Nat.le_refl _) hb5
              have ht5 := Tb.keep (w := wr.drewN _) ht hb5
              have bE5 := Blk.keep (w := wr.drewN _) bE hb5
              clear hb5 e0 e1 e2 e3 y0 y1 y2 y3
              go_wp2_with fail
              refine (HLD.out _ ht5).mono ?_
              rintro e w6 ⟨y, b, r, A6, c6, rfl, ht6, hb6⟩
              have hB6 := hB5.trans (hb6.mono hgs)
              have bE6 := lowblk bE5 hb6 hbg
              clear hb6 ht5 bE5 hB5
              obtain ⟨b0', off', hA', y0, y1, y2, y3⟩ := HY.out w6 hB6
              injection hA' with hA'
              injection hA' with h1 h2
              subst h1 h2
              go_wp2_with fail
              go_region_with ((go_at_call 8; refine (HLK.out _ A6 c6 ⟨ht6.1.drew, ht6.2.drew⟩).mono ?_; rintro e w7 ⟨v7, r7, A7, c7, h7, m7, rfl, ht7, hb7, hh70, hh71, hm70, hm71⟩))
              all_goals
                have hB7 := (hB6.drew).trans (hb7.mono hgs)
                have bE7 := lowblk bE6.drew hb7 hbg
                go_wp2_with fail
                go_roundw
                case rel => exact ⟨k + 1, _, A7, c7, h7, m7, by omega, by go_num, HI2.out, ht7, hh70, by omega, hm70, by omega, bE7, hB7⟩
                case measure => simp [intOf]; omega
        · obtain rfl : k = l.length := by omega
          obtain ⟨i, hf, hx⟩ := at_last HI.out
          have HLY := Lib.hid (look_yes E.env E.page E.write g A' c' L h m i E wr ht (by omega) hf hx id hh0 (by omega))
          clear hf hx
          go_wp2_with fail
          refine HLY.out.mono ?_
          rintro e w6 ⟨A6, c6, rfl, ht6, hb⟩
          replace hB := hB.trans (hb.mono hgs)
          replace bE := lowblk bE hb hbg
          clear e0 e1 e2 e3 ht ht6 hb
          have e2 := bE.cell 2 (.int .i64 E.frame) rfl
          have hff : (E.frame == E.frame) = true := by simp
          go_wp2_with fail
          refine (awake_any _).mono ?_
          rintro e w7 ⟨rfl, hb⟩
          go_wp2_with fail
          go_ret
          exact ⟨rfl, bstep hB (Nat.le_refl _) hb⟩
end Go.Proofs.Ytfaddnedlloaiaa
