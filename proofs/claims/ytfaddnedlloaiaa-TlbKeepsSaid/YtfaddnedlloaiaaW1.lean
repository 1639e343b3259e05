/- Walks: the place of a page's translation, and taking one out. -/
import Derived.Test.YtfaddnedlloaiaaDel
import Derived.Test.YtfaddnedlloaiaaM1
import Derived.Shelf.Abstract
namespace Go.Proofs.Ytfaddnedlloaiaa
open Go.RowKit Go.Lib

def eE (e : En) : List Value := [.int .i64 e.env, .int .i64 e.page, .int .i64 e.frame, .bool e.write]
def enV (e : En) : Value := .agg #[.int .i64 e.env, .int .i64 e.page, .int .i64 e.frame, .bool e.write]
theorem eE_ok : EncOk eE 4 := ⟨fun _ => rfl, fun x u hu => by simp [eE] at hu; rcases hu with rfl | rfl | rfl | rfl <;> rfl⟩
theorem info_en : (Try.prog.info? 31).map (fun i => (i.zero, i.size, i.bytes)) = some (some (.agg #[.int .i64 0, .int .i64 0, .int .i64 0, .bool false]), 4, 32) := by kernel_rfl
theorem elE : Elem Try.prog 28 31 4 32 := elem_mk Try.underlying28 info_en rfl (by omega)
theorem Sl.en_at {w : World} {A : Option Addr} {xs : List En} {i : Nat} (h : Sl eE 4 w A xs) (hi : i < xs.length) :
    ∃ b off, A = some ⟨b, off, none⟩ ∧ w.cell? ⟨b, off + i * 4, none⟩ = some (.int .i64 xs[i].env) ∧ w.cell? ⟨b, off + i * 4 + 1, none⟩ = some (.int .i64 xs[i].page) ∧ w.cell? ⟨b, off + i * 4 + 1 + 1, none⟩ = some (.int .i64 xs[i].frame) ∧ w.cell? ⟨b, off + i * 4 + 1 + 1 + 1, none⟩ = some (.bool xs[i].write) := by
  obtain ⟨b, off, hA, hc⟩ := h.at_ hi
  refine ⟨b, off, hA, ?_, ?_, ?_, ?_⟩
  · simpa using hc 0 _ (show (eE xs[i])[0]? = some (.int .i64 xs[i].env) from rfl)
  · simpa [Nat.add_assoc] using hc 1 _ (show (eE xs[i])[1]? = some (.int .i64 xs[i].page) from rfl)
  · simpa [Nat.add_assoc] using hc 2 _ (show (eE xs[i])[2]? = some (.int .i64 xs[i].frame) from rfl)
  · simpa [Nat.add_assoc] using hc 3 _ (show (eE xs[i])[3]? = some (.bool xs[i].write) from rfl)

/-- the buffer in block g, its row behind it -/
def Tb (w : World) (g : Nat) (A : Option Addr) (c : Nat) (L : List En) (h m : Int) : Prop :=
  Blk w g 30 #[.slice A L.length c, .int .i64 h, .int .i64 m] ∧ Own eE 4 w (g + 1) 31 A c L
theorem Tb.keep {w w' : World} {g : Nat} {A : Option Addr} {c : Nat} {L : List En} {h m : Int} (t : Tb w g A c L h m) (hb : Below w.heap.size w w') : Tb w' g A c L h m := ⟨t.1.keep hb, t.2.keep hb⟩

set_option maxHeartbeats 1000000 in
theorem clos_any (a p : Int) (e : En) (b1 b2 : Nat) (w : World) (c1 : w.cell? ⟨b1, 0, none⟩ = some (.int .i64 a)) (c2 : w.cell? ⟨b2, 0, none⟩ = some (.int .i64 p)) :
    Calls Try.prog 13 #[.agg #[.int .i64 e.env, .int .i64 e.page, .int .i64 e.frame, .bool e.write], .pointer (some ⟨b1, 0, none⟩), .pointer (some ⟨b2, 0, none⟩)] w fun r w' => r = .returned (.bool (hasK a p e)) ∧ Below w.heap.size w w' := by
  have h1 := kcell (below1 w (Obj.cells #[.int .i64 e.env, .int .i64 e.page, .int .i64 e.frame, .bool e.write] 31)) c1
  have h2 := kcell (below1 w (Obj.cells #[.int .i64 e.env, .int .i64 e.page, .int .i64 e.frame, .bool e.write] 31)) c2
  clear c1 c2
  cases e1 : (e.env == a)
  · have HH : Hid (hasK a p e = false) := by unfold Hid hasK; rw [e1]; rfl
    go_enter Try.func13, Try.ntmps13
    go_wp2
    go_ret
    exact ⟨ret_bool HH.out.symm, below1 _ _⟩
  · have HH : Hid (hasK a p e = (e.page == p)) := by unfold Hid hasK; rw [e1]; rfl
    go_enter Try.func13, Try.ntmps13
    go_wp2
    go_ret
    exact ⟨ret_bool HH.out.symm, below1 _ _⟩

theorem enter_clos : ∀ args w, (callFunc 13 args).run Try.prog w = .ok (.enter 13 args) w := enters_of Try.func13 (by kernel_rfl) rfl

theorem plc_hit {L : List En} {a p : Int} {k : Nat} (hk : k < L.length) (h : hasK a p L[k] = true) (h2 : ∀ j, (hj : j < k) → hasK a p L[j] = false) : plc L a p = k := by
  unfold plc fi
  rw [List.findIdx?_eq_some_iff_getElem.2 ⟨hk, h, fun j hj => by rw [h2 j hj]; simp⟩]
theorem plc_miss {L : List En} {a p : Int} (h : ∀ j, (hj : j < L.length) → hasK a p L[j] = false) : plc L a p = -1 := by
  unfold plc fi
  rw [List.findIdx?_eq_none_iff.2 (fun x hx => by obtain ⟨j, hj, rfl⟩ := List.getElem_of_mem hx; exact h j hj)]

set_option maxRecDepth 100000 in
set_option maxHeartbeats 2000000 in
theorem index_any (A : Option Addr) (L : List En) (c : Nat) (a p : Int) (b1 b2 : Nat) (w : World) (hs : Sl eE 4 w A L) (hl : L.length ≤ 1000) (c1 : w.cell? ⟨b1, 0, none⟩ = some (.int .i64 a)) (c2 : w.cell? ⟨b2, 0, none⟩ = some (.int .i64 p)) :
    Calls Try.prog 12 #[.slice A L.length c, .func (.func 13) #[] #[.pointer (some ⟨b1, 0, none⟩), .pointer (some ⟨b2, 0, none⟩)]] w fun e w' => e = .returned (.int .i64 (plc L a p)) ∧ Below w.heap.size w w' := by
  have eg := enter_clos
  go_enter Try.func12, Try.ntmps12
  go_wp2
  go_loopw [5, 8] (fun _ s8 wr => ∃ k : Nat, k ≤ L.length ∧ s8 = .int .i64 k ∧ Below w.heap.size w wr ∧ Hid (∀ j, (hj : j < L.length) → j < k → hasK a p L[j] = false)) (fun _ i _ => L.length - (intOf i).toNat)
  case atStart => exact ⟨0, Nat.zero_le _, rfl, Below.refl _ w, fun j hj h => absurd h (Nat.not_lt_zero _)⟩
  case round =>
    obtain ⟨k, hk, rfl, hB, HA⟩ := hrel
    by_cases hlt : k < L.length
    · obtain ⟨b, off, rfl, y0, y1, y2, y3⟩ := (hs.keep hB).en_at hlt
      have k0 : (0 : Int) ≤ (k : Int) := by omega
      have k1 : (k : Int) < (L.length : Int) := by omega
      have hc := clos_any a p L[k] b1 b2 wr (kcell hB c1) (kcell hB c2)
      have HQ : Hid (hasK a p L[k] = true → plc L a p = k) := fun h => plc_hit hlt h (fun j hj => HA.out j (by omega) hj)
      have HN : Hid (hasK a p L[k] = false → ∀ j, (hj : j < L.length) → j < k + 1 → hasK a p L[j] = false) := fun h j hj hjk => by
        by_cases he : j = k
        · subst he; exact h
        · exact HA.out j hj (by omega)
      clear HA
      generalize L[k] = y at *
      cases hq : hasK a p y with
      | true =>
        rw [hq] at hc
        have HQ2 := Lib.hid (HQ.out hq)
        go_wp2_with (go_at_fn 13; (with_reducible refine hc.mono ?_); rintro e w' ⟨rfl, hb⟩)
        go_ret
        exact ⟨ret_int HQ2.out.symm, bstep hB (Nat.le_refl _) hb⟩
      | false =>
        rw [hq] at hc
        have HN2 := Lib.hid (HN.out hq)
        go_wp2_with (go_at_fn 13; (with_reducible refine hc.mono ?_); rintro e w' ⟨rfl, hb⟩)
        go_roundw
        case rel => exact ⟨k + 1, by omega, by go_num, bstep hB (Nat.le_refl _) hb, HN2.out⟩
        case measure => simp [intOf]; omega
    · obtain rfl : k = L.length := by omega
      go_wp2
      go_ret
      exact ⟨ret_int (plc_miss (fun j hj => HA.out j hj hj)).symm, hB⟩

end Go.Proofs.Ytfaddnedlloaiaa
