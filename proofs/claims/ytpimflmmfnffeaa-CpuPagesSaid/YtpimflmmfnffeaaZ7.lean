/- Texts laid as one: TM1, TW1, TW3r, TW2, TW3, TW4, TW5. -/
import Derived.Test.YtpimflmmfnffeaaZ1
import Derived.Test.YtpimflmmfnffeaaZ2
import Derived.Shelf.Abstract
import Derived.Deep.DeepCutAuto
import Derived.Deep.CutBlock
/- The plain law: translations in the order of their last use; one that was loaded stays while fewer than sixteen others come. -/
namespace Go.Proofs.Ytpimflmmfnffeaa.Tlb

structure En where
  env : Int
  page : Int
  frame : Int
  write : Bool

def hasK (a p : Int) (e : En) : Bool := e.env == a && e.page == p

theorem hasK_iff {a p : Int} {e : En} : hasK a p e = true ↔ e.env = a ∧ e.page = p := by simp [hasK]

def fi (L : List En) (a p : Int) : Option Nat := L.findIdx? (hasK a p)

def plc (L : List En) (a p : Int) : Int := match fi L a p with
  | some i => (i : Int)
  | none => -1

def goneL (L : List En) (X : En) : List En := match fi L X.env X.page with
  | some i => L.eraseIdx i
  | none => if 16 ≤ L.length then L.eraseIdx 0 else L

def ld (L : List En) (X : En) : List En := goneL L X ++ [X]

def lk (L : List En) (a p : Int) : List En := match fi L a p with
  | some i => L.eraseIdx i ++ (L[i]?).toList
  | none => L

def rightE (e : En) : Bool := decide (0 ≤ e.env ∧ e.env ≤ 7 ∧ 0 ≤ e.page ∧ e.page ≤ 65535 ∧ 0 ≤ e.frame ∧ e.frame ≤ 31)

/-- no two of one page -/
def Uni (L : List En) : Prop := L.Pairwise fun x y => ¬ (x.env = y.env ∧ x.page = y.page)

structure Inv (E : En) (k : Nat) (L : List En) : Prop where
  uni : Uni L
  len : L.length ≤ 16
  at_ : ∃ pre post, L = pre ++ E :: post ∧ post.length ≤ k

theorem fi_none {L : List En} {a p : Int} (h : fi L a p = none) : ∀ e ∈ L, ¬ (e.env = a ∧ e.page = p) := by
  intro e he hk
  have := List.findIdx?_eq_none_iff.1 h e he
  rw [hasK_iff.2 hk] at this
  cases this

theorem fi_some {L : List En} {a p : Int} {i : Nat} (h : fi L a p = some i) : ∃ hi : i < L.length, (L[i].env = a ∧ L[i].page = p) ∧ ∀ j, (hj : j < i) → ¬ (L[j].env = a ∧ L[j].page = p) := by
  obtain ⟨hi, h1, h2⟩ := List.findIdx?_eq_some_iff_getElem.1 h
  refine ⟨hi, hasK_iff.1 h1, fun j hj hk => ?_⟩
  have := h2 j hj
  rw [hasK_iff.2 hk] at this
  simp at this

theorem uni_erase {L : List En} (h : Uni L) (i : Nat) : Uni (L.eraseIdx i) := List.Pairwise.sublist (List.eraseIdx_sublist L i) h

theorem uni_snoc {L : List En} {X : En} (h : Uni L) (hx : ∀ e ∈ L, ¬ (e.env = X.env ∧ e.page = X.page)) : Uni (L ++ [X]) := by
  refine List.pairwise_append.2 ⟨h, List.pairwise_singleton _ _, fun a ha b hb => ?_⟩
  rw [List.mem_singleton] at hb
  subst hb
  exact hx a ha

/-- what is left has no other one of that page -/
theorem uni_left {L : List En} (h : Uni L) {i : Nat} (hi : i < L.length) : ∀ e ∈ L.eraseIdx i, ¬ (e.env = L[i].env ∧ e.page = L[i].page) := by
  intro e he hk
  rw [List.mem_eraseIdx_iff_getElem] at he
  obtain ⟨j, hj, hne, rfl⟩ := he
  have hp := List.pairwise_iff_getElem.1 h
  rcases Nat.lt_or_gt_of_ne hne with hlt | hgt
  · exact hp j i hj hi hlt hk
  · exact hp i j hi hj hgt ⟨hk.1.symm, hk.2.symm⟩

theorem erase_in {E : En} {pre post : List En} {i : Nat} (hi : i < (pre ++ E :: post).length) (hne : i ≠ pre.length) :
    ∃ pre' post', (pre ++ E :: post).eraseIdx i = pre' ++ E :: post' ∧ post'.length ≤ post.length ∧ (pre.length < i → post'.length + 1 = post.length) := by
  rcases Nat.lt_or_gt_of_ne hne with hlt | hgt
  · refine ⟨pre.eraseIdx i, post, ?_, Nat.le_refl _, fun h => absurd h (by omega)⟩
    rw [List.eraseIdx_append_of_lt_length hlt]
  · obtain ⟨m, rfl⟩ : ∃ m, i = pre.length + (m + 1) := ⟨i - pre.length - 1, by omega⟩
    have hm : m < post.length := by simp at hi; omega
    refine ⟨pre, post.eraseIdx m, ?_, List.length_eraseIdx_le _ _, fun _ => ?_⟩
    · rw [List.eraseIdx_append_of_length_le (by omega), show pre.length + (m + 1) - pre.length = m + 1 by omega, List.eraseIdx_cons_succ]
    · rw [List.length_eraseIdx, if_pos hm]; omega

theorem at_E (pre post : List En) (E : En) (h : pre.length < (pre ++ E :: post).length) : (pre ++ E :: post)[pre.length] = E := by
  rw [List.getElem_append_right (Nat.le_refl _)]
  simp

theorem lk_inv {E : En} {k : Nat} {L : List En} {a p : Int} (h : Inv E k L) (hk : ¬ (a = E.env ∧ p = E.page)) : Inv E (k + 1) (lk L a p) := by
  unfold lk
  cases hf : fi L a p with
  | none =>
    obtain ⟨u, l, pre, post, e, hp⟩ := h
    exact ⟨u, l, pre, post, e, by omega⟩
  | some i =>
    obtain ⟨hi, hki, _⟩ := fi_some hf
    simp only [List.getElem?_eq_getElem hi, Option.toList_some]
    obtain ⟨u, l, pre, post, e, hp⟩ := h
    refine ⟨uni_snoc (uni_erase u i) (uni_left u hi), ?_, ?_⟩
    · rw [List.length_append, List.length_eraseIdx, if_pos hi]; simp; omega
    · generalize L[i] = X at *
      subst e
      by_cases hne : i = pre.length
      · subst hne
        have hh := fi_some hf
        obtain ⟨_, hE, _⟩ := hh
        rw [at_E] at hE
        exact absurd ⟨hE.1.symm, hE.2.symm⟩ hk
      · obtain ⟨pre', post', e1, h1, _⟩ := erase_in hi hne
        exact ⟨pre', post' ++ [X], by rw [e1]; simp, by simp; omega⟩

theorem gone_inv {E X : En} {k : Nat} {L : List En} (h : Inv E k L) (hk : ¬ (X.env = E.env ∧ X.page = E.page)) (hk2 : k ≤ 14) : Inv E k (goneL L X) ∧ (∀ e ∈ goneL L X, ¬ (e.env = X.env ∧ e.page = X.page)) ∧ (goneL L X).length ≤ 15 := by
  unfold goneL
  cases hf : fi L X.env X.page with
  | none =>
    simp only
    have hx := fi_none hf
    split
    · rename_i h16
      obtain ⟨u, l, pre, post, e, hp⟩ := h
      refine ⟨⟨uni_erase u 0, by rw [List.length_eraseIdx]; split <;> omega, ?_⟩, fun e he => hx e (List.mem_of_mem_eraseIdx he), by rw [List.length_eraseIdx, if_pos (by omega)]; omega⟩
      subst e
      simp at h16
      obtain ⟨pre', post', e1, h1, _⟩ := erase_in (E := E) (pre := pre) (post := post) (i := 0) (by simp; omega) (by omega)
      exact ⟨pre', post', e1, by omega⟩
    · exact ⟨h, hx, by omega⟩
  | some i =>
    simp only
    obtain ⟨hi, hki, _⟩ := fi_some hf
    obtain ⟨u, l, pre, post, e, hp⟩ := h
    refine ⟨⟨uni_erase u i, by rw [List.length_eraseIdx, if_pos hi]; omega, ?_⟩, ?_, by rw [List.length_eraseIdx, if_pos hi]; omega⟩
    · subst e
      by_cases hne : i = pre.length
      · subst hne
        rw [at_E] at hki
        exact absurd ⟨hki.1.symm, hki.2.symm⟩ hk
      · obtain ⟨pre', post', e1, h1, _⟩ := erase_in hi hne
        exact ⟨pre', post', e1, by omega⟩
    · have := uni_left u hi
      rw [hki.1, hki.2] at this
      exact this

theorem ld_inv {E X : En} {k : Nat} {L : List En} (h : Inv E k L) (hk : ¬ (X.env = E.env ∧ X.page = E.page)) (hk2 : k ≤ 14) : Inv E (k + 1) (ld L X) := by
  obtain ⟨⟨u, l, pre, post, e, hp⟩, h2, h3⟩ := gone_inv h hk hk2
  refine ⟨uni_snoc u h2, by simp [ld]; omega, pre, post ++ [X], ?_, by simp; omega⟩
  rw [ld, e]; simp

/-- a look at what was just loaded moves nothing -/
theorem fi_last {L : List En} {X : En} (h : ∀ e ∈ L, ¬ (e.env = X.env ∧ e.page = X.page)) : fi (L ++ [X]) X.env X.page = some L.length := by
  unfold fi
  rw [List.findIdx?_append, List.findIdx?_eq_none_iff.2 (fun e he => ?_)]
  · simp [List.findIdx?_cons, hasK]
  · cases hc : hasK X.env X.page e with
    | false => rfl
    | true => exact absurd (hasK_iff.1 hc) (h e he)

theorem lk_ld {E X : En} {k : Nat} {L : List En} (h : Inv E k L) (hk : ¬ (X.env = E.env ∧ X.page = E.page)) (hk2 : k ≤ 14) : lk (ld L X) X.env X.page = ld L X := by
  obtain ⟨_, h2, _⟩ := gone_inv h hk hk2
  unfold lk ld
  rw [fi_last h2]
  simp [List.eraseIdx_append_of_length_le]

theorem step_inv {E X : En} {k : Nat} {L : List En} (h : Inv E k L) (hk : ¬ (X.env = E.env ∧ X.page = E.page)) (hk2 : k ≤ 14) : Inv E (k + 1) (lk (ld L X) X.env X.page) := by
  rw [lk_ld h hk hk2]
  exact ld_inv h hk hk2

theorem more_inv {E : En} {k : Nat} {L : List En} (h : Inv E k L) : Inv E (k + 1) L := by
  obtain ⟨u, l, pre, post, e, hp⟩ := h
  exact ⟨u, l, pre, post, e, by omega⟩

theorem new_inv (E : En) : Inv E 0 (ld [] E) := ⟨List.pairwise_singleton _ _, by simp [ld, goneL, fi], [], [], by simp [ld, goneL, fi], by simp⟩

theorem at_last {E : En} {k : Nat} {L : List En} (h : Inv E k L) : ∃ i, fi L E.env E.page = some i ∧ L[i]? = some E := by
  obtain ⟨u, l, pre, post, e, hp⟩ := h
  subst e
  cases hf : fi (pre ++ E :: post) E.env E.page with
  | none => exact absurd ⟨rfl, rfl⟩ (fi_none hf E (by simp))
  | some i =>
    obtain ⟨hi, hk, hj⟩ := fi_some hf
    refine ⟨i, rfl, ?_⟩
    have hp2 := List.pairwise_iff_getElem.1 u
    have hpl : pre.length < (pre ++ E :: post).length := by simp
    rcases Nat.lt_trichotomy i pre.length with h1 | h1 | h1
    · have := hp2 i pre.length hi hpl h1
      rw [at_E] at this
      exact absurd hk this
    · subst h1
      simp
    · have := hj pre.length h1
      rw [at_E] at this
      exact absurd ⟨rfl, rfl⟩ this

end Go.Proofs.Ytpimflmmfnffeaa.Tlb

/- Walks: the place of a page's translation, and taking one out. -/
namespace Go.Proofs.Ytpimflmmfnffeaa.Tlb
open Go.RowKit Go.Lib

def eE (e : En) : List Value := [.int .i64 e.env, .int .i64 e.page, .int .i64 e.frame, .bool e.write]

def enV (e : En) : Value := .agg #[.int .i64 e.env, .int .i64 e.page, .int .i64 e.frame, .bool e.write]

theorem eE_ok : EncOk eE 4 := ⟨fun _ => rfl, fun x u hu => by simp [eE] at hu; rcases hu with rfl | rfl | rfl | rfl <;> rfl⟩

theorem info_en : (Try.prog.info? 51).map (fun i => (i.zero, i.size, i.bytes)) = some (some (.agg #[.int .i64 0, .int .i64 0, .int .i64 0, .bool false]), 4, 32) := by kernel_rfl

theorem elE : Elem Try.prog 64 51 4 32 := elem_mk Try.underlying64 info_en rfl (by omega)

theorem _root_.Go.Proofs.Ytpimflmmfnffeaa.Sl.en_at {w : World} {A : Option Addr} {xs : List En} {i : Nat} (h : Sl eE 4 w A xs) (hi : i < xs.length) :
    ∃ b off, A = some ⟨b, off, none⟩ ∧ w.cell? ⟨b, off + i * 4, none⟩ = some (.int .i64 xs[i].env) ∧ w.cell? ⟨b, off + i * 4 + 1, none⟩ = some (.int .i64 xs[i].page) ∧ w.cell? ⟨b, off + i * 4 + 1 + 1, none⟩ = some (.int .i64 xs[i].frame) ∧ w.cell? ⟨b, off + i * 4 + 1 + 1 + 1, none⟩ = some (.bool xs[i].write) := by
  obtain ⟨b, off, hA, hc⟩ := h.at_ hi
  refine ⟨b, off, hA, ?_, ?_, ?_, ?_⟩
  · simpa using hc 0 _ (show (eE xs[i])[0]? = some (.int .i64 xs[i].env) from rfl)
  · simpa [Nat.add_assoc] using hc 1 _ (show (eE xs[i])[1]? = some (.int .i64 xs[i].page) from rfl)
  · simpa [Nat.add_assoc] using hc 2 _ (show (eE xs[i])[2]? = some (.int .i64 xs[i].frame) from rfl)
  · simpa [Nat.add_assoc] using hc 3 _ (show (eE xs[i])[3]? = some (.bool xs[i].write) from rfl)

/-- the buffer in block g, its row behind it -/
def Tb (w : World) (g : Nat) (A : Option Addr) (c : Nat) (L : List En) (h m : Int) : Prop :=
  Blk w g 66 #[.slice A L.length c, .int .i64 h, .int .i64 m] ∧ Own eE 4 w (g + 1) 51 A c L

theorem Tb.keep {w w' : World} {g : Nat} {A : Option Addr} {c : Nat} {L : List En} {h m : Int} (t : Tb w g A c L h m) (hb : Below w.heap.size w w') : Tb w' g A c L h m := ⟨t.1.keep hb, t.2.keep hb⟩

set_option maxHeartbeats 1000000 in
theorem clos_any (a p : Int) (e : En) (b1 b2 : Nat) (w : World) (c1 : w.cell? ⟨b1, 0, none⟩ = some (.int .i64 a)) (c2 : w.cell? ⟨b2, 0, none⟩ = some (.int .i64 p)) :
    Calls Try.prog 32 #[.agg #[.int .i64 e.env, .int .i64 e.page, .int .i64 e.frame, .bool e.write], .pointer (some ⟨b1, 0, none⟩), .pointer (some ⟨b2, 0, none⟩)] w fun r w' => r = .returned (.bool (hasK a p e)) ∧ Below w.heap.size w w' := by
  have h1 := kcell (below1 w (Obj.cells #[.int .i64 e.env, .int .i64 e.page, .int .i64 e.frame, .bool e.write] 51)) c1
  have h2 := kcell (below1 w (Obj.cells #[.int .i64 e.env, .int .i64 e.page, .int .i64 e.frame, .bool e.write] 51)) c2
  clear c1 c2
  cases e1 : (e.env == a)
  · have HH : Hid (hasK a p e = false) := by unfold Hid hasK; rw [e1]; rfl
    go_enter Try.func32, Try.ntmps32
    go_wp2
    go_ret
    exact ⟨ret_bool HH.out.symm, below1 _ _⟩
  · have HH : Hid (hasK a p e = (e.page == p)) := by unfold Hid hasK; rw [e1]; rfl
    go_enter Try.func32, Try.ntmps32
    go_wp2
    go_ret
    exact ⟨ret_bool HH.out.symm, below1 _ _⟩

theorem enter_clos : ∀ args w, (callFunc 32 args).run Try.prog w = .ok (.enter 32 args) w := enters_of Try.func32 (by kernel_rfl) rfl

theorem plc_hit {L : List En} {a p : Int} {k : Nat} (hk : k < L.length) (h : hasK a p L[k] = true) (h2 : ∀ j, (hj : j < k) → hasK a p L[j] = false) : plc L a p = k := by
  unfold plc fi
  rw [List.findIdx?_eq_some_iff_getElem.2 ⟨hk, h, fun j hj => by rw [h2 j hj]; simp⟩]

theorem plc_miss {L : List En} {a p : Int} (h : ∀ j, (hj : j < L.length) → hasK a p L[j] = false) : plc L a p = -1 := by
  unfold plc fi
  rw [List.findIdx?_eq_none_iff.2 (fun x hx => by obtain ⟨j, hj, rfl⟩ := List.getElem_of_mem hx; exact h j hj)]

set_option maxRecDepth 100000 in
set_option maxHeartbeats 2000000 in
theorem index_any (A : Option Addr) (L : List En) (c : Nat) (a p : Int) (b1 b2 : Nat) (w : World) (hs : Sl eE 4 w A L) (hl : L.length ≤ 1000) (c1 : w.cell? ⟨b1, 0, none⟩ = some (.int .i64 a)) (c2 : w.cell? ⟨b2, 0, none⟩ = some (.int .i64 p)) :
    Calls Try.prog 31 #[.slice A L.length c, .func (.func 32) #[] #[.pointer (some ⟨b1, 0, none⟩), .pointer (some ⟨b2, 0, none⟩)]] w fun e w' => e = .returned (.int .i64 (plc L a p)) ∧ Below w.heap.size w w' := by
  have eg := enter_clos
  go_enter Try.func31, Try.ntmps31
  go_wp2
  go_loopw [5, 8] (fun _ s8 wr => ∃ k : Nat, k ≤ L.length ∧ s8 = .int .i64 k ∧ Below w.heap.size w wr ∧ Hid (∀ j, (hj : j < L.length) → j < k → hasK a p L[j] = false)) (fun _ i _ => L.length - (intOf i).toNat)
  case atStart => exact ⟨0, Nat.zero_le _, rfl, Below.refl _ w, fun j hj h => absurd h (Nat.not_lt_zero _)⟩
  case round =>
    obtain ⟨k, hk, rfl, hB, HA⟩ := hrel
    by_cases hlt : k < L.length
    · obtain ⟨b, off, rfl, y0, y1, y2, y3⟩ := (hs.keep hB).en_at hlt
      have k0 : (0 : Int) ≤ (k : Int) := by omega
      have k1 : (k : Int) < (L.length : Int) := by omega
      have hc := clos_any a p L[k] b1 b2 wr (kcell hB c1) (kcell hB c2)
      have HQ : Hid (hasK a p L[k] = true → plc L a p = k) := fun h => plc_hit hlt h (fun j hj => HA.out j (by omega) hj)
      have HN : Hid (hasK a p L[k] = false → ∀ j, (hj : j < L.length) → j < k + 1 → hasK a p L[j] = false) := fun h j hj hjk => by
        by_cases he : j = k
        · subst he; exact h
        · exact HA.out j hj (by omega)
      clear HA
      generalize L[k] = y at *
      cases hq : hasK a p y with
      | true =>
        rw [hq] at hc
        have HQ2 := Lib.hid (HQ.out hq)
        go_wp2_with (go_at_fn 32; (with_reducible refine hc.mono ?_); rintro e w' ⟨rfl, hb⟩)
        go_ret
        exact ⟨ret_int HQ2.out.symm, bstep hB (Nat.le_refl _) hb⟩
      | false =>
        rw [hq] at hc
        have HN2 := Lib.hid (HN.out hq)
        go_wp2_with (go_at_fn 32; (with_reducible refine hc.mono ?_); rintro e w' ⟨rfl, hb⟩)
        go_roundw
        case rel => exact ⟨k + 1, by omega, by go_num, bstep hB (Nat.le_refl _) hb, HN2.out⟩
        case measure => simp [intOf]; omega
    · obtain rfl : k = L.length := by omega
      go_wp2
      go_ret
      exact ⟨ret_int (plc_miss (fun j hj => HA.out j hj hj)).symm, hB⟩

end Go.Proofs.Ytpimflmmfnffeaa.Tlb

/- Walks: which translations may be. -/
namespace Go.Proofs.Ytpimflmmfnffeaa.Tlb
open Go.RowKit

set_option maxHeartbeats 1000000 in
theorem right_any (e : En) (w : World) : Calls Try.prog 22 #[.agg #[.int .i64 e.env, .int .i64 e.page, .int .i64 e.frame, .bool e.write]] w fun r w' => r = .returned (.bool (rightE e)) ∧ Below w.heap.size w w' := by
  go_enter Try.func22, Try.ntmps22
  go_wp2
  all_goals go_ret
  all_goals refine ⟨ret_bool ?_, below1 _ _⟩
  all_goals unfold rightE
  all_goals first | (simp; done) | (simp; omega) | (rw [decide_eq_decide]; omega)

set_option maxHeartbeats 1000000 in
theorem rRight_any (e : En) (w : World) : Calls Try.prog 21 #[.agg #[.int .i64 e.env, .int .i64 e.page, .int .i64 e.frame, .bool e.write]] w fun r w' => r = .returned (.bool (rightE e)) ∧ Below w.heap.size w w' := by
  go_enter Try.func21, Try.ntmps21
  go_wp2
  all_goals go_ret
  all_goals refine ⟨ret_bool ?_, below1 _ _⟩
  all_goals unfold rightE
  all_goals first | (simp; done) | (simp; omega) | (rw [decide_eq_decide]; omega)

end Go.Proofs.Ytpimflmmfnffeaa.Tlb

/- Walks: the place of a page's translation; taking one out; Right. -/
namespace Go.Proofs.Ytpimflmmfnffeaa.Tlb
open Go.RowKit Go.Lib

set_option maxHeartbeats 1000000 in
theorem place_any (g : Nat) (A : Option Addr) (c : Nat) (L : List En) (h m a p : Int) (w : World) (ht : Tb w g A c L h m) (hl : L.length ≤ 1000) :
    Calls Try.prog 23 #[.pointer (some ⟨g, 0, none⟩), .int .i64 a, .int .i64 p] w fun e w' => e = .returned (.int .i64 (plc L a p)) ∧ Below w.heap.size w w' := by
  have hB : Below w.heap.size w ((w.alloc (Obj.cells #[.int .i64 a] 3)).alloc (Obj.cells #[.int .i64 p] 3)) := (below1 _ _).alloc (by simp) _
  have t2 := ht.keep hB
  have c0 := t2.1.cell 0 (.slice A L.length c) rfl
  have hc := index_any A L c a p w.heap.size (w.heap.size + 1) _ (t2.2.sl eE_ok) hl (kcell (below1 _ _) ((Blk.new w 3 #[.int .i64 a]).cell 0 _ rfl)) ((Blk.new' (w.alloc (Obj.cells #[.int .i64 a] 3)) 3 #[.int .i64 p] (g := w.heap.size + 1) (by simp)).cell 0 _ rfl)
  go_enter Try.func23, Try.ntmps23
  go_wp2_with (go_at_call 31; (with_reducible refine hc.mono ?_); rintro e w' ⟨rfl, hb⟩)
  go_ret
  exact ⟨rfl, bstep hB (Nat.le_refl _) hb⟩

theorem zero_en : ∀ w, (zeroValue 51).run Try.prog w = .ok (.agg #[.int .i64 0, .int .i64 0, .int .i64 0, .bool false]) w := fun w => by kernel_rfl

theorem ret_slice {A : Option Addr} {n m c : Nat} (h : n = m) : Ending.returned (.slice A n c) = .returned (.slice A m c) := by rw [h]

set_option maxRecDepth 1000000 in
set_option maxHeartbeats 4000000 in
theorem del_any (g c i k base : Nat) (L : List En) (w : World) (own : Own eE 4 w base 51 (some ⟨g, 0, none⟩) c L) (hn : L.length = i + 1 + k) (hl : L.length ≤ 1000) :
    Calls Try.prog 33 #[.slice (some ⟨g, 0, none⟩) L.length c, .int .i64 i, .int .i64 ((i : Int) + 1)] w fun e w' => e = .returned (.slice (some ⟨g, 0, none⟩) (L.eraseIdx i).length c) ∧ Own eE 4 w' base 51 (some ⟨g, 0, none⟩) c (L.eraseIdx i) ∧ w.grownBy w' (some g) := by
  obtain ⟨i0, hi0, hz0, hz1, hz2⟩ := info_parts info_en
  have hcl : (L.eraseIdx i).length = i + k := by rw [List.length_eraseIdx, if_pos (by omega)]; omega
  obtain ⟨_, _, _, hc1, hc2, _, _⟩ := own_block own
  simp only [maxLen] at hc2
  obtain ⟨news, hnews⟩ : ∃ news, news = (L.drop (i + 1)).flatMap eE := ⟨_, rfl⟩
  have s1 : Hid (news.length = k * 4) := by unfold Hid; rw [hnews, flat_len eE_ok.len, List.length_drop]; omega
  have s2 : Hid (∀ u ∈ news, u.oneCell' = true) := fun u hu => one_flat eE_ok _ u (by rw [← hnews]; exact hu)
  have s3 : Hid (∀ t, t < news.length → (w.drew.cell? ⟨g, 0 + i * 4 + t, none⟩).isSome = true ∧ w.drew.frozen? ⟨g, 0 + i * 4 + t, none⟩ = false) := fun t ht => by
    rw [s1.out] at ht
    exact own_room own _ (by omega)
  have hsl := own.sl eE_ok
  have HS : Hid (∀ t u, news[t]? = some u → w.drew.cell? ((⟨g, (i + 1) * 4, none⟩ : Addr).add t) = some u) := fun t u hu => by
    have ht : t < k * 4 := by rw [← s1.out]; exact (List.getElem?_eq_some_iff.1 hu).1
    have hF := flat_drop eE_ok.len L (i + 1)
    rw [hnews, hF, List.getElem?_drop] at hu
    rw [Addr.add_lit]
    obtain ⟨cur, _, h2, _, _, _, h6⟩ := own_block own
    show w.cell? _ = _
    rw [cell_of_row w g _ cur _ (0, 0) h2, ← hu, ← h6, List.getElem?_take, if_pos (by omega), Array.getElem?_toList]
  obtain ⟨W1, hW1⟩ : ∃ W1, W1 = w.drew.setCells g (0 + i * 4) news := ⟨_, rfl⟩
  have HW := Lib.hid hW1
  have HG := own_gone (w := w.drew) eE_ok.len own.drew i k hn [.int .i64 0, .int .i64 0, .int .i64 0, .bool false] rfl
  rw [← hnews, show i * 4 = 0 + i * 4 by omega, ← hW1] at HG
  have HG2 := Lib.hid HG
  have hroom : ∀ j, j < c * 4 → (W1.cell? ⟨g, j, none⟩).isSome = true ∧ W1.frozen? ⟨g, j, none⟩ = false := fun j hj => by
    rw [hW1]
    have := own_room own j hj
    exact ⟨Go.World.isSome_setCells g _ _ _ _ this.1, by rw [World.frozen?_setCells]; exact this.2⟩
  have HCL : ∀ ty n' c', n' = 1 → (Builtin.clear_ #[64] ty #[.slice (some ⟨g, (i + k) * 4, none⟩) n' c']).run Try.prog W1 = .ok (.tuple #[]) (W1.setCells g ((i + k) * 4) [.int .i64 0, .int .i64 0, .int .i64 0, .bool false]) := fun ty n' c' hn' =>
    run_clear_one W1 _ 51 ty _ Try.underlying64 zero_en [.int .i64 0, .int .i64 0, .int .i64 0, .bool false] (by kernel_rfl) (by decide) g ((i + k) * 4) n' c' hn' (fun j hj => hroom _ (by simp at hj; omega))
  clear hW1 HG hroom hsl hnews
  rw [hn]
  rw [hn] at hc1
  have hic : i ≤ c := by omega
  have hjc : i + 1 ≤ c := by omega
  have hi1 : (0 : Int) ≤ (i : Int) + 1 := by omega
  have hi2 : (i : Int) + 1 ≤ (i : Int) + 1 + (k : Int) := by omega
  by_cases hce : c = i + 1
  · obtain rfl : k = 0 := by omega
    obtain rfl : news = [] := List.eq_nil_of_length_eq_zero (by rw [s1.out])
    have HS2 : Hid (∀ t u, ([] : List Value)[t]? = some u → w.drew.cell? ((⟨g, 0, none⟩ : Addr).add t) = some u) := fun t u hu => by simp at hu
    subst hce
    have hcl2 := fun ty => HCL ty (i + 1 - i) (i + 1 - i) (by omega)
    simp only [Nat.add_zero] at hcl2 hcl ⊢
    have hi3 : (i : Int) ≤ (i : Int) + 1 := by omega
    have e1 : i + 1 - i = 1 := by omega
    rw [e1] at hcl2
    clear HCL
    go_enter Try.func33, Try.ntmps33
    go_wp2_with fail
    go_region_law (refine step_append_room rfl (.tmp 22) (.tmp 25) 64 rfl 51 i0 4 Try.underlying64 hi0 hz1 g 0 i (i + 1) (by simp [Act.eval, Act.put]) ⟨g, 0, none⟩ 0 0 [] (by simp [Act.eval, Act.put]) s1.out HS2.out s2.out (by omega) s3.out ?_; rw [← HW.out])
    go_wp2
    go_ret
    exact ⟨ret_slice (by omega), HG2.out.1, ⟨HG2.out.2.os, HG2.out.2.tape, HG2.out.2.output, HG2.out.2.size, HG2.out.2.block⟩⟩
  · have hcl2 := fun ty => HCL ty (i + 1 + k - (i + k)) (c - (i + k)) (by omega)
    clear HCL
    go_enter Try.func33, Try.ntmps33
    go_wp2_with fail
    go_region_law (refine step_append_room rfl (.tmp 22) (.tmp 25) 64 rfl 51 i0 4 Try.underlying64 hi0 hz1 g 0 i c (by simp [Act.eval, Act.put]) ⟨g, (i + 1) * 4, none⟩ k (c - (i + 1)) news (by simp [Act.eval, Act.put]) s1.out HS.out s2.out (by omega) s3.out ?_; rw [← HW.out])
    go_wp2
    go_ret
    exact ⟨ret_slice (by omega), HG2.out.1, ⟨HG2.out.2.os, HG2.out.2.tape, HG2.out.2.output, HG2.out.2.size, HG2.out.2.block⟩⟩

end Go.Proofs.Ytpimflmmfnffeaa.Tlb

/- Walks: taking a translation out; which may be. -/
namespace Go.Proofs.Ytpimflmmfnffeaa.Tlb
open Go.RowKit Go.Lib

/-- only blocks g and r, and what is new, have turned -/
structure Tw (a w : World) (g : Nat) (r : Option Nat) : Prop where
  os : w.os = a.os
  tape : w.tape = a.tape
  output : w.output = a.output
  size : a.heap.size ≤ w.heap.size
  block : ∀ i, i < a.heap.size → i ≠ g → some i ≠ r → w.heap[i]? = a.heap[i]?

theorem Tw.refl (w : World) (g : Nat) (r : Option Nat) : Tw w w g r := ⟨rfl, rfl, rfl, Nat.le_refl _, fun _ _ _ _ => rfl⟩

theorem Tw.of_below {a w : World} {g : Nat} {r : Option Nat} (h : Below a.heap.size a w) : Tw a w g r := ⟨h.os, h.tape, h.output, h.size, fun i hi _ _ => h.block i hi⟩

theorem Tw.trans {a w w' : World} {g : Nat} {r : Option Nat} (h : Tw a w g r) (k : Tw w w' g r) : Tw a w' g r :=
  ⟨k.os.trans h.os, k.tape.trans h.tape, k.output.trans h.output, Nat.le_trans h.size k.size, fun i hi h1 h2 => (k.block i (Nat.lt_of_lt_of_le hi h.size) h1 h2).trans (h.block i hi h1 h2)⟩

theorem Tw.grown {a w : World} {g : Nat} {r : Option Nat} (h : a.grownBy w r) : Tw a w g r := ⟨h.os, h.tape, h.output, h.size, fun i hi _ h2 => h.block i hi h2⟩

theorem Tw.set_ {a w : World} {g : Nat} {r : Option Nat} (h : Tw a w g r) (i : Nat) (u : Value) : Tw a (w.setCell ⟨g, i, none⟩ u) g r :=
  h.trans ⟨rfl, rfl, rfl, by simp [World.setCell], fun k _ h1 _ => Below.heap_setCell w ⟨g, i, none⟩ u k h1⟩

/-- a store into what is new -/
theorem Tw.new_ {a w : World} {g : Nat} {r : Option Nat} (h : Tw a w g r) {p : Addr} (hp : a.heap.size ≤ p.block) (u : Value) : Tw a (w.setCell p u) g r :=
  ⟨h.os, h.tape, h.output, by simpa [World.setCell] using h.size, fun k hk h1 h2 => (Below.heap_setCell w p u k (by omega)).trans (h.block k hk h1 h2)⟩

theorem Tw.cell {a w : World} {g : Nat} {r : Option Nat} (h : Tw a w g r) {p : Addr} {v : Value} (hc : a.cell? p = some v) (h1 : p.block ≠ g) (h2 : some p.block ≠ r) : w.cell? p = some v := by
  rw [World.cell?_of_block (w := a) (h.block p.block (World.block_lt_of_cell? a p hc) h1 h2)]
  exact hc

theorem Tw.blk {a w : World} {g : Nat} {r : Option Nat} (h : Tw a w g r) {q : Nat} {t : TypeId} {cs : Array Value} (hc : Blk a q t cs) (h1 : q ≠ g) (h2 : some q ≠ r) : Blk w q t cs := (h.block q hc.lt h1 h2).trans hc

/-- behind a base that lies below both -/
theorem Tw.below {a w : World} {g : Nat} {r : Option Nat} (h : Tw a w g r) (hr : ∀ q, r = some q → g ≤ q) (hg : g ≤ a.heap.size) : Below g a w :=
  ⟨h.os, h.tape, h.output, h.size, fun i hi => h.block i (by omega) (by omega) (fun e => by have := hr i e.symm; omega)⟩

theorem Tb.own_lt {w : World} {g : Nat} {A : Option Addr} {c : Nat} {L : List En} {h m : Int} (t : Tb w g A c L h m) : ∀ q, blk A = some q → g < q ∧ q < w.heap.size := fun q hq => by
  have := t.2.lt q hq
  omega

/-- a store into the buffer's own block -/
theorem Tb.slot {w : World} {g : Nat} {A : Option Addr} {c : Nat} {L : List En} {h m : Int} (t : Tb w g A c L h m) {A' : Option Addr} {c' : Nat} {L' : List En} {w' : World} (hb : Blk w' g 66 #[.slice A L.length c, .int .i64 h, .int .i64 m])
    (ho : Own eE 4 w' (g + 1) 51 A' c' L') : Tb (w'.setCell ⟨g, 0, none⟩ (.slice A' L'.length c')) g A' c' L' h m := by
  refine ⟨hb.set_ 0 _, ho.kept (only_set (only_refl w' g) 0 _) ?_⟩
  cases e : Go.Proofs.Ytpimflmmfnffeaa.blk A' with
  | none => exact .inl rfl
  | some q => exact .inr (fun e2 => by injection e2 with e2; have := (ho.lt q e).1; omega)

theorem Tb.only {w w' : World} {g b : Nat} {A : Option Addr} {c : Nat} {L : List En} {h m : Int} (t : Tb w g A c L h m) (hg : w.grownBy w' (some b)) (h1 : g ≠ b) (h2 : blk A ≠ some b) : Tb w' g A c L h m :=
  ⟨t.1.grown hg (by simpa using h1), t.2.kept hg (.inr h2)⟩

def put4 (w : World) (b : Nat) (x : En) : World := (((w.setCell ⟨b, 0, none⟩ (.int .i64 x.env)).setCell ⟨b, 1, none⟩ (.int .i64 x.page)).setCell ⟨b, 2, none⟩ (.int .i64 x.frame)).setCell ⟨b, 3, none⟩ (.bool x.write)

theorem put4_only (w : World) (b : Nat) (x : En) : w.grownBy (put4 w b x) (some b) := only_set (only_set (only_set (only_set (only_refl w b) 0 _) 1 _) 2 _) 3 _

theorem put4_blk {w : World} {b : Nat} (x : En) {v0 v1 v2 v3 : Value} {t : TypeId} (h : Blk w b t #[v0, v1, v2, v3]) : Blk (put4 w b x) b t #[.int .i64 x.env, .int .i64 x.page, .int .i64 x.frame, .bool x.write] :=
  (((h.set_ 0 _).set_ 1 _).set_ 2 _).set_ 3 _

theorem Tw.only {a w w' : World} {g b : Nat} {r : Option Nat} (h : Tw a w g r) (k : w.grownBy w' (some b)) (hb : a.heap.size ≤ b) : Tw a w' g r :=
  ⟨k.os.trans h.os, k.tape.trans h.tape, k.output.trans h.output, Nat.le_trans h.size k.size, fun i hi h1 h2 => (k.block i (Nat.lt_of_lt_of_le hi h.size) (by simp; omega)).trans (h.block i hi h1 h2)⟩

def RetRm (g : Nat) (A : Option Addr) (c : Nat) (L : List En) (h m : Int) (x : En) (w : World) (e : Ending) (w' : World) : Prop := e = .returned (.agg #[.int .i64 x.env, .int .i64 x.page, .int .i64 x.frame, .bool x.write]) ∧ Tb w' g A c L h m ∧ Tw w w' g (blk A)

theorem own_en {w : World} {base : Nat} {e : TypeId} {b c : Nat} {L : List En} (h : Own eE 4 w base e (some ⟨b, 0, none⟩) c L) {i : Nat} (hi : i < L.length) :
    w.cell? ⟨b, i * 4, none⟩ = some (.int .i64 L[i].env) ∧ w.cell? ⟨b, i * 4 + 1, none⟩ = some (.int .i64 L[i].page) ∧ w.cell? ⟨b, i * 4 + 1 + 1, none⟩ = some (.int .i64 L[i].frame) ∧ w.cell? ⟨b, i * 4 + 1 + 1 + 1, none⟩ = some (.bool L[i].write) := by
  obtain ⟨b', off, hA, y0, y1, y2, y3⟩ := (h.sl eE_ok).en_at hi
  injection hA with hA
  injection hA with h1 h2
  subst h1 h2
  simp only [Nat.zero_add] at y0 y1 y2 y3
  exact ⟨y0, y1, y2, y3⟩

set_option maxRecDepth 100000 in
set_option maxHeartbeats 4000000 in
theorem rm_any (g : Nat) (A : Option Addr) (c : Nat) (L : List En) (h m : Int) (i : Nat) (w : World) (ht : Tb w g A c L h m) (hl : L.length ≤ 1000) (hi : i < L.length) :
    Calls Try.prog 24 #[.pointer (some ⟨g, 0, none⟩), .int .i64 i] w (RetRm g A c (L.eraseIdx i) h m L[i] w) := by
  have hlt := ht.own_lt
  rcases ht.2.shape with ⟨rfl, rfl, rfl⟩ | ⟨q, rfl⟩
  · exact absurd hi (by simp)
  · obtain ⟨hgq, hqs⟩ := hlt q rfl
    clear hlt
    have hb1 := below1 w (Obj.cells #[.int .i64 0, .int .i64 0, .int .i64 0, .bool false] 51)
    have t2 := ht.keep hb1
    have c0 := t2.1.cell 0 (.slice (some ⟨q, 0, none⟩) L.length c) rfl
    obtain ⟨y0, y1, y2, y3⟩ := own_en t2.2 hi
    have r1 := Blk.new w 51 #[.int .i64 0, .int .i64 0, .int .i64 0, .bool false]
    have hi0 : (0 : Int) ≤ (i : Int) := by omega
    have hi1 : (i : Int) < (L.length : Int) := by omega
    generalize L[i] = x at *
    obtain ⟨k, hk⟩ : ∃ k, L.length = i + 1 + k := ⟨L.length - i - 1, by omega⟩
    have hbx := below1 (w.alloc (Obj.cells #[.int .i64 0, .int .i64 0, .int .i64 0, .bool false] 51)) (Obj.cells #[.int .i64 x.env, .int .i64 x.page, .int .i64 x.frame, .bool x.write] 51)
    have HD := Lib.hid (fun W hW => del_any q c i k (g + 1) L W hW hk hl)
    have t3 := Lib.hid (t2.keep hbx)
    have c03 := t3.out.1.cell 0 (.slice (some ⟨q, 0, none⟩) L.length c) rfl
    have x1 := Blk.new' (w.alloc (Obj.cells #[.int .i64 0, .int .i64 0, .int .i64 0, .bool false] 51)) 51 #[.int .i64 x.env, .int .i64 x.page, .int .i64 x.frame, .bool x.write] (g := w.heap.size + 1) (by simp)
    have r3 := r1.keep hbx
    have hB3 : Below w.heap.size w _ := bstep hb1 (Nat.le_refl _) hbx
    clear hk t2 r1 hb1 ht hi
    go_enter Try.func24, Try.ntmps24
    go_wp2_with fail
    (refine (HD.out _ t3.out.2).mono ?_)
    rintro e w4 ⟨rfl, own4, hg4⟩
    have b4 := t3.out.1.grown hg4 (by simp; omega)
    have r4 := r3.grown hg4 (by simp; omega)
    have x4 := x1.grown hg4 (by simp; omega)
    have f4 := b4.frozen 0
    have z4 := b4.cell 0 (.slice (some ⟨q, 0, none⟩) L.length c) rfl
    have HT := Lib.hid (t3.out.slot b4 own4)
    have r5 := r4.far (p := ⟨g, 0, none⟩) (by simp; omega) (.slice (some ⟨q, 0, none⟩) (L.eraseIdx i).length c)
    have x5 := x4.far (p := ⟨g, 0, none⟩) (by simp; omega) (.slice (some ⟨q, 0, none⟩) (L.eraseIdx i).length c)
    have HW : Hid (Tw w (w4.setCell ⟨g, 0, none⟩ (.slice (some ⟨q, 0, none⟩) (L.eraseIdx i).length c)) g (blk (some ⟨q, 0, none⟩))) := ((Tw.of_below hB3).trans (Tw.grown hg4)).set_ 0 _
    have u0 := x5.cell 0 (.int .i64 x.env) rfl
    have u1 := x5.cell 1 (.int .i64 x.page) rfl
    have u2 := x5.cell 2 (.int .i64 x.frame) rfl
    have u3 := x5.cell 3 (.bool x.write) rfl
    have HR := Lib.hid r5
    have v0 := r5.cell 0 (.int .i64 0) rfl
    have v1 := r5.cell 1 (.int .i64 0) rfl
    have v2 := r5.cell 2 (.int .i64 0) rfl
    have v3 := r5.cell 3 (.bool false) rfl
    have g0 := r5.frozen 0
    have g1 := r5.frozen 1
    have g2 := r5.frozen 2
    have g3 := r5.frozen 3
    clear r5 x5 r4 x4 b4 own4 hg4 t3 c03 c0 y0 y1 y2 y3 r3 x1 HD hB3 hbx
    generalize (L.eraseIdx i) = L' at *
    generalize hW4 : w4.setCell ⟨g, 0, none⟩ (.slice (some ⟨q, 0, none⟩) L'.length c) = W4 at *
    go_wp2_with fail
    obtain ⟨d0, d1, d2, d3⟩ : _ ∧ _ ∧ _ ∧ _ := ⟨(put4_blk x HR.out).cell 0 (.int .i64 x.env) rfl, (put4_blk x HR.out).cell 1 (.int .i64 x.page) rfl, (put4_blk x HR.out).cell 2 (.int .i64 x.frame) rfl, (put4_blk x HR.out).cell 3 (.bool x.write) rfl⟩
    change bodyPost _ _ _ _ _ (put4 W4 w.heap.size x)
    exact bodyPost_ret (v := .agg #[.int .i64 x.env, .int .i64 x.page, .int .i64 x.frame, .bool x.write]) (by simp [results, Try.results24, go_sem, d0, d1, d2, d3]) rfl ⟨rfl, HT.out.only (put4_only _ _ _) (by omega) (by simp [blk]; omega), HW.out.only (put4_only _ _ _) (Nat.le_refl _)⟩

end Go.Proofs.Ytpimflmmfnffeaa.Tlb

/- Walks: Load. -/
namespace Go.Proofs.Ytpimflmmfnffeaa.Tlb
open Go.RowKit Go.Lib

def RetLd (g : Nat) (A0 : Option Addr) (L : List En) (h m : Int) (w : World) (e : Ending) (w' : World) : Prop := ∃ (y : En) (b : Bool) (A : Option Addr) (c : Nat), e = .returned (.tuple #[.agg #[.int .i64 y.env, .int .i64 y.page, .int .i64 y.frame, .bool y.write], .bool b, .int .i64 0]) ∧ Tb w' g A c L h m ∧ Tw w w' g (blk A0) ∧ (blk A = blk A0 ∨ ∀ q, blk A = some q → w.heap.size ≤ q)

theorem gone_len (L : List En) (X : En) : (goneL L X).length ≤ L.length := by
  unfold goneL
  cases fi L X.env X.page with
  | none => simp only; split <;> simp [List.length_eraseIdx_le]
  | some i => exact List.length_eraseIdx_le _ _

def zeroE : En := ⟨0, 0, 0, false⟩

set_option maxHeartbeats 1000000 in
theorem load_no (X : En) (g : Nat) (w : World) (hX : rightE X = false) :
    Calls Try.prog 11 #[.pointer (some ⟨g, 0, none⟩), .agg #[.int .i64 X.env, .int .i64 X.page, .int .i64 X.frame, .bool X.write]] w fun e w' => e = .returned (.tuple #[.agg #[.int .i64 0, .int .i64 0, .int .i64 0, .bool false], .bool false, .int .i64 1]) ∧ Below w.heap.size w w' := by
  have hr := Lib.hid (fun W => right_any X W)
  rw [hX] at hr
  have hB : Below w.heap.size w ((w.alloc (Obj.cells #[.int .i64 X.env, .int .i64 X.page, .int .i64 X.frame, .bool X.write] 51)).alloc (Obj.cells #[.int .i64 0, .int .i64 0, .int .i64 0, .bool false] 51)) := (below1 _ _).alloc (by simp) _
  have r1 := Blk.new' (w.alloc (Obj.cells #[.int .i64 X.env, .int .i64 X.page, .int .i64 X.frame, .bool X.write] 51)) 51 #[.int .i64 0, .int .i64 0, .int .i64 0, .bool false] (g := w.heap.size + 1) (by simp)
  go_enter Try.func11, Try.ntmps11
  go_wp2_with fail
  refine (hr.out _).mono ?_
  rintro e w2 ⟨rfl, hb⟩
  replace hB := bstep hB (Nat.le_refl _) hb
  replace r1 := r1.keep hb
  have HR := Lib.hid r1
  have v0 := r1.cell 0 (.int .i64 0) rfl
  have v1 := r1.cell 1 (.int .i64 0) rfl
  have v2 := r1.cell 2 (.int .i64 0) rfl
  have v3 := r1.cell 3 (.bool false) rfl
  have g0 := r1.frozen 0
  have g1 := r1.frozen 1
  have g2 := r1.frozen 2
  have g3 := r1.frozen 3
  clear r1 hb
  go_wp2_with fail
  obtain ⟨d0, d1, d2, d3⟩ : _ ∧ _ ∧ _ ∧ _ := ⟨(put4_blk zeroE HR.out).cell 0 (.int .i64 0) rfl, (put4_blk zeroE HR.out).cell 1 (.int .i64 0) rfl, (put4_blk zeroE HR.out).cell 2 (.int .i64 0) rfl, (put4_blk zeroE HR.out).cell 3 (.bool false) rfl⟩
  change bodyPost _ _ _ _ _ (put4 w2 (w.heap.size + 1) zeroE)
  exact bodyPost_ret (v := .tuple #[.agg #[.int .i64 0, .int .i64 0, .int .i64 0, .bool false], .bool false, .int .i64 1]) (by simp [results, Try.results11, go_sem, d0, d1, d2, d3]) rfl ⟨rfl, below_only hB (put4_only _ _ _) (by omega)⟩

set_option maxRecDepth 100000 in
set_option maxHeartbeats 4000000 in
theorem load_yes (X : En) (g : Nat) (A : Option Addr) (c : Nat) (L : List En) (h m : Int) (w : World) (hX : rightE X = true) (ht : Tb w g A c L h m) (hl : L.length ≤ 100) :
    Calls Try.prog 11 #[.pointer (some ⟨g, 0, none⟩), .agg #[.int .i64 X.env, .int .i64 X.page, .int .i64 X.frame, .bool X.write]] w (RetLd g A (ld L X) h m w) := by
  have hr := Lib.hid (fun W => right_any X W)
  rw [hX] at hr
  have hB : Below w.heap.size w ((w.alloc (Obj.cells #[.int .i64 X.env, .int .i64 X.page, .int .i64 X.frame, .bool X.write] 51)).alloc (Obj.cells #[.int .i64 0, .int .i64 0, .int .i64 0, .bool false] 51)) := (below1 _ _).alloc (by simp) _
  have r4 := Blk.new' (w.alloc (Obj.cells #[.int .i64 X.env, .int .i64 X.page, .int .i64 X.frame, .bool X.write] 51)) 51 #[.int .i64 0, .int .i64 0, .int .i64 0, .bool false] (g := w.heap.size + 1) (by simp)
  have r3 := (Blk.new w 51 #[.int .i64 X.env, .int .i64 X.page, .int .i64 X.frame, .bool X.write]).alloc (Obj.cells #[.int .i64 0, .int .i64 0, .int .i64 0, .bool false] 51)
  have hlt := ht.own_lt
  have hgw : g < w.heap.size := ht.1.lt
  go_enter Try.func11, Try.ntmps11
  go_wp2_with fail
  refine (hr.out _).mono ?_
  rintro e w2 ⟨rfl, hb⟩
  replace hB := bstep hB (Nat.le_refl _) hb
  replace r4 := r4.keep hb
  replace r3 := r3.keep hb
  have hz2 : w.heap.size + 1 < w2.heap.size := r4.lt
  have hB7 := hB.alloc hB.size (Obj.cells #[.int .i64 0, .int .i64 0, .int .i64 0, .bool false] 51)
  replace r4 := r4.alloc (Obj.cells #[.int .i64 0, .int .i64 0, .int .i64 0, .bool false] 51)
  replace r3 := r3.alloc (Obj.cells #[.int .i64 0, .int .i64 0, .int .i64 0, .bool false] 51)
  have r7 := Blk.new w2 51 #[.int .i64 0, .int .i64 0, .int .i64 0, .bool false]
  have x0 := r3.cell 0 (.int .i64 X.env) rfl
  have x1 := r3.cell 1 (.int .i64 X.page) rfl
  have HP := Lib.hid (fun W hW => place_any g A c L h m X.env X.page W hW (by omega))
  clear hb hr
  go_wp2_with fail
  refine (HP.out _ (ht.keep hB7)).mono ?_
  rintro e w3 ⟨rfl, hb⟩
  replace hB7 := bstep hB7 (Nat.le_refl _) hb
  replace r4 := r4.keep hb
  replace r3 := r3.keep hb
  replace r7 := r7.keep hb
  have t3 := ht.keep hB7
  clear hb x0 x1 ht hB
  generalize w2.heap.size = b7 at *
  have hb7 : b7 < w3.heap.size := r7.lt
  go_upto_if 25 with (fail)
  go_cut [8, 9] (fun s8 s9 wx => ∃ (b : Bool) (y : En), s8 = .bool b ∧ Tb wx g A c (goneL L X) h m ∧ Tw w wx g (blk A) ∧ Blk wx w.heap.size 51 #[.int .i64 X.env, .int .i64 X.page, .int .i64 X.frame, .bool X.write] ∧ Blk wx (w.heap.size + 1) 51 #[.int .i64 0, .int .i64 0, .int .i64 0, .bool false] ∧ Blk wx b7 51 #[.int .i64 y.env, .int .i64 y.page, .int .i64 y.frame, .bool y.write])
  case first =>
    have HL3 := Lib.hid hlt
    have hA1 : ∀ q, w.heap.size ≤ q → some q ≠ blk A := fun q hq e => by have := HL3.out q e.symm; omega
    have HA1 := Lib.hid hA1
    clear hA1 hlt
    have rest := fun (i : Nat) (hi : i < L.length) (W : World) (hR : RetRm g A c (L.eraseIdx i) h m L[i] w3 (.returned (.agg #[.int .i64 L[i].env, .int .i64 L[i].page, .int .i64 L[i].frame, .bool L[i].write])) W) => (show Tb (put4 W b7 L[i]) g A c (L.eraseIdx i) h m ∧ Tw w (put4 W b7 L[i]) g (blk A) ∧ Blk (put4 W b7 L[i]) w.heap.size 51 #[.int .i64 X.env, .int .i64 X.page, .int .i64 X.frame, .bool X.write] ∧ Blk (put4 W b7 L[i]) (w.heap.size + 1) 51 #[.int .i64 0, .int .i64 0, .int .i64 0, .bool false] ∧ Blk (put4 W b7 L[i]) b7 51 #[.int .i64 L[i].env, .int .i64 L[i].page, .int .i64 L[i].frame, .bool L[i].write] from by
      obtain ⟨_, ht, hw⟩ := hR
      refine ⟨ht.only (put4_only _ _ _) (by omega) (Ne.symm (HA1.out b7 (by omega))), ((Tw.of_below hB7).trans hw).only (put4_only _ _ _) (by omega), ?_, ?_, ?_⟩
      · exact (hw.blk r3 (by omega) (HA1.out _ (by omega))).grown (put4_only _ _ _) (by simp; omega)
      · exact (hw.blk r4 (by omega) (HA1.out _ (by omega))).grown (put4_only _ _ _) (by simp; omega)
      · exact put4_blk _ (hw.blk r7 (by omega) (HA1.out _ (by omega))))
    have HR := Lib.hid rest
    have rest2 := fun (i : Nat) (W : World) (hw : Tw w3 W g (blk A)) => (hw.blk r7 (by omega) (HA1.out _ (by omega)))
    have HR2 := Lib.hid rest2
    clear rest rest2
    have c0 := t3.1.cell 0 (.slice A L.length c) rfl
    have H3 := Lib.hid (And.intro t3 (And.intro r3 (And.intro r4 r7)))
    clear t3 r3 r4 r7
    cases hf : fi L X.env X.page with
    | none =>
      have hp : plc L X.env X.page = -1 := by unfold plc; rw [hf]
      rw [hp]
      by_cases h16 : 16 ≤ L.length
      · have HG : Hid (goneL L X = L.eraseIdx 0) := by unfold Hid goneL; rw [hf]; simp only; rw [if_pos h16]
        have hi : 0 < L.length := by omega
        have h16' : (16 : Int) ≤ (L.length : Int) := by omega
        go_wp2_with fail
        refine (rm_any g A c L h m 0 _ H3.out.1 (by omega) hi).mono ?_
        intro e W hrm
        have hrm2 := hrm
        obtain ⟨rfl, _, hw⟩ := hrm2
        have HQ := Lib.hid (HR.out 0 hi W hrm)
        have r7 := HR2.out 0 W hw
        generalize L[0] = x at *
        have v0 := r7.cell 0 (.int .i64 0) rfl
        have v1 := r7.cell 1 (.int .i64 0) rfl
        have v2 := r7.cell 2 (.int .i64 0) rfl
        have v3 := r7.cell 3 (.bool false) rfl
        have g0 := r7.frozen 0
        have g1 := r7.frozen 1
        have g2 := r7.frozen 2
        have g3 := r7.frozen 3
        clear r7 hw hrm c0
        go_wp2_with fail
        go_meet
        rw [HG.out]
        exact ⟨true, x, rfl, HQ.out⟩
      · have HG : Hid (goneL L X = L) := by unfold Hid goneL; rw [hf]; simp only; rw [if_neg h16]
        have h16' : ¬ (16 : Int) ≤ (L.length : Int) := by omega
        go_wp2_with fail
        go_meet
        rw [HG.out]
        exact ⟨false, zeroE, rfl, H3.out.1, Tw.of_below hB7, H3.out.2.1, H3.out.2.2.1, H3.out.2.2.2⟩
    | some i =>
      have hp : plc L X.env X.page = i := by unfold plc; rw [hf]
      rw [hp]
      obtain ⟨hi, hxx⟩ := fi_some hf
      clear hxx
      have HG : Hid (goneL L X = L.eraseIdx i) := by unfold Hid goneL; rw [hf]
      clear hf
      have hi0 : (0 : Int) ≤ (i : Int) := by omega
      go_wp2_with fail
      refine (rm_any g A c L h m i _ H3.out.1 (by omega) hi).mono ?_
      intro e W hrm
      have hrm2 := hrm
      obtain ⟨rfl, _, hw⟩ := hrm2
      have HQ := Lib.hid (HR.out i hi W hrm)
      have r7 := HR2.out i W hw
      generalize L[i] = x at *
      have v0 := r7.cell 0 (.int .i64 0) rfl
      have v1 := r7.cell 1 (.int .i64 0) rfl
      have v2 := r7.cell 2 (.int .i64 0) rfl
      have v3 := r7.cell 3 (.bool false) rfl
      have g0 := r7.frozen 0
      have g1 := r7.frozen 1
      have g2 := r7.frozen 2
      have g3 := r7.frozen 3
      clear r7 hw hrm c0
      go_wp2_with fail
      go_meet
      rw [HG.out]
      exact ⟨true, x, rfl, HQ.out⟩
  case rest =>
    clear t3 r3 r4 r7 HP hb7 hB7
    obtain ⟨b, y, rfl, ht, hw, r3, r4, r7⟩ := hcut
    have hl2 := gone_len L X
    have HLD : Hid (ld L X = goneL L X ++ [X]) := rfl
    generalize ld L X = L2 at *
    generalize goneL L X = L1 at *
    have hl1 : L1.length ≤ 100 := by omega
    clear hl2 hl
    have HL3 := Lib.hid hlt
    have HA1 : Hid (∀ q, w.heap.size ≤ q → some q ≠ blk A) := fun q hq e => by have := HL3.out q e.symm; omega
    clear hlt
    have hb3 : w.heap.size < wc.heap.size := r3.lt
    have hgc : g < wc.heap.size := ht.1.lt
    have hb7 : b7 < wc.heap.size := r7.lt
    have c0 := ht.1.cell 0 (.slice A L1.length c) rfl
    have x0 := r3.cell 0 (.int .i64 X.env) rfl
    have x1 := r3.cell 1 (.int .i64 X.page) rfl
    have x2 := r3.cell 2 (.int .i64 X.frame) rfl
    have x3 := r3.cell 3 (.bool X.write) rfl
    have hbn := below1 wc.drew (Obj.cells #[.int .i64 X.env, .int .i64 X.page, .int .i64 X.frame, .bool X.write] 51)
    have ta := Tb.keep (w := wc.drew) ht hbn
    have c0a := ta.1.cell 0 (.slice A L1.length c) rfl
    have HTA := Lib.hid ta
    have HBN := Lib.hid hbn
    have H7 := Lib.hid (Blk.keep (w := wc.drew) r7 hbn)
    have H4 := Lib.hid (Blk.keep (w := wc.drew) r4 hbn)
    have HWC := Lib.hid hw
    clear hbn ta r7 r4 r3 hw ht
    go_wp2_with fail
    go_region_law (refine step_append_sl _ rfl (.tmp 41) (.tmp 43) rfl elE eE_ok (base := g + 1) (xs := L1) HTA.out.2 (n := L1.length) rfl rfl (m := 1) rfl (ys := [X]) rfl (Sl.new' eE_ok wc.drew X _ rfl _ rfl) (by simp only [maxLen]; omega) (by omega) (by simp [World.drew]; omega) _ rfl (L1.length + 1) rfl ?_; intro A5 c5 w5 own5 hg5 at5; (have b5 := HTA.out.1.grown hg5 (fun e => by have := HL3.out g e.symm; omega)); (have f5 := b5.frozen 0); (have z5 := b5.cell 0 (.slice A L1.length c) rfl))
    all_goals
      have HT : Hid (Tb (w5.setCell ⟨g, 0, none⟩ (.slice A5 (L1.length + 1) c5)) g A5 c5 (L1 ++ [X]) h m) := by
        have := HTA.out.slot b5 own5
        rw [List.length_append] at this
        exact this
      have HTW : Hid (Tw w (w5.setCell ⟨g, 0, none⟩ (.slice A5 (L1.length + 1) c5)) g (blk A)) := ((HWC.out.trans (Tw.of_below (Below.drew (Below.refl _ _)))).trans (Tw.of_below HBN.out)).trans (Tw.grown hg5) |>.set_ 0 _
      have r7 := (H7.out.grown hg5 (HA1.out b7 (by omega))).far (p := ⟨g, 0, none⟩) (by simp; omega) (.slice A5 (L1.length + 1) c5)
      have r4 := (H4.out.grown hg5 (HA1.out _ (by omega))).far (p := ⟨g, 0, none⟩) (by simp; omega) (.slice A5 (L1.length + 1) c5)
      have HA5 : Hid (blk A5 ≠ some (w.heap.size + 1)) := by
        rcases at5 with e | e
        · show blk A5 ≠ _
          rw [e]; exact Ne.symm (HA1.out _ (by omega))
        · show blk A5 ≠ _
          rw [e]; intro e2; injection e2 with e2; simp [World.drew] at e2; omega
      have HAT : Hid (blk A5 = blk A ∨ ∀ q, blk A5 = some q → w.heap.size ≤ q) := by
        rcases at5 with e | e
        · exact .inl e
        · exact .inr (fun q hq => by rw [e] at hq; injection hq with hq; simp [World.drew] at hq; omega)
      have HR := Lib.hid r4
      have v0 := r4.cell 0 (.int .i64 0) rfl
      have v1 := r4.cell 1 (.int .i64 0) rfl
      have v2 := r4.cell 2 (.int .i64 0) rfl
      have v3 := r4.cell 3 (.bool false) rfl
      have g0 := r4.frozen 0
      have g1 := r4.frozen 1
      have g2 := r4.frozen 2
      have g3 := r4.frozen 3
      have y0 := r7.cell 0 (.int .i64 y.env) rfl
      have y1 := r7.cell 1 (.int .i64 y.page) rfl
      have y2 := r7.cell 2 (.int .i64 y.frame) rfl
      have y3 := r7.cell 3 (.bool y.write) rfl
      clear r4 r7 c0 c0a x0 x1 x2 x3 own5 hg5 at5 b5 f5 z5 HTA HBN HWC H7 H4
      generalize w5.setCell ⟨g, 0, none⟩ (.slice A5 (L1.length + 1) c5) = w6 at *
      go_wp2_with fail
      obtain ⟨d0, d1, d2, d3⟩ : _ ∧ _ ∧ _ ∧ _ := ⟨(put4_blk y HR.out).cell 0 (.int .i64 y.env) rfl, (put4_blk y HR.out).cell 1 (.int .i64 y.page) rfl, (put4_blk y HR.out).cell 2 (.int .i64 y.frame) rfl, (put4_blk y HR.out).cell 3 (.bool y.write) rfl⟩
      change bodyPost _ _ _ _ _ (put4 w6 (w.heap.size + 1) y)
      exact bodyPost_ret (v := .tuple #[.agg #[.int .i64 y.env, .int .i64 y.page, .int .i64 y.frame, .bool y.write], .bool b, .int .i64 0]) (by simp [results, Try.results11, go_sem, d0, d1, d2, d3]) rfl ⟨y, b, A5, c5, rfl, by rw [HLD.out]; exact HT.out.only (put4_only _ _ _) (by omega) HA5.out, HTW.out.only (put4_only _ _ _) (by omega), HAT.out⟩

end Go.Proofs.Ytpimflmmfnffeaa.Tlb

/- Walks: Look. -/
namespace Go.Proofs.Ytpimflmmfnffeaa.Tlb
open Go.RowKit Go.Lib

def RetLk (g : Nat) (A0 : Option Addr) (v r : Int) (L : List En) (h m : Int) (w : World) (e : Ending) (w' : World) : Prop := ∃ (A : Option Addr) (c : Nat), e = .returned (.tuple #[.int .i64 v, .int .i64 r]) ∧ Tb w' g A c L h m ∧ Tw w w' g (blk A0) ∧ (blk A = blk A0 ∨ ∀ q, blk A = some q → w.heap.size ≤ q)

theorem Tb.low {w : World} {g : Nat} {A : Option Addr} {c : Nat} {L : List En} {h m : Int} (t : Tb w g A c L h m) (i : Nat) (u : Value) {h' m' : Int} (hb : Blk (w.setCell ⟨g, i, none⟩ u) g 66 #[.slice A L.length c, .int .i64 h', .int .i64 m']) : Tb (w.setCell ⟨g, i, none⟩ u) g A c L h' m' := by
  refine ⟨hb, t.2.kept (only_set (only_refl w g) i u) ?_⟩
  cases e : Go.Proofs.Ytpimflmmfnffeaa.blk A with
  | none => exact .inl rfl
  | some q => exact .inr (fun e2 => by injection e2 with e2; have := (t.2.lt q e).1; omega)

theorem below_at {w : World} {g : Nat} (i : Nat) (u : Value) : Below g w (w.setCell ⟨g, i, none⟩ u) := ⟨rfl, rfl, rfl, by simp [World.setCell], fun k hk => Below.heap_setCell w ⟨g, i, none⟩ u k (by simp; omega)⟩

set_option maxHeartbeats 1000000 in
theorem look_no (a p : Int) (wr : Bool) (g : Nat) (A : Option Addr) (c : Nat) (L : List En) (h m : Int) (w : World) (ht : Tb w g A c L h m) (hl : L.length ≤ 100) (hf : fi L a p = none) :
    Calls Try.prog 45 #[.pointer (some ⟨g, 0, none⟩), .int .i64 a, .int .i64 p, .bool wr] w (RetLk g A 0 29 L h (wrap64 (m + 1)) w) := by
  have HP := Lib.hid (place_any g A c L h m a p w ht (by omega))
  have hp : plc L a p = -1 := by unfold plc; rw [hf]
  rw [hp] at HP
  clear hf hp
  go_enter Try.func45, Try.ntmps45
  go_wp2_with fail
  refine HP.out.mono ?_
  rintro e w2 ⟨rfl, hb⟩
  have hgw : g < w.heap.size := ht.1.lt
  replace ht := ht.keep hb
  have c2 := ht.1.cell 2 (.int .i64 m) rfl
  have f2 := ht.1.frozen 2
  have HT := Lib.hid (ht.low 2 (.int .i64 (wrap64 (m + 1))) (ht.1.set_ 2 _))
  clear ht HP
  go_wp2_with fail
  go_ret2
  exact ⟨A, c, rfl, HT.out, (Tw.of_below hb).set_ 2 _, .inl rfl⟩

set_option maxHeartbeats 1000000 in
theorem look_cap (a p : Int) (g : Nat) (A : Option Addr) (c : Nat) (L : List En) (h m : Int) (i : Nat) (x : En) (w : World) (ht : Tb w g A c L h m) (hl : L.length ≤ 100) (hf : fi L a p = some i) (hx : L[i]? = some x) (hw : x.write = false) :
    Calls Try.prog 45 #[.pointer (some ⟨g, 0, none⟩), .int .i64 a, .int .i64 p, .bool true] w (RetLk g A 0 23 L h m w) := by
  have HP := Lib.hid (place_any g A c L h m a p w ht (by omega))
  have hp : plc L a p = i := by unfold plc; rw [hf]
  rw [hp] at HP
  clear hf hp
  obtain ⟨hi, rfl⟩ := List.getElem?_eq_some_iff.1 hx
  rcases ht.2.shape with ⟨rfl, rfl, rfl⟩ | ⟨q, rfl⟩
  · exact absurd hi (by simp)
  have hi0 : (0 : Int) ≤ (i : Int) := by omega
  have hi1 : (i : Int) < (L.length : Int) := by omega
  go_enter Try.func45, Try.ntmps45
  go_wp2_with fail
  refine HP.out.mono ?_
  rintro e w2 ⟨rfl, hb⟩
  have hgw : g < w.heap.size := ht.1.lt
  replace ht := ht.keep hb
  have c0 := ht.1.cell 0 (.slice (some ⟨q, 0, none⟩) L.length c) rfl
  have y3 := (own_en ht.2 hi).2.2.2
  rw [hw] at y3
  have HT := Lib.hid ht
  clear ht HP hx
  go_wp2_with fail
  go_ret2
  exact ⟨_, c, rfl, HT.out, Tw.of_below hb, .inl rfl⟩

set_option maxRecDepth 100000 in
set_option maxHeartbeats 4000000 in
theorem look_yes (a p : Int) (wr : Bool) (g : Nat) (A : Option Addr) (c : Nat) (L : List En) (h m : Int) (i : Nat) (x : En) (w : World) (ht : Tb w g A c L h m) (hl : L.length ≤ 100) (hf : fi L a p = some i) (hx : L[i]? = some x) (hw : wr = true → x.write = true) :
    Calls Try.prog 45 #[.pointer (some ⟨g, 0, none⟩), .int .i64 a, .int .i64 p, .bool wr] w (RetLk g A x.frame 0 (L.eraseIdx i ++ [x]) (wrap64 (h + 1)) m w) := by
  have HP := Lib.hid (place_any g A c L h m a p w ht (by omega))
  have hp : plc L a p = i := by unfold plc; rw [hf]
  rw [hp] at HP
  clear hf hp
  obtain ⟨hi, hxi⟩ := List.getElem?_eq_some_iff.1 hx
  clear hx
  have HL3 := Lib.hid ht.own_lt
  rcases ht.2.shape with ⟨rfl, rfl, rfl⟩ | ⟨q, rfl⟩
  · exact absurd hi (by simp)
  have hi0 : (0 : Int) ≤ (i : Int) := by omega
  have hi1 : (i : Int) < (L.length : Int) := by omega
  have hgw : g < w.heap.size := ht.1.lt
  obtain ⟨hq1, hq2⟩ := HL3.out q rfl
  have HRM := Lib.hid (fun W hW => rm_any g (some ⟨q, 0, none⟩) c L (wrap64 (h + 1)) m i W hW (by omega) hi)
  rw [hxi] at HRM
  have hle : (L.eraseIdx i).length ≤ 100 := Nat.le_trans (List.length_eraseIdx_le _ _) hl
  go_enter Try.func45, Try.ntmps45
  go_wp2_with fail
  refine HP.out.mono ?_
  rintro e w2 ⟨rfl, hb⟩
  replace ht := ht.keep hb
  have c0 := ht.1.cell 0 (.slice (some ⟨q, 0, none⟩) L.length c) rfl
  have c1 := ht.1.cell 1 (.int .i64 h) rfl
  have f1 := ht.1.frozen 1
  have y3 := (own_en ht.2 hi).2.2.2
  rw [hxi] at y3
  have HT := Lib.hid (ht.low 1 (.int .i64 (wrap64 (h + 1))) (ht.1.set_ 1 _))
  clear ht HP hxi
  have HB2 := Lib.hid hb
  have hz2 := hb.size
  clear hb
  have HXW : Hid (wr = true → x.write = true) := hw
  clear hw
  cases wr
  all_goals
    first | (have hxw := HXW.out rfl; rw [hxw] at y3; clear hxw) | skip
    clear HXW
    go_wp2_with fail
    refine (HRM.out _ HT.out).mono ?_
    rintro e w3 ⟨rfl, t3, hw3⟩
    clear HRM HT c0 c1 f1 y3
    have hg3 : g < w3.heap.size := t3.1.lt
    have hz3 : w2.heap.size ≤ w3.heap.size := Nat.le_trans (by simp [World.setCell]) hw3.size
    have HW3 : Hid (Tw w2 w3 g (blk (some ⟨q, 0, none⟩))) := ((Tw.refl w2 g _).set_ 1 _).trans hw3
    clear hw3
    have r11 := Blk.new w3 51 #[.int .i64 x.env, .int .i64 x.page, .int .i64 x.frame, .bool x.write]
    have hb3 := below1 w3 (Obj.cells #[.int .i64 x.env, .int .i64 x.page, .int .i64 x.frame, .bool x.write] 51)
    generalize hLL : L.eraseIdx i = L1 at *
    clear hLL hi hi1
    go_upto_region 11 with (fail)
    have HW4 : Hid (Tw w2 (w3.alloc (Obj.cells #[.int .i64 x.env, .int .i64 x.page, .int .i64 x.frame, .bool x.write] 51)) g (blk (some ⟨q, 0, none⟩))) := HW3.out.trans (Tw.of_below hb3)
    have t4 := t3.keep hb3
    have hb11 : w3.heap.size < (w3.alloc (Obj.cells #[.int .i64 x.env, .int .i64 x.page, .int .i64 x.frame, .bool x.write] 51)).heap.size := r11.lt
    clear hb3 t3 HW3
    generalize w3.heap.size = b11 at *
    generalize w3.alloc (Obj.cells #[.int .i64 x.env, .int .i64 x.page, .int .i64 x.frame, .bool x.write] 51) = wc at *
    have c0 := t4.1.cell 0 (.slice (some ⟨q, 0, none⟩) L1.length c) rfl
    have x0 := r11.cell 0 (.int .i64 x.env) rfl
    have x1 := r11.cell 1 (.int .i64 x.page) rfl
    have x2 := r11.cell 2 (.int .i64 x.frame) rfl
    have x3 := r11.cell 3 (.bool x.write) rfl
    have hgc : g < wc.heap.size := t4.1.lt
    have hbn := below1 wc.drew (Obj.cells #[.int .i64 x.env, .int .i64 x.page, .int .i64 x.frame, .bool x.write] 51)
    have ta := Tb.keep (w := wc.drew) t4 hbn
    have c0a := ta.1.cell 0 (.slice (some ⟨q, 0, none⟩) L1.length c) rfl
    have HTA := Lib.hid ta
    have HBN := Lib.hid hbn
    have H11 := Lib.hid (Blk.keep (w := wc.drew) r11 hbn)
    clear hbn ta t4 r11
    go_region_law (refine step_append_sl _ rfl (.tmp 53) (.tmp 55) rfl elE eE_ok (base := g + 1) (xs := L1) HTA.out.2 (n := L1.length) rfl rfl (m := 1) rfl (ys := [x]) rfl (Sl.new' eE_ok wc.drew x _ rfl _ rfl) (by simp only [maxLen]; omega) (by omega) (by simp [World.drew]; omega) _ rfl (L1.length + 1) rfl ?_; intro A5 c5 w5 own5 hg5 at5; (have b5 := HTA.out.1.grown hg5 (fun e => by have := HL3.out g e.symm; omega)); (have f5 := b5.frozen 0); (have z5 := b5.cell 0 (.slice (some ⟨q, 0, none⟩) L1.length c) rfl))
    all_goals
      have HT : Hid (Tb (w5.setCell ⟨g, 0, none⟩ (.slice A5 (L1.length + 1) c5)) g A5 c5 (L1 ++ [x]) (wrap64 (h + 1)) m) := by
        have := HTA.out.slot b5 own5
        rw [List.length_append] at this
        exact this
      have HTW : Hid (Tw w2 (w5.setCell ⟨g, 0, none⟩ (.slice A5 (L1.length + 1) c5)) g (blk (some ⟨q, 0, none⟩))) := ((HW4.out.trans (Tw.of_below (Below.drew (Below.refl _ _)))).trans (Tw.of_below HBN.out)).trans (Tw.grown hg5) |>.set_ 0 _
      have r11 := (H11.out.grown hg5 (by simp [blk]; omega)).far (p := ⟨g, 0, none⟩) (by simp; omega) (.slice A5 (L1.length + 1) c5)
      have HAT : Hid (blk A5 = blk (some ⟨q, 0, none⟩) ∨ ∀ k, blk A5 = some k → w.heap.size ≤ k) := by
        rcases at5 with e | e
        · exact .inl e
        · exact .inr (fun k hk => by rw [e] at hk; injection hk with hk; simp [World.drew] at hk; have := HB2.out.size; omega)
      have y2 := r11.cell 2 (.int .i64 x.frame) rfl
      clear r11 c0 c0a x0 x1 x2 x3 own5 hg5 at5 b5 f5 z5 HTA HBN HW4 H11
      generalize w5.setCell ⟨g, 0, none⟩ (.slice A5 (L1.length + 1) c5) = w6 at *
      go_wp2_with fail
      go_ret2
      exact ⟨A5, c5, rfl, HT.out, (Tw.of_below HB2.out).trans HTW.out, HAT.out⟩

end Go.Proofs.Ytpimflmmfnffeaa.Tlb
