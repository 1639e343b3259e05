/- Plain words: rows of upcalls, what Put and Take make of them. -/
import Derived.Test.YtciijdajdmcllaaBase
namespace Go.Proofs.Ytciijdajdmcllaa

structure Up where
  kind : Int
  a : Int
  b : Int
structure Ct where
  L : List Up
  lost : Int

def renU (k : Int) : Bool := k == 1 || k == 3 || k == 4
def sameU (u o : Up) : Bool := o.kind == u.kind && o.a == u.a
def oldAt (L : List Up) (u : Up) : Option Nat := if renU u.kind then L.findIdx? (sameU u) else none
def putC (r : Ct) (u : Up) : Ct := match oldAt r.L u with
  | some i => ⟨r.L.set i u, r.lost⟩
  | none => if 8 ≤ r.L.length then ⟨r.L, r.lost + 1⟩ else ⟨r.L ++ [u], r.lost⟩
def putE (r : Ct) (u : Up) : Int := match oldAt r.L u with
  | some _ => 0
  | none => if 8 ≤ r.L.length then 20 else 0
def okK (k : Int) : Bool := decide (1 ≤ k ∧ k ≤ 8)
theorem old_none {L : List Up} {u : Up} (h : renU u.kind = false) : oldAt L u = none := by unfold oldAt; rw [h]; rfl
theorem old_hit {L : List Up} {u : Up} {k : Nat} (hr : renU u.kind = true) (hk : k < L.length) (h : sameU u L[k] = true) (h2 : ∀ j, (hj : j < k) → sameU u L[j] = false) : oldAt L u = some k := by
  unfold oldAt
  rw [hr, if_pos rfl, List.findIdx?_eq_some_iff_getElem.2 ⟨hk, h, fun j hj => by rw [h2 j hj]; simp⟩]
theorem old_miss {L : List Up} {u : Up} (h : ∀ j, (hj : j < L.length) → sameU u L[j] = false) : oldAt L u = none := by
  unfold oldAt
  split
  · exact List.findIdx?_eq_none_iff.2 (fun x hx => by obtain ⟨j, hj, rfl⟩ := List.getElem_of_mem hx; exact h j hj)
  · rfl
theorem put_len {r : Ct} {u : Up} (h : r.L.length ≤ 8) : (putC r u).L.length ≤ 8 := by
  unfold putC
  cases oldAt r.L u with
  | some i => simpa using h
  | none =>
    simp only
    split
    · exact h
    · simp; omega
theorem put_lost {r : Ct} {u : Up} : (putC r u).lost = r.lost ∨ (putC r u).lost = r.lost + 1 := by
  unfold putC
  cases oldAt r.L u with
  | some i => exact .inl rfl
  | none =>
    simp only
    split
    · exact .inr rfl
    · exact .inl rfl
/-- the rows are as they may be behind n calls -/
def Fit (n : Nat) (C : List Ct) : Prop := C.length = 8 ∧ ∀ r ∈ C, r.L.length ≤ 8 ∧ 0 ≤ r.lost ∧ r.lost ≤ n
theorem Fit.at_ {n : Nat} {C : List Ct} (h : Fit n C) {i : Nat} (hi : i < C.length) : C[i].L.length ≤ 8 ∧ 0 ≤ C[i].lost ∧ C[i].lost ≤ n := h.2 _ (List.getElem_mem hi)
theorem Fit.set_ {n : Nat} {C : List Ct} (h : Fit n C) (i : Nat) {r : Ct} (h1 : r.L.length ≤ 8) (h2 : 0 ≤ r.lost) (h3 : r.lost ≤ (n : Int) + 1) : Fit (n + 1) (C.set i r) := by
  refine ⟨by rw [List.length_set]; exact h.1, fun x hx => ?_⟩
  rcases List.mem_or_eq_of_mem_set hx with hx | rfl
  · have := h.2 x hx
    exact ⟨this.1, this.2.1, by omega⟩
  · exact ⟨h1, h2, by omega⟩
theorem Fit.more {n : Nat} {C : List Ct} (h : Fit n C) : Fit (n + 1) C := ⟨h.1, fun r hr => by have := h.2 r hr; exact ⟨this.1, this.2.1, by omega⟩⟩
theorem Fit.put {n : Nat} {C : List Ct} (h : Fit n C) (i : Nat) (hi : i < C.length) (u : Up) : Fit (n + 1) (C.set i (putC C[i] u)) := by
  have h1 := h.at_ hi
  have h2 := put_lost (r := C[i]) (u := u)
  exact h.set_ i (put_len h1.1) (by omega) (by omega)
end Go.Proofs.Ytciijdajdmcllaa
