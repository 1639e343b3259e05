/- Plain: swaps, ranges that are swapped, and rotations of a list. -/
import Derived.Test.YtdfklbjkcednhaaPut
namespace Go.Proofs.Ytdfklbjkcednhaa

/-- a notice, and a number that only the proof knows -/
structure Nt where
  nEnv : Int
  nFrm : Int
  nTil : Int
  nTag : Nat
def ntZ : Nt := ⟨0, 0, 0, 0⟩
def atT (T : List Nt) (i : Nat) : Nt := T.getD i ntZ
theorem atT_get {T : List Nt} {i : Nat} (h : i < T.length) : atT T i = T[i] := by simp [atT, h]
def swp (T : List Nt) (i j : Nat) : List Nt := (T.set i (atT T j)).set j (atT T i)
theorem swp_len (T : List Nt) (i j : Nat) : (swp T i j).length = T.length := by simp [swp]
theorem atT_append_right (P S : List Nt) (i : Nat) : atT (P ++ S) (P.length + i) = atT S i := by
  unfold atT
  rw [List.getD_eq_getElem?_getD, List.getD_eq_getElem?_getD, List.getElem?_append_right (by omega), Nat.add_sub_cancel_left]
theorem swp_at (P M S : List Nt) (x y : Nt) : swp (P ++ x :: (M ++ y :: S)) P.length (P.length + 1 + M.length) = P ++ y :: (M ++ x :: S) := by
  have h1 : atT (P ++ x :: (M ++ y :: S)) P.length = x := by have := atT_append_right P (x :: (M ++ y :: S)) 0; rw [Nat.add_zero] at this; rw [this]; rfl
  have h2 : atT (P ++ x :: (M ++ y :: S)) (P.length + 1 + M.length) = y := by
    rw [show P.length + 1 + M.length = P.length + (M.length + 1) by omega, atT_append_right]
    have := atT_append_right (x :: M) (y :: S) 0
    rw [Nat.add_zero] at this
    exact this
  unfold swp
  rw [h1, h2]
  rw [List.set_append_right _ _ (Nat.le_refl _)]
  simp only [Nat.sub_self, List.set_cons_zero]
  rw [List.set_append_right _ _ (by omega), show P.length + 1 + M.length - P.length = M.length + 1 by omega]
  simp only [List.set_cons_succ]
  rw [List.set_append_right _ _ (Nat.le_refl _)]
  simp
theorem swp_comm (T : List Nt) {i j : Nat} (h : i ≠ j) : swp T i j = swp T j i := by
  unfold swp
  rw [List.set_comm _ _ h]
theorem swp_next (P S : List Nt) (x y : Nt) : swp (P ++ x :: y :: S) P.length (P.length + 1) = P ++ y :: x :: S := swp_at P [] S x y

def swpN (T : List Nt) (a b : Nat) : Nat → List Nt
  | 0 => T
  | k + 1 => swp (swpN T a b k) (a + k) (b + k)
theorem swpN_len (T : List Nt) (a b k : Nat) : (swpN T a b k).length = T.length := by
  induction k with
  | zero => rfl
  | succ k ih => rw [swpN, swp_len, ih]
theorem swpN_front (T : List Nt) (a b k : Nat) : swpN T a b (k + 1) = swpN (swp T a b) (a + 1) (b + 1) k := by
  induction k with
  | zero => rfl
  | succ k ih =>
    rw [swpN, ih, swpN]
    rw [show a + (k + 1) = a + 1 + k by omega, show b + (k + 1) = b + 1 + k by omega]
theorem swpN_eq : ∀ (X Y P M S : List Nt), X.length = Y.length → swpN (P ++ X ++ M ++ Y ++ S) P.length (P.length + X.length + M.length) X.length = P ++ Y ++ M ++ X ++ S
  | [], [], P, M, S, _ => by simp [swpN]
  | x :: X, y :: Y, P, M, S, h => by
    rw [List.length_cons, swpN_front]
    have h1 := swp_at P (X ++ M) (Y ++ S) x y
    rw [show P ++ x :: X ++ M ++ y :: Y ++ S = P ++ x :: (X ++ M ++ y :: (Y ++ S)) by simp,
      show P.length + (X.length + 1) + M.length = P.length + 1 + (X ++ M).length by simp; omega, h1]
    have h2 := swpN_eq X Y (P ++ [y]) (M ++ [x]) S (by simpa using h)
    simp only [List.length_append, List.length_cons, List.length_nil, Nat.zero_add] at h2
    rw [show P ++ y :: (X ++ M ++ x :: (Y ++ S)) = P ++ [y] ++ X ++ (M ++ [x]) ++ Y ++ S by simp,
      show P.length + 1 + (X ++ M).length + 1 = P.length + 1 + X.length + (M.length + 1) by simp; omega, h2]
    simp
  | [], _ :: _, _, _, _, h => by simp at h
  | _ :: _, [], _, _, _, h => by simp at h

/-- what a rotation's loop keeps: U and V are still to change places -/
def RotI (G : List Nt) (m i j : Nat) (T : List Nt) : Prop :=
  ∃ P U V S, T = P ++ U ++ V ++ S ∧ P.length + i = m ∧ U.length = i ∧ V.length = j ∧ P ++ V ++ U ++ S = G ∧ 0 < i ∧ 0 < j
theorem RotI.len {G T : List Nt} {m i j : Nat} (h : RotI G m i j T) : T.length = G.length ∧ i ≤ m ∧ m + j ≤ T.length := by
  obtain ⟨P, U, V, S, rfl, h1, h2, h3, rfl, _⟩ := h
  simp
  omega
theorem RotI.pos {G T : List Nt} {m i j : Nat} (h : RotI G m i j T) : 0 < i ∧ 0 < j := by
  obtain ⟨_, _, _, _, _, _, _, _, _, h⟩ := h
  exact h
theorem RotI.left {G T : List Nt} {m i j : Nat} (h : RotI G m i j T) (hij : j < i) : RotI G m (i - j) j (swpN T (m - i) m j) := by
  obtain ⟨P, U, V, S, rfl, h1, h2, h3, rfl, h4, h5⟩ := h
  obtain ⟨U1, U2, rfl, hU⟩ : ∃ U1 U2, U = U1 ++ U2 ∧ U1.length = j := ⟨U.take j, U.drop j, (List.take_append_drop _ _).symm, by rw [List.length_take]; omega⟩
  rw [List.length_append] at h2
  have h6 := swpN_eq U1 V P U2 S (by omega)
  rw [show P.length + U1.length + U2.length = m by omega, show P.length = m - i by omega, hU] at h6
  refine ⟨P ++ V, U2, U1, S, ?_, by simp; omega, by omega, hU, by simp, by omega, h5⟩
  rw [show P ++ (U1 ++ U2) ++ V ++ S = P ++ U1 ++ U2 ++ V ++ S by simp, h6]
theorem RotI.right {G T : List Nt} {m i j : Nat} (h : RotI G m i j T) (hij : i < j) : RotI G m i (j - i) (swpN T (m - i) (m + j - i) i) := by
  obtain ⟨P, U, V, S, rfl, h1, h2, h3, rfl, h4, h5⟩ := h
  obtain ⟨V1, V2, rfl, hV⟩ : ∃ V1 V2, V = V1 ++ V2 ∧ V1.length = j - i := ⟨V.take (j - i), V.drop (j - i), (List.take_append_drop _ _).symm, by rw [List.length_take]; omega⟩
  rw [List.length_append] at h3
  have h6 := swpN_eq U V2 P V1 S (by omega)
  rw [show P.length + U.length + V1.length = m + j - i by omega, show P.length = m - i by omega, h2] at h6
  refine ⟨P, V2, V1, U ++ S, ?_, by omega, by omega, hV, by simp, h4, by omega⟩
  rw [show P ++ U ++ (V1 ++ V2) ++ S = P ++ U ++ V1 ++ V2 ++ S by simp, h6]
  simp
theorem RotI.last {G T : List Nt} {m i : Nat} (h : RotI G m i i T) : swpN T (m - i) m i = G := by
  obtain ⟨P, U, V, S, rfl, h1, h2, h3, rfl, h4, h5⟩ := h
  have h6 := swpN_eq U V P [] S (by omega)
  simp only [List.length_nil, Nat.add_zero, List.append_nil] at h6
  rw [show P.length + U.length = m by omega, show P.length = m - i by omega, h2] at h6
  exact h6

/-! order -/
def Lt2 (x y : Nt) : Prop := x.nTil < y.nTil ∨ x.nTil = y.nTil ∧ x.nTag < y.nTag
theorem Lt2.trans {x y z : Nt} (h : Lt2 x y) (k : Lt2 y z) : Lt2 x z := by unfold Lt2 at *; omega
theorem Lt2.le {x y : Nt} (h : Lt2 x y) : x.nTil ≤ y.nTil := by unfold Lt2 at h; omega
theorem Lt2.of_lt {x y : Nt} (h : x.nTil < y.nTil) : Lt2 x y := .inl h
theorem Lt2.of_le {x y : Nt} (h : ¬ y.nTil < x.nTil) (ht : x.nTag < y.nTag) : Lt2 x y := by unfold Lt2; omega
abbrev Srt (T : List Nt) : Prop := T.Pairwise Lt2

/-- a search by halves -/
theorem half_up {p : Nat → Prop} {lo hi i j : Nat} (hm : ∀ h h', lo ≤ h → h ≤ h' → h' < hi → p h' → p h) (h1 : ∀ h, lo ≤ h → h < i → p h) (hi0 : lo ≤ i) (hij : i < j) (hj : j ≤ hi) (hp : p ((i + j) / 2)) : ∀ h, lo ≤ h → h < (i + j) / 2 + 1 → p h := fun h hl hh => by
  exact hm h ((i + j) / 2) hl (by omega) (by omega) hp
theorem half_down {p : Nat → Prop} {lo hi i j : Nat} (hm : ∀ h h', lo ≤ h → h ≤ h' → h' < hi → p h' → p h) (hi0 : lo ≤ i) (hij : i < j) (hp : ¬ p ((i + j) / 2)) : ∀ h, (i + j) / 2 ≤ h → h < hi → ¬ p h := fun h hl hh hph =>
  hp (hm _ h (by omega) hl hh hph)

theorem snoc_or {α : Type} (l : List α) : l = [] ∨ ∃ l' b, l = l' ++ [b] := by
  rcases List.eq_nil_or_concat l with h | ⟨a, b, h⟩
  · exact .inl h
  · exact .inr ⟨a, b, by rw [h, List.concat_eq_append]⟩
/-- the inner loop of the insertion: x stands at j, and goes down -/
def InsI (a j : Nat) (B : List Nt) (x : Nt) (P S T : List Nt) : Prop :=
  ∃ A1 A2, B = A1 ++ A2 ∧ T = P ++ A1 ++ x :: (A2 ++ S) ∧ P.length = a ∧ a + A1.length = j ∧ (∀ y ∈ A2, x.nTil < y.nTil)
theorem InsI.start {a : Nat} {B P S : List Nt} {x : Nt} (hP : P.length = a) : InsI a (a + B.length) B x P S (P ++ B ++ x :: S) :=
  ⟨B, [], by simp, by simp, hP, by omega, by simp⟩
theorem InsI.len {a j : Nat} {B P S T : List Nt} {x : Nt} (h : InsI a j B x P S T) : a ≤ j ∧ j < T.length ∧ atT T j = x ∧ j ≤ a + B.length := by
  obtain ⟨A1, A2, rfl, rfl, rfl, rfl, _⟩ := h
  refine ⟨by omega, by simp, ?_, by simp⟩
  have := atT_append_right (P ++ A1) (x :: (A2 ++ S)) 0
  rw [Nat.add_zero, List.length_append] at this
  rw [this]; rfl
theorem InsI.down {a j : Nat} {B P S T : List Nt} {x : Nt} (h : InsI a j B x P S T) (hj : a < j) (hk : x.nTil < (atT T (j - 1)).nTil) : InsI a (j - 1) B x P S (swp T j (j - 1)) := by
  obtain ⟨A1, A2, rfl, rfl, rfl, rfl, h1⟩ := h
  obtain ⟨A3, y, rfl⟩ : ∃ A3 y, A1 = A3 ++ [y] := by
    rcases snoc_or A1 with rfl | ⟨A3, y, rfl⟩
    · simp at hj
    · exact ⟨A3, y, rfl⟩
  have e1 : P ++ (A3 ++ [y]) ++ x :: (A2 ++ S) = (P ++ A3) ++ y :: x :: (A2 ++ S) := by simp
  have e2 : P.length + (A3 ++ [y]).length - 1 = (P ++ A3).length := by simp
  have e3 : P.length + (A3 ++ [y]).length = (P ++ A3).length + 1 := by simp; omega
  rw [e2, e1] at hk
  have h3 := atT_append_right (P ++ A3) (y :: x :: (A2 ++ S)) 0
  rw [Nat.add_zero] at h3
  rw [h3] at hk
  refine ⟨A3, y :: A2, by simp, ?_, rfl, by rw [e2]; simp, ?_⟩
  · rw [e1, e2, e3, swp_comm _ (by omega), swp_next]
    simp
  · intro z hz
    rcases List.mem_cons.1 hz with rfl | hz
    · exact hk
    · exact h1 z hz
theorem InsI.stop {a j : Nat} {B P S T : List Nt} {x : Nt} (h : InsI a j B x P S T) (hB : Srt B) (ht : ∀ y ∈ B, y.nTag < x.nTag) (hs : a = j ∨ ¬ x.nTil < (atT T (j - 1)).nTil) : ∃ B', T = P ++ B' ++ S ∧ Srt B' ∧ B'.Perm (B ++ [x]) := by
  obtain ⟨A1, A2, rfl, rfl, rfl, rfl, h1⟩ := h
  refine ⟨A1 ++ x :: A2, by simp, ?_, ?_⟩
  · have hB' := List.pairwise_append.1 hB
    have key : ∀ y ∈ A1, Lt2 y x := by
      rcases snoc_or A1 with rfl | ⟨A3, y, rfl⟩
      · simp
      · have hx : ¬ x.nTil < y.nTil := by
          rcases hs with hs | hs
          · simp at hs
          · rw [show P.length + (A3 ++ [y]).length - 1 = (P ++ A3).length by simp, show P ++ (A3 ++ [y]) ++ x :: (A2 ++ S) = (P ++ A3) ++ y :: x :: (A2 ++ S) by simp] at hs
            have h3 := atT_append_right (P ++ A3) (y :: x :: (A2 ++ S)) 0
            rw [Nat.add_zero] at h3
            rw [h3] at hs
            exact hs
        have hy : Lt2 y x := Lt2.of_le hx (ht y (by simp))
        intro z hz
        rcases List.mem_append.1 hz with hz | hz
        · exact Lt2.trans ((List.pairwise_append.1 hB'.1).2.2 z hz y (by simp)) hy
        · simp at hz; rw [hz]; exact hy
    refine List.pairwise_append.2 ⟨hB'.1, List.pairwise_cons.2 ⟨fun y hy => .inl (h1 y hy), hB'.2.1⟩, fun y hy z hz => ?_⟩
    rcases List.mem_cons.1 hz with rfl | hz
    · exact key y hy
    · exact hB'.2.2 y hy z hz
  · rw [List.append_assoc]
    exact (List.perm_middle.trans (List.perm_append_singleton x (A1 ++ A2)).symm).trans (by rw [List.append_assoc])
end Go.Proofs.Ytdfklbjkcednhaa
