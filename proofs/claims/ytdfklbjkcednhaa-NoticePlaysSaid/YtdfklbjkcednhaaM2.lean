/- Plain: merging two sorted stretches by a search and a rotation. -/
import Derived.Test.YtdfklbjkcednhaaM1
namespace Go.Proofs.Ytdfklbjkcednhaa

theorem atT_left {P S : List Nt} {i : Nat} (h : i < P.length) : atT (P ++ S) i = atT P i := by
  unfold atT
  rw [List.getD_eq_getElem?_getD, List.getD_eq_getElem?_getD, List.getElem?_append_left h]
theorem atT_right {P S : List Nt} {i : Nat} (h : P.length ≤ i) : atT (P ++ S) i = atT S (i - P.length) := by
  obtain ⟨k, rfl⟩ : ∃ k, i = P.length + k := ⟨i - P.length, by omega⟩
  rw [atT_append_right, Nat.add_sub_cancel_left]
theorem atT_mem {T : List Nt} {i : Nat} (h : i < T.length) : atT T i ∈ T := by rw [atT_get h]; exact List.getElem_mem h
theorem mem_atT {T : List Nt} {x : Nt} (h : x ∈ T) : ∃ i, i < T.length ∧ atT T i = x := by
  obtain ⟨i, hi, rfl⟩ := List.getElem_of_mem h
  exact ⟨i, hi, atT_get hi⟩
theorem srt_lt {X : List Nt} (h : Srt X) {i j : Nat} (hij : i < j) (hj : j < X.length) : Lt2 (atT X i) (atT X j) := by
  rw [atT_get (by omega : i < X.length), atT_get hj]
  exact List.pairwise_iff_getElem.1 h i j (by omega) hj hij
theorem srt_le {X : List Nt} (h : Srt X) {i j : Nat} (hij : i ≤ j) (hj : j < X.length) : (atT X i).nTil ≤ (atT X j).nTil := by
  rcases Nat.lt_or_eq_of_le hij with h1 | rfl
  · exact (srt_lt h h1 hj).le
  · omega

/-- two sorted stretches side by side -/
structure Mg (T : List Nt) (a m b : Nat) (P X Y S : List Nt) : Prop where
  e : T = P ++ X ++ Y ++ S
  pa : P.length = a
  xm : a + X.length = m
  yb : m + Y.length = b
  sx : Srt X
  sy : Srt Y
  tg : ∀ x ∈ X, ∀ y ∈ Y, x.nTag < y.nTag
/-- the stretch from a to b was sorted -/
def Done (T T' : List Nt) (a b : Nat) : Prop := ∃ P Q Z S, T = P ++ Q ++ S ∧ T' = P ++ Z ++ S ∧ P.length = a ∧ a + Q.length = b ∧ Z.Perm Q ∧ Srt Z
theorem Done.len {T T' : List Nt} {a b : Nat} (h : Done T T' a b) : T'.length = T.length ∧ b ≤ T.length ∧ a ≤ b := by
  obtain ⟨P, Q, Z, S, rfl, rfl, h1, h2, h3, _⟩ := h
  have := h3.length_eq
  simp
  omega
section
variable {T : List Nt} {a m b : Nat} {P X Y S : List Nt}
theorem Mg.len (h : Mg T a m b P X Y S) : b ≤ T.length ∧ a ≤ m ∧ m ≤ b := by
  obtain ⟨rfl, h1, h2, h3, _⟩ := h
  simp
  omega
theorem Mg.atX (h : Mg T a m b P X Y S) {i : Nat} (h1 : a ≤ i) (h2 : i < m) : atT T i = atT X (i - a) := by
  have h3 := h.pa
  have h4 := h.xm
  rw [h.e, atT_left (by simp; omega), atT_left (by simp; omega), atT_right (by omega), h.pa]
theorem Mg.atY (h : Mg T a m b P X Y S) {i : Nat} (h1 : m ≤ i) (h2 : i < b) : atT T i = atT Y (i - m) := by
  have h3 := h.pa
  have h4 := h.xm
  have h5 := h.yb
  rw [h.e, atT_left (by simp; omega), atT_right (by simp; omega)]
  congr 1
  simp
  omega

/-! an element among others -/
def InsAt (a k : Nat) (B : List Nt) (z : Nt) (P S T : List Nt) : Prop := ∃ A1 A2, B = A1 ++ A2 ∧ T = P ++ A1 ++ z :: (A2 ++ S) ∧ P.length = a ∧ a + A1.length = k
theorem InsAt.len {k : Nat} {B : List Nt} {z : Nt} (h : InsAt a k B z P S T) : k < T.length ∧ k ≤ a + B.length ∧ a + B.length < T.length := by
  obtain ⟨A1, A2, rfl, rfl, rfl, rfl⟩ := h
  simp
  omega
theorem InsAt.tlen {k : Nat} {B : List Nt} {z : Nt} (h : InsAt a k B z P S T) : T.length = P.length + B.length + 1 + S.length := by
  obtain ⟨A1, A2, rfl, rfl, _⟩ := h
  simp
  omega
theorem InsAt.up {k : Nat} {B : List Nt} {z : Nt} (h : InsAt a k B z P S T) (hk : k < a + B.length) : InsAt a (k + 1) B z P S (swp T k (k + 1)) := by
  obtain ⟨A1, A2, rfl, rfl, rfl, rfl⟩ := h
  cases A2 with
  | nil => simp at hk
  | cons y A2 =>
    refine ⟨A1 ++ [y], A2, by simp, ?_, rfl, by simp; omega⟩
    have := swp_next (P ++ A1) (A2 ++ S) z y
    rw [List.length_append] at this
    rw [show P ++ A1 ++ z :: (y :: A2 ++ S) = P ++ A1 ++ z :: y :: (A2 ++ S) by simp, this]
    simp
theorem InsAt.down {k : Nat} {B : List Nt} {z : Nt} (h : InsAt a k B z P S T) (hk : a < k) : InsAt a (k - 1) B z P S (swp T k (k - 1)) := by
  obtain ⟨A1, A2, rfl, rfl, rfl, rfl⟩ := h
  rcases snoc_or A1 with rfl | ⟨A3, y, rfl⟩
  · simp at hk
  · refine ⟨A3, y :: A2, by simp, ?_, rfl, by simp⟩
    rw [show P ++ (A3 ++ [y]) ++ z :: (A2 ++ S) = (P ++ A3) ++ y :: z :: (A2 ++ S) by simp, show P.length + (A3 ++ [y]).length - 1 = (P ++ A3).length by simp, show P.length + (A3 ++ [y]).length = (P ++ A3).length + 1 by simp; omega, swp_comm _ (by omega), swp_next]
    simp
/-- one element ahead of a sorted stretch -/
theorem Mg.one (h : Mg T a m b P X Y S) (h1 : m = a + 1) : InsAt a a Y (atT T a) P S T := by
  obtain ⟨x, rfl⟩ : ∃ x, X = [x] := List.length_eq_one_iff.1 (by have := h.xm; omega)
  have := h.atX (Nat.le_refl a) (by omega)
  rw [this, Nat.sub_self]
  exact ⟨[], Y, rfl, by rw [h.e]; simp [atT], h.pa, rfl⟩
theorem Mg.two (h : Mg T a m b P X Y S) (h1 : b = m + 1) : InsAt a m X (atT T m) P S T := by
  obtain ⟨y, rfl⟩ : ∃ y, Y = [y] := List.length_eq_one_iff.1 (by have := h.yb; omega)
  have := h.atY (Nat.le_refl m) (by omega)
  rw [this, Nat.sub_self]
  exact ⟨X, [], by simp, by rw [h.e]; simp [atT], h.pa, h.xm⟩
theorem Mg.mono1 (h : Mg T a m b P X Y S) (x : Nt) : ∀ k k', m ≤ k → k ≤ k' → k' < b → (atT T k').nTil < x.nTil → (atT T k).nTil < x.nTil := fun k k' h1 h2 h3 h4 => by
  have h6 := h.yb
  rw [h.atY (by omega) h3] at h4
  rw [h.atY h1 (by omega)]
  have := srt_le h.sy (i := k - m) (j := k' - m) (by omega) (by omega)
  omega
theorem Mg.mono2 (h : Mg T a m b P X Y S) (y : Nt) : ∀ k k', a ≤ k → k ≤ k' → k' < m → ¬ y.nTil < (atT T k').nTil → ¬ y.nTil < (atT T k).nTil := fun k k' h1 h2 h3 h4 => by
  have h6 := h.xm
  rw [h.atX (by omega) h3] at h4
  rw [h.atX h1 (by omega)]
  have := srt_le h.sx (i := k - a) (j := k' - a) (by omega) (by omega)
  omega
theorem Mg.mono3 (h : Mg T a m b P X Y S) {s0 r0 p : Nat} (hs : a ≤ s0) (hr : r0 ≤ m) (hp1 : ∀ c, s0 ≤ c → c < r0 → m ≤ p - c ∧ p - c < b ∧ c ≤ p) : ∀ c c', s0 ≤ c → c ≤ c' → c' < r0 → ¬ (atT T (p - c')).nTil < (atT T c').nTil → ¬ (atT T (p - c)).nTil < (atT T c).nTil := fun c c' h1 h2 h3 h4 => by
  obtain ⟨p1, p2, p5⟩ := hp1 c h1 (by omega)
  obtain ⟨p3, p4, p6⟩ := hp1 c' (by omega) h3
  have h6 := h.xm
  have h7 := h.yb
  rw [h.atX (by omega) (by omega : c' < m), h.atY p3 p4] at h4
  rw [h.atX (by omega) (by omega : c < m), h.atY p1 p2]
  have e1 := srt_le h.sx (i := c - a) (j := c' - a) (by omega) (by omega)
  have e2 := srt_le h.sy (i := p - c' - m) (j := p - c - m) (by omega) (by omega)
  omega
theorem Mg.done1 (h : Mg T a m b P X Y S) (h1 : m = a + 1) {i : Nat} {T' : List Nt} (hi : m ≤ i) (hib : i ≤ b) (l1 : ∀ k, m ≤ k → k < i → (atT T k).nTil < (atT T a).nTil) (l2 : ∀ k, i ≤ k → k < b → ¬ (atT T k).nTil < (atT T a).nTil) (hI : InsAt a (i - 1) Y (atT T a) P S T') : Done T T' a b := by
  obtain ⟨x, rfl⟩ : ∃ x, X = [x] := List.length_eq_one_iff.1 (by have := h.xm; omega)
  have hx : atT T a = x := by rw [h.atX (Nat.le_refl a) (by omega), Nat.sub_self]; rfl
  rw [hx] at l1 l2 hI
  obtain ⟨A1, A2, rfl, rfl, hP, hA⟩ := hI
  have hyb := h.yb
  refine ⟨P, [x] ++ (A1 ++ A2), A1 ++ x :: A2, S, by rw [h.e]; simp, by simp, hP, by have := h.xm; simp at this hyb ⊢; omega, by simp [List.perm_middle], ?_⟩
  have hs := List.pairwise_append.1 h.sy
  refine List.pairwise_append.2 ⟨hs.1, List.pairwise_cons.2 ⟨fun y hy => ?_, hs.2.1⟩, fun y hy z hz => ?_⟩
  · obtain ⟨j, hj, rfl⟩ := mem_atT hy
    refine Lt2.of_le ?_ (h.tg x (by simp) _ (by simp [hy]))
    have := l2 (i + j) (by omega) (by simp at hyb; omega)
    rw [h.atY (by omega) (by simp at hyb; omega), show i + j - m = A1.length + j by omega, atT_append_right] at this
    exact this
  · have hyx : Lt2 y x := by
      obtain ⟨j, hj, rfl⟩ := mem_atT hy
      have := l1 (m + j) (by omega) (by omega)
      rw [h.atY (by omega) (by simp at hyb; omega), Nat.add_sub_cancel_left, atT_left hj] at this
      exact .inl this
    rcases List.mem_cons.1 hz with rfl | hz
    · exact hyx
    · exact hs.2.2 y hy z hz
theorem Mg.done2 (h : Mg T a m b P X Y S) (h1 : b = m + 1) {i : Nat} {T' : List Nt} (hi : a ≤ i) (him : i ≤ m) (l1 : ∀ k, a ≤ k → k < i → ¬ (atT T m).nTil < (atT T k).nTil) (l2 : ∀ k, i ≤ k → k < m → ¬ ¬ (atT T m).nTil < (atT T k).nTil) (hI : InsAt a i X (atT T m) P S T') : Done T T' a b := by
  obtain ⟨y, rfl⟩ : ∃ y, Y = [y] := List.length_eq_one_iff.1 (by have := h.yb; omega)
  have hy : atT T m = y := by rw [h.atY (Nat.le_refl m) (by omega), Nat.sub_self]; rfl
  rw [hy] at l1 l2 hI
  obtain ⟨A1, A2, rfl, rfl, hP, hA⟩ := hI
  have hxm := h.xm
  refine ⟨P, (A1 ++ A2) ++ [y], A1 ++ y :: A2, S, by rw [h.e]; simp, by simp, hP, by simp at hxm ⊢; omega, ?_, ?_⟩
  · exact (List.perm_middle.trans (List.perm_append_singleton y (A1 ++ A2)).symm)
  have hs := List.pairwise_append.1 h.sx
  have kA : ∀ z ∈ A1, Lt2 z y := fun z hz => by
    obtain ⟨j, hj, rfl⟩ := mem_atT hz
    refine Lt2.of_le ?_ (h.tg _ (by simp [hz]) y (by simp))
    have := l1 (a + j) (by omega) (by omega)
    rw [h.atX (by omega) (by simp at hxm; omega), Nat.add_sub_cancel_left, atT_left hj] at this
    exact this
  refine List.pairwise_append.2 ⟨hs.1, List.pairwise_cons.2 ⟨fun z hz => ?_, hs.2.1⟩, fun z hz u hu => ?_⟩
  · obtain ⟨j, hj, rfl⟩ := mem_atT hz
    have := l2 (i + j) (by omega) (by simp at hxm; omega)
    rw [h.atX (by omega) (by simp at hxm; omega), show i + j - a = A1.length + j by omega, atT_append_right] at this
    exact .inl (Decidable.not_not.1 this)
  · rcases List.mem_cons.1 hu with rfl | hu
    · exact kA z hz
    · exact hs.2.2 z hz u hu

/-- where both stretches are cut -/
structure Cut4 (T : List Nt) (a m b s e : Nat) (P X1 X2 Y1 Y2 S : List Nt) : Prop where
  eq : T = P ++ (X1 ++ X2) ++ (Y1 ++ Y2) ++ S
  pa : P.length = a
  xs : a + X1.length = s
  xm : s + X2.length = m
  ye : m + Y1.length = e
  yb : e + Y2.length = b
  sx : Srt (X1 ++ X2)
  sy : Srt (Y1 ++ Y2)
  tg : ∀ x ∈ X1 ++ X2, ∀ y ∈ Y1 ++ Y2, x.nTag < y.nTag
  lo : ∀ x ∈ X1, ∀ y ∈ Y2, Lt2 x y
  hi : ∀ y ∈ Y1, ∀ x ∈ X2, Lt2 y x
theorem Mg.cut (h : Mg T a m b P X Y S) {mid s0 r0 s p : Nat} (hmid : mid = (a + b) / 2) (hp : p = mid + m - 1) (hs0 : s0 = if mid < m then mid + m - b else a) (hr0 : r0 = if mid < m then mid else m) (h1 : s0 ≤ s) (h2 : s ≤ r0)
    (l1 : ∀ c, s0 ≤ c → c < s → ¬ (atT T (p - c)).nTil < (atT T c).nTil) (l2 : ∀ c, s ≤ c → c < r0 → ¬ ¬ (atT T (p - c)).nTil < (atT T c).nTil) :
    ∃ X1 X2 Y1 Y2, Cut4 T a m b s (mid + m - s) P X1 X2 Y1 Y2 S := by
  have hl := h.len
  have hxm := h.xm
  have hyb := h.yb
  have hm0 : a ≤ mid ∧ mid ≤ b := by omega
  have hs0a : a ≤ s0 := by rw [hs0]; split <;> omega
  have hr0m : r0 ≤ m := by rw [hr0]; split <;> omega
  have hse : m ≤ mid + m - s ∧ mid + m - s ≤ b := by
    refine ⟨?_, ?_⟩
    · have : r0 ≤ mid := by rw [hr0]; split <;> omega
      omega
    · by_cases hc : mid < m
      · rw [if_pos hc] at hs0; omega
      · rw [if_neg hc] at hs0; omega
  refine ⟨X.take (s - a), X.drop (s - a), Y.take (mid + m - s - m), Y.drop (mid + m - s - m), ?_⟩
  have ex : X.take (s - a) ++ X.drop (s - a) = X := List.take_append_drop _ _
  have ey : Y.take (mid + m - s - m) ++ Y.drop (mid + m - s - m) = Y := List.take_append_drop _ _
  refine ⟨by rw [ex, ey]; exact h.e, h.pa, by rw [List.length_take]; omega, by rw [List.length_drop]; omega, by rw [List.length_take]; omega, by rw [List.length_drop]; omega, by rw [ex]; exact h.sx, by rw [ey]; exact h.sy, by rw [ex, ey]; exact h.tg, fun x hx y hy => ?_, fun y hy x hx => ?_⟩
  · have l1' := List.length_pos_of_mem hx
    have l2' := List.length_pos_of_mem hy
    rw [List.length_take] at l1'
    rw [List.length_drop] at l2'
    obtain ⟨i, hi, rfl⟩ := List.getElem_of_mem hx
    obtain ⟨j, hj, rfl⟩ := List.getElem_of_mem hy
    rw [List.getElem_take, List.getElem_drop]
    rw [List.length_take] at hi
    rw [List.length_drop] at hj
    refine Lt2.of_le ?_ (h.tg _ (List.getElem_mem _) _ (List.getElem_mem _))
    have hss : s0 < s := by
      by_cases hc : mid < m
      · rw [if_pos hc] at hs0; omega
      · rw [if_neg hc] at hs0; omega
    have := l1 (s - 1) (by omega) (by omega)
    rw [h.atX (i := s - 1) (by omega) (by omega), h.atY (i := p - (s - 1)) (by omega) (by omega)] at this
    have e1 := srt_le h.sx (i := i) (j := s - 1 - a) (by omega) (by omega)
    have e2 := srt_le h.sy (i := p - (s - 1) - m) (j := mid + m - s - m + j) (by omega) (by omega)
    rw [atT_get (by omega)] at e1
    rw [atT_get (i := mid + m - s - m + j) (by omega)] at e2
    omega
  · have l1' := List.length_pos_of_mem hx
    have l2' := List.length_pos_of_mem hy
    rw [List.length_drop] at l1'
    rw [List.length_take] at l2'
    obtain ⟨i, hi, rfl⟩ := List.getElem_of_mem hx
    obtain ⟨j, hj, rfl⟩ := List.getElem_of_mem hy
    rw [List.getElem_drop, List.getElem_take]
    rw [List.length_drop] at hi
    rw [List.length_take] at hj
    have hss : s < r0 := by
      by_cases hc : mid < m
      · rw [if_pos hc] at hr0; omega
      · rw [if_neg hc] at hr0; omega
    have := Decidable.not_not.1 (l2 s (by omega) hss)
    rw [h.atX (i := s) (by omega) (by omega), h.atY (i := p - s) (by omega) (by omega)] at this
    have e1 := srt_le h.sx (i := s - a) (j := s - a + i) (by omega) (by omega)
    have e2 := srt_le h.sy (i := j) (j := p - s - m) (by omega) (by omega)
    rw [atT_get (i := s - a + i) (by omega)] at e1
    rw [atT_get (i := j) (by omega)] at e2
    exact .inl (by omega)
section
variable {s e : Nat} {X1 X2 Y1 Y2 : List Nt}
/-- the list behind the rotation -/
theorem Cut4.rot (h : Cut4 T a m b s e P X1 X2 Y1 Y2 S) (h1 : s < m) (h2 : m < e) : RotI (P ++ X1 ++ Y1 ++ X2 ++ Y2 ++ S) m (m - s) (e - m) T := by
  have := h.pa
  have := h.xs
  have := h.xm
  have := h.ye
  exact ⟨P ++ X1, X2, Y1, Y2 ++ S, by rw [h.eq]; simp, by simp; omega, by omega, by omega, by simp, by omega, by omega⟩
theorem Cut4.norot (h : Cut4 T a m b s e P X1 X2 Y1 Y2 S) (h1 : ¬ (s < m ∧ m < e)) : T = P ++ X1 ++ Y1 ++ X2 ++ Y2 ++ S := by
  have := h.xm
  have := h.ye
  rw [h.eq]
  by_cases hx : X2 = []
  · simp [hx]
  · by_cases hy : Y1 = []
    · simp [hy]
    · have := List.length_pos_iff.2 hx
      have := List.length_pos_iff.2 hy
      omega
theorem Cut4.left (h : Cut4 T a m b s e P X1 X2 Y1 Y2 S) {mid : Nat} (hm : mid = s + (e - m)) : Mg (P ++ X1 ++ Y1 ++ X2 ++ Y2 ++ S) a s mid P X1 Y1 (X2 ++ Y2 ++ S) := by
  have := h.ye
  exact ⟨by simp, h.pa, h.xs, by omega, (List.pairwise_append.1 h.sx).1, (List.pairwise_append.1 h.sy).1, fun x hx y hy => h.tg x (by simp [hx]) y (by simp [hy])⟩
/-- the left half is done -/
theorem Cut4.half (h : Cut4 T a m b s e P X1 X2 Y1 Y2 S) {mid : Nat} (hm : mid = s + (e - m)) {T1 : List Nt} (hd : Done (P ++ X1 ++ Y1 ++ X2 ++ Y2 ++ S) T1 a mid) : ∃ Z1, T1 = P ++ Z1 ++ X2 ++ Y2 ++ S ∧ Z1.Perm (X1 ++ Y1) ∧ Srt Z1 := by
  obtain ⟨P', Q, Z, S', e1, e2, h1, h2, h3, h4⟩ := hd
  have := h.pa
  have := h.ye
  have := h.xs
  have e3 : P ++ ((X1 ++ Y1) ++ (X2 ++ Y2 ++ S)) = P' ++ (Q ++ S') := by simpa using e1
  obtain ⟨rfl, e4⟩ := List.append_inj e3 (by omega)
  obtain ⟨rfl, rfl⟩ := List.append_inj e4 (by simp; omega)
  exact ⟨Z, by rw [e2]; simp, h3, h4⟩
theorem Cut4.right (h : Cut4 T a m b s e P X1 X2 Y1 Y2 S) {mid : Nat} (hm : mid = s + (e - m)) {Z1 : List Nt} (hz : Z1.Perm (X1 ++ Y1)) : Mg (P ++ Z1 ++ X2 ++ Y2 ++ S) mid e b (P ++ Z1) X2 Y2 S := by
  have h1 := hz.length_eq
  have := h.pa
  have := h.ye
  have := h.xs
  have := h.xm
  simp at h1
  exact ⟨rfl, by simp; omega, by omega, h.yb, (List.pairwise_append.1 h.sx).2.1, (List.pairwise_append.1 h.sy).2.1, fun x hx y hy => h.tg x (by simp [hx]) y (by simp [hy])⟩
theorem Cut4.done (h : Cut4 T a m b s e P X1 X2 Y1 Y2 S) {mid : Nat} (hm : mid = s + (e - m)) {Z1 T2 : List Nt} (hz : Z1.Perm (X1 ++ Y1)) (hs : Srt Z1) (hd : Done (P ++ Z1 ++ X2 ++ Y2 ++ S) T2 mid b) : Done T T2 a b := by
  obtain ⟨P', Q, Z, S', e1, e2, h1, h2, h3, h4⟩ := hd
  have hz1 := hz.length_eq
  have := h.pa
  have := h.ye
  have := h.xs
  have := h.xm
  have := h.yb
  simp at hz1
  have e3 : (P ++ Z1) ++ ((X2 ++ Y2) ++ S) = P' ++ (Q ++ S') := by simpa using e1
  obtain ⟨rfl, e4⟩ := List.append_inj e3 (by simp; omega)
  obtain ⟨rfl, rfl⟩ := List.append_inj e4 (by simp; omega)
  refine ⟨P, (X1 ++ X2) ++ (Y1 ++ Y2), Z1 ++ Z, S, by rw [h.eq]; simp, by rw [e2]; simp, h.pa, by simp; omega, ?_, ?_⟩
  · refine (hz.append h3).trans ?_
    rw [List.append_assoc, List.append_assoc]
    refine List.Perm.append_left X1 ?_
    rw [← List.append_assoc, ← List.append_assoc]
    exact List.Perm.append_right Y2 List.perm_append_comm
  · refine List.pairwise_append.2 ⟨hs, h4, fun x hx y hy => ?_⟩
    have hx' := hz.mem_iff.1 hx
    have hy' := h3.mem_iff.1 hy
    rcases List.mem_append.1 hx' with hx' | hx' <;> rcases List.mem_append.1 hy' with hy' | hy'
    · exact (List.pairwise_append.1 h.sx).2.2 x hx' y hy'
    · exact h.lo x hx' y hy'
    · exact h.hi x hx' y hy'
    · exact (List.pairwise_append.1 h.sy).2.2 x hx' y hy'
/-- an empty stretch beside a sorted one is done -/
theorem Mg.idle (h : Mg T a m b P X Y S) (h0 : ¬ (a < m ∧ m < b)) : Done T T a b := by
  have := h.xm
  have := h.yb
  refine ⟨P, X ++ Y, X ++ Y, S, by rw [h.e]; simp, by rw [h.e]; simp, h.pa, by simp; omega, List.Perm.refl _, ?_⟩
  by_cases hx : X = []
  · rw [hx]; exact h.sy
  · by_cases hy : Y = []
    · rw [hy, List.append_nil]; exact h.sx
    · have := List.length_pos_iff.2 hx
      have := List.length_pos_iff.2 hy
      omega
end
end
end Go.Proofs.Ytdfklbjkcednhaa
