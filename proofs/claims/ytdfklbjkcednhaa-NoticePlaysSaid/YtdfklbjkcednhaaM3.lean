/- Plain: a list that is sorted block by block. -/
import Derived.Test.YtdfklbjkcednhaaM2
namespace Go.Proofs.Ytdfklbjkcednhaa

/-- a stretch from a to b was sorted, by places -/
structure DoneI (T T' : List Nt) (a b : Nat) : Prop where
  len : T'.length = T.length
  perm : T'.Perm T
  far : ∀ i, i < a ∨ b ≤ i → atT T' i = atT T i
  near : ∀ i, a ≤ i → i < b → ∃ j, a ≤ j ∧ j < b ∧ atT T' i = atT T j
  so : ∀ i j, a ≤ i → i < j → j < b → Lt2 (atT T' i) (atT T' j)
theorem Done.by_place {T T' : List Nt} {a b : Nat} (h : Done T T' a b) : DoneI T T' a b := by
  obtain ⟨P, Q, Z, S, rfl, rfl, rfl, rfl, hp, hs⟩ := h
  have hl := hp.length_eq
  have q1 : ∀ (R : List Nt) i, P.length ≤ i → i < P.length + R.length → atT (P ++ R ++ S) i = atT R (i - P.length) := fun R i h1 h2 => by
    rw [atT_left (by simp; omega), atT_right h1]
  refine ⟨by simp; omega, ?_, fun i hi => ?_, fun i h1 h2 => ?_, fun i j h1 h2 h3 => ?_⟩
  · exact List.Perm.append_right S (List.Perm.append_left P hp)
  · rcases hi with hi | hi
    · rw [atT_left (by simp; omega), atT_left hi, atT_left (by simp; omega), atT_left hi]
    · rw [atT_right (by simp; omega), atT_right (by simp; omega)]
      congr 1
      simp
      omega
  · rw [q1 Z i h1 (by omega)]
    have hm : atT Z (i - P.length) ∈ Q := hp.mem_iff.1 (atT_mem (by omega))
    obtain ⟨j, hj, he⟩ := mem_atT hm
    exact ⟨P.length + j, by omega, by omega, by rw [q1 Q _ (by omega) (by omega), Nat.add_sub_cancel_left, he]⟩
  · rw [q1 Z i h1 (by omega), q1 Z j (by omega) (by omega)]
    exact srt_lt hs (by omega) (by omega)
theorem srt_of_places {X : List Nt} (h : ∀ i j, i < j → j < X.length → Lt2 (atT X i) (atT X j)) : Srt X :=
  List.pairwise_iff_getElem.2 fun i j hi hj hij => by
    have := h i j hij hj
    rwa [atT_get hi, atT_get hj] at this
/-- a list cut in three, or four -/
theorem cut3 (T : List Nt) {a b : Nat} (h1 : a ≤ b) (h2 : b ≤ T.length) : T = T.take a ++ (T.drop a).take (b - a) ++ T.drop b ∧ (T.take a).length = a ∧ a + ((T.drop a).take (b - a)).length = b := by
  refine ⟨?_, by rw [List.length_take]; omega, by rw [List.length_take, List.length_drop]; omega⟩
  conv => lhs; rw [← List.take_append_drop a T, ← List.take_append_drop (b - a) (T.drop a)]
  rw [List.drop_drop, List.append_assoc, show a + (b - a) = b by omega]
theorem atT_mid {T : List Nt} {a b i : Nat} (h1 : a ≤ b) (h2 : b ≤ T.length) (hi : i < b - a) : atT ((T.drop a).take (b - a)) i = atT T (a + i) := by
  obtain ⟨e, l1, l2⟩ := cut3 T h1 h2
  have : atT (T.take a ++ (T.drop a).take (b - a) ++ T.drop b) (a + i) = atT ((T.drop a).take (b - a)) i := by
    rw [atT_left (by rw [List.length_append]; omega), atT_right (by omega), l1, Nat.add_sub_cancel_left]
  rw [← e] at this
  exact this.symm
/-- the merge's stretches -/
theorem mg_of {T : List Nt} {a m b : Nat} (h1 : a ≤ m) (h2 : m ≤ b) (h3 : b ≤ T.length) (s1 : ∀ i j, a ≤ i → i < j → j < m → Lt2 (atT T i) (atT T j)) (s2 : ∀ i j, m ≤ i → i < j → j < b → Lt2 (atT T i) (atT T j)) (tg : ∀ i j, a ≤ i → i < m → m ≤ j → j < b → (atT T i).nTag < (atT T j).nTag) :
    Mg T a m b (T.take a) ((T.drop a).take (m - a)) ((T.drop m).take (b - m)) (T.drop b) := by
  obtain ⟨e1, l1, l2⟩ := cut3 T h1 (by omega : m ≤ T.length)
  obtain ⟨e2, l3, l4⟩ := cut3 T h2 h3
  refine ⟨?_, l1, l2, l4, srt_of_places fun i j hij hj => ?_, srt_of_places fun i j hij hj => ?_, fun x hx y hy => ?_⟩
  · conv => lhs; rw [e1]
    rw [List.append_assoc, List.append_assoc, List.append_assoc]
    congr 2
    conv => lhs; rw [← List.take_append_drop (b - m) (T.drop m)]
    rw [List.drop_drop, show m + (b - m) = b by omega]
  · rw [atT_mid h1 (by omega) (by omega), atT_mid h1 (by omega) (by omega)]
    exact s1 _ _ (by omega) (by omega) (by omega)
  · rw [atT_mid h2 h3 (by omega), atT_mid h2 h3 (by omega)]
    exact s2 _ _ (by omega) (by omega) (by omega)
  · obtain ⟨i, hi, rfl⟩ := mem_atT hx
    obtain ⟨j, hj, rfl⟩ := mem_atT hy
    rw [atT_mid h1 (by omega) (by omega), atT_mid h2 h3 (by omega)]
    exact tg _ _ (by omega) (by omega) (by omega) (by omega)
/-- the passes: up to place a, blocks of t are sorted; from there on, blocks of s -/
structure PassI (T0 T : List Nt) (s t a : Nat) : Prop where
  p : T.Perm T0
  lo : ∀ i j, i < j → j < a → i / t = j / t → Lt2 (atT T i) (atT T j)
  hi : ∀ i j, a ≤ i → i < j → j < T.length → i / s = j / s → Lt2 (atT T i) (atT T j)
  tg : ∀ i j, i < T.length → j < T.length → i / t < j / t → (atT T i).nTag < (atT T j).nTag
  ts : ∀ i j, a ≤ i → i < T.length → j < T.length → i / s < j / s → (atT T i).nTag < (atT T j).nTag
theorem div_mono {i j t : Nat} (h : i ≤ j) : i / t ≤ j / t := Nat.div_le_div_right h
/-- one more block of t elements, up to b, is sorted -/
theorem PassI.step {T0 T T' : List Nt} {s t a b k : Nat} (h : PassI T0 T s t a) (hd : DoneI T T' a b) (ht : 0 < t) (ha : a = k * t) (hb : b ≤ T.length) (hbt : b ≤ a + t) (hfull : b = a + t ∨ b = T.length) : PassI T0 T' s t b := by
  have inT : ∀ i, a ≤ i → i < b → i / t = k := fun i h1 h2 => by
    subst ha
    exact Nat.div_eq_of_lt_le (by omega) (by rw [Nat.add_mul]; omega)
  have loT : ∀ i, i < a → i / t < k := fun i h1 => Nat.div_lt_of_lt_mul (by rw [Nat.mul_comm]; omega)
  have hiT : ∀ i, b ≤ i → i < T.length → k < i / t := fun i h1 h2 => by
    rcases hfull with h3 | h3
    · exact Nat.lt_of_lt_of_le (Nat.lt_succ_self k) ((Nat.le_div_iff_mul_le ht).2 (by rw [Nat.succ_mul]; omega))
    · omega
  have src : ∀ i, i < T.length → ∃ j, j < T.length ∧ j / t = i / t ∧ atT T' i = atT T j ∧ (i < a → j = i) ∧ (b ≤ i → j = i) := fun i hi => by
    by_cases h1 : i < a
    · exact ⟨i, hi, rfl, hd.far i (.inl h1), fun _ => rfl, fun _ => rfl⟩
    · by_cases h2 : i < b
      · obtain ⟨j, j1, j2, j3⟩ := hd.near i (by omega) h2
        exact ⟨j, by omega, by rw [inT i (by omega) h2, inT j j1 j2], j3, fun h => absurd h h1, fun h => by omega⟩
      · exact ⟨i, hi, rfl, hd.far i (.inr (by omega)), fun _ => rfl, fun _ => rfl⟩
  refine ⟨hd.perm.trans h.p, fun i j hij hj hq => ?_, fun i j hi hij hj hq => ?_, fun i j hi hj hq => ?_, fun i j ha' hi hj hq => ?_⟩
  · by_cases h1 : j < a
    · rw [hd.far i (.inl (by omega)), hd.far j (.inl h1)]
      exact h.lo i j hij h1 hq
    · by_cases h2 : i < a
      · have := loT i h2
        have := inT j (by omega) hj
        omega
      · exact hd.so i j (by omega) hij hj
  · rw [hd.len] at hj
    rw [hd.far i (.inr hi), hd.far j (.inr (by omega))]
    by_cases h1 : a ≤ i
    · exact h.hi i j h1 hij hj hq
    · rcases hfull with h3 | h3
      · omega
      · omega
  · rw [hd.len] at hi hj
    obtain ⟨i', i1, i2, i3, _⟩ := src i hi
    obtain ⟨j', j1, j2, j3, _⟩ := src j hj
    rw [i3, j3]
    exact h.tg i' j' i1 j1 (by omega)
  · rw [hd.len] at hi hj
    by_cases h1 : a ≤ i
    · have hij : i < j := Nat.lt_of_not_le fun h => by have := div_mono (t := s) h; omega
      rw [hd.far i (.inr ha'), hd.far j (.inr (by omega))]
      exact h.ts i j h1 hi hj hq
    · rcases hfull with h3 | h3 <;> omega
theorem DoneI.idle {T : List Nt} {a b : Nat} (h : ∀ i j, a ≤ i → i < j → j < b → Lt2 (atT T i) (atT T j)) : DoneI T T a b :=
  ⟨rfl, .refl _, fun _ _ => rfl, fun i h1 h2 => ⟨i, h1, h2, rfl⟩, h⟩
theorem PassI.plen {T0 T : List Nt} {s t a : Nat} (h : PassI T0 T s t a) : T.length = T0.length := h.p.length_eq
/-- at the beginning: the numbers rise -/
theorem PassI.begin_ {T : List Nt} (ht : ∀ i j, i < j → j < T.length → (atT T i).nTag < (atT T j).nTag) (t : Nat) : PassI T T 1 t 0 := by
  refine ⟨.refl _, fun i j _ hj => by omega, fun i j _ hij hj hq => by simp at hq; omega, fun i j hi hj hq => ?_, fun i j _ hi hj hq => ?_⟩
  · exact ht i j (Nat.lt_of_not_le fun h => by have := div_mono (t := t) h; omega) hj
  · exact ht i j (Nat.lt_of_not_le fun h => by have := div_mono (t := 1) h; omega) hj
/-- the next pass -/
theorem PassI.next {T0 T : List Nt} {s t : Nat} (h : PassI T0 T s t T.length) (ht : 0 < t) : PassI T0 T t (2 * t) 0 := by
  refine ⟨h.p, fun i j _ hj => by omega, fun i j _ hij hj hq => h.lo i j hij hj hq, fun i j hi hj hq => h.tg i j hi hj ?_, fun i j _ hi hj hq => h.tg i j hi hj hq⟩
  rw [Nat.mul_comm, ← Nat.div_div_eq_div_mul, ← Nat.div_div_eq_div_mul] at hq
  exact Nat.lt_of_not_le fun h => by have := div_mono (t := 2) h; omega
theorem PassI.all {T0 T : List Nt} {s t : Nat} (h : PassI T0 T s t T.length) (ht : T.length ≤ t) : Srt T :=
  srt_of_places fun i j hij hj => h.lo i j hij hj (by rw [Nat.div_eq_of_lt (by omega), Nat.div_eq_of_lt (by omega)])
/-- the merge of the next two blocks -/
theorem PassI.merge {T0 T : List Nt} {s a b k : Nat} (h : PassI T0 T s (2 * s) a) (hs : 0 < s) (ha : a = k * (2 * s)) (h1 : a + s ≤ b) (h2 : b ≤ a + 2 * s) (h3 : b ≤ T.length) :
    Mg T a (a + s) b (T.take a) ((T.drop a).take (a + s - a)) ((T.drop (a + s)).take (b - (a + s))) (T.drop b) := by
  have e1 : ∀ i, a ≤ i → i < a + s → i / s = 2 * k := fun i h4 h5 => by
    have : a = (2 * k) * s := by rw [ha]; simp [Nat.mul_comm, Nat.mul_left_comm]
    exact Nat.div_eq_of_lt_le (by omega) (by rw [Nat.succ_mul]; omega)
  have e2 : ∀ i, a + s ≤ i → i < b → i / s = 2 * k + 1 := fun i h4 h5 => by
    have : a = (2 * k) * s := by rw [ha]; simp [Nat.mul_comm, Nat.mul_left_comm]
    exact Nat.div_eq_of_lt_le (by rw [Nat.succ_mul]; omega) (by rw [Nat.succ_mul, Nat.succ_mul]; omega)
  exact mg_of (by omega) h1 h3 (fun i j i1 i2 i3 => h.hi i j i1 i2 (by omega) (by rw [e1 i i1 (by omega), e1 j (by omega) i3])) (fun i j i1 i2 i3 => h.hi i j (by omega) i2 (by omega) (by rw [e2 i i1 (by omega), e2 j (by omega) i3])) (fun i j i1 i2 i3 i4 => h.ts i j i1 (by omega) (by omega) (by rw [e1 i i1 i2, e2 j i3 i4]; omega))
/-- what is left is one block already -/
theorem PassI.tail {T0 T : List Nt} {s a k : Nat} (h : PassI T0 T s (2 * s) a) (hs : 0 < s) (ha : a = k * (2 * s)) (h1 : T.length ≤ a + s) : DoneI T T a T.length := by
  have e1 : ∀ i, a ≤ i → i < T.length → i / s = 2 * k := fun i h4 h5 => by
    have : a = (2 * k) * s := by rw [ha]; simp [Nat.mul_comm, Nat.mul_left_comm]
    exact Nat.div_eq_of_lt_le (by omega) (by rw [Nat.succ_mul]; omega)
  exact DoneI.idle fun i j i1 i2 i3 => h.hi i j i1 i2 i3 (by rw [e1 i i1 (by omega), e1 j (by omega) i3])
/-- the numbers of a stretch that was not turned yet -/
theorem PassI.tags {T0 T : List Nt} {t a b : Nat} (h : PassI T0 T 1 t a) (h1 : a ≤ b) (h2 : b ≤ T.length) : ((T.drop a).take (b - a)).Pairwise fun x y => x.nTag < y.nTag :=
  List.pairwise_iff_getElem.2 fun i j hi hj hij => by
    have li : i < b - a := by simp at hi; omega
    have lj : j < b - a := by simp at hj; omega
    have e1 := atT_mid h1 h2 li
    have e2 := atT_mid h1 h2 lj
    rw [atT_get hi] at e1
    rw [atT_get hj] at e2
    rw [e1, e2]
    exact h.ts _ _ (by omega) (by omega) (by omega) (by simp; omega)
end Go.Proofs.Ytdfklbjkcednhaa
