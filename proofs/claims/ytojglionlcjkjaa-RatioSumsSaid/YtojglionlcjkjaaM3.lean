/- Plain: the sum of many fractions is the same in the other order. -/
import Derived.Test.YtojglionlcjkjaaW7
namespace Go.Proofs.Ytojglionlcjkjaa

theorem ring1 (an q bn p g : Nat) : (an * q + bn * p) * ((g * p) * (g * q)) = (p * (g * q)) * (an * (g * q) + bn * (g * p)) := by grind
theorem ring2 (num td P den tn N d b n a : Nat) (ih : num * (td * P) = den * (tn * P + td * N)) (h : tn * (d * b) = td * (n * b + a * d)) : td * (num * (d * (b * P))) = td * (den * (n * (b * P) + d * (a * P + b * N))) := by grind

theorem addR_exact {an ad bn bd : Nat} (h : (addR an ad bn bd).err = 0) : (addR an ad bn bd).num * (ad * bd) = (addR an ad bn bd).den * (an * bd + bn * ad) ∧ 0 < (addR an ad bn bd).den ∧ Nat.gcd (addR an ad bn bd).num (addR an ad bn bd).den = 1 ∧ 0 < ad ∧ 0 < bd := by
  unfold addR at h ⊢
  split
  · rename_i hr
    rw [Bool.and_eq_true] at hr
    have h1 := rightR_t hr.1
    have h2 := rightR_t hr.2
    split
    · have hg : 0 < Nat.gcd ad bd := Nat.gcd_pos_of_pos_right _ h2.1
      obtain ⟨p, hp⟩ := Nat.gcd_dvd_left ad bd
      obtain ⟨q, hq⟩ := Nat.gcd_dvd_right ad bd
      have ep : ad / Nat.gcd ad bd = p := Nat.div_eq_of_eq_mul_right hg hp
      have eq_ : bd / Nat.gcd ad bd = q := Nat.div_eq_of_eq_mul_right hg hq
      rw [ep, eq_]
      generalize Nat.gcd ad bd = g at *
      have hp0 : 0 < p := Nat.pos_of_ne_zero fun e => by rw [e, Nat.mul_zero] at hp; omega
      have hD : 0 < p * bd := Nat.mul_pos hp0 h2.1
      have hS : (an * q + bn * p) * (ad * bd) = (p * bd) * (an * bd + bn * ad) := by
        rw [hp, hq]; exact ring1 an q bn p g
      generalize an * q + bn * p = S at *
      generalize p * bd = D at *
      unfold makeR
      simp only
      have hh : 0 < Nat.gcd S D := Nat.gcd_pos_of_pos_right _ hD
      refine ⟨?_, Nat.div_pos (Nat.gcd_le_right _ hD) hh, by rw [Nat.gcd_div (Nat.gcd_dvd_left S D) (Nat.gcd_dvd_right S D), Nat.div_self hh], h1.1, h2.1⟩
      have e1 : S / Nat.gcd S D * D = D / Nat.gcd S D * S := by
        obtain ⟨s, hs⟩ := Nat.gcd_dvd_left S D
        obtain ⟨t, ht⟩ := Nat.gcd_dvd_right S D
        have es : S / Nat.gcd S D = s := Nat.div_eq_of_eq_mul_right hh hs
        have et : D / Nat.gcd S D = t := Nat.div_eq_of_eq_mul_right hh ht
        rw [es, et]
        generalize Nat.gcd S D = k at *
        rw [hs, ht]
        grind
      generalize S / Nat.gcd S D = a at *
      generalize D / Nat.gcd S D = b at *
      refine Nat.eq_of_mul_eq_mul_left hD ?_
      generalize ad * bd = u at *
      generalize an * bd + bn * ad = v at *
      calc D * (a * u) = (a * D) * u := by grind
        _ = (b * S) * u := by rw [e1]
        _ = b * (S * u) := by grind
        _ = b * (D * v) := by rw [hS]
        _ = D * (b * v) := by grind
    · rename_i hn
      rw [if_pos (by rw [hr.1, hr.2]; rfl), if_neg hn] at h
      cases h
  · rename_i hr
    rw [if_neg hr] at h
    cases h

/-- all fractions over one denominator -/
def totN : List Rt → Nat
  | [] => 0
  | r :: rs => r.num * (rs.map (·.den)).foldr (· * ·) 1 + r.den * totN rs
def totP (l : List Rt) : Nat := (l.map (·.den)).foldr (· * ·) 1
theorem totP_cons (r : Rt) (l : List Rt) : totP (r :: l) = r.den * totP l := rfl
theorem totN_cons (r : Rt) (l : List Rt) : totN (r :: l) = r.num * totP l + r.den * totN l := rfl
theorem totP_snoc (l : List Rt) (r : Rt) : totP (l ++ [r]) = totP l * r.den := by
  induction l with
  | nil => simp [totP]
  | cons x l ih => rw [List.cons_append, totP_cons, totP_cons, ih, Nat.mul_assoc]
theorem totN_snoc (l : List Rt) (r : Rt) : totN (l ++ [r]) = totN l * r.den + totP l * r.num := by
  induction l with
  | nil => simp [totN, totP]
  | cons x l ih => rw [List.cons_append, totN_cons, totN_cons, ih, totP_snoc, totP_cons]; grind
theorem tot_rev (l : List Rt) : totP l.reverse = totP l ∧ totN l.reverse = totN l := by
  induction l with
  | nil => exact ⟨rfl, rfl⟩
  | cons r l ih =>
    rw [List.reverse_cons, totP_snoc, totN_snoc, totP_cons, totN_cons, ih.1, ih.2]
    exact ⟨Nat.mul_comm _ _, by grind⟩

theorem sumR_exact : ∀ (l : List Rt) (n d : Nat), 0 < d → Nat.gcd n d = 1 → (sumR n d l).err = 0 →
    (sumR n d l).num * (d * totP l) = (sumR n d l).den * (n * totP l + d * totN l) ∧ 0 < (sumR n d l).den ∧ Nat.gcd (sumR n d l).num (sumR n d l).den = 1 ∧ 0 < totP l
  | [], n, d, hd, hg, _ => by
    refine ⟨?_, hd, hg, by simp [totP]⟩
    simp [sumR, totP, totN, Nat.mul_comm]
  | r :: rs, n, d, hd, hg, h => by
    unfold sumR at h ⊢
    split
    · rename_i he
      rw [if_pos he] at h
      obtain ⟨h1, h2, h3, _, h5⟩ := addR_exact he
      obtain ⟨i1, i2, i3, i4⟩ := sumR_exact rs _ _ h2 h3 h
      refine ⟨?_, i2, i3, by rw [totP_cons]; exact Nat.mul_pos h5 i4⟩
      rw [totP_cons, totN_cons]
      exact Nat.eq_of_mul_eq_mul_left h2 (ring2 _ _ _ _ _ _ _ _ _ _ i1 h1)
    · rename_i he
      rw [if_neg he] at h
      exact absurd h he

theorem frac_eq {n d m e : Nat} (hd : 0 < d) (he : 0 < e) (h1 : Nat.gcd n d = 1) (h2 : Nat.gcd m e = 1) (h : n * e = m * d) : n = m ∧ d = e := by
  have a1 : d ∣ e := by
    have : d ∣ n * e := ⟨m, by rw [h, Nat.mul_comm]⟩
    exact Nat.Coprime.dvd_of_dvd_mul_left (by rw [Nat.Coprime, Nat.gcd_comm]; exact h1) this
  have a2 : e ∣ d := by
    have : e ∣ m * d := ⟨n, by rw [← h, Nat.mul_comm]⟩
    exact Nat.Coprime.dvd_of_dvd_mul_left (by rw [Nat.Coprime, Nat.gcd_comm]; exact h2) this
  have hde := Nat.dvd_antisymm a1 a2
  subst hde
  exact ⟨Nat.eq_of_mul_eq_mul_right hd h, rfl⟩

/-- forwards and backwards, if there is no error -/
theorem sum_both (l : List Rt) (h1 : (sumR 0 1 l).err = 0) (h2 : (sumR 0 1 l.reverse).err = 0) : sumR 0 1 l = sumR 0 1 l.reverse := by
  obtain ⟨a1, a2, a3, a4⟩ := sumR_exact l 0 1 (by omega) rfl h1
  obtain ⟨b1, b2, b3, _⟩ := sumR_exact l.reverse 0 1 (by omega) rfl h2
  rw [(tot_rev l).1, (tot_rev l).2] at b1
  simp only [Nat.one_mul, Nat.zero_mul, Nat.zero_add] at a1 b1
  generalize sumR 0 1 l = s at *
  generalize sumR 0 1 l.reverse = t at *
  obtain ⟨n, d, e⟩ := s
  obtain ⟨m, c, e'⟩ := t
  simp only at *
  have hx : n * c = m * d := by
    refine Nat.eq_of_mul_eq_mul_right a4 ?_
    calc n * c * totP l = c * (n * totP l) := by grind
      _ = c * (d * totN l) := by rw [a1]
      _ = d * (c * totN l) := by grind
      _ = d * (m * totP l) := by rw [b1]
      _ = m * d * totP l := by grind
  obtain ⟨r1, r2⟩ := frac_eq a2 b2 a3 b3 hx
  subst r1 r2
  rw [h1, h2]
end Go.Proofs.Ytojglionlcjkjaa
