/- FieldGets answers true at every field and word: which fields a word has, the greatest number of each, and what stands in it, with and without a sign, are as the document says. No condition. -/
import Derived.Test.YtcenphlgclmjnaaLaw
import Derived.Test.YtcenphlgclmjnaaW3
namespace Go.Proofs.Ytcenphlgclmjnaa
open Go.ChangeShapes Go.WideShapes Go.ChangeAt Go.RowKit Go.Joins

theorem Try.cells23' : Try.prog.cellsOf 23 = 2 := by kernel_rfl

theorem wf_u64' {x : Int} (h : (Lit.int .u64 x).wf = true) : 0 ≤ x ∧ x < 18446744073709551616 := by
  have := h
  simp [Lit.wf, IntKind.min, IntKind.max, IntKind.signed, IntKind.bits] at this
  omega

theorem u64_one (q : Nat) (h : q < 18446744073709551616) : (bits BinOp.and IntKind.u64 (q : Int) 1 == 1) = (q % 2 == 1) := by
  have := u64_and_nat q 1 h (by omega)
  rw [show ((1 : Int)) = ((1 : Nat) : Int) from rfl, this, nat_mask1]
  rw [Bool.eq_iff_iff]; simp only [beq_iff_eq]; omega

theorem sign_test (s y : Nat) (hy : y < 18446744073709551616) : (bits BinOp.and IntKind.u64 ((y : Int) / 2 ^ ((s : Int).toNat - 1)) 1 == 1) = Fld.bitB y (s - 1) := by
  have e : ((y : Int) / 2 ^ ((s : Int).toNat - 1)) = ((y / 2 ^ (s - 1) : Nat) : Int) := by
    rw [Int.natCast_ediv, Int.toNat_natCast]; simp
  have hd : y / 2 ^ (s - 1) ≤ y := Nat.div_le_self _ _
  rw [e, u64_one _ (by omega)]; rfl

theorem sign_no (s y : Nat) (hy : y < 18446744073709551616) (hb : Fld.bitB y (s - 1) = false) : signI (s : Int) (y : Int) = wrap64 y := by
  unfold signI
  rw [sign_test s y hy, hb]; simp

theorem sign_or (s y : Nat) (h1 : 1 ≤ s) (h2 : s ≤ 64) (hy : y < 2 ^ s) :
    bits BinOp.or IntKind.u64 (y : Int) (bits BinOp.xor IntKind.u64 IntKind.u64.max (mostI s)) = ((18446744073709551616 - 2 ^ s + y : Nat) : Int) := by
  have hs : 2 ^ s ≤ 2 ^ 64 := Nat.pow_le_pow_right (by omega) h2
  have h0 := Nat.two_pow_pos s
  have em : mostI s = ((2 ^ s - 1 : Nat) : Int) := by
    unfold mostI; rw [Int.toNat_natCast, Int.natCast_sub (by omega)]; simp
  have ex : IntKind.u64.max = ((18446744073709551615 : Nat) : Int) := by rfl
  rw [em, ex, u64_xor_nat _ _ (by omega) (by omega)]
  have e2 : 18446744073709551615 ^^^ (2 ^ s - 1) = 18446744073709551616 - 2 ^ s := by
    have : ∀ k : Fin 65, 18446744073709551615 ^^^ (2 ^ k.val - 1) = 18446744073709551616 - 2 ^ k.val := by decide +kernel
    exact this ⟨s, by omega⟩
  rw [e2, u64_or_nat _ _ (by omega) (by omega), Nat.or_comm, nat_join s _ _ _ hy]
  have : ∀ k : Fin 65, (18446744073709551616 - 2 ^ k.val) % 2 ^ k.val = 0 := by decide +kernel
  exact this ⟨s, by omega⟩

theorem bit_high (s y : Nat) (h1 : 1 ≤ s) (hy : y < 2 ^ s) (hb : Fld.bitB y (s - 1) = true) : 2 ^ (s - 1) ≤ y := by
  rw [Fld.bitB_test] at hb
  exact Nat.ge_two_pow_of_testBit hb

theorem bit_low (s y : Nat) (h1 : 1 ≤ s) (hy : y < 2 ^ s) (hb : Fld.bitB y (s - 1) = false) : y < 2 ^ (s - 1) := by
  unfold Fld.bitB at hb
  have e : 2 ^ s = 2 ^ (s - 1) * 2 := by rw [← Nat.pow_succ]; congr 1; omega
  have hp := Nat.two_pow_pos (s - 1)
  have h3 : y / 2 ^ (s - 1) < 2 := Nat.div_lt_of_lt_mul (by omega)
  have h4 : ¬ y / 2 ^ (s - 1) % 2 = 1 := by simpa using hb
  have h5 : y / 2 ^ (s - 1) = 0 := by
    generalize y / 2 ^ (s - 1) = q at *
    omega
  exact (Nat.div_eq_zero_iff.1 h5).resolve_left (by omega)

theorem half_le (s : Nat) (h1 : 1 ≤ s) (h2 : s ≤ 64) : 2 ^ (s - 1) ≤ 9223372036854775808 :=
  Nat.le_trans (Nat.pow_le_pow_right (by omega) (show s - 1 ≤ 63 by omega)) (by decide)

theorem sign_neg (s y : Nat) (h1 : 1 ≤ s) (h2 : s < 64) (hy : y < 2 ^ s) (hb : Fld.bitB y (s - 1) = true) :
    signI (s : Int) (y : Int) = wrap64 (wrap64 y - wrap64 (2 ^ (s : Int).toNat)) := by
  have hs : 2 ^ s ≤ 2 ^ 63 := Nat.pow_le_pow_right (by omega) (by omega)
  unfold signI
  rw [sign_test s y (by omega), hb, if_pos rfl, sign_or s y h1 (by omega) hy, Int.toNat_natCast]
  have hh := bit_high s y h1 hy hb
  have e : 2 ^ s = 2 ^ (s - 1) * 2 := by rw [← Nat.pow_succ]; congr 1; omega
  have e3 : ((2 : Int) ^ s) = ((2 ^ s : Nat) : Int) := by simp
  rw [e3]
  unfold wrap64
  omega

theorem sign_64 (y : Nat) (hy : y < 2 ^ 64) (hb : Fld.bitB y (64 - 1) = true) : signI ((64 : Nat) : Int) (y : Int) = wrap64 y := by
  unfold signI
  rw [sign_test 64 y (by omega), hb, if_pos rfl, sign_or 64 y (by omega) (by omega) hy]
  congr 1
  omega

theorem fieldGets_any (a s x : Int) (w : World) (x0 : 0 ≤ x) (x1 : x < 18446744073709551616) :
    Calls Try.prog 4 #[.agg #[.int .i64 a, .int .i64 s], .int .u64 x] w fun e w' => e = .returned (.bool true) ∧ Below w.heap.size w w' := by
  by_cases h : 1 ≤ s ∧ s ≤ 64 ∧ 0 ≤ a ∧ a + s ≤ 64
  · obtain ⟨h1, h2, h3, h4⟩ := h
    have hlt := Fld.getN_lt a.toNat s.toNat x.toNat
    have hs : 2 ^ s.toNat ≤ 2 ^ 64 := Nat.pow_le_pow_right (by omega) (by omega)
    have g1 : Shut (∀ w : World, Calls Try.prog 9 #[.agg #[.int .i64 a, .int .i64 s], .int .u64 x] w fun e w' => e = .returned (.int .u64 (Fld.getN a.toNat s.toNat x.toNat : Nat)) ∧ Below w.heap.size w w') := fun w => get_yes a s x w h1 h2 h3 h4 x0 x1
    have g2 : Shut (∀ w : World, Calls Try.prog 15 #[.agg #[.int .i64 a, .int .i64 s], .int .u64 x] w fun e w' => e = .returned (.int .u64 (Fld.getN a.toNat s.toNat x.toNat : Nat)) ∧ Below w.heap.size w w') := fun w => refGet_yes a s x w h1 h2 h3 h4 x0 x1
    have eb : Fld.bitB (Fld.getN a.toNat s.toNat x.toNat) (s.toNat - 1) = Fld.bitB x.toNat (a.toNat + s.toNat - 1) := by
      rw [Fld.bitB_test, Fld.bitB_test]
      unfold Fld.getN
      rw [Nat.testBit_mod_two_pow, Fld.div_testBit]
      have : s.toNat - 1 < s.toNat := by omega
      simp only [this, decide_true, Bool.true_and]
      congr 1; omega
    generalize hy : Fld.getN a.toNat s.toNat x.toNat = y at *
    have g3 : Shut (∀ w : World, Calls Try.prog 17 #[.agg #[.int .i64 a, .int .i64 s], .int .u64 x] w fun e w' => e = .returned (.int .i64 (signI s y)) ∧ Below w.heap.size w w') := fun w => signed_at a s x y w h1 h2 h3 h4 g1 (by omega) (by omega)
    obtain ⟨S, rfl⟩ := Int.eq_ofNat_of_zero_le (show 0 ≤ s by omega)
    rw [Int.toNat_natCast] at *
    by_cases h64 : S < 64
    · have g4 : Shut (∀ w : World, Calls Try.prog 16 #[.int .u64 x, .int .i64 (a + S - 1)] w fun e w' => e = .returned (.bool (Fld.bitB x.toNat (a.toNat + S - 1))) ∧ w = w') := fun w => bit_at x _ _ w (by omega) x0 x1 (by omega)
      cases hb : Fld.bitB y (S - 1)
      · rw [← eb, hb] at g4
        exact fieldGets_pos a S x y _ w h1 (by omega) h3 h4 g1 g2 g3 g4 (by omega) (by omega) (sign_no S y (by omega) hb)
      · rw [← eb, hb] at g4
        exact fieldGets_neg a S x y _ w h1 (by omega) h3 h4 g1 g2 g3 g4 (by omega) (by omega) (sign_neg S y (by omega) h64 hlt hb)
    · obtain rfl : S = 64 := by omega
      refine fieldGets_all a _ x y _ w h1 (by omega) h3 h4 g1 g2 g3 (by omega) (by omega) ?_
      cases hb : Fld.bitB y (64 - 1)
      · exact sign_no 64 y (by omega) hb
      · exact sign_64 y hlt hb
  · exact fieldGets_no a s x 0 w (rightB_f h) rfl

theorem fieldGets_contract (H : Type) (enc : TypeId × Value → H) (W : World) (base : Nat) (args : Array Value) (ds gs : List (DataW H)) (before : List MemPlace)
    (hval : ∀ (j : Nat) t v, Try.f4.params[j]? = some t → args[j]? = some v → Value.okWide Try.prog W .any base t v)
    (hW : DataW.Whole enc Try.prog Try.f4.params.toList Rows.fieldGetsSpec.vars false W args.toList ds gs before) :
    Calls Try.prog 4 args W fun e W' => ∃ v, e = .returned v ∧ Rows.fieldGetsSpec.post enc Try.prog Try.f4 false true false false W args v W' := by
  have hW' := hW
  obtain ⟨p, q, hA0, hV, rfl, hfz, hnd⟩ := hW
  have hA : DataW.TrodAll enc Try.prog W 0 (fun _ => true) true Try.f4.params.toList args.toList ds p := hA0
  rw [Try.params4] at hA hval
  obtain ⟨v0, v1, d0, d1, p0, p1, rfl, rfl, rfl, h0, h1⟩ := trodAll_two hA
  obtain ⟨rfl, rfl⟩ := trodVars_none hV
  obtain ⟨c0, c1, y0, y1, m, rfl, rfl, rfl, hy0, hy1⟩ := open_agg2 Try.underlying23 (by kernel_rfl) Try.cells23' (hval 0 23 v0 rfl rfl) h0
  obtain ⟨a, e0, rfl, wa⟩ := DataW.trod_int Try.underlying3 hy0
  obtain ⟨s, e1, rfl, ws⟩ := DataW.trod_int Try.underlying3 hy1
  simp at e0 e1
  subst e0 e1
  obtain ⟨x, rfl, rfl, rfl, wx⟩ := open_int Try.underlying24 (hval 1 24 v1 rfl rfl) h1
  have bx := wf_u64' wx
  clear hA0 hval
  refine (fieldGets_any a s x W bx.1 bx.2).mono fun e W' ⟨he, hb⟩ => ⟨_, he, ?_⟩
  exact law_post (tb := 4) rfl rfl Try.underlying4 (by rw [Try.params4]; decide +kernel) hW' rfl hb

set_option maxRecDepth 100000 in
theorem fieldGets_lifted (os : Os) (started : os.Started) (H : Type) (enc : TypeId × Value → H) :
    ReturnsInHanded {} Try.checked os 4 .any (Rows.fieldGetsSpec.pre6 enc Try.prog Try.f4 Rows.fieldGetsRow.domain false) (Rows.fieldGetsSpec.post enc Try.prog Try.f4 false true false false) := by
  refine returnsInHanded_of_change (C := Try.checked) Try.own started (by kernel_rfl) Try.func4
    (ChangeSpec.witness6 (enc := enc) (C := Try.checked) false ⟨#[], #[.agg #[.int .i64 0, .int .i64 0], .int .u64 0], []⟩ 8 (by kernel_rfl) (by kernel_rfl) (by kernel_rfl) (by kernel_rfl)) ?_
  intro W base args ds gs before hval hW _ _
  exact fieldGets_contract H enc W base args ds gs before hval hW

theorem fieldGets_holds : Rows.FieldGetsSaid :=
  OpenClaim.holds_of_wide 4 Try.f4 rfl rfl rfl rfl rfl rfl rfl ⟨rfl, rfl, rfl, rfl, rfl⟩ rfl rfl rfl rfl rfl (by kernel_rfl) Try.func4 (by kernel_rfl)
    (of_decide_eq_true (by kernel_rfl)) (by unfold Func.isWrapper; first | (rw [if_pos (by decide +kernel)]; kernel_rfl) | (rw [if_neg (by decide +kernel)]; exact ⟨rfl, rfl⟩))
    (fun os started H enc _ => fieldGets_lifted os started H enc)

#print axioms fieldGets_holds
end Go.Proofs.Ytcenphlgclmjnaa
