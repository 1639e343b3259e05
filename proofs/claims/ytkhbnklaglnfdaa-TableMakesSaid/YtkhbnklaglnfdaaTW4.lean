/- Walk: the stretches at which a demand grows. -/
import Derived.Test.YtkhbnklaglnfdaaTW2
import Derived.Test.YtkhbnklaglnfdaaTM2
namespace Go.Proofs.Ytkhbnklaglnfdaa
open Go.RowKit

theorem info_int : (Try.prog.info? 3).map (fun i => (i.zero, i.size, i.bytes)) = some (some (.int .i64 0), 1, 8) := by kernel_rfl
theorem elI : Elem Try.prog 23 3 1 8 := elem_mk Try.underlying23 info_int rfl (by omega)
theorem own_set {w : World} {base : Nat} {e : TypeId} {g d : Nat} {xs : List Int} (h : Own eI 1 w base e (some ⟨g, 0, none⟩) d xs) (i : Nat) (x : Int) :
    Own eI 1 (w.setCell ⟨g, i, none⟩ (.int .i64 x)) base e (some ⟨g, 0, none⟩) d (xs.set i x) ∧ w.grownBy (w.setCell ⟨g, i, none⟩ (.int .i64 x)) (some g) := by
  have h1 := own_int_set h i x
  unfold Own
  rw [List.length_set]
  exact h1
theorem own_frozen {w : World} {base : Nat} {e : TypeId} {g d : Nat} {xs : List Int} (h : Own eI 1 w base e (some ⟨g, 0, none⟩) d xs) (i : Nat) : w.frozen? ⟨g, i, none⟩ = false := World.ownsRow.frozenAt h i
theorem own_at {w : World} {base : Nat} {e : TypeId} {g d : Nat} {xs : List Int} (h : Own eI 1 w base e (some ⟨g, 0, none⟩) d xs) {i : Nat} (hi : i < xs.length) : w.cell? ⟨g, i, none⟩ = some (.int .i64 xs[i]) := own_int_at h rfl hi

/-- a list, f of the first m and g of the others -/
def mix {α β : Type} (l : List α) (m : Nat) (f g : α → β) : List β := (l.take m).map f ++ (l.drop m).map g
section
variable {α β : Type} (l : List α) (m : Nat) (f g : α → β)
theorem mix_zero : mix l 0 f g = l.map g := by simp [mix]
theorem mix_all : mix l l.length f g = l.map f := by simp [mix]
theorem mix_len : (mix l m f g).length = l.length := by simp [mix]; omega
theorem mix_at (h : m < l.length) : (mix l m f g)[m]'(by rw [mix_len]; exact h) = g l[m] := by
  unfold mix
  rw [List.getElem_append_right (by simp; omega)]
  simp [Nat.min_eq_left (Nat.le_of_lt h)]
theorem mix_set (h : m < l.length) : (mix l m f g).set m (f l[m]) = mix l (m + 1) f g := by
  unfold mix
  rw [List.set_append_right _ _ (by simp; omega)]
  rw [show (List.map f (List.take m l)).length = m by simp; omega, Nat.sub_self, List.take_succ_eq_append_getElem h, List.drop_eq_getElem_cons h]
  simp only [List.map_append, List.map_cons, List.map_nil, List.set_cons_zero, List.append_assoc, List.cons_append, List.nil_append]
theorem mix_same (h : m < l.length) (he : f l[m] = g l[m]) : mix l (m + 1) f g = mix l m f g := by
  unfold mix
  rw [List.take_succ_eq_append_getElem h, List.drop_eq_getElem_cons h]
  simp only [List.map_append, List.map_cons, List.map_nil, List.append_assoc, List.cons_append, List.nil_append, he]
end
theorem ne_flip {O : Option Addr} {gn : Nat} (h : blk O = none ∨ blk O ≠ some gn) : blk (some (⟨gn, 0, none⟩ : Addr)) = none ∨ blk (some (⟨gn, 0, none⟩ : Addr)) ≠ blk O := by
  right
  intro e
  have e' : some gn = blk O := e
  rcases h with h | h
  · rw [h] at e'; cases e'
  · exact h e'.symm
def sliceLen : Value → Nat
  | .slice _ n _ => n
  | _ => 0

def ptsV (l : List Tk) (u : Int) : List Int := if allT l && strT u then ptsTo l (u.toNat + 1) else []

theorem tPoints_no (A : Option Addr) (l : List Tk) (c : Nat) (n : Int) (w : World) (hs : Sl eT 3 w A l) (hm : l.length ≤ 9223372036854775807) (h : (allT l && strT n) = false) :
    Calls Try.prog 24 #[.slice A l.length c, .int .i64 n] w (RetSl eI 1 3 [] w) := by
  have HA := Lib.hid (tAll_any A l c w hs hm)
  have HS := Lib.hid (fun W => tStretch_any n W)
  generalize allT l = p at *
  generalize strT n = q at *
  cases p
  · go_enter Try.func24, Try.ntmps24
    go_wp2_with (first | (go_at_call 18; (with_reducible refine HA.out.mono ?_); rintro e w2 ⟨rfl, hB⟩) | (go_at_call 29; (with_reducible refine (HS.out _).mono ?_); rintro e w2 ⟨rfl, rfl⟩))
    go_ret
    exact ⟨none, 0, rfl, Own.nil _ _ _, hB⟩
  · simp at h
    subst h
    go_enter Try.func24, Try.ntmps24
    go_wp2_with (first | (go_at_call 18; (with_reducible refine HA.out.mono ?_); rintro e w2 ⟨rfl, hB⟩) | (go_at_call 29; (with_reducible refine (HS.out _).mono ?_); rintro e w2 ⟨rfl, rfl⟩))
    go_ret
    exact ⟨none, 0, rfl, Own.nil _ _ _, hB⟩

set_option maxRecDepth 100000 in
set_option maxHeartbeats 8000000 in
theorem tPoints_yes (A : Option Addr) (l : List Tk) (c : Nat) (u : Nat) (w : World) (hs : Sl eT 3 w A l) (hm : l.length ≤ 9223372036854775807) (h : allT l = true) (h1 : u ≤ 1048576) :
    Calls Try.prog 24 #[.slice A l.length c, .int .i64 u] w (RetSl eI 1 3 (ptsTo l (u + 1)) w) := by
  obtain ⟨i0, hi0, hz0, hz1, hz2⟩ := info_parts info_int
  have HA := Lib.hid (tAll_any A l c w hs hm)
  have HS := Lib.hid (fun W => tStretch_any u W)
  have hs8 := allT_len h
  have hst : strT (u : Int) = true := decide_eq_true ⟨by omega, by omega⟩
  rw [h] at HA
  rw [hst] at HS
  clear hst
  have H := Lib.hid h
  clear h
  go_enter Try.func24, Try.ntmps24
  go_wp2_with (first | (go_at_call 18; (with_reducible refine HA.out.mono ?_); rintro e w2 ⟨rfl, hB⟩) | (go_at_call 29; (with_reducible refine (HS.out _).mono ?_); rintro e w2 ⟨rfl, rfl⟩) | (at_make; refine wpList_make_full _ rfl _ _ 23 rfl w.heap.size 3 i0 _ 1 Try.underlying23 hi0 hz0 hz1 _ _ _ _ l.length rfl rfl rfl rfl (by rw [hz2]; omega) (by simp only [maxLen]; omega) hB.size ?_; intro w3 ownH hg3))
  have hB3 : Below w.heap.size w w3 := hB.grown hg3 hB.size (fun k hk => by cases hk)
  rw [made_ints] at ownH
  have own : Own eI 1 w3 w.heap.size 3 (some ⟨w2.heap.size, 0, none⟩) l.length (mix l 0 Tk.dead (fun _ => 0)) := by
    rw [mix_zero]
    unfold Own
    rw [List.length_map, show l.map (fun _ => (0 : Int)) = List.replicate l.length 0 by simp [List.map_const']]
    exact ownH
  clear ownH hg3 hB
  have hgn : w.heap.size ≤ w2.heap.size := (own.lt _ rfl).1
  generalize w2.heap.size = gn at *
  go_loopw [26] (fun i wr => ∃ k : Nat, k ≤ l.length ∧ i = .int .i64 k ∧ Own eI 1 wr w.heap.size 3 (some ⟨gn, 0, none⟩) l.length (mix l k Tk.dead (fun _ => 0)) ∧ Below w.heap.size w wr) (fun i _ => l.length - (intOf i).toNat)
  case atStart => exact ⟨0, Nat.zero_le _, rfl, own, hB3⟩
  case round =>
    clear own hB3
    obtain ⟨k, hk, rfl, own, hB⟩ := hrel
    by_cases hlt : k < l.length
    · obtain ⟨b, off, rfl, c0, c1, c2⟩ := (hs.keep hB).tk_at hlt
      have k0 : (0 : Int) ≤ (k : Int) := by omega
      have k1 : (k : Int) < (l.length : Int) := by omega
      have hr := allT_at H.out hlt
      have f0 := own_frozen own k
      have y0 := own_at own (i := k) (by rw [mix_len]; exact hlt)
      have hgl := (own.lt gn rfl).2
      have HM := Lib.hid (mix_set l k Tk.dead (fun _ => (0 : Int)) hlt)
      have hst := own_set own k l[k].dead
      rw [HM.out] at hst
      generalize (mix l k Tk.dead (fun _ => (0 : Int)))[k]'(by rw [mix_len]; exact hlt) = z at *
      have hB2 := hB.setCell (p := ⟨gn, k, none⟩) hgn (.int .i64 l[k].dead)
      generalize l[k] = t at *
      go_wp2_with fail
      go_roundw
      case rel => exact ⟨k + 1, by omega, by go_num, hst.1.alloc _, hB2.alloc hB2.size _⟩
      case measure => simp [intOf]; omega
    · obtain rfl : k = l.length := by omega
      rw [mix_all, show l.map Tk.dead = l.map (nxt · ((0 : Nat) : Int)) from List.map_congr_left (fun t ht => (nxt_zero (allT_mem H.out t ht)).symm)] at own
      have hu1 : ((u + 1 : Nat) : Int) = (u : Int) + 1 := by omega
      go_wp2_with fail
      go_loopw [8] (fun v wo => ∃ (p n : Nat) (O : Option Addr) (d : Nat), p ≤ u + 1 ∧ v = .slice O n d ∧ n = (ptsTo l p).length ∧ n ≤ p ∧ Own eI 1 wo w.heap.size 3 (some ⟨gn, 0, none⟩) l.length (l.map (nxt · (p : Int))) ∧ Own eI 1 wo w.heap.size 3 O d (ptsTo l p) ∧ (blk O = none ∨ blk O ≠ some gn) ∧ Below w.heap.size w wo) (fun v _ => u + 1 - sliceLen v)
      case atStart => exact ⟨0, 0, none, 0, by omega, rfl, rfl, by omega, own, Own.nil _ _ _, .inl rfl, hB⟩
      case round =>
        clear own hB
        obtain ⟨p, n, O, d, hp, rfl, hn, hnp, own, ownP, hne, hB⟩ := hrel
        have HN := Lib.hid hn
        clear hn
        obtain ⟨wo, rfl⟩ : ∃ wo : World, wo = wr := ⟨_, rfl⟩
        go_wp2_with fail
        go_loop [9, 41] (fun L i => ∃ (m : Nat) (y : Int), m ≤ l.length ∧ i = .int .i64 m ∧ L = .int .i64 y ∧ (p : Int) ≤ y ∧ y ≤ (u : Int) + 1 ∧ Hid (∀ i (hi : i < l.length), i < m → y ≤ nxt l[i] p) ∧ Hid (y = (u : Int) + 1 ∨ ∃ i, ∃ (hi : i < l.length), y = nxt l[i] p)) (fun _ i => l.length - (intOf i).toNat)
        case atStart => exact ⟨0, _, Nat.zero_le _, rfl, rfl, by omega, by omega, fun i _ hi => absurd hi (by omega), .inl rfl⟩
        case round =>
          obtain ⟨m, y, hm', rfl, rfl, hy0, hy1, HY, HZ⟩ := hrel
          have m0 : (0 : Int) ≤ (m : Int) := by omega
          by_cases hlt : m < l.length
          · have m1 : (m : Int) < (l.length : Int) := by omega
            have x0 := own_at own (i := m) (by rw [List.length_map]; exact hlt)
            rw [List.getElem_map] at x0
            have hzb := (nxt_bd (allT_mem H.out _ (List.getElem_mem hlt)) (p : Int)).1
            have HY2 : Hid (∀ y', y' ≤ y → y' ≤ nxt l[m] p → ∀ i (hi : i < l.length), i < m + 1 → y' ≤ nxt l[i] p) := fun y' h1 h2 i hi hlt' => by
              by_cases he : i = m
              · subst he; exact h2
              · exact Int.le_trans h1 (HY.out i hi (by omega))
            have HZ2 : Hid (nxt l[m] p = (u : Int) + 1 ∨ ∃ i, ∃ (hi : i < l.length), nxt l[m] p = nxt l[i] p) := .inr ⟨m, hlt, rfl⟩
            generalize nxt l[m] (p : Int) = z at *
            by_cases hyz : y ≤ z
            · have hzy : ¬ z < y := by omega
              go_wp2_with fail
              go_round
              case rel => exact ⟨m + 1, y, by omega, by go_num, rfl, hy0, hy1, HY2.out y (Int.le_refl _) hyz, HZ.out⟩
              case measure => simp [intOf]; omega
            · have hzy : z < y := by omega
              go_wp2_with fail
              go_round
              case rel => exact ⟨m + 1, z, by omega, by go_num, rfl, hzb, by omega, HY2.out z (by omega) (Int.le_refl _), HZ2.out⟩
              case measure => simp [intOf]; omega
          · obtain rfl : m = l.length := by omega
            have HR : Hid (∀ t ∈ l, rightT t = true) := allT_mem H.out
            have HYM : Hid (∀ t ∈ l, y ≤ nxt t p) := fun t ht => by
              obtain ⟨i, hi, rfl⟩ := List.mem_iff_getElem.1 ht
              exact HY.out i hi hi
            clear HY
            by_cases hyu : (u : Int) < y
            · have HF : Hid (ptsTo l (u + 1) = ptsTo l p) := pts_done HR.out hp (fun t ht => by have := HYM.out t ht; omega)
              go_wp2_with fail
              go_ret
              exact ⟨O, d, by rw [HF.out, HN.out]; rfl, by rw [HF.out]; exact ownP, hB⟩
            · obtain ⟨Y, rfl⟩ := Int.eq_ofNat_of_zero_le (show 0 ≤ y by omega)
              have HF : Hid (ptsTo l (Y + 1) = ptsTo l p ++ [(Y : Int)]) := by
                rcases HZ.out with hz | ⟨i, hi, hz⟩
                · omega
                · exact pts_one HR.out (by omega) HYM.out (List.getElem_mem hi) hz
              clear HZ
              have hBs := hB.size
              go_wp2_with (at_builtin; refine wpList_append_sl _ rfl _ _ rfl elI eI_ok (ownP.alloc _) (n := n) HN.out.symm rfl (m := 1) rfl (ys := [(Y : Int)]) rfl (Sl.new eI_ok wo _ _ rfl _) (by simp only [maxLen]; omega) (by omega) (by simp; omega) _ rfl (n + 1) rfl ?_; intro A1 e1 w1 own1 hg1 at1)
              rw [← HF.out] at own1
              have own2 := (own.alloc (Obj.cells #[.int .i64 Y] 3)).kept hg1 (ne_flip hne)
              have hB1 := (hB.alloc hB.size (Obj.cells #[.int .i64 Y] 3)).grown hg1 (by simp; omega) (fun q hq => (ownP.lt q hq).1)
              have hne1 : blk A1 = none ∨ blk A1 ≠ some gn := grow_ne at1 hne (by have := (own.lt gn rfl).2; simp; omega)
              clear own ownP hne hB hg1 at1
              rw [← mix_zero l (nxt · ((Y + 1 : Nat) : Int)) (nxt · (p : Int))] at own2
              go_loopw [59] (fun i wi => ∃ m : Nat, m ≤ l.length ∧ i = .int .i64 m ∧ Own eI 1 wi w.heap.size 3 (some ⟨gn, 0, none⟩) l.length (mix l m (nxt · ((Y + 1 : Nat) : Int)) (nxt · (p : Int))) ∧ Own eI 1 wi w.heap.size 3 A1 e1 (ptsTo l (Y + 1)) ∧ Below w.heap.size w wi) (fun i _ => l.length - (intOf i).toNat)
              case atStart => exact ⟨0, Nat.zero_le _, rfl, own2, own1, hB1⟩
              case round =>
                clear own1 own2 hB1
                obtain ⟨m, hm', rfl, own, ownP, hB⟩ := hrel
                obtain ⟨wi, rfl⟩ : ∃ wi : World, wi = wr := ⟨_, rfl⟩
                by_cases hlt : m < l.length
                · obtain ⟨b, off, rfl, c0, c1, c2⟩ := (hs.keep hB).tk_at hlt
                  have k0 : (0 : Int) ≤ (m : Int) := by omega
                  have k1 : (m : Int) < (l.length : Int) := by omega
                  have hr := allT_at H.out hlt
                  have hrt := Lib.hid (allT_mem H.out _ (List.getElem_mem hlt))
                  have f0 := own_frozen own m
                  have y0 := own_at own (i := m) (by rw [mix_len]; exact hlt)
                  rw [mix_at _ _ _ _ hlt] at y0
                  have hgl := (own.lt gn rfl).2
                  have hzb := nxt_bd hrt.out (p : Int)
                  have hyz := HYM.out _ (List.getElem_mem hlt)
                  cases hq : (nxt l[m] (p : Int) == (Y : Int))
                  · have HE : Hid (nxt l[m] ((Y + 1 : Nat) : Int) = nxt l[m] (p : Int)) := by
                      have hq2 : ¬ nxt l[m] (p : Int) = (Y : Int) := by simpa using hq
                      exact nxt_eq hrt.out (by omega) (by omega)
                    have HM := Lib.hid (mix_same l m (nxt · ((Y + 1 : Nat) : Int)) (nxt · (p : Int)) hlt HE.out)
                    go_wp2_with fail
                    go_roundw
                    case rel => exact ⟨m + 1, by omega, by go_num, by rw [HM.out]; exact own, ownP, hB⟩
                    case measure => simp [intOf]; omega
                  · have hq' : nxt l[m] (p : Int) = (Y : Int) := by simpa using hq
                    have HE : Hid (nxt l[m] ((Y + 1 : Nat) : Int) = nxt l[m] (p : Int) + l[m].period) := by
                      have hpt := nxt_pt hrt.out (p : Int)
                      unfold Hid
                      rw [hq'] at hpt ⊢
                      have := nxt_step hrt.out hpt
                      rw [← this]
                      rfl
                    have HM := Lib.hid (mix_set l m (nxt · ((Y + 1 : Nat) : Int)) (nxt · (p : Int)) hlt)
                    have hst := own_set own m (nxt l[m] (p : Int) + l[m].period)
                    rw [← HE.out, HM.out, HE.out] at hst
                    have hB2 := hB.setCell (p := ⟨gn, m, none⟩) hgn (.int .i64 (nxt l[m] (p : Int) + l[m].period))
                    have hPk := ownP.kept hst.2 hne1
                    clear hq'
                    have HQ := Lib.hid hq
                    generalize nxt l[m] (p : Int) = z at *
                    generalize l[m] = t at *
                    have hw : IntKind.i64.wrap (z + t.period) = z + t.period := IntWalk.i64_in _ (by omega)
                    go_wp2_with fail
                    go_region
                    go_wp2_with fail
                    go_roundw
                    case rel => exact ⟨m + 1, by omega, by go_num, hst.1.drew, hPk.drew, hB2.drew⟩
                    case measure => simp [intOf]; omega
                · obtain rfl : m = l.length := by omega
                  rw [mix_all] at own
                  go_wp2_with fail
                  go_roundw
                  case rel => exact ⟨Y + 1, n + 1, A1, e1, by omega, rfl, by rw [HF.out, List.length_append, HN.out]; rfl, by omega, own, ownP, hne1, hB⟩
                  case measure => simp [sliceLen]; omega

theorem tPoints_any (A : Option Addr) (l : List Tk) (c : Nat) (n : Int) (w : World) (hs : Sl eT 3 w A l) (hm : l.length ≤ 9223372036854775807) :
    Calls Try.prog 24 #[.slice A l.length c, .int .i64 n] w (RetSl eI 1 3 (ptsV l n) w) := by
  unfold ptsV
  cases h : (allT l && strT n)
  · exact tPoints_no A l c n w hs hm h
  · rw [Bool.and_eq_true] at h
    have h2 := of_decide_eq_true h.2
    obtain ⟨u, rfl⟩ := Int.eq_ofNat_of_zero_le h2.1
    exact tPoints_yes A l c u w hs hm h.1 (by omega)
end Go.Proofs.Ytkhbnklaglnfdaa
