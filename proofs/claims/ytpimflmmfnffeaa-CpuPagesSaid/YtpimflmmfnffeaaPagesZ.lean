/- CpuPages answers true at every memory, code and number of steps: code whose pages are loaded when it stops at them does the same as though all had been loaded from the beginning. No condition. -/
import Derived.Test.YtpimflmmfnffeaaZ1
import Derived.Lib.SmallJoins
import Derived.Test.YtpimflmmfnffeaaZ7
import Derived.Test.YtpimflmmfnffeaaZ16
/- A field of slice type of a struct argument, opened by what one element reads as. -/
namespace Go.Proofs.Ytpimflmmfnffeaa
open Go.ChangeShapes Go.WideShapes Go.ChangeAt Go.RowKit Go.Deep Go.Joins Go.Lib

theorem open_rows_cell {H : Type} {enc0 : TypeId × Value → H} {P : Program} {w : World} {t e : TypeId} {v : Value} {n0 : Nat} {y0 : DataW H × List MemPlace} {α : Type} {enc : α → List Value} {sz : Nat} (good : α → Prop)
    (ht : P.underlying t = some (.slice e)) (hC : P.cellsOf e = sz) (hsz : 0 < sz) (hf : DataW.trod enc0 P w 0 (fun _ => true) true n0 t [v] = some y0)
    (hdec : ∀ (cs : List Value) (x : DataW H × List MemPlace) (n : Nat), cs.length = sz → DataW.trod enc0 P w 0 (fun _ => true) true n e cs = some x → ∃ a : α, cs = enc a ∧ good a) :
    ∃ (A : Option Addr) (xs : List α) (c : Nat), v = .slice A xs.length c ∧ xs.length ≤ c ∧ c ≤ maxLen ∧ Sl enc sz w A xs ∧ (∀ x ∈ xs, good x) := by
  obtain ⟨A, len, cap, hv⟩ := slice_form ht hf
  injection hv with hv
  subst hv
  rcases open_slice ht hf with ⟨hcs, _⟩ | ⟨a, len', cap', m, n, D, Pl, hcs, _, hl, hm, hmm, _, hi⟩
  · simp at hcs
    obtain ⟨rfl, rfl, rfl⟩ := hcs
    exact ⟨none, [], 0, rfl, by simp, by simp [maxLen], Sl.nil _ _, by simp⟩
  · simp at hcs
    obtain ⟨rfl, rfl, rfl⟩ := hcs
    simp at hmm
    subst hmm
    have key : ∀ i : Nat, ∃ x : Option α, i < len → ∃ y, x = some y ∧ good y ∧ w.cells? 0 (a.add (i * sz)) sz = some (enc y) := fun i => by
      by_cases hlt : i < len
      · obtain ⟨cs', hc, hd⟩ := hi i (by omega)
        rw [hC] at hc
        obtain ⟨y, rfl, hg⟩ := hdec cs' _ n (World.cells?_some hc).2.1 hd
        exact ⟨some y, fun _ => ⟨y, rfl, hg, hc⟩⟩
      · exact ⟨none, fun h => absurd h hlt⟩
    obtain ⟨f, hf'⟩ := Classical.axiomOfChoice key
    let xs := (List.range len).filterMap f
    have hxs : ∀ i, i < len → ∃ y, f i = some y ∧ good y ∧ w.cells? 0 (a.add (i * sz)) sz = some (enc y) := hf'
    have hlen : ∀ k, k ≤ len → ((List.range k).filterMap f).length = k := by
      intro k
      induction k with
      | zero => simp
      | succ k ih =>
        intro hk
        obtain ⟨y, hy, _⟩ := hxs k (by omega)
        rw [List.range_succ, List.filterMap_append, List.length_append, ih (by omega)]
        simp [hy]
    have hget : ∀ k, k ≤ len → ∀ i, i < k → ((List.range k).filterMap f)[i]? = f i := by
      intro k
      induction k with
      | zero => intro _ i hi; omega
      | succ k ih =>
        intro hk i hi
        obtain ⟨y, hy, _⟩ := hxs k (by omega)
        rw [List.range_succ, List.filterMap_append]
        by_cases hik : i < k
        · rw [List.getElem?_append_left (by rw [hlen k (by omega)]; exact hik)]
          exact ih (by omega) i hik
        · obtain rfl : i = k := by omega
          rw [List.getElem?_append_right (by rw [hlen i (by omega)]; omega), hlen i (by omega)]
          simp [hy]
    have hl2 := hlen len (Nat.le_refl _)
    refine ⟨some a, xs, m, by rw [show xs.length = len from hl2], by rw [show xs.length = len from hl2]; exact hl, hm, fun h0 => ?_, fun x hx => ?_⟩
    · rw [show xs.length = len from hl2] at h0
      obtain ⟨y0, _, _, hc0⟩ := hxs 0 h0
      have h00 := (World.cells?_some hc0).2.2 0 hsz
      have hl0 := (World.cells?_some hc0).2.1
      have hsp : a.spot = none := by
        have hz : (a.add (0 * sz)).add 0 = a := by simp [Addr.add]
        rw [hz, List.getElem?_eq_getElem (by omega)] at h00
        unfold World.cell? at h00
        cases hs : a.spot with
        | none => rfl
        | some s => simp [hs] at h00; split at h00 <;> simp at h00
      obtain ⟨ab, ao, asp⟩ := a
      simp at hsp
      subst hsp
      refine ⟨ab, ao, rfl, fun i x j u hx hu => ?_⟩
      have hil : i < len := by
        have := (List.getElem?_eq_some_iff.1 hx).1
        rw [show xs.length = len from hl2] at this
        exact this
      obtain ⟨y, hy, _, hc⟩ := hxs i hil
      have hxy : x = y := by
        have := hget len (Nat.le_refl _) i hil
        rw [show ((List.range len).filterMap f) = xs from rfl, hx, hy] at this
        injection this
      subst hxy
      have hj : j < sz := by
        have h1 := (World.cells?_some hc).2.1
        have h2 := (List.getElem?_eq_some_iff.1 hu).1
        omega
      have h3 := (World.cells?_some hc).2.2 j hj
      rw [hu] at h3
      rw [← h3]
      congr 1
      rw [Go.Deep.add_add]
      unfold Addr.add
      split
      · rename_i h0; rw [h0, Nat.add_zero]
      · rfl
    · obtain ⟨i, hi', hfi⟩ := List.mem_filterMap.1 hx
      obtain ⟨y, hy, hg, _⟩ := hxs i (List.mem_range.1 hi')
      rw [hy] at hfi
      injection hfi with hfi
      subst hfi
      exact hg
end Go.Proofs.Ytpimflmmfnffeaa

/- How the arguments of chapter 25's statements are opened. -/
namespace Go.Proofs.Ytpimflmmfnffeaa
open Go.ChangeShapes Go.WideShapes Go.ChangeAt Go.RowKit Go.Deep
open Tlb (En eE)

def dec_enOk (a : En) : Prop := match a with | ⟨x0, x1, x2, x3⟩ => (Lit.int .i64 x0).wf = true ∧ (Lit.int .i64 x1).wf = true ∧ (Lit.int .i64 x2).wf = true
theorem dec_en {H : Type} {enc0 : TypeId × Value → H} {w : World} (cs : List Value) (x : DataW H × List MemPlace) (n : Nat) (_hl : cs.length = 4)
    (h : DataW.trod enc0 Try.prog w 0 (fun _ => true) true n 48 cs = some x) : ∃ a : En, cs = eE a ∧ dec_enOk a := by
  obtain ⟨_, v0, y0, m0, e0, t0⟩ := dec_field Try.underlying48 (by kernel_rfl) (by kernel_rfl) h 0 _ rfl
  obtain ⟨_, v1, y1, m1, e1, t1⟩ := dec_field Try.underlying48 (by kernel_rfl) (by kernel_rfl) h 1 _ rfl
  obtain ⟨_, v2, y2, m2, e2, t2⟩ := dec_field Try.underlying48 (by kernel_rfl) (by kernel_rfl) h 2 _ rfl
  obtain ⟨_, v3, y3, m3, e3, t3⟩ := dec_field Try.underlying48 (by kernel_rfl) (by kernel_rfl) h 3 _ rfl
  obtain ⟨a0, ha0, _, hw0⟩ := DataW.trod_int Try.underlying3 t0
  obtain ⟨a1, ha1, _, hw1⟩ := DataW.trod_int Try.underlying3 t1
  obtain ⟨a2, ha2, _, hw2⟩ := DataW.trod_int Try.underlying3 t2
  obtain ⟨a3, ha3, _⟩ := DataW.trod_bool Try.underlying4 t3
  injection ha0 with ha0
  injection ha1 with ha1
  injection ha2 with ha2
  injection ha3 with ha3
  subst ha0 ha1 ha2 ha3
  refine ⟨⟨a0, a1, a2, a3⟩, ?_, ⟨hw0, hw1, hw2⟩⟩
  match cs, _hl with
  | [q0, q1, q2, q3], _ =>
    simp at e0 e1 e2 e3
    subst e0 e1 e2 e3
    rfl

theorem u64_all {l : List Int} (h : ∀ a ∈ l, (Lit.int .u64 a).wf = true) : ∀ v ∈ l, 0 ≤ v ∧ v < 18446744073709551616 := fun v hv => by
  have := wf_u64 (h v hv)
  omega
end Go.Proofs.Ytpimflmmfnffeaa

namespace Go.Proofs.Ytpimflmmfnffeaa
open Go.ChangeShapes Go.WideShapes Go.ChangeAt Go.RowKit Go.Joins

set_option maxRecDepth 100000 in
set_option maxHeartbeats 1000000 in
theorem cpuPages_contract (H : Type) (enc : TypeId × Value → H) (W : World) (base : Nat) (args : Array Value) (ds gs : List (DataW H)) (before : List MemPlace)
    (hval : ∀ (j : Nat) t v, Try.f4.params[j]? = some t → args[j]? = some v → Value.okWide Try.prog W .any base t v)
    (hW : DataW.Whole enc Try.prog Try.f4.params.toList Rows.cpuPagesSpec.vars false W args.toList ds gs before) :
    Calls Try.prog 4 args W fun e W' => ∃ v, e = .returned v ∧ Rows.cpuPagesSpec.post enc Try.prog Try.f4 false true false false W args v W' := by
  have hW' := hW
  have hlt := hW.lt
  obtain ⟨p, q, hA0, hV, rfl, hfz, hnd⟩ := hW
  have hA : DataW.TrodAll enc Try.prog W 0 (fun _ => true) true Try.f4.params.toList args.toList ds p := hA0
  rw [Try.params4] at hA hval
  obtain ⟨v0, v1, v2, d0, d1, d2, p0, p1, p2, rfl, rfl, rfl, h0, h1, h2⟩ := trodAll_three hA
  obtain ⟨rfl, rfl⟩ := trodVars_none hV
  obtain ⟨c00, c01, c02, c03, y00, y01, y02, y03, m0, rfl, rfl, rfl, hy00, hy01, hy02, hy03⟩ := open_agg4 Try.underlying24 (by kernel_rfl) (show Try.prog.cellsOf 24 = 4 by kernel_rfl) (hval 0 24 v0 rfl rfl) h0
  obtain ⟨all, e_all, rfl, w_all⟩ := DataW.trod_int Try.underlying5 hy00
  simp at e_all
  subst e_all
  have b_all := wf_u8 w_all
  obtain ⟨all, rfl⟩ := Int.eq_ofNat_of_zero_le b_all.1
  obtain ⟨took, e_took, rfl, w_took⟩ := DataW.trod_int Try.underlying5 hy01
  simp at e_took
  subst e_took
  have b_took := wf_u8 w_took
  obtain ⟨took, rfl⟩ := Int.eq_ofNat_of_zero_le b_took.1
  obtain ⟨envn, e_envn, rfl, w_envn⟩ := DataW.trod_int Try.underlying5 hy03
  simp at e_envn
  subst e_envn
  have b_envn := wf_u8 w_envn
  obtain ⟨envn, rfl⟩ := Int.eq_ofNat_of_zero_le b_envn.1
  obtain ⟨A, l, c, rfl, hc_l, hm_l, h_l, g_l⟩ := open_rows_cell (enc := Tlb.eE) dec_enOk Try.underlying22 (show Try.prog.cellsOf 48 = 4 by kernel_rfl) (by omega) hy02 dec_en
  have hl_l : l.length ≤ 9223372036854775807 := by simp only [maxLen] at hm_l; omega
  obtain ⟨C, CL, cc, rfl, hc_c, hm_c, h_c, g_c⟩ := open_rows (enc := eU) (fun a => (Lit.int .u64 a).wf = true) Try.underlying25 (show Try.prog.cellsOf 33 = 1 by kernel_rfl) (by omega) (hval 1 25 v1 rfl rfl) h1 (fun cs x n hl h => dec_int Try.underlying33 cs x n hl h)
  have hl_c : CL.length ≤ 9223372036854775807 := by simp only [maxLen] at hm_c; omega
  obtain ⟨most, rfl, rfl, rfl, w_most⟩ := open_int Try.underlying5 (hval 2 5 v2 rfl rfl) h2
  have b_most := wf_u8 w_most
  clear hA0 hval
  refine (pages_int all took envn (by omega) (by omega) (by omega) A c l C cc CL most b_most W h_l hl_l h_c (u64_all g_c) hl_c).mono fun e W' ⟨he, hb⟩ => ⟨_, he, ?_⟩
  exact law_post (tb := 4) rfl rfl Try.underlying4 (by rw [Try.params4]; decide +kernel) hW' rfl hb

set_option maxRecDepth 100000 in
theorem cpuPages_lifted (os : Os) (started : os.Started) (H : Type) (enc : TypeId × Value → H) :
    ReturnsInHanded {} Try.checked os 4 .any (Rows.cpuPagesSpec.pre6 enc Try.prog Try.f4 Rows.cpuPagesRow.domain false) (Rows.cpuPagesSpec.post enc Try.prog Try.f4 false true false false) := by
  refine returnsInHanded_of_change (C := Try.checked) Try.own started (by kernel_rfl) Try.func4
    (ChangeSpec.witness6 (enc := enc) (C := Try.checked) false ⟨#[], #[.agg #[.int .u8 0, .int .u8 0, .slice none 0 0, .int .u8 0], .slice none 0 0, .int .u8 0], []⟩ 8 (by kernel_rfl) (by kernel_rfl) (by kernel_rfl) (by kernel_rfl)) ?_
  intro W base args ds gs before hval hW _ _
  exact cpuPages_contract H enc W base args ds gs before hval hW

theorem cpuPages_holds : Rows.CpuPagesSaid :=
  OpenClaim.holds_of_wide 4 Try.f4 rfl rfl rfl rfl rfl rfl rfl ⟨rfl, rfl, rfl, rfl, rfl⟩ rfl rfl rfl rfl rfl (by kernel_rfl) Try.func4 (by kernel_rfl)
    (of_decide_eq_true (by kernel_rfl)) (by unfold Func.isWrapper; first | (rw [if_pos (by decide +kernel)]; kernel_rfl) | (rw [if_neg (by decide +kernel)]; exact ⟨rfl, rfl⟩))
    (fun os started H enc _ => cpuPages_lifted os started H enc)

#print axioms cpuPages_holds
end Go.Proofs.Ytpimflmmfnffeaa
