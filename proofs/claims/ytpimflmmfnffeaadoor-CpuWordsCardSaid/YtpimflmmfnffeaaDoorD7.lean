/- CpuWords answers true at every instruction and word: which instructions may be, the word of each, and that it is decoded as it was. What the table of names holds is tied to the program's text by the card; no other condition. -/
import Derived.Test.YtpimflmmfnffeaaDoorD6
import Derived.Test.YtpimflmmfnffeaaDoorTie
import Derived.Test.YtpimflmmfnffeaaDoorCards
import Derived.ProofKit
import Derived.LaidMore
import Derived.OpenShut
import Derived.Stop.Joined
import Derived.SevenTiedAt
namespace Go.Proofs.YtpimflmmfnffeaaDoor
open Go.ChangeShapes Go.WideShapes Go.ChangeAt Go.RowKit Go.Joins

abbrev laidN : List (String × DataW Unit) := [("remontoire/cpu.names", Rows.laid_remontoire_cpu_names)]
theorem gNames : Tryd.prog.globalNamed "remontoire/cpu.names" = some 0 := by kernel_rfl
theorem tNames : (Tryd.prog.globals[0]?).map (·.type) = some 48 := by kernel_rfl
theorem c9 : Tryd.prog.cellsOf 9 = 1 := by kernel_rfl
theorem c3 : Tryd.prog.cellsOf 3 = 1 := by kernel_rfl
theorem names_data : ∀ i, i ≤ 18 → (match (Rows.laid_remontoire_cpu_names : DataW Unit) with | .agg l => l[i]? | _ => none) = some (.lit (.string (nameS i).data.toList)) := by
  intro i hi
  rcases (show i = 0 ∨ i = 1 ∨ i = 2 ∨ i = 3 ∨ i = 4 ∨ i = 5 ∨ i = 6 ∨ i = 7 ∨ i = 8 ∨ i = 9 ∨ i = 10 ∨ i = 11 ∨ i = 12 ∨ i = 13 ∨ i = 14 ∨ i = 15 ∨ i = 16 ∨ i = 17 ∨ i = 18 by omega) with rfl | rfl | rfl | rfl | rfl | rfl | rfl | rfl | rfl | rfl | rfl | rfl | rfl | rfl | rfl | rfl | rfl | rfl | rfl
  all_goals rfl

theorem door_met (os : Os) (args : Array Value) : laidMetH Tryd.prog laidN ((World.doorLaid Tryd.prog 400 os).forCall (fun _ _ => 0) ⟨#[], args, []⟩).memory :=
  laidMetH_of_parts3 (fuel := 8) (laidMet_of_run' 8 (by kernel_rfl) (by kernel_rfl)) (by kernel_rfl) (by kernel_rfl)

theorem of_laid {W : World} (h : laidMetH Tryd.prog laidN W) : Names W := by
  rw [MakeChecks.laidMetH_plain _ _ _ (by kernel_rfl)] at h
  obtain ⟨ps, ⟨g0, t0, cs0, f0, p0, q0, hg0, ht0, hv0, hd0, _, _⟩, _, _⟩ := h
  obtain rfl := Option.some.inj (gNames.symm.trans hg0)
  obtain rfl := Option.some.inj (tNames.symm.trans ht0)
  obtain ⟨xs, m1, rfl, hx1, hlen, hn3, hel⟩ := DataW.trod_array Tryd.underlying48 hd0
  simp only [Prod.mk.injEq] at hx1
  intro i hi
  have h1 := hel i (by omega)
  have hd := names_data i hi
  rw [hx1.1] at hd
  simp only at hd
  rw [c9, Nat.mul_one] at h1
  rw [List.getElem?_map] at hd
  obtain ⟨y, hy, hy2⟩ := Option.map_eq_some_iff.1 hd
  rw [hy] at h1
  obtain ⟨s, e1, e2, _⟩ := DataW.trod_string Tryd.underlying9 h1
  have hs : s = nameS i := by
    rw [e2] at hy2
    simp only [DataW.lit.injEq, Lit.string.injEq] at hy2
    have := Array.toList_inj.1 hy2
    cases s
    rw [show nameS i = ⟨(nameS i).data⟩ from rfl]
    exact congrArg ByteArray.mk this
  have hc := World.var?_cell hg0 hv0 i
  rw [hc, ← hs]
  have h2 : (cs0.toList.drop i).take 1 = [.string s] := e1
  have h3 : cs0.toList[i]? = some (.string s) := by
    have := congrArg (fun l => l[0]?) h2
    simpa [List.getElem?_take, List.getElem?_drop] using this
  simpa using h3

set_option maxRecDepth 100000 in
theorem open_inst {H : Type} {enc : TypeId × Value → H} {W : World} {base : Nat} {v : Value} {d : DataW H} {p : List MemPlace} (hv : Value.okWide Tryd.prog W .any base 24 v) (h : DataW.Trod enc Tryd.prog W 0 (fun _ => true) true 24 v d p) :
    ∃ a0 a1 a2 a3 a4 : Int, v = .agg #[.int .i64 a0, .int .i64 a1, .int .i64 a2, .int .i64 a3, .int .u64 a4] ∧ 0 ≤ a4 := by
  obtain ⟨cs, rfl, hsz⟩ := okWide_struct Tryd.underlying24 hv
  have hs5 : cs.size = 5 := hsz.trans (by kernel_rfl)
  obtain ⟨fuel, hf⟩ := h
  rw [show ((Value.agg cs).cells.toList) = cs.toList from rfl] at hf
  obtain ⟨l⟩ := cs
  match l, hs5 with
  | [q0, q1, q2, q3, q4], _ =>
    obtain ⟨_, v0, y0, m0, g0, t0⟩ := dec_field Tryd.underlying24 (by kernel_rfl) (by kernel_rfl) hf 0 _ rfl
    obtain ⟨_, v1, y1, m1, g1, t1⟩ := dec_field Tryd.underlying24 (by kernel_rfl) (by kernel_rfl) hf 1 _ rfl
    obtain ⟨_, v2, y2, m2, g2, t2⟩ := dec_field Tryd.underlying24 (by kernel_rfl) (by kernel_rfl) hf 2 _ rfl
    obtain ⟨_, v3, y3, m3, g3, t3⟩ := dec_field Tryd.underlying24 (by kernel_rfl) (by kernel_rfl) hf 3 _ rfl
    obtain ⟨_, v4, y4, m4, g4, t4⟩ := dec_field Tryd.underlying24 (by kernel_rfl) (by kernel_rfl) hf 4 _ rfl
    obtain ⟨a0, e0, _, _⟩ := DataW.trod_int Tryd.underlying3 t0
    obtain ⟨a1, e1, _, _⟩ := DataW.trod_int Tryd.underlying3 t1
    obtain ⟨a2, e2, _, _⟩ := DataW.trod_int Tryd.underlying3 t2
    obtain ⟨a3, e3, _, _⟩ := DataW.trod_int Tryd.underlying3 t3
    obtain ⟨a4, e4, _, w4⟩ := DataW.trod_int Tryd.underlying22 t4
    simp at e0 e1 e2 e3 e4 g0 g1 g2 g3 g4
    subst e0 e1 e2 e3 e4 g0 g1 g2 g3 g4
    have hw := wf_u64 w4
    exact ⟨_, _, _, _, _, rfl, by omega⟩

set_option maxRecDepth 100000 in
theorem cpuWords_contract (H : Type) (enc : TypeId × Value → H) (W : World) (base : Nat) (args : Array Value) (ds gs : List (DataW H)) (before : List MemPlace)
    (hval : ∀ (j : Nat) t v, Tryd.f3.params[j]? = some t → args[j]? = some v → Value.okWide Tryd.prog W .any base t v)
    (hW : DataW.Whole enc Tryd.prog Tryd.f3.params.toList Rows.cpuWordsSpec.vars false W args.toList ds gs before) (hL : laidMetH Tryd.prog laidN W) :
    Calls Tryd.prog 3 args W fun e W' => ∃ v, e = .returned v ∧ Rows.cpuWordsSpec.post enc Tryd.prog Tryd.f3 false true false false W args v W' := by
  have hW' := hW
  have hlt := hW.lt
  obtain ⟨p, q, hA0, hV, rfl, hfz, hnd⟩ := hW
  have hA : DataW.TrodAll enc Tryd.prog W 0 (fun _ => true) true Tryd.f3.params.toList args.toList ds p := hA0
  rw [Tryd.params3] at hA hval
  obtain ⟨v0, v1, d0, d1, p0, p1, rfl, rfl, rfl, h0, h1⟩ := trodAll_two hA
  obtain ⟨rfl, rfl⟩ := trodVars_none hV
  obtain ⟨a0, a1, a2, a3, a4, rfl, h4⟩ := open_inst (hval 0 24 v0 rfl rfl) h0
  obtain ⟨x, rfl, rfl, rfl, wx⟩ := open_int Tryd.underlying22 (hval 1 22 v1 rfl rfl) h1
  have hxw := wf_u64 wx
  obtain ⟨y, rfl⟩ := Int.eq_ofNat_of_zero_le hxw.1
  clear hA0 hval
  refine (words_any a0 a1 a2 a3 a4 y W (of_laid hL) h4 (by omega)).mono fun e W' ⟨he, hb⟩ => ⟨_, he, ?_⟩
  exact law_post (tb := 4) rfl rfl Tryd.underlying4 (by rw [Tryd.params3]; decide +kernel) hW' rfl hb

set_option maxRecDepth 100000 in
theorem cpuWords_lifted (os : Os) (started : os.Started) (H : Type) (enc : TypeId × Value → H) :
    ReturnsInHanded {} Tryd.checked os 3 .any (fun w args => (Rows.cpuWordsSpec.pre enc Tryd.prog Tryd.f3 [] false w args ∧ laidMetH Tryd.prog laidN w) ∧ sizedMet enc Tryd.prog Tryd.f3 (OpenSpec.ofChange Rows.cpuWordsSpec) false w args)
      (Rows.cpuWordsSpec.post enc Tryd.prog Tryd.f3 false true false false) := by
  refine returnsInHanded_of_change_and (C := Tryd.checked) (X := fun w _ => laidMetH Tryd.prog laidN w) (fun _ _ _ hh h => h.of_heap hh) Tryd.own started (by kernel_rfl) Tryd.func3
    (ChangeSpec.witness_shaped (enc := enc) (C := Tryd.checked) (os := os) (X := fun w _ => laidMetH Tryd.prog laidN w) false (World.doorLaid Tryd.prog 400 os) #[.agg #[.int .i64 0, .int .i64 0, .int .i64 0, .int .i64 0, .int .u64 0], .int .u64 0] 8 rfl (World.shaped_of_RefB (by kernel_rfl) (by kernel_rfl)) (by kernel_rfl) (by kernel_rfl) (by kernel_rfl) (door_met os _)) ?_
  intro W base args ds gs before hval hW _ _ hL _
  exact cpuWords_contract H enc W base args ds gs before hval hW hL

theorem cpuWords_row : Rows.CpuWordsSaid :=
  OpenClaim.holds_of_wide 3 Tryd.f3 rfl rfl rfl rfl rfl rfl rfl ⟨rfl, rfl, rfl, rfl, rfl⟩ rfl rfl rfl rfl rfl (by kernel_rfl) Tryd.func3 (by kernel_rfl)
    (of_decide_eq_true (by kernel_rfl)) (by unfold Func.isWrapper; first | (rw [if_pos (by decide +kernel)]; kernel_rfl) | (rw [if_neg (by decide +kernel)]; exact ⟨rfl, rfl⟩))
    (fun os started H enc _ => cpuWords_lifted os started H enc)

theorem cpuWords_holds : Rows.CpuWordsCardSaid :=
  Claim7.holds_tied_plain_at .later [] [.data] true (true, "acd19a0c0aa7e5d8cf40caa68a0d6928f63e035da9394f5e71a547ac6c51abdc") true
    cpuWords_row (fun _ h => by cases h) (by kernel_rfl) (fun _ h => by cases h) cpuWords_row_tie rfl ⟨rfl, rfl⟩ (by kernel_rfl) rfl
    (fun f fn hf hfn => by
      obtain rfl : f = 3 := Option.some.inj ((show Tryd.prog.funcNamed "remontoire/remontoirelaw25.CpuWords" = some 3 by kernel_rfl).symm.trans hf) |>.symm
      obtain rfl : fn = Tryd.f3 := (Option.some.inj (Tryd.func3.symm.trans hfn)).symm
      exact ⟨by kernel_rfl, fun j t ht => by
        rw [Tryd.params3] at ht
        have hm : t ∈ [24, 22] := by simpa using Array.mem_of_getElem? ht
        have hall : ([24, 22].all fun u => !Tryd.prog.wantsStandIn u) = true := by kernel_rfl
        exact (show Tryd.prog.wantsStandIn t = false by simpa using List.all_eq_true.1 hall t hm)⟩)
    (by kernel_rfl)
#print axioms cpuWords_holds
end Go.Proofs.YtpimflmmfnffeaaDoor
