/- Walk: the statement NoticeGrace. -/
import Derived.Test.YtdfklbjkcednhaaM5
namespace Go.Proofs.Ytdfklbjkcednhaa
open Go.RowKit Go.Lib

structure ActS where
  kind : Int
  env : Int
  frm : Int
  now : Int
  grc : Int
def eA (a : ActS) : List Value := [.int .i64 a.kind, .int .i64 a.env, .int .i64 a.frm, .int .i64 a.now, .int .i64 a.grc]
theorem Sl.act_at {w : World} {A : Option Addr} {xs : List ActS} {i : Nat} (h : Sl eA 5 w A xs) (hi : i < xs.length) :
    ∃ b off, A = some ⟨b, off, none⟩ ∧ w.cell? ⟨b, off + i * 5, none⟩ = some (.int .i64 xs[i].kind) ∧ w.cell? ⟨b, off + i * 5 + 1, none⟩ = some (.int .i64 xs[i].env) ∧ w.cell? ⟨b, off + i * 5 + 1 + 1, none⟩ = some (.int .i64 xs[i].frm) ∧ w.cell? ⟨b, off + i * 5 + 1 + 1 + 1, none⟩ = some (.int .i64 xs[i].now) ∧ w.cell? ⟨b, off + i * 5 + 1 + 1 + 1 + 1, none⟩ = some (.int .i64 xs[i].grc) := by
  obtain ⟨b, off, hA, hc⟩ := h.at_ hi
  refine ⟨b, off, hA, ?_, ?_, ?_, ?_, ?_⟩
  · simpa using hc 0 _ (show (eA xs[i])[0]? = some (.int .i64 xs[i].kind) from rfl)
  · simpa [Nat.add_assoc] using hc 1 _ (show (eA xs[i])[1]? = some (.int .i64 xs[i].env) from rfl)
  · simpa [Nat.add_assoc] using hc 2 _ (show (eA xs[i])[2]? = some (.int .i64 xs[i].frm) from rfl)
  · simpa [Nat.add_assoc] using hc 3 _ (show (eA xs[i])[3]? = some (.int .i64 xs[i].now) from rfl)
  · simpa [Nat.add_assoc] using hc 4 _ (show (eA xs[i])[4]? = some (.int .i64 xs[i].grc) from rfl)
def uC (U : List Int) : Array Value := (U.map (Value.int .i64 ·)).toArray
abbrev Ub (w : World) (u : Nat) (U : List Int) : Prop := Blk w u 33 (uC U)
theorem Ub.cell {w : World} {u : Nat} {U : List Int} (h : Ub w u U) {i : Nat} {x : Int} (hi : U[i]? = some x) : w.cell? ⟨u, i, none⟩ = some (.int .i64 x) := Blk.cell h i _ (by simp [uC, hi])
theorem Ub.set {w : World} {u : Nat} {U : List Int} (h : Ub w u U) (i : Nat) (x : Int) : Ub (w.setCell ⟨u, i, none⟩ (.int .i64 x)) u (U.set i x) := by
  have := Blk.set_ h i (.int .i64 x)
  unfold Ub uC at *
  rwa [List.setIfInBounds_toArray, ← List.map_set] at this
theorem Ub.there {w : World} {u : Nat} {U : List Int} (h : Ub w u U) {i : Nat} (hi : i < U.length) : w.there u i 1 := Blk.one h (by simp [uC, hi])
def zeroU : Array Value := uC (List.replicate 256 0)
theorem zero_until : ∀ w, (zeroValue 33).run Try.prog w = .ok (.agg zeroU) w := fun w => by kernel_rfl

/-- a cell of another block is stored -/
theorem Bd.far {w : World} {g c : Nat} {A : Option Addr} {L : List Nt} {VS : List Vc} {u : Nat} {U : List Int} (h : Bd w g A c L VS) (hu : Ub w u U) (hug : u ≠ g) (i : Nat) (v : Value) : Bd (w.setCell ⟨u, i, none⟩ v) g A c L VS :=
  ⟨h.b.far (by simpa using Ne.symm hug) v, h.o.kept (only_set (only_refl w u) i v) (by
    cases hb : blk A with
    | none => exact .inl rfl
    | some q =>
      right
      intro e
      injection e with e
      obtain ⟨cs, hq⟩ := h.o.ty q hb
      exact blk_ne hq hu (by decide) e), h.v8, h.ok⟩

set_option maxRecDepth 100000 in
set_option maxHeartbeats 8000000 in
theorem grace_any (A2 : Option Addr) (l : List ActS) (c2 : Nat) (w : World) (hs2 : Sl eA 5 w A2 l) (hl2 : l.length ≤ 9223372036854775807) :
    Calls Try.prog 3 #[.slice A2 l.length c2] w fun e w' => e = .returned (.bool true) ∧ Below w.heap.size w w' := by
  have hz := zero_board
  have hzu := zero_until
  go_enter Try.func3, Try.ntmps3
  go_wp2_with fail
  refine (awake_any _).mono ?_
  rintro e w1 ⟨rfl, hB⟩
  have hb0 := (Bd.new w1 rfl).keep (below1 (w1.alloc (Obj.cells zeroB 31)) (Obj.cells zeroU 33))
  have hu0 : Ub ((w1.alloc (Obj.cells zeroB 31)).alloc (Obj.cells zeroU 33)) (w1.heap.size + 1) (List.replicate 256 0) := Blk.new' _ _ _ (by simp)
  have hB1 : Below w.heap.size w ((w1.alloc (Obj.cells zeroB 31)).alloc (Obj.cells zeroU 33)) := (hB.alloc hB.size _).alloc (by simp; have := hB.size; omega) _
  have hgB : w.heap.size ≤ w1.heap.size := hB.size
  obtain ⟨u, hu⟩ : ∃ u, u = w1.heap.size + 1 := ⟨_, rfl⟩
  rw [← hu] at hu0
  have hug : u ≠ w1.heap.size := by omega
  have huB : w.heap.size ≤ u := by omega
  go_upto_region 6 with (fail)
  simp only [← hu]
  clear hB hu
  generalize (w1.alloc (Obj.cells zeroB 31)).alloc (Obj.cells zeroU 33) = w2 at *
  generalize w1.heap.size = g at *
  generalize zeroB = zB at *
  go_wp2_with fail
  go_loopw [4, 6] (fun v4 v6 wr => ∃ (i n : Nat) (L : List Nt) (VS : List Vc) (A : Option Addr) (c : Nat) (U : List Int), v6 = .int .i64 i ∧ v4 = .int .i64 n ∧ i ≤ l.length ∧ i ≤ 100 ∧ n ≤ i * 100 ∧ L.length ≤ i ∧ Hid (Gi L U) ∧ Bd wr g A c L VS ∧ Ub wr u U ∧ Below w.heap.size w wr) (fun _ v6 _ => 100 - (intOf v6).toNat)
  case atStart => exact ⟨0, 0, [], VS0, none, 0, _, rfl, rfl, Nat.zero_le _, by omega, by omega, Nat.le_refl _, Gi.nil List.length_replicate, hb0, hu0, hB1⟩
  case round =>
    clear hb0 hu0 hB1
    obtain ⟨i, n, L, VS, A, c, U, rfl, rfl, hi1, hi2, hn1, hLi, hG, hbd, hub, hB⟩ := hrel
    have hgs : g < wr.heap.size := hbd.lt
    by_cases hlt : i < l.length ∧ i < 100
    · obtain ⟨hlt, hlt2⟩ := hlt
      obtain ⟨b, off, rfl, a0, a1, a2, a3, a4⟩ := (hs2.keep hB).act_at hlt
      have k0 : (0 : Int) ≤ (i : Int) := by omega
      have k1 : (i : Int) < (l.length : Int) := by omega
      generalize l[i] = a at *
      have bA := Blk.new wr 35 #[.int .i64 a.kind, .int .i64 a.env, .int .i64 a.frm, .int .i64 a.now, .int .i64 a.grc]
      replace hbd := hbd.keep (below1 wr (Obj.cells #[.int .i64 a.kind, .int .i64 a.env, .int .i64 a.frm, .int .i64 a.now, .int .i64 a.grc] 35))
      replace hub : Ub (wr.alloc (Obj.cells #[.int .i64 a.kind, .int .i64 a.env, .int .i64 a.frm, .int .i64 a.now, .int .i64 a.grc] 35)) u U := Blk.alloc hub _
      replace hB := hB.alloc hB.size (Obj.cells #[.int .i64 a.kind, .int .i64 a.env, .int .i64 a.frm, .int .i64 a.now, .int .i64 a.grc] 35)
      go_upto_region 10 with (fail)
      have hgw : g < (wr.alloc (Obj.cells #[.int .i64 a.kind, .int .i64 a.env, .int .i64 a.frm, .int .i64 a.now, .int .i64 a.grc] 35)).heap.size := hbd.lt
      generalize wr.alloc (Obj.cells #[.int .i64 a.kind, .int .i64 a.env, .int .i64 a.frm, .int .i64 a.now, .int .i64 a.grc] 35) = wb at *
      have hzg : wr.heap.size ≠ g := by omega
      have hzu : wr.heap.size ≠ u := fun e => by subst e; exact absurd (blk_ne bA hub (by decide)) (by simp)
      generalize wr.heap.size = z at *
      have z0 := bA.cell 0 (.int .i64 a.kind) rfl
      have z1 := bA.cell 1 (.int .i64 a.env) rfl
      have z2 := bA.cell 2 (.int .i64 a.frm) rfl
      have z3 := bA.cell 3 (.int .i64 a.now) rfl
      have z4 := bA.cell 4 (.int .i64 a.grc) rfl
      have HL := Lib.hid (And.intro hbd (And.intro hub (And.intro hB bA)))
      clear hbd hub hB bA a0 a1 a2 a3 a4
      by_cases hk1 : a.kind = 1
      · have e1 : (a.kind == 1) = true := by simp [hk1]
        clear hk1
        have hGv := Lib.hid (given_any a.env a.frm wb HL.out.1 (by omega))
        cases hf : fiN L a.env a.frm with
        | none =>
          rw [hf] at hGv
          simp only [Option.isSome_none] at hGv
          go_wp2_with fail
          with_reducible refine hGv.out.mono ?_
          rintro e w3 ⟨rfl, hbd3, hn3⟩
          have HF := Lib.hid (And.intro hbd3 (And.intro (hn3.blk HL.out.2.1 hug (by decide)) (HL.out.2.2.1.trans (hn3.b.mono hgB))))
          clear hbd3 hn3 hGv hf
          go_wp2_with fail
          go_roundw
          case rel => exact ⟨i + 1, n, L, VS, A, c, U, by go_num, rfl, by omega, by omega, by omega, by omega, hG, HF.out.1, HF.out.2.1, HF.out.2.2⟩
          case measure => simp [intOf]; omega
        | some j =>
          rw [hf] at hGv
          simp only [Option.isSome_some] at hGv
          obtain ⟨hok, hG2⟩ := hG.out.given hf
          obtain ⟨hok1, hok2⟩ := hok
          obtain ⟨e, he⟩ := Int.eq_ofNat_of_zero_le hok1.1
          obtain ⟨f, hfr⟩ := Int.eq_ofNat_of_zero_le hok2.1
          have he8 : e < 8 := by have := hok1.2; simp only at this; omega
          have hf32 : f < 32 := by have := hok2.2; simp only at this; omega
          have hky : keyN ⟨a.env, a.frm, 0, 0⟩ = e * 32 + f := by unfold keyN; simp only; simp only at he hfr; rw [he, hfr]; simp
          rw [hky] at hG2
          simp only at he hfr
          rw [he, hfr] at hGv
          rw [he] at z1
          rw [hfr] at z2
          have HG2 := Lib.hid hG2
          have HEF := Lib.hid (And.intro he hfr)
          have e0 : (0 : Int) ≤ (e : Int) := by omega
          have f0 : (0 : Int) ≤ (f : Int) := by omega
          have e8 : (e : Int) < 8 := by omega
          have f8 : (f : Int) < 32 := by omega
          have hlen : (L.eraseIdx j).length ≤ i := Nat.le_trans (List.length_eraseIdx_le _ _) hLi
          clear hG2 hok1 hok2 he hfr hky hf
          go_upto_region 15 with (first | (go_at_call 6; with_reducible refine hGv.out.mono ?_; rintro e9 w3 ⟨rfl, hbd3, hn3⟩; (have bA3 := hn3.blk HL.out.2.2.2 hzg (by decide)); (have hub3 := hn3.blk HL.out.2.1 hug (by decide)); (have HF := Lib.hid (And.intro hbd3 (And.intro hub3 (And.intro (HL.out.2.2.1.trans (hn3.b.mono hgB)) bA3)))); clear hbd3 hn3 hub3 bA3))
          have y1 : w3.cell? ⟨z, 1, none⟩ = some (.int .i64 (e : Int)) := by rw [← HEF.out.1]; exact HF.out.2.2.2.cell 1 _ rfl
          have y2 : w3.cell? ⟨z, 2, none⟩ = some (.int .i64 (f : Int)) := by rw [← HEF.out.2]; exact HF.out.2.2.2.cell 2 _ rfl
          have HT : Hid (∀ k, (w3.drewN k).there u (e * 32 + f) 1) := fun k => Ub.there (HF.out.2.1.drewN k) (by rw [hG.out.ul]; omega)
          refine wp_region_chain [6] 132 (by kernel_rfl) (by kernel_rfl) (by rfl) ?_
          repeat (first | (refine ch_row (by rfl) ?_; (try simp only [Act.put, List.setIfInBounds_toArray, List.set_cons_zero, List.set_cons_succ])) | (refine ch_free (by rfl) (by rfl) (by rfl) (fun K hK => ?_); go_big_quiet_op; refine hK _ ?_; clear hK K) | (refine ch_read (by rfl) (by rfl) (by rfl) (fun K hK => ?_); go_big_quiet_op; refine hK _ ?_; clear hK K) | (refine ch_no (by rfl) (by rfl) ?_; (try simp only [Act.put, List.setIfInBounds_toArray, List.set_cons_zero, List.set_cons_succ])))
          refine ch_end ?_
          intro nd
          simp only [List.filterMap_cons, List.filterMap_nil, List.getElem?_cons_succ, List.getElem?_cons_zero]
          refine wpList_store_cell _ rfl 3 _ _ rfl u (e * 32 + f) (.int .i64 0) rfl rfl (by kernel_rfl) rfl (HT.out nd) ?_
          refine only_end ?_
          simp only [Act.put]
          refine at_world (F := Exit.inBlock _ _ _ _) (fun W => Bd W g A c (L.eraseIdx j) VS ∧ Ub W u (U.set (e * 32 + f) 0) ∧ Below w.heap.size w W) ⟨?_, Ub.set (HF.out.2.1.drewN nd) _ _, ((bdrewN HF.out.2.2.1 nd)).setCell (p := ⟨u, e * 32 + f, none⟩) huB _⟩ ?_
          · exact Bd.far (HF.out.1.keep (bdrewN (Below.refl _ _) nd)) (HF.out.2.1.drewN nd) hug _ _
          rintro w5 ⟨h5, h6, h7⟩
          clear HT HF HL y1 y2 z0 z1 z2 z3 z4 hGv
          go_wp2_with fail
          go_roundw
          case rel => exact ⟨i + 1, n, _, VS, A, c, _, by go_num, rfl, by omega, by omega, by omega, by omega, HG2, h5, h6, h7⟩
          case measure => simp [intOf]; omega
      · have e1 : (a.kind == 1) = false := by simpa using hk1
        clear hk1
        by_cases hk2 : a.kind = 2
        · have e2 : (a.kind == 2) = true := by simp [hk2]
          clear hk2
          obtain ⟨d, hd⟩ : ∃ d : Nat, (if a.now.tmod 100 < 0 then 0 else a.now.tmod 100) = (d : Int) := ⟨(max (a.now.tmod 100) 0).toNat, by split <;> omega⟩
          have hd99 : d ≤ 99 := by have h1 := Int.tmod_lt_of_pos a.now (show (0 : Int) < 100 by omega); split at hd <;> omega
          have eN : (n : Int) + (d : Int) = ((n + d : Nat) : Int) := by omega
          have HO := Lib.hid (over_any ((n + d : Nat) : Int) wb HL.out.1 (by omega) (fun x hx => (hG.out.rg x hx).1.1))
          obtain ⟨n2, hn2⟩ : ∃ n2, n2 = n + d := ⟨_, rfl⟩
          rw [← hn2] at HO eN
          have hn3 : n2 ≤ (i + 1) * 100 := by omega
          clear hn2
          have HU0 := Lib.hid (fun T => hG.out.over ((n2 : Nat) : Int) (T := T))
          go_upto_region 18 with (fail)
          go_wp2_with fail
          with_reducible refine HO.out.mono ?_
          rintro e w3 ⟨O, dO, T, A', c', rfl, hO3, hSr, hP, hbd3, hn4⟩
          have hG3 := HU0.out T hP
          have hTl : T.length ≤ 100 := by
            have h1 := hP.length_eq
            rw [retag_len] at h1
            have h2 := List.length_filter_le (fun x : Nt => decide (x.nTil ≤ (n2 : Int))) L
            omega
          have hMl : (L.filter fun x => decide ((n2 : Int) < x.nTil)).length ≤ i := Nat.le_trans (List.length_filter_le _ _) hLi
          have hub3 : Ub w3 u U := hn4.blk HL.out.2.1 hug (by decide)
          have hB3 := HL.out.2.2.1.trans (hn4.b.mono hgB)
          have hgw3 : g < w3.heap.size := hbd3.lt
          have hO4 : Own eNt 3 w3 0 39 O dO T := hO3.from_ (Nat.zero_le _)
          generalize (L.filter fun x => decide ((n2 : Int) < x.nTil)) = M at *
          generalize T.foldl putVS VS = VS3 at *
          have HG3 := Lib.hid hG3
          obtain ⟨m, hm⟩ : ∃ m, m = T.length := ⟨_, rfl⟩
          rw [← hm] at hTl
          simp only [← hm]
          have HM := Lib.hid hm
          clear hSr hP hn4 hO3 hG3 HO HU0 HL hm z0 z1 z2 z3 z4 hd eN
          go_wp2_with fail
          go_loopw [9] (fun v9 ws => ∃ (j : Nat) (U2 : List Int), v9 = .int .i64 j ∧ j ≤ m ∧ Hid (Go2 T M U2 (n2 : Int) j) ∧ Bd ws g A' c' M VS3 ∧ Ub ws u U2 ∧ Own eNt 3 ws 0 39 O dO T ∧ Below w.heap.size w ws) (fun v9 _ => m - (intOf v9).toNat)
          case atStart => exact ⟨0, U, rfl, Nat.zero_le _, HG3, hbd3, hub3, hO4, hB3⟩
          case round =>
            clear HG3 hbd3 hub3 hO4 hB3 hgw3
            obtain ⟨j, U2, rfl, hj, hG4, hbd4, hub4, hO5, hB4⟩ := hrel
            have hgw4 : g < wr.heap.size := hbd4.lt
            by_cases hlt : j < m
            · have hjT : j < T.length := by have := HM.out; omega
              obtain ⟨q, rfl⟩ : ∃ q, O = some ⟨q, 0, none⟩ := by
                rcases hO5.shape with ⟨_, h, _⟩ | h
                · rw [h] at hjT; simp at hjT
                · exact h
              obtain ⟨y0, y1, y2⟩ := rw_at hO5 hjT
              rw [atT_get hjT] at y0 y1 y2
              obtain ⟨⟨⟨o1, o2⟩, ⟨o3, o4⟩⟩, o5, o6, o7⟩ := hG4.out.at_ hjT
              have HG5 := hG4.out.step hjT
              generalize T[j] = x at *
              obtain ⟨e, he⟩ := Int.eq_ofNat_of_zero_le o1
              obtain ⟨f, hfr⟩ := Int.eq_ofNat_of_zero_le o3
              have hky : keyN x = e * 32 + f := by unfold keyN; rw [he, hfr]; simp
              rw [hky] at o7 HG5
              rw [he] at y0
              rw [hfr] at y1
              have he8 : e < 8 := by omega
              have hf32 : f < 32 := by omega
              have hkl : e * 32 + f < U2.length := by rw [hG4.out.ul]; omega
              have xk := Blk.new wr 39 #[.int .i64 (e : Int), .int .i64 (f : Int), .int .i64 x.nTil]
              have hbd5 := hbd4.keep (below1 wr (Obj.cells #[.int .i64 (e : Int), .int .i64 (f : Int), .int .i64 x.nTil] 39))
              have hub5 : Ub (wr.alloc (Obj.cells #[.int .i64 (e : Int), .int .i64 (f : Int), .int .i64 x.nTil] 39)) u U2 := Blk.alloc hub4 _
              have hO6 := hO5.alloc (Obj.cells #[.int .i64 (e : Int), .int .i64 (f : Int), .int .i64 x.nTil] 39)
              have hB5 := hB4.alloc hB4.size (Obj.cells #[.int .i64 (e : Int), .int .i64 (f : Int), .int .i64 x.nTil] 39)
              have HK := Lib.hid (And.intro hbd5 (And.intro hub5 (And.intro hO6 hB5)))
              have HGH := Lib.hid HG5
              have x2 := hub5.cell o7
              have e0 : (0 : Int) ≤ (e : Int) := by omega
              have f0 : (0 : Int) ≤ (f : Int) := by omega
              have e8 : (e : Int) < 8 := by omega
              have f8 : (f : Int) < 32 := by omega
              have e7 : ¬ (7 : Int) < (e : Int) := by omega
              have f7 : ¬ (31 : Int) < (f : Int) := by omega
              have e9 : ¬ (e : Int) < 0 := by omega
              have e6 : ¬ 7 < e := by omega
              have f6 : ¬ 31 < f := by omega
              have f9 : ¬ (f : Int) < 0 := by omega
              have t1 : (x.nTil == 0) = false := by simp; omega
              have t2 : ¬ (n2 : Int) < x.nTil := by omega
              have j1 : (j : Int) < (m : Int) := by omega
              clear hbd4 hub4 hO5 hB4 hbd5 hub5 hO6 hB5 HG5 he hfr o1 o2 o3 o4 o7 hky
              go_upto_region 23 with (fail)
              generalize wr.alloc (Obj.cells #[.int .i64 (e : Int), .int .i64 (f : Int), .int .i64 x.nTil] 39) = w5 at *
              generalize wr.heap.size = zb at *
              have x0 := xk.cell 0 (.int .i64 (e : Int)) rfl
              have x1 := xk.cell 1 (.int .i64 (f : Int)) rfl
              (have aft_x0 := Aft.cell x0; have aft_x1 := Aft.cell x1; have aft_x2 := Aft.cell x2; refine wp_region_aft (by kernel_rfl) (by kernel_rfl) ?_; (repeat (go_big_quiet_step (fail))); refine wpQuiet_nil ?_; clear aft_x0 aft_x1 aft_x2; intro w6 hw2_; have hb6 := Aft.below hw2_; clear hw2_)
              replace x0 := kcell hb6 x0
              replace x1 := kcell hb6 x1
              have hub6 : Ub w6 u U2 := Blk.keep HK.out.2.1 hb6
              have HF := Lib.hid (And.intro (HK.out.1.keep hb6) (And.intro hub6 (And.intro (HK.out.2.2.1.keep hb6) (bstep HK.out.2.2.2 (Nat.le_refl _) hb6))))
              clear x2 hb6 hub6 HK
              go_upto_region 25 with (fail)
              have HT : Hid (∀ k, (w6.drewN k).there u (e * 32 + f) 1) := fun k => Ub.there (HF.out.2.1.drewN k) hkl
              refine wp_region_chain [6] 132 (by kernel_rfl) (by kernel_rfl) (by rfl) ?_
              repeat (first | (refine ch_row (by rfl) ?_; (try simp only [Act.put, List.setIfInBounds_toArray, List.set_cons_zero, List.set_cons_succ])) | (refine ch_free (by rfl) (by rfl) (by rfl) (fun K hK => ?_); go_big_quiet_op; refine hK _ ?_; clear hK K) | (refine ch_read (by rfl) (by rfl) (by rfl) (fun K hK => ?_); go_big_quiet_op; refine hK _ ?_; clear hK K) | (refine ch_no (by rfl) (by rfl) ?_; (try simp only [Act.put, List.setIfInBounds_toArray, List.set_cons_zero, List.set_cons_succ])))
              refine ch_end ?_
              intro nd
              simp only [List.filterMap_cons, List.filterMap_nil, List.getElem?_cons_succ, List.getElem?_cons_zero]
              refine wpList_store_cell _ rfl 3 _ _ rfl u (e * 32 + f) (.int .i64 0) rfl rfl (by kernel_rfl) rfl (HT.out nd) ?_
              refine only_end ?_
              simp only [Act.put]
              refine at_world (F := Exit.inBlock _ _ _ _) (fun W => Bd W g A' c' M VS3 ∧ Ub W u (U2.set (e * 32 + f) 0) ∧ Own eNt 3 W 0 39 (some ⟨q, 0, none⟩) dO T ∧ Below w.heap.size w W) ⟨?_, Ub.set (HF.out.2.1.drewN nd) _ _, ?_, ((bdrewN HF.out.2.2.2 nd)).setCell (p := ⟨u, e * 32 + f, none⟩) huB _⟩ ?_
              · exact Bd.far (HF.out.1.keep (bdrewN (Below.refl _ _) nd)) (HF.out.2.1.drewN nd) hug _ _
              · obtain ⟨cs, hq⟩ := HF.out.2.2.1.ty q rfl
                exact (HF.out.2.2.1.drewN nd).kept (only_set (only_refl _ u) _ _) (.inr (fun e => by injection e with e; exact blk_ne hq HF.out.2.1 (by decide) e))
              rintro w7 ⟨h5, h6, h7, h8⟩
              clear HT HF x0 x1 y0 y1 y2
              go_wp2_with fail
              go_roundw
              case rel => exact ⟨j + 1, _, by go_num, by omega, HGH, h5, h6, h7, h8⟩
              case measure => simp [intOf]; omega
            · obtain rfl : j = m := by omega
              have j1 : ¬ (j : Int) < (j : Int) := by omega
              have HF := Lib.hid (And.intro hbd4 (And.intro hub4 hB4))
              have HG6 : Hid (Gi M U2) := hG4.out.done
              clear hbd4 hub4 hB4 hO5 hG4
              go_wp2_with fail
              go_roundw
              case rel => exact ⟨i + 1, n2, M, VS3, A', c', U2, by go_num, rfl, by omega, by omega, hn3, by omega, HG6, HF.out.1, HF.out.2.1, HF.out.2.2⟩
              case measure => simp [intOf]; omega
        · have e2 : (a.kind == 2) = false := by simpa using hk2
          clear hk2
          by_cases hw : wantOk a.env a.frm (n : Int) a.grc
          · have hWn := want_ok a.env a.frm (n : Int) a.grc wb HL.out.1 (by omega) hw
            by_cases hp : 0 ≤ plcN L a.env a.frm
            · rw [if_pos hp, if_pos hp] at hWn
              have HWn := Lib.hid hWn
              clear hWn hp hw
              go_wp2_with fail
              with_reducible refine HWn.out.mono ?_
              rintro e w3 ⟨A', c', rfl, hbd3, hn3⟩
              have HF := Lib.hid (And.intro hbd3 (And.intro (hn3.blk HL.out.2.1 hug (by decide)) (HL.out.2.2.1.trans (hn3.b.mono hgB))))
              clear hbd3 hn3 HWn
              go_wp2_with fail
              go_roundw
              case rel => exact ⟨i + 1, n, L, VS, A', c', U, by go_num, rfl, by omega, by omega, by omega, by omega, hG, HF.out.1, HF.out.2.1, HF.out.2.2⟩
              case measure => simp [intOf]; omega
            · rw [if_neg hp, if_neg hp] at hWn
              have HW0 := Lib.hid hw
              obtain ⟨w1', w2', w3', w4'⟩ := hw
              obtain ⟨e, he⟩ := Int.eq_ofNat_of_zero_le w1'.1
              obtain ⟨f, hfr⟩ := Int.eq_ofNat_of_zero_le w2'.1
              obtain ⟨k, hkr⟩ := Int.eq_ofNat_of_zero_le (by omega : 0 ≤ a.grc)
              have he8 : e < 8 := by omega
              have hf32 : f < 32 := by omega
              have hk64 : k ≤ 65536 := by omega
              have hG2 := hG.out.want (x := ⟨a.env, a.frm, (n : Int) + a.grc, 0⟩) ⟨w1', w2'⟩ (by simp only; omega) (by simp only; omega)
              have hky : keyN ⟨a.env, a.frm, (n : Int) + a.grc, 0⟩ = e * 32 + f := by unfold keyN; simp only; rw [he, hfr]; simp
              rw [hky] at hG2
              simp only at hG2
              rw [he, hfr, hkr] at hWn hG2
              rw [he] at z1
              rw [hfr] at z2
              rw [hkr] at z4
              have HG2 := Lib.hid hG2
              have HWn := Lib.hid hWn
              have HEF := Lib.hid (And.intro he (And.intro hfr hkr))
              have e0 : (0 : Int) ≤ (e : Int) := by omega
              have f0 : (0 : Int) ≤ (f : Int) := by omega
              have e8 : (e : Int) < 8 := by omega
              have f8 : (f : Int) < 32 := by omega
              clear hG2 hWn hky he hfr hkr w1' w2' w3' w4' hp
              go_wp2_with fail
              with_reducible refine HWn.out.mono ?_
              rintro e9 w3 ⟨A', c', rfl, hbd3, hn3⟩
              have bA3 := hn3.blk HL.out.2.2.2 hzg (by decide)
              have hub3 := hn3.blk HL.out.2.1 hug (by decide)
              have HF := Lib.hid (And.intro hbd3 (And.intro hub3 (And.intro (HL.out.2.2.1.trans (hn3.b.mono hgB)) bA3)))
              clear hbd3 hn3 hub3 bA3 HWn
              go_upto_region 12 with (fail)
              have y1 : w3.cell? ⟨z, 1, none⟩ = some (.int .i64 (e : Int)) := by rw [← HEF.out.1]; exact HF.out.2.2.2.cell 1 _ rfl
              have y2 : w3.cell? ⟨z, 2, none⟩ = some (.int .i64 (f : Int)) := by rw [← HEF.out.2.1]; exact HF.out.2.2.2.cell 2 _ rfl
              have y4 : w3.cell? ⟨z, 4, none⟩ = some (.int .i64 (k : Int)) := by rw [← HEF.out.2.2]; exact HF.out.2.2.2.cell 4 _ rfl
              have HT : Hid (∀ k, (w3.drewN k).there u (e * 32 + f) 1) := fun k => Ub.there (HF.out.2.1.drewN k) (by rw [hG.out.ul]; omega)
              refine wp_region_chain [10] 132 (by kernel_rfl) (by kernel_rfl) (by rfl) ?_
              repeat (first | (refine ch_row (by rfl) ?_; (try simp only [Act.put, List.setIfInBounds_toArray, List.set_cons_zero, List.set_cons_succ])) | (refine ch_free (by rfl) (by rfl) (by rfl) (fun K hK => ?_); go_big_quiet_op; refine hK _ ?_; clear hK K) | (refine ch_read (by rfl) (by rfl) (by rfl) (fun K hK => ?_); go_big_quiet_op; refine hK _ ?_; clear hK K) | (refine ch_no (by rfl) (by rfl) ?_; (try simp only [Act.put, List.setIfInBounds_toArray, List.set_cons_zero, List.set_cons_succ])))
              refine ch_end ?_
              intro nd
              simp only [List.filterMap_cons, List.filterMap_nil, List.getElem?_cons_succ, List.getElem?_cons_zero]
              refine wpList_store_cell _ rfl 3 _ _ rfl u (e * 32 + f) (.int .i64 ((n : Int) + (k : Int))) rfl rfl (by kernel_rfl) rfl (HT.out nd) ?_
              refine only_end ?_
              simp only [Act.put]
              refine at_world (F := Exit.inBlock _ _ _ _) (fun W => Bd W g A' c' (L ++ [⟨e, f, (n : Int) + (k : Int), 0⟩]) VS ∧ Ub W u (U.set (e * 32 + f) ((n : Int) + (k : Int))) ∧ Below w.heap.size w W) ⟨?_, Ub.set (HF.out.2.1.drewN nd) _ _, ((bdrewN HF.out.2.2.1 nd)).setCell (p := ⟨u, e * 32 + f, none⟩) huB _⟩ ?_
              · exact Bd.far (HF.out.1.keep (bdrewN (Below.refl _ _) nd)) (HF.out.2.1.drewN nd) hug _ _
              rintro w5 ⟨h5, h6, h7⟩
              clear HT HF HL y1 y2 y4 z0 z1 z2 z3 z4
              go_wp2_with fail
              go_roundw
              case rel => exact ⟨i + 1, n, _, VS, A', c', _, by go_num, rfl, by omega, by omega, by omega, by simp; omega, HG2, h5, h6, h7⟩
              case measure => simp [intOf]; omega
          · have hWn := Lib.hid (want_bad (g := g) a.env a.frm (n : Int) a.grc wb hw)
            clear hw
            go_wp2_with fail
            with_reducible refine hWn.out.mono ?_
            rintro e w3 ⟨rfl, rfl⟩
            clear hWn
            go_wp2_with fail
            go_roundw
            case rel => exact ⟨i + 1, n, L, VS, A, c, U, by go_num, rfl, by omega, by omega, by omega, by omega, hG, HL.out.1, HL.out.2.1, HL.out.2.2.1⟩
            case measure => simp [intOf]; omega
    · have HF := Lib.hid hB
      by_cases h1 : i < l.length
      · obtain rfl : i = 100 := by omega
        have k1 : (100 : Int) < (l.length : Int) := by omega
        clear hlt h1 hi1 hi2 hB
        go_wp2_with fail
        refine (awake_any _).mono ?_
        rintro e w9 ⟨rfl, hb9⟩
        go_wp2_with fail
        go_ret
        exact ⟨rfl, bstep HF.out (Nat.le_refl _) hb9⟩
      · have k1 : ¬ (i : Int) < (l.length : Int) := by omega
        clear hlt h1 hi1 hi2 hB
        go_wp2_with fail
        refine (awake_any _).mono ?_
        rintro e w9 ⟨rfl, hb9⟩
        go_wp2_with fail
        go_ret
        exact ⟨rfl, bstep HF.out (Nat.le_refl _) hb9⟩
end Go.Proofs.Ytdfklbjkcednhaa
