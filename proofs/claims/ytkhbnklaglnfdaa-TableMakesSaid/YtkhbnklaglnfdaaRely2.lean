/- The law of a region that draws its order, with values that are not known beforehand (see Rely): every order. -/
import Derived.Test.YtkhbnklaglnfdaaRely
namespace Go.Proofs.Ytkhbnklaglnfdaa
open Go.RowKit

section
variable {P : Program} {R : World → World → Prop} {W : World} {made : List Nat} {S : Nat → Value → World → Prop} {l : List Oper} {a0 : Act} {vals : Nat → Value} {N : Nat} {Q : Exit → Act → World → Prop}

theorem rely_any (hR : Way R) (hS : ∀ d ∈ made, ∀ v w w', S d v w → R w w' → S d v w') (ok : RelyOk made N l.toArray) (hN : a0.tmps.size = N) (hok : ∀ (j : Nat) (o : Oper), l[j]? = some o → RAt P l.toArray R W made S o (frs a0 l vals j) (vals j))
    (hQ : ∀ (listed : Array Bool) (a : Act) (w : World) (γ : Nat → Value), RInv R W made S l.toArray a0 vals listed a w γ → (∀ i, i < listed.size → listed.getD i false = true) → Q .normal a w) :
    ∀ (fuel : Nat) (listed : Array Bool) (a : Act) (w : World) (γ : Nat → Value), RInv R W made S l.toArray a0 vals listed a w γ → cnt listed = fuel → wpAny P .any l.toArray Q fuel listed a w := by
  intro fuel
  induction fuel with
  | zero =>
    intro listed a w γ inv hc
    have hall : ∀ i, i < listed.size → listed.getD i false = true := fun i hi => cnt_zero hc i hi
    refine ⟨?_, hQ listed a w γ inv hall⟩
    rw [List.eq_nil_iff_forall_not_mem]
    intro i hi
    obtain ⟨h1, o, ho, _⟩ := mem_ready.1 hi
    have h2 := hall i (by rw [inv.size]; exact lt_of_some ho)
    rw [getD_both h1] at h2
    cases h2
  | succ fuel ih =>
    intro listed a w γ inv hc
    constructor
    · intro hr
      exfalso
      have hex : ∃ i, i < listed.size ∧ listed.getD i false = false := by
        refine Classical.byContradiction fun hne => ?_
        have hall : ∀ i, i < listed.size → listed.getD i false = true := fun i hi => by
          cases h : listed.getD i false with
          | true => rfl
          | false => exact absurd ⟨i, hi, h⟩ hne
        have : cnt listed = 0 := by
          unfold cnt
          rw [List.length_eq_zero_iff, List.filter_eq_nil_iff]
          intro b hb
          obtain ⟨i, hi, he⟩ := List.mem_iff_getElem.1 hb
          have h1 := hall i (by simpa using hi)
          have hi' : i < listed.size := by simpa using hi
          simp [hi'] at h1
          simp at he
          rw [← he, h1]
          simp
        omega
      obtain ⟨i0, hi0, hu0⟩ := hex
      have hmin : ∃ i, i < listed.size ∧ listed.getD i false = false ∧ ∀ j, j < i → listed.getD j false = true := by
        induction i0 using Nat.strongRecOn with
        | _ i0 ihm =>
          by_cases h : ∃ j, j < i0 ∧ listed.getD j false = false
          · obtain ⟨j, hj, hju⟩ := h
            exact ihm j hj (by omega) hju
          · refine ⟨i0, hi0, hu0, fun j hj => ?_⟩
            cases hjv : listed.getD j false with
            | true => rfl
            | false => exact absurd ⟨j, hj, hjv⟩ h
      obtain ⟨i, hi, hu, hlt⟩ := hmin
      have hil : i < l.toArray.size := by rw [← inv.size]; exact hi
      have : i ∈ Region.ready .any l.toArray listed := mem_ready.2 ⟨getD_in hi hu, l.toArray[i], by simp [Array.getElem?_eq_getElem hil], fun e he hb => hlt _ (ok.back i _ (Array.getElem?_eq_getElem hil) e he hb)⟩
      rw [hr] at this
      cases this
    · intro i hi
      obtain ⟨hun, o, ho, hall⟩ := mem_ready.1 hi
      have hol : l[i]? = some o := by rw [← List.getElem?_toArray]; exact ho
      have hcn : cnt (listed.setIfInBounds i true) = fuel := by have := cnt_step hun; omega
      have hO := hok i o hol
      have agree : ∀ k ∈ o.looksAt l.toArray, k ∉ made → a.tmps[k]? = (frs a0 l vals i).tmps[k]? := fun k hk hkm => rely_agree ok hN inv ho hun hall hk hkm
      -- the slots that are not known beforehand: written, and as said
      have hlk : ∀ k ∈ lkOf made l.toArray o, k ∈ made ∧ k ∈ o.looksAt l.toArray := fun k hk => by
        have := List.mem_filter.1 hk
        exact ⟨this.1, by simpa using this.2⟩
      have hmd : ∀ k ∈ lkOf made l.toArray o, a.tmps[k]? = some (γ k) ∧ S k (γ k) w := fun k hk => by
        obtain ⟨h1, h2⟩ := hlk k hk
        obtain ⟨j, oj, hj, dj, hw⟩ := ok.made_ i o k ho h2 h1
        obtain ⟨e, he, hb, hon⟩ := waits_mem ho hw
        have hl := hall e he hb
        rw [hon] at hl
        refine ⟨?_, inv.sp k h1 ⟨j, oj, hj, dj, hl⟩⟩
        rw [inv.new j oj k hj dj hl, if_pos h1]
      have hag : ∀ k ∈ o.looksAt l.toArray, a.tmps[k]? = (putG γ (lkOf made l.toArray o) (frs a0 l vals i)).tmps[k]? := fun k hk => by
        by_cases hkm : k ∈ made
        · have hk2 : k ∈ lkOf made l.toArray o := List.mem_filter.2 ⟨hkm, by simpa using hk⟩
          rw [(hmd k hk2).1, putG_new γ k _ _ hk2 (by rw [(frs_size a0 l vals i).1, hN]; exact ok.msize k hkm)]
        · rw [putG_old γ k _ _ (fun h => hkm (hlk k h).1)]
          exact agree k hk hkm
      have hx := exec_agree o (fun cs b => ok.sel i o cs b ho) hag
      have hw : Region.wanted o (yielded l.toArray a.tmps) = Region.wanted o (yielded l.toArray (frs a0 l vals i).tmps) := by
        unfold Region.wanted
        cases hg : o.guard with
        | none => rfl
        | some gb =>
          obtain ⟨g, bb⟩ := gb
          have : yielded l.toArray a.tmps g = yielded l.toArray (frs a0 l vals i).tmps g := by
            unfold yielded
            cases hd : (l.toArray[g]?).bind (·.dst) with
            | none => rfl
            | some k =>
              have hk : k ∈ o.looksAt l.toArray := by
                have hd2 := hd
                simp only [List.getElem?_toArray] at hd2
                unfold Oper.looksAt
                simp [hg, hd2]
              simp only [Option.bind_some, agree k hk (ok.grd i o g bb k ho hg hd)]
          simp only [this]
      have next : ∀ (v : Value) (w' : World), R w w' → (∀ s, o.dst = some s → s ∈ made → S s v w') → (∀ s, o.dst = some s → s ∉ made → v = vals i) →
          wpAny P .any l.toArray Q fuel (listed.setIfInBounds i true) (a.put o.dst v) w' := by
        intro v w' hr hs hv
        refine ih _ _ _ (fun d => if o.dst = some d then v else γ d) (rely_frame ok hN inv ho hun hall (fun s hd => ?_) (fun d hd => by simp [hd]) (hR.trans _ _ _ inv.rel hr) (fun d hd hL => ?_)) hcn
        · by_cases hm : s ∈ made
          · simp [hm, hd]
          · rw [if_neg hm]; exact hv s hd hm
        · by_cases hdd : o.dst = some d
          · simp only [hdd, if_true]
            exact hs d hdd hd
          · simp only [hdd, if_false]
            exact hS d hd _ _ _ (inv.sp d hd (wl_other ho hdd hL)) hr
      have keep : (∀ s, o.dst = some s → s ∉ made) → ∀ (w' : World), R w w' → wpAny P .any l.toArray Q fuel (listed.setIfInBounds i true) (a.put o.dst (vals i)) w' := fun h w' hr =>
        next (vals i) w' hr (fun s hd hm => absurd hm (h s hd)) (fun _ _ _ => rfl)
      unfold wpOp
      simp only [ho]
      rcases hO with ⟨hw1, hq⟩ | ⟨hw1, hv, hno⟩
      · rw [if_pos (hw.trans hw1)]
        left
        unfold Oper.wp
        rw [hx]
        unfold ROk at hq
        have useN : ∀ T : Value → World → Prop, (∀ v w', R w w' → T v w' → wpAny P .any l.toArray Q fuel (listed.setIfInBounds i true) (a.put o.dst v) w') →
            NUp P R T w ((execOp (putG γ (lkOf made l.toArray o) (frs a0 l vals i)).eval o).run P w) →
            Oper.upon P o a (wpAny P .any l.toArray Q fuel (listed.setIfInBounds i true)) Q ((execOp (putG γ (lkOf made l.toArray o) (frs a0 l vals i)).eval o).run P w) := by
          intro T hT hn
          generalize (execOp (putG γ (lkOf made l.toArray o) (frs a0 l vals i)).eval o).run P w = r at *
          cases r with
          | ok n w' =>
            cases n <;> simp only [NUp] at hn <;> simp only [Oper.upon]
            case value u => exact hT u w' hn.1 hn.2
            case skip => exact hT undef w' hn.1 hn.2
            case enter f args => exact hn.2.mono fun e w'' ⟨v, he, h1, h2⟩ => by subst he; exact hT v w'' (hR.trans _ _ _ hn.1 h1) h2
          | halt x w' => simp only [NUp] at hn
        cases hnd : ndOf made o with
        | some d =>
          rw [hnd] at hq
          simp only at hq
          obtain ⟨hd, hm⟩ := nd_some hnd
          exact useN (S d) (fun v w' h1 h2 => next v w' h1 (fun s hs _ => by rw [hd] at hs; injection hs with hs; subst hs; exact h2) (fun s hs hsm => by rw [hd] at hs; injection hs with hs; subst hs; exact absurd hm hsm)) (hq.2 γ w inv.rel (fun k hk => (hmd k hk).2))
        | none =>
          rw [hnd] at hq
          simp only at hq
          have hdm : ∀ s, o.dst = some s → s ∉ made := fun s hs => nd_none hnd hs
          by_cases hlk0 : lkOf made l.toArray o = []
          · rw [if_pos hlk0] at hq
            rw [hlk0]
            simp only [putG]
            by_cases hc : isCall o = true
            · rw [if_pos hc] at hq
              have h3 : RUp P R w (vals i) ((execOp (frs a0 l vals i).eval o).run P w) := hq ⟨w, inv.rel⟩
              generalize (execOp (frs a0 l vals i).eval o).run P w = r at *
              cases r with
              | ok n w' =>
                cases n <;> simp only [RUp] at h3 <;> simp only [Oper.upon]
                case value u => obtain ⟨e1, e2⟩ := h3; rw [e1, e2]; exact keep hdm w (hR.refl w)
                case enter f args =>
                  obtain ⟨e1, hc1⟩ := h3
                  rw [e1]
                  exact hc1.mono fun e w'' ⟨he, hb⟩ => by subst he; exact keep hdm w'' hb
              | halt x w' => simp only [RUp] at h3
            · rw [if_neg hc] at hq
              have h3 := hq w ⟨⟨w, inv.rel⟩, rfl⟩
              have hpl : plain o = true := (ok.pl i o ho).resolve_right (fun h => h.elim hc (fun h => by rw [hnd] at h; cases h))
              unfold Oper.quietAt at h3
              have hne := fun w' f args => plain_not_enter (P := P) hpl (frs a0 l vals i).eval w w' f args
              generalize (execOp (frs a0 l vals i).eval o).run P w = r at *
              cases r with
              | ok n w' =>
                cases n <;> simp only [Oper.quietUpon] at h3 <;> simp only [Oper.upon]
                case value u => obtain ⟨e1, e2⟩ := h3; rw [e1, e2]; exact keep hdm w (hR.refl w)
                case skip => obtain ⟨e1, e2⟩ := h3; rw [e1, ← e2]; exact keep hdm w (hR.refl w)
                case enter f args => exact absurd rfl (hne w' f args)
              | halt x w' => simp only [Oper.quietUpon] at h3
          · rw [if_neg hlk0] at hq
            exact useN (fun u _ => u = vals i) (fun v w' h1 h2 => by rw [h2]; exact keep hdm w' h1) (hq γ w inv.rel (fun k hk => (hmd k hk).2))
      · rw [if_neg (by rw [hw, hw1]; simp)]
        exact next undef w (hR.refl w) (fun s hd hm => hno s (nd_in hd hm) w inv.rel) (fun _ _ _ => hv.symm)

/-- ONE WALK, IN THE ORDER OF THE TEXT, SERVES EVERY ORDER. -/
theorem wp_region_rely {id : Nat} {a : Act} {w0 : World} (R : World → World → Prop) (hR : Way R) (made : List Nat) (S : Nat → Value → World → Prop) (hS : ∀ d ∈ made, ∀ v w w', S d v w → R w w' → S d v w') (N : Nat) (hm : P.follows .mixedOrders = true) (hB : relyB made N l.toArray = true) (hN : a.tmps.size = N)
    (h : wpRl P l.toArray R w0 made S (fun aF => ∀ (γ : Nat → Value) (w : World), R w0 w → (∀ d ∈ made, S d (γ d) w) → Q .normal (putG γ made aF) w) l a) :
    (Code.region id l.toArray true).wp P Q a w0 := by
  have ok := rely_spec hB
  obtain ⟨vals, hok, hfin⟩ := rl_ext l a h
  refine wp_region_any hm ?_
  have h0 : RInv R w0 made S l.toArray a vals (Array.replicate l.toArray.size false) a { w0 with drawn := w0.drawn + 1 } (fun _ => undef) := by
    have hf : ∀ j, (Array.replicate l.toArray.size false).getD j false = true → False := fun j hj => by rw [getD_replicate_false] at hj; cases hj
    exact ⟨by simp, fun j oj _ hl => (hf j hl).elim, rfl, rfl, fun j o s _ _ hl => (hf j hl).elim, fun s _ => rfl, hR.drew w0, fun d _ ⟨j, o, _, _, hl⟩ => (hf j hl).elim⟩
  refine rely_any (vals := vals) hR hS ok hN hok ?_ l.toArray.size _ a _ _ h0 (by simp [cnt])
  intro listed a' w γ inv hall
  have all : ∀ (j : Nat) (o : Oper), l.toArray[j]? = some o → listed.getD j false = true := fun j o hj => hall j (by rw [inv.size]; exact lt_of_some hj)
  have hfr : a' = putG γ made (frs a l vals l.length) := by
    have e1 : a'.tmps = (putG γ made (frs a l vals l.length)).tmps := by
      apply Array.ext_getElem?
      intro k
      by_cases hkm : k ∈ made
      · rw [putG_new γ k made _ hkm (by rw [(frs_size a l vals _).1, hN]; exact ok.msize k hkm)]
        obtain ⟨j, oj, hj, hd⟩ := ok.has k hkm
        rw [inv.new j oj k hj hd (all j oj hj), if_pos hkm]
      · rw [putG_old γ k made _ hkm]
        by_cases hex : ∃ (j : Nat) (oj : Oper), l.toArray[j]? = some oj ∧ oj.dst = some k
        · obtain ⟨j, oj, hj, dj⟩ := hex
          have hj' : l[j]? = some oj := by rw [← List.getElem?_toArray]; exact hj
          rw [inv.new j oj k hj dj (all j oj hj), if_neg hkm, frs_new a l vals k j oj hj' dj (by rw [hN]; exact ok.size j oj k hj dj) (fun j' o' h' hne hd' => hne (ok.dist j' j o' oj k (by rw [List.getElem?_toArray]; exact h') hj hd' dj)) l.length (List.getElem?_eq_some_iff.1 hj').1]
        · have hno : ∀ (j : Nat) (oj : Oper), l.toArray[j]? = some oj → oj.dst ≠ some k := fun j oj hj hd => hex ⟨j, oj, hj, hd⟩
          rw [inv.old k (fun j oj hj _ => hno j oj hj), frs_old a l vals k l.length (fun j oj _ hj => hno j oj (by rw [List.getElem?_toArray]; exact hj))]
    have e2 : a'.defers = (putG γ made (frs a l vals l.length)).defers := by rw [(putG_size γ made _).2, (frs_size a l vals _).2, inv.defs]
    obtain ⟨t1, d1⟩ := a'
    generalize putG γ made (frs a l vals l.length) = b at *
    obtain ⟨t2, d2⟩ := b
    simp only at e1 e2
    subst e1 e2
    rfl
  rw [hfr]
  exact hfin γ w inv.rel (fun d hd => inv.sp d hd (by obtain ⟨j, oj, hj, hk⟩ := ok.has d hd; exact ⟨j, oj, hj, hk, all j oj hj⟩))

/-! the steps of the walk -/
variable {ops : Array Oper} {Qf : Act → Prop} {o : Oper} {rest : List Oper} {a : Act}
theorem rl_q (hk : ndOf made o = none) (hl : lkOf made ops o = []) (hc : isCall o = false) (hw : Region.wanted o (yielded ops a.tmps) = true) (h : ∀ K : Act → Prop, (∀ a, wpRl P ops R W made S Qf rest a → K a) → o.quiet P a (fun w => ∃ n : Cls R W, w = n.w) K) : wpRl P ops R W made S Qf (o :: rest) a := by
  obtain ⟨v, h1, h2⟩ := h _ (fun _ h => h)
  unfold wpRl
  rw [if_pos hw]
  refine ⟨v, ?_, h2⟩
  unfold ROk
  rw [hk]
  simp only
  rw [if_pos hl, hc]
  exact h1
theorem rl_skip (hk : ndOf made o = none) (hw : Region.wanted o (yielded ops a.tmps) = false) (h : wpRl P ops R W made S Qf rest (a.put o.dst undef)) : wpRl P ops R W made S Qf (o :: rest) a := by
  unfold wpRl
  rw [if_neg (by rw [hw]; simp)]
  exact ⟨(fun d hd => by rw [hk] at hd; cases hd), h⟩
theorem rl_call (hk : ndOf made o = none) (hl : lkOf made ops o = []) (hc : isCall o = true) (hw : Region.wanted o (yielded ops a.tmps) = true) (h : ∀ K : Act → Prop, (∀ a, wpRl P ops R W made S Qf rest a → K a) → ∃ v, (∀ n : Cls R W, RUp P R n.w v ((execOp a.eval o).run P n.w)) ∧ K (a.put o.dst v)) : wpRl P ops R W made S Qf (o :: rest) a := by
  obtain ⟨v, h1, h2⟩ := h _ (fun _ h => h)
  unfold wpRl
  rw [if_pos hw]
  refine ⟨v, ?_, h2⟩
  unfold ROk
  rw [hk]
  simp only
  rw [if_pos hl, if_pos hc]
  exact h1
/-- an operation whose value is not known beforehand -/
theorem rl_n (d : Nat) (ks : List Nat) (hk : ndOf made o = some d) (hl : lkOf made ops o = ks) (hw : Region.wanted o (yielded ops a.tmps) = true)
    (h1 : ∀ (γ : Nat → Value) (w : World), R W w → (∀ k ∈ ks, S k (γ k) w) → NUp P R (S d) w ((execOp (putG γ ks a).eval o).run P w)) (h : wpRl P ops R W made S Qf rest (a.put o.dst undef)) : wpRl P ops R W made S Qf (o :: rest) a := by
  subst hl
  unfold wpRl
  rw [if_pos hw]
  refine ⟨undef, ?_, h⟩
  unfold ROk
  rw [hk]
  exact ⟨rfl, h1⟩
/-- an operation that looks at such values, and whose own is known -/
theorem rl_u (v : Value) (ks : List Nat) (hk : ndOf made o = none) (hl : lkOf made ops o = ks) (hks : ks ≠ []) (hw : Region.wanted o (yielded ops a.tmps) = true)
    (h1 : ∀ (γ : Nat → Value) (w : World), R W w → (∀ k ∈ ks, S k (γ k) w) → NUp P R (fun u _ => u = v) w ((execOp (putG γ ks a).eval o).run P w)) (h : wpRl P ops R W made S Qf rest (a.put o.dst v)) : wpRl P ops R W made S Qf (o :: rest) a := by
  subst hl
  unfold wpRl
  rw [if_pos hw]
  refine ⟨v, ?_, h⟩
  unfold ROk
  rw [hk]
  simp only
  rw [if_neg hks]
  exact h1
theorem rl_end (h : Qf a) : wpRl P ops R W made S Qf [] a := h
end

theorem nup_v {P : Program} {R : World → World → Prop} {T : Value → World → Prop} {w w' : World} {v : Value} (h1 : R w w') (h2 : T v w') : NUp P R T w (.ok (.value v) w') := ⟨h1, h2⟩
theorem nup_f {P : Program} {R : World → World → Prop} {T : Value → World → Prop} {w w' : World} {f : FuncId} {args : Array Value} (h1 : R w w') (h2 : Calls P f args w' fun e w'' => ∃ v, e = .returned v ∧ R w' w'' ∧ T v w'') : NUp P R T w (.ok (.enter f args) w') := ⟨h1, h2⟩

/-! the way that keeps what was there -/
def Keeps (w w' : World) : Prop := Below w.heap.size w w'
theorem way_keeps : Way Keeps := ⟨fun w => Below.refl _ _, fun _ _ _ h k => bstep h (Nat.le_refl _) k, fun w => (Below.refl w.heap.size w).drew⟩
instance instClsSome (W : World) : Nonempty (Cls Keeps W) := ⟨⟨W, Below.refl _ _⟩⟩
theorem kc_cell {W : World} {p : Addr} {v : Value} (c : W.cell? p = some v) : ∀ n : Cls Keeps W, n.w.cell? p = some v := fun n => kcell n.ok c
theorem rup_same {P : Program} {f : FuncId} {args : Array Value} {w : World} {v : Value} (h : Calls P f args w fun e w' => e = .returned v ∧ w = w') : Calls P f args w fun e w' => e = .returned v ∧ Keeps w w' :=
  h.mono fun _ _ ⟨he, hw⟩ => ⟨he, by rw [← hw]; exact Below.refl _ _⟩
theorem rup_drew {P : Program} {f : FuncId} {args : Array Value} {w : World} {v : Value} (h : Calls P f args w fun e w' => e = .returned v ∧ ∃ n, w' = w.drewN n) : Calls P f args w fun e w' => e = .returned v ∧ Keeps w w' :=
  h.mono fun _ _ ⟨he, hw⟩ => ⟨he, by obtain ⟨n, hw⟩ := hw; rw [hw]; exact bdrewN (Below.refl _ _) n⟩
end Go.Proofs.Ytkhbnklaglnfdaa
