/- Texts laid as one: Base, Mem, App, Blk, Aft, Kp, Cls. -/
import Derived.Test.YtpimflmmfnffeaaRows
import Derived.WalkKit
import Derived.WalkSpells
import Derived.WalkLawsBesides
import Derived.Deep.RegionHeld3
import Derived.Lib.Hide
import Derived.Deep.QuietTactic
import Derived.BigQuiet
import Derived.Deep.Draws
import Derived.ProofKit
import Derived.Lib.SmallJoins
import Derived.Deep.Slices
import Derived.Deep.Fields
import Derived.Deep.AppendLies
import Derived.OwnWalk
import Derived.Maps.AppendAt
import Derived.RegionTactic
import Derived.Laws.OwnMore
import Derived.Laws.Rows
/- Small facts that every walk of this seat uses: worlds that keep what was there; what closes a statement. -/
namespace Go.Proofs.Ytpimflmmfnffeaa
open Go.ChangeShapes Go.WideShapes Go.ChangeAt Go.RowKit

theorem ret_bool {a b : Bool} (h : a = b) : Ending.returned (.bool a) = .returned (.bool b) := by rw [h]
theorem ret_int {k : IntKind} {a b : Int} (h : a = b) : Ending.returned (.int k a) = .returned (.int k b) := by rw [h]
theorem ret_pair {k : IntKind} {a b : Int} {v : Value} (h : a = b) : Ending.returned (.tuple #[.int k a, v]) = .returned (.tuple #[.int k b, v]) := by rw [h]
theorem below1 (w : World) (o : Obj) : Below w.heap.size w (w.alloc o) := (Below.refl _ _).alloc (Nat.le_refl _) _
theorem bcell {W w1 : World} (hb : Below W.heap.size W w1) : (∀ b o, b < W.heap.size → w1.cell? ⟨b, o, none⟩ = W.cell? ⟨b, o, none⟩) ∧ (∀ b o, b < W.heap.size → w1.frozen? ⟨b, o, none⟩ = W.frozen? ⟨b, o, none⟩) :=
  ⟨fun b o h => hb.cell (p := ⟨b, o, none⟩) h, fun b o h => hb.frozen (p := ⟨b, o, none⟩) h⟩
/-- what a world keeps of another -/
theorem kcell {W w1 : World} {p : Addr} {v : Value} (hb : Below W.heap.size W w1) (h : W.cell? p = some v) : w1.cell? p = some v := by
  rw [hb.cell (World.block_lt_of_cell? W p h)]; exact h
theorem bstep {B : Nat} {W w1 w2 : World} (h : Below B W w1) (hB : B ≤ W.heap.size) (h2 : Below w1.heap.size w1 w2) : Below B W w2 :=
  h.trans (h2.mono (Nat.le_trans hB h.size))
theorem bdrewN {B : Nat} {a w : World} (h : Below B a w) (n : Nat) : Below B a (w.drewN n) := ⟨h.os, h.tape, h.output, h.size, h.block⟩
theorem keep0 {W w1 w2 : World} (h : Below W.heap.size W w1) (hb : Below w1.heap.size w1 w2) : Below W.heap.size W w2 := bstep h (Nat.le_refl _) hb
theorem keep2 {W w1 w2 : World} {p q : Addr} {v u : Value} (h : Below W.heap.size W w1 ∧ w1.cell? p = some v ∧ w1.cell? q = some u) (hb : Below w1.heap.size w1 w2) :
    Below W.heap.size W w2 ∧ w2.cell? p = some v ∧ w2.cell? q = some u := ⟨bstep h.1 (Nat.le_refl _) hb, kcell hb h.2.1, kcell hb h.2.2⟩
theorem keep3 {W w1 w2 : World} {p q r : Addr} {v u x : Value} (h : Below W.heap.size W w1 ∧ w1.cell? p = some v ∧ w1.cell? q = some u ∧ w1.cell? r = some x) (hb : Below w1.heap.size w1 w2) :
    Below W.heap.size W w2 ∧ w2.cell? p = some v ∧ w2.cell? q = some u ∧ w2.cell? r = some x := ⟨bstep h.1 (Nat.le_refl _) hb, kcell hb h.2.1, kcell hb h.2.2.1, kcell hb h.2.2.2⟩
theorem keep4 {W w1 w2 : World} {p q r t : Addr} {v u x y : Value} (h : Below W.heap.size W w1 ∧ w1.cell? p = some v ∧ w1.cell? q = some u ∧ w1.cell? r = some x ∧ w1.cell? t = some y) (hb : Below w1.heap.size w1 w2) :
    Below W.heap.size W w2 ∧ w2.cell? p = some v ∧ w2.cell? q = some u ∧ w2.cell? r = some x ∧ w2.cell? t = some y :=
  ⟨bstep h.1 (Nat.le_refl _) hb, kcell hb h.2.1, kcell hb h.2.2.1, kcell hb h.2.2.2.1, kcell hb h.2.2.2.2⟩

theorem wf_u64 {x : Int} (h : (Lit.int .u64 x).wf = true) : 0 ≤ x ∧ x < 18446744073709551616 := by
  have := h
  simp [Lit.wf, IntKind.min, IntKind.max, IntKind.signed, IntKind.bits] at this
  omega
theorem wf_i64 {x : Int} (h : (Lit.int .i64 x).wf = true) : -9223372036854775808 ≤ x ∧ x < 9223372036854775808 := by
  have := h
  simp [Lit.wf, IntKind.min, IntKind.max, IntKind.signed, IntKind.bits] at this
  omega
theorem wf_u16 {x : Int} (h : (Lit.int .u16 x).wf = true) : 0 ≤ x ∧ x < 65536 := by
  have := h
  simp [Lit.wf, IntKind.min, IntKind.max, IntKind.signed, IntKind.bits] at this
  omega
theorem wf_u8 {x : Int} (h : (Lit.int .u8 x).wf = true) : 0 ≤ x ∧ x < 256 := by
  have := h
  simp [Lit.wf, IntKind.min, IntKind.max, IntKind.signed, IntKind.bits] at this
  omega

theorem Try.own : ownKnob Try.prog.godebug = none := by kernel_rfl
theorem Try.laidOut : laidOutB Try.prog = true := by kernel_rfl

/-- All arguments read behind the call as they did before it. -/
theorem trodAll_below {H : Type} {enc : TypeId × Value → H} {W W' : World} (hb : Below W.heap.size W W') :
    ∀ (ts : List TypeId) (vs : List Value) (ds : List (DataW H)) (ps : List MemPlace),
      (∀ t ∈ ts, Try.prog.readableRec t = true ∧ t < Try.prog.types.size) →
      DataW.TrodAll enc Try.prog W 0 (fun _ => true) true ts vs ds ps → (∀ x ∈ ps, x.block < W.heap.size) →
      DataW.TrodAll enc Try.prog W' 0 (fun b => decide (b < W.heap.size)) true ts vs ds ps
  | [], [], [], ps, _, h, _ => h
  | t :: ts, v :: vs, d :: ds, ps, ht, h, hlt => by
    obtain ⟨p, q, h1, h2, rfl⟩ := h
    have ht1 := ht t (by simp)
    refine ⟨p, q, Below.trod Try.laidOut ht1.1 ht1.2 h1 hb (fun x hx => hlt x (by simp [hx])), ?_, rfl⟩
    exact trodAll_below hb ts vs ds q (fun t' h' => ht t' (by simp [h'])) h2 (fun x hx => hlt x (by simp [hx]))
  | [], _ :: _, _, _, _, h, _ => by cases h
  | [], [], _ :: _, _, _, h, _ => by cases h
  | _ :: _, [], _, _, _, h, _ => by cases h
  | _ :: _, _ :: _, [], _, _, h, _ => by cases h

theorem law_post {H : Type} {enc : TypeId × Value → H} {f : Func} {s : ChangeSpec} {tb : TypeId} (hvars : s.vars = []) (hres : f.resultTypes = #[tb]) (hbool : Try.prog.underlying tb = some .bool)
    {W W' : World} {args : Array Value} {ds gs : List (DataW H)} {before : List MemPlace}
    (hread : ∀ t ∈ f.params.toList, Try.prog.readableRec t = true ∧ t < Try.prog.types.size)
    (hW : DataW.Whole enc Try.prog f.params.toList s.vars false W args.toList ds gs before)
    (hfn : s.fn H (ds ++ gs) = { results := [.lit (.bool true)], args := ds }) (hb : Below W.heap.size W W') :
    s.post enc Try.prog f false true false false W args (.bool true) W' := by
  have hlt := hW.lt
  have hW2 := hW
  obtain ⟨p, q, hA, hV, rfl, hfz, hnd⟩ := hW2
  rw [hvars] at hV
  have hlt' : ∀ x ∈ p, x.block < W.heap.size := fun x hx => hlt x (by simp [hx])
  refine ⟨ds, gs, p ++ q, [], p, [], hW, ?_, ?_, ?_, hb.frame _, fun h => by cases h⟩
  · rw [hfn, hres]
    exact trodAll_mk1 (shut_bool hbool true)
  · rw [hfn]
    exact trodAll_below hb _ _ _ _ hread hA hlt'
  · rw [hfn, hvars]
    rfl

end Go.Proofs.Ytpimflmmfnffeaa

/- Words for memory: slices that read as lists, of the call's own and of the arguments; how an argument's slice is opened. -/
namespace Go.Proofs.Ytpimflmmfnffeaa
open Go.ChangeShapes Go.WideShapes Go.ChangeAt Go.RowKit Go.Deep

section
variable {α : Type} {enc : α → List Value} {sz : Nat}

theorem flat_len (he : ∀ x, (enc x).length = sz) (xs : List α) : (xs.flatMap enc).length = xs.length * sz := by
  induction xs with
  | nil => simp
  | cons x xs ih => simp only [List.flatMap_cons, List.length_append, List.length_cons, ih, he x, Nat.add_mul]; omega

theorem flat_at (he : ∀ x, (enc x).length = sz) : ∀ (xs : List α) (i : Nat) (x : α) (j : Nat), xs[i]? = some x → j < sz → (xs.flatMap enc)[i * sz + j]? = (enc x)[j]?
  | [], i, x, j, h, _ => by simp at h
  | y :: ys, 0, x, j, h, hj => by
    simp at h
    subst h
    simp only [List.flatMap_cons, Nat.zero_mul, Nat.zero_add]
    rw [List.getElem?_append_left (by rw [he]; exact hj)]
  | y :: ys, i + 1, x, j, h, hj => by
    simp at h
    simp only [List.flatMap_cons]
    rw [List.getElem?_append_right (by rw [he, Nat.add_mul]; omega), he, show (i + 1) * sz + j - sz = i * sz + j by rw [Nat.add_mul]; omega]
    exact flat_at he ys i x j h hj

/-- The slice at A reads as the list xs, each element sz cells. -/
def Sl (enc : α → List Value) (sz : Nat) (w : World) (A : Option Addr) (xs : List α) : Prop :=
  0 < xs.length → ∃ b off, A = some ⟨b, off, none⟩ ∧ ∀ (i : Nat) (x : α) (j : Nat) (u : Value), xs[i]? = some x → (enc x)[j]? = some u → w.cell? ⟨b, off + (i * sz + j), none⟩ = some u

theorem Sl.nil (w : World) (A : Option Addr) : Sl enc sz w A [] := fun h => absurd h (by simp)
theorem Sl.keep {w w' : World} {A : Option Addr} {xs : List α} (h : Sl enc sz w A xs) (hb : Below w.heap.size w w') : Sl enc sz w' A xs := fun h0 => by
  obtain ⟨b, off, hA, hc⟩ := h h0
  exact ⟨b, off, hA, fun i x j u hx hu => kcell hb (hc i x j u hx hu)⟩
theorem Sl.alloc {w : World} {A : Option Addr} {xs : List α} (h : Sl enc sz w A xs) (o : Obj) : Sl enc sz (w.alloc o) A xs := h.keep (below1 _ _)
theorem Sl.drew {w : World} {A : Option Addr} {xs : List α} (h : Sl enc sz w A xs) : Sl enc sz w.drew A xs := h
/-- where a place is asked for, there is an address -/
theorem Sl.at_ {w : World} {A : Option Addr} {xs : List α} {i : Nat} (h : Sl enc sz w A xs) (hi : i < xs.length) :
    ∃ b off, A = some ⟨b, off, none⟩ ∧ ∀ (j : Nat) (u : Value), (enc xs[i])[j]? = some u → w.cell? ⟨b, off + (i * sz + j), none⟩ = some u := by
  obtain ⟨b, off, hA, hc⟩ := h (by omega)
  exact ⟨b, off, hA, fun j u hu => hc i _ j u (List.getElem?_eq_getElem hi) hu⟩

/-- a row of the call's own reads as a list -/
theorem own_sl {w : World} {base : Nat} {e : TypeId} {v : Value} {xs : List α} (he : ∀ x, (enc x).length = sz) (h : w.ownsRow base e sz v xs.length (xs.flatMap enc)) :
    ∃ A c, v = .slice A xs.length c ∧ Sl enc sz w A xs := by
  rcases h.2 with ⟨hv, hn⟩ | ⟨g, cap, cur, hv, hg, hh, h1, h2, h3, h4⟩
  · refine ⟨none, 0, by rw [hv, hn], fun h0 => by omega⟩
  · refine ⟨some ⟨g, 0, none⟩, cap, hv, fun _ => ⟨g, 0, rfl, fun i x j u hx hu => ?_⟩⟩
    subst hv
    have hj : j < sz := by rw [← he x]; exact (List.getElem?_eq_some_iff.1 hu).1
    have hi : i < xs.length := (List.getElem?_eq_some_iff.1 hx).1
    have hlt : i * sz + j < xs.length * sz := by
      have : (i + 1) * sz ≤ xs.length * sz := Nat.mul_le_mul_right _ hi
      rw [Nat.add_mul] at this
      omega
    rw [Nat.zero_add, h.cellAt _ hlt, flat_at he xs i x j hx hj, hu]

end

theorem Sl.block_lt {α : Type} {enc : α → List Value} {sz : Nat} {w : World} {b off : Nat} {xs : List α} (h : Sl enc sz w (some ⟨b, off, none⟩) xs) (h0 : 0 < xs.length) (he : ∀ x : α, 0 < (enc x).length) : b < w.heap.size := by
  obtain ⟨b', off', hA, hc⟩ := h h0
  injection hA with hA
  injection hA with h1 h2
  subst h1 h2
  have hx := List.getElem?_eq_getElem h0
  exact World.block_lt_of_cell? w _ (hc 0 _ 0 _ hx (List.getElem?_eq_getElem (he _)))

/-! S of a drawn region, kept over a new block and over an append to a row of the call's own -/
theorem gcell {W w1 w2 : World} {row : Option Nat} {p : Addr} {v : Value} (h : w1.cell? p = some v) (hg : w1.grownBy w2 row) (hr : ∀ k, row = some k → W.heap.size ≤ k) (hp : p.block < W.heap.size) : w2.cell? p = some v := by
  rw [World.cell?_of_block (w := w1) (hg.block p.block (World.block_lt_of_cell? w1 p h) (fun e => by have := hr _ e.symm; omega))]
  exact h
theorem bgrow {W w1 w2 : World} {row : Option Nat} (h : Below W.heap.size W w1) (hg : w1.grownBy w2 row) (hr : ∀ k, row = some k → W.heap.size ≤ k) : Below W.heap.size W w2 := h.grown hg h.size hr
theorem keepA3 {W w1 : World} {p q r : Addr} {v u x : Value} (h : Below W.heap.size W w1 ∧ w1.cell? p = some v ∧ w1.cell? q = some u ∧ w1.cell? r = some x) (o : Obj) :
    Below W.heap.size W (w1.alloc o) ∧ (w1.alloc o).cell? p = some v ∧ (w1.alloc o).cell? q = some u ∧ (w1.alloc o).cell? r = some x :=
  ⟨h.1.alloc h.1.size o, kcell (below1 _ _) h.2.1, kcell (below1 _ _) h.2.2.1, kcell (below1 _ _) h.2.2.2⟩
theorem keepG3 {W w1 w2 : World} {row : Option Nat} {p q r : Addr} {v u x : Value} (h : Below W.heap.size W w1 ∧ w1.cell? p = some v ∧ w1.cell? q = some u ∧ w1.cell? r = some x) (hg : w1.grownBy w2 row) (hr : ∀ k, row = some k → W.heap.size ≤ k)
    (hp : p.block < W.heap.size) (hq : q.block < W.heap.size) (hr' : r.block < W.heap.size) : Below W.heap.size W w2 ∧ w2.cell? p = some v ∧ w2.cell? q = some u ∧ w2.cell? r = some x :=
  ⟨bgrow h.1 hg hr, gcell h.2.1 hg hr hp, gcell h.2.2.1 hg hr hq, gcell h.2.2.2 hg hr hr'⟩

/-! whole numbers -/
def eI (x : Int) : List Value := [.int .i64 x]
def eU (x : Int) : List Value := [.int .u64 x]
theorem eI_len (x : Int) : (eI x).length = 1 := rfl
theorem eU_len (x : Int) : (eU x).length = 1 := rfl
theorem Sl.int_at {w : World} {A : Option Addr} {xs : List Int} {i : Nat} (h : Sl eI 1 w A xs) (hi : i < xs.length) :
    ∃ b off, A = some ⟨b, off, none⟩ ∧ w.cell? ⟨b, off + i, none⟩ = some (.int .i64 xs[i]) := by
  obtain ⟨b, off, hA, hc⟩ := h.at_ hi
  refine ⟨b, off, hA, ?_⟩
  have := hc 0 _ (show (eI xs[i])[0]? = some (.int .i64 xs[i]) from rfl)
  simpa using this
theorem Sl.u64_at {w : World} {A : Option Addr} {xs : List Int} {i : Nat} (h : Sl eU 1 w A xs) (hi : i < xs.length) :
    ∃ b off, A = some ⟨b, off, none⟩ ∧ w.cell? ⟨b, off + i, none⟩ = some (.int .u64 xs[i]) := by
  obtain ⟨b, off, hA, hc⟩ := h.at_ hi
  refine ⟨b, off, hA, ?_⟩
  have := hc 0 _ (show (eU xs[i])[0]? = some (.int .u64 xs[i]) from rfl)
  simpa using this

theorem own_int_at {w : World} {base : Nat} {e : TypeId} {g n cap : Nat} {xs : List Int} (h : w.ownsRow base e 1 (.slice (some ⟨g, 0, none⟩) n cap) n (xs.flatMap eI)) (hn : xs.length = n) {i : Nat} (hi : i < xs.length) :
    w.cell? ⟨g, i, none⟩ = some (.int .i64 xs[i]) := by
  rw [h.cellAt i (by omega)]
  have := flat_at eI_len xs i xs[i] 0 (List.getElem?_eq_getElem hi) (by omega)
  simpa [eI] using this
theorem flat_set (xs : List Int) (i : Nat) (x : Int) : (xs.flatMap eI).set i (.int .i64 x) = (xs.set i x).flatMap eI := by
  induction xs generalizing i with
  | nil => simp
  | cons y ys ih =>
    cases i with
    | zero => simp [eI]
    | succ i => simpa [eI] using ih i
/-- a store into a row of the call's own -/
theorem own_int_set {w : World} {base : Nat} {e : TypeId} {g n cap : Nat} {xs : List Int} (h : w.ownsRow base e 1 (.slice (some ⟨g, 0, none⟩) n cap) n (xs.flatMap eI)) (i : Nat) (x : Int) :
    (w.setCell ⟨g, i, none⟩ (.int .i64 x)).ownsRow base e 1 (.slice (some ⟨g, 0, none⟩) n cap) n ((xs.set i x).flatMap eI) ∧ w.grownBy (w.setCell ⟨g, i, none⟩ (.int .i64 x)) (some g) := by
  rw [← flat_set]
  exact h.stored i _
theorem made_ints (n : Nat) : (madeCells (Value.int .i64 0).cells (n * 1)).toList = (List.replicate n 0).flatMap eI := by
  have h1 : (List.replicate n (0 : Int)).flatMap eI = List.replicate n (Value.int .i64 0) := by
    induction n with
    | zero => rfl
    | succ n ih => rw [List.replicate_succ, List.flatMap_cons, ih]; rfl
  rw [h1]
  apply List.ext_getElem
  · simp [madeCells]
  · intro i h2 h3
    simp [madeCells, Value.cells, Nat.mod_one]

/-! An argument's slice, opened by what one element reads as. -/
theorem open_rows {H : Type} {enc0 : TypeId × Value → H} {P : Program} {w : World} {r : Reach} {b0 : Nat} {t e : TypeId} {v : Value} {d : DataW H} {p : List MemPlace} {α : Type} {enc : α → List Value} {sz : Nat} (good : α → Prop)
    (ht : P.underlying t = some (.slice e)) (hC : P.cellsOf e = sz) (hsz : 0 < sz) (hv : Value.okWide P w r b0 t v) (h : DataW.Trod enc0 P w 0 (fun _ => true) true t v d p)
    (hdec : ∀ (cs : List Value) (x : DataW H × List MemPlace) (n : Nat), cs.length = sz → DataW.trod enc0 P w 0 (fun _ => true) true n e cs = some x → ∃ a : α, cs = enc a ∧ good a) :
    ∃ (A : Option Addr) (xs : List α) (c : Nat), v = .slice A xs.length c ∧ xs.length ≤ c ∧ c ≤ maxLen ∧ Sl enc sz w A xs ∧ (∀ x ∈ xs, good x) := by
  obtain ⟨A, len, cap, rfl⟩ := okWide_slice ht hv
  obtain ⟨fuel, hf⟩ := h
  rcases open_slice ht hf with ⟨hcs, _⟩ | ⟨a, len', cap', m, n, D, Pl, hcs, _, hl, hm, hmm, _, hi⟩
  · simp [Value.cells] at hcs
    obtain ⟨rfl, rfl, rfl⟩ := hcs
    exact ⟨none, [], 0, rfl, by simp, by simp [maxLen], Sl.nil _ _, by simp⟩
  · simp [Value.cells] at hcs
    obtain ⟨rfl, rfl, rfl⟩ := hcs
    simp at hmm
    subst hmm
    have key : ∀ i : Nat, ∃ x : Option α, i < len → ∃ y, x = some y ∧ good y ∧ w.cells? 0 (a.add (i * sz)) sz = some (enc y) := fun i => by
      by_cases hlt : i < len
      · obtain ⟨cs', hc, hd⟩ := hi i (by omega)
        rw [hC] at hc
        obtain ⟨y, rfl, hg⟩ := hdec cs' _ n (World.cells?_some hc).2.1 hd
        exact ⟨some y, fun _ => ⟨y, rfl, hg, hc⟩⟩
      · exact ⟨none, fun h => absurd h hlt⟩
    obtain ⟨f, hf'⟩ := Classical.axiomOfChoice key
    let xs := (List.range len).filterMap f
    have hxs : ∀ i, i < len → ∃ y, f i = some y ∧ good y ∧ w.cells? 0 (a.add (i * sz)) sz = some (enc y) := hf'
    have hlen : ∀ k, k ≤ len → ((List.range k).filterMap f).length = k := by
      intro k
      induction k with
      | zero => simp
      | succ k ih =>
        intro hk
        obtain ⟨y, hy, _⟩ := hxs k (by omega)
        rw [List.range_succ, List.filterMap_append, List.length_append, ih (by omega)]
        simp [hy]
    have hget : ∀ k, k ≤ len → ∀ i, i < k → ((List.range k).filterMap f)[i]? = f i := by
      intro k
      induction k with
      | zero => intro _ i hi; omega
      | succ k ih =>
        intro hk i hi
        obtain ⟨y, hy, _⟩ := hxs k (by omega)
        rw [List.range_succ, List.filterMap_append]
        by_cases hik : i < k
        · rw [List.getElem?_append_left (by rw [hlen k (by omega)]; exact hik)]
          exact ih (by omega) i hik
        · obtain rfl : i = k := by omega
          rw [List.getElem?_append_right (by rw [hlen i (by omega)]; omega), hlen i (by omega)]
          simp [hy]
    have hl2 := hlen len (Nat.le_refl _)
    refine ⟨some a, xs, m, by rw [show xs.length = len from hl2], by rw [show xs.length = len from hl2]; exact hl, hm, fun h0 => ?_, fun x hx => ?_⟩
    · rw [show xs.length = len from hl2] at h0
      obtain ⟨y0, _, _, hc0⟩ := hxs 0 h0
      have h00 := (World.cells?_some hc0).2.2 0 hsz
      have hl0 := (World.cells?_some hc0).2.1
      have hsp : a.spot = none := by
        have hz : (a.add (0 * sz)).add 0 = a := by simp [Addr.add]
        rw [hz, List.getElem?_eq_getElem (by omega)] at h00
        unfold World.cell? at h00
        cases hs : a.spot with
        | none => rfl
        | some s => simp [hs] at h00; split at h00 <;> simp at h00
      obtain ⟨ab, ao, asp⟩ := a
      simp at hsp
      subst hsp
      refine ⟨ab, ao, rfl, fun i x j u hx hu => ?_⟩
      have hil : i < len := by
        have := (List.getElem?_eq_some_iff.1 hx).1
        rw [show xs.length = len from hl2] at this
        exact this
      obtain ⟨y, hy, _, hc⟩ := hxs i hil
      have hxy : x = y := by
        have := hget len (Nat.le_refl _) i hil
        rw [show ((List.range len).filterMap f) = xs from rfl, hx, hy] at this
        injection this
      subst hxy
      have hj : j < sz := by
        have h1 := (World.cells?_some hc).2.1
        have h2 := (List.getElem?_eq_some_iff.1 hu).1
        omega
      have h3 := (World.cells?_some hc).2.2 j hj
      rw [hu] at h3
      rw [← h3]
      congr 1
      rw [Go.Deep.add_add]
      unfold Addr.add
      split
      · rename_i h0; rw [h0, Nat.add_zero]
      · rfl
    · obtain ⟨i, hi', hfi⟩ := List.mem_filterMap.1 hx
      obtain ⟨y, hy, hg, _⟩ := hxs i (List.mem_range.1 hi')
      rw [hy] at hfi
      injection hfi with hfi
      subst hfi
      exact hg

theorem dec_int {H : Type} {enc0 : TypeId × Value → H} {P : Program} {w : World} {e : TypeId} {k : IntKind} (he : P.underlying e = some (.int k)) :
    ∀ (cs : List Value) (x : DataW H × List MemPlace) (n : Nat), cs.length = 1 → DataW.trod enc0 P w 0 (fun _ => true) true n e cs = some x → ∃ a : Int, cs = [.int k a] ∧ (Lit.int k a).wf = true := by
  intro cs x n _ h
  obtain ⟨a, rfl, _, hw⟩ := DataW.trod_int he h
  exact ⟨a, rfl, hw⟩

/-- one field of one cell of an element -/
theorem dec_field {H : Type} {enc0 : TypeId × Value → H} {P : Program} {w : World} {e : TypeId} {fs : Array Field} {cs : List Value} {x : DataW H × List MemPlace} {n : Nat} (he : P.underlying e = some (.struct fs)) (hone : oneCellFields P fs = true)
    (hC : P.cellsOf e = fs.size) (h : DataW.trod enc0 P w 0 (fun _ => true) true n e cs = some x) (j : Nat) (f : Field) (hj : fs[j]? = some f) :
    cs.length = fs.size ∧ ∃ (v : Value) (y : DataW H × List MemPlace) (m : Nat), cs[j]? = some v ∧ DataW.trod enc0 P w 0 (fun _ => true) true m f.type [v] = some y := by
  obtain ⟨ys, n', hn', hy, hlen, hyl, hf⟩ := DataW.trod_struct he h
  rw [hC] at hlen
  obtain ⟨ho, hk⟩ := hone_of hone j f hj
  have hjl : j < fs.size := (Array.getElem?_eq_some_iff.1 hj).1
  have h1 := hf j f hj
  rw [ho, hk] at h1
  have hone' : (cs.drop j).take 1 = [cs[j]'(by omega)] := by
    rw [List.drop_eq_getElem_cons (by omega)]
    rfl
  rw [hone', List.getElem?_eq_getElem (show j < ys.length by omega)] at h1
  exact ⟨hlen, _, _, n', List.getElem?_eq_getElem (by omega), h1⟩

end Go.Proofs.Ytpimflmmfnffeaa

/- Rows of the call's own, by the list that they hold; append of any slice to one, at a plain operation and at a step of a region that draws its order; make. -/
namespace Go.Proofs.Ytpimflmmfnffeaa
open Go.RowKit

/-- what the type table says of a slice's element -/
def Elem (P : Program) (t e : TypeId) (sz bytes : Nat) : Prop :=
  P.underlying t = some (.slice e) ∧ ∃ i z, P.info? e = some i ∧ i.zero = some z ∧ i.size = sz ∧ i.bytes = bytes ∧ z.cells.size = sz ∧ 0 < sz
theorem elem_mk {P : Program} {t e : TypeId} {sz bytes : Nat} {z : Value} (ht : P.underlying t = some (.slice e)) (h : (P.info? e).map (fun i => (i.zero, i.size, i.bytes)) = some (some z, sz, bytes)) (hz : z.cells.size = sz) (h0 : 0 < sz) : Elem P t e sz bytes := by
  obtain ⟨i, hi, h1, h2, h3⟩ := info_parts h
  exact ⟨ht, i, z, hi, h1, h2, h3, hz, h0⟩

structure EncOk {α : Type} (enc : α → List Value) (sz : Nat) : Prop where
  len : ∀ x, (enc x).length = sz
  one : ∀ x, ∀ u ∈ enc x, u.oneCell' = true
theorem eI_ok : EncOk eI 1 := ⟨eI_len, fun x u hu => by simp [eI] at hu; subst hu; rfl⟩
theorem eU_ok : EncOk eU 1 := ⟨eU_len, fun x u hu => by simp [eU] at hu; subst hu; rfl⟩

def blk (A : Option Addr) : Option Nat := A.map (·.block)
theorem own_blk (A : Option Addr) (n c : Nat) : (Value.slice A n c).ownBlock = blk A := by cases A <;> rfl

section
variable {α : Type} {enc : α → List Value} {sz : Nat}

/-- The slice at A, of capacity c, is a row of the call's own, from block base on, and holds the list xs. -/
def Own (enc : α → List Value) (sz : Nat) (w : World) (base : Nat) (e : TypeId) (A : Option Addr) (c : Nat) (xs : List α) : Prop :=
  w.ownsRow base e sz (.slice A xs.length c) xs.length (xs.flatMap enc)

variable {w w' : World} {base : Nat} {e : TypeId} {A : Option Addr} {c : Nat} {xs : List α}
theorem Own.nil (w : World) (base : Nat) (e : TypeId) : Own enc sz w base e none 0 [] := ⟨by simp, .inl ⟨rfl, rfl⟩⟩
theorem Own.sl (h : Own enc sz w base e A c xs) (hc : EncOk enc sz) : Sl enc sz w A xs := by
  obtain ⟨A', c', hv, hs⟩ := own_sl hc.len h
  injection hv with h1 _ _
  rw [h1]; exact hs
theorem Own.alloc (h : Own enc sz w base e A c xs) (o : Obj) : Own enc sz (w.alloc o) base e A c xs := World.ownsRow.alloc h o
theorem Own.drew (h : Own enc sz w base e A c xs) : Own enc sz w.drew base e A c xs := h
theorem Own.drewN (h : Own enc sz w base e A c xs) (n : Nat) : Own enc sz (w.drewN n) base e A c xs := h
theorem Own.lt (h : Own enc sz w base e A c xs) : ∀ k, blk A = some k → base ≤ k ∧ k < w.heap.size := fun k hk => World.ownsRow.lt h k (by rw [own_blk]; exact hk)
theorem Own.kept {row : Option Nat} (h : Own enc sz w base e A c xs) (hg : w.grownBy w' row) (hne : blk A = none ∨ blk A ≠ row) : Own enc sz w' base e A c xs :=
  World.ownsRow.kept h hg (by rw [own_blk]; exact hne)
/-- over a call that keeps what was there -/
theorem Own.keep (h : Own enc sz w base e A c xs) (hb : Below w.heap.size w w') : Own enc sz w' base e A c xs := by
  refine World.ownsRow.kept (row := none) h ⟨hb.os, hb.tape, hb.output, hb.size, fun i hi _ => hb.block i hi⟩ ?_
  rw [own_blk]
  cases h1 : blk A with
  | none => exact .inl rfl
  | some k => exact .inr (by simp)
theorem Own.cap (h : Own enc sz w base e A c xs) : xs.length ≤ c := by
  rcases h.2 with ⟨h1, h2⟩ | ⟨g, cap, cur, h1, _, _, h3, _⟩
  · omega
  · injection h1 with _ _ h1
    omega
theorem Own.shape (h : Own enc sz w base e A c xs) : (A = none ∧ xs = [] ∧ c = 0) ∨ ∃ g, A = some ⟨g, 0, none⟩ := by
  rcases h.2 with ⟨h1, h2⟩ | ⟨g, cap, cur, h1, _⟩
  · injection h1 with a1 a2 a3
    exact .inl ⟨a1, List.eq_nil_of_length_eq_zero h2, a3⟩
  · injection h1 with a1
    exact .inr ⟨g, a1⟩
theorem Own.from_ {base' : Nat} (h : Own enc sz w base e A c xs) (hb : base' ≤ base) : Own enc sz w base' e A c xs := by
  refine ⟨h.1, ?_⟩
  rcases h.2 with h1 | ⟨g, cap, cur, h1, h2, h3⟩
  · exact .inl h1
  · exact .inr ⟨g, cap, cur, h1, Nat.le_trans hb h2, h3⟩
/-- a row lies in another block than a cell that was there first -/
theorem Own.ne {p : Addr} {B : Nat} (h : Own enc sz w base e A c xs) (hp : p.block < B) (hB : B ≤ base) : blk A = none ∨ blk A ≠ some p.block := by
  cases h1 : blk A with
  | none => exact .inl rfl
  | some k => right; intro he; injection he with he; have := (h.lt k h1).1; omega

/-- a new block reads as one element -/
theorem Sl.new (hc : EncOk enc sz) (w : World) (y : α) (cs : Array Value) (hcs : cs.toList = enc y) (t : TypeId) : Sl enc sz (w.alloc (.cells cs t)) (some ⟨w.heap.size, 0, none⟩) [y] := fun _ => by
  refine ⟨w.heap.size, 0, rfl, fun i x j u hx hu => ?_⟩
  have hi : i = 0 := by
    have := (List.getElem?_eq_some_iff.1 hx).1
    simp at this
    exact this
  subst hi
  simp at hx
  subst hx
  have h1 := cell_of_row (w.alloc (.cells cs t)) w.heap.size j cs t (0, 0) (heap_alloc_new w _)
  rw [Nat.zero_mul, Nat.zero_add, Nat.zero_add, h1, ← Array.getElem?_toList, hcs, hu]

theorem one_flat (hc : EncOk enc sz) (ys : List α) : ∀ u ∈ ys.flatMap enc, u.oneCell' = true := fun u hu => by
  obtain ⟨y, _, hy⟩ := List.mem_flatMap.1 hu
  exact hc.one y u hy

variable {P : Program}

theorem run_append_sl {t ty : TypeId} {bytes : Nat} (w : World) (hE : Elem P t e sz bytes) (hc : EncOk enc sz) (hown : Own enc sz w base e A c xs) {B : Option Addr} {m d : Nat} {ys : List α} (hm : ys.length = m) (hsl : Sl enc sz w B ys)
    (h63 : xs.length + m ≤ maxLen) (hbytes : (xs.length + m) * bytes ≤ 140737488355328) (hbase : base ≤ w.heap.size) :
    ∃ A' c' w', (Builtin.append_ #[t, t] ty #[.slice A xs.length c, .slice B m d]).run P w = .ok (.slice A' (xs.length + m) c') w' ∧ Own enc sz w' base e A' c' (xs ++ ys) ∧ w.grownBy w' (blk A) ∧
      (blk A' = blk A ∨ blk A' = some w.heap.size) := by
  obtain ⟨ht, i, z, hi, hz, hs, hby, hzs, h0⟩ := hE
  subst hm
  have fin : ∀ v' w', (Builtin.append_ #[t, t] ty #[.slice A xs.length c, .slice B ys.length d]).run P w = .ok v' w' → w'.ownsRow base e sz v' (xs.length + ys.length) (xs.flatMap enc ++ ys.flatMap enc) → w.grownBy w' (Value.slice A xs.length c).ownBlock →
      (v'.ownBlock = (Value.slice A xs.length c).ownBlock ∨ v'.ownBlock = some w.heap.size) →
      ∃ A' c' w', (Builtin.append_ #[t, t] ty #[.slice A xs.length c, .slice B ys.length d]).run P w = .ok (.slice A' (xs.length + ys.length) c') w' ∧ Own enc sz w' base e A' c' (xs ++ ys) ∧ w.grownBy w' (blk A) ∧ (blk A' = blk A ∨ blk A' = some w.heap.size) := by
    intro v' w' hr ho hg hb
    rw [← List.flatMap_append] at ho
    have hl : (xs ++ ys).length = xs.length + ys.length := List.length_append
    rw [← hl] at ho
    obtain ⟨A', c', rfl, _⟩ := own_sl hc.len ho
    rw [own_blk] at hg hb
    rw [own_blk] at hb
    exact ⟨A', c', w', by rw [← hl]; exact hr, ho, hg, hb⟩
  cases B with
  | none =>
    have hy : ys = [] := by
      cases ys with
      | nil => rfl
      | cons y ys => obtain ⟨_, _, h, _⟩ := hsl (by simp); cases h
    subst hy
    refine fin (.slice A xs.length c) w ?_ (by simpa [Own] using hown) (World.grownBy.refl w _) (.inl rfl)
    rcases hown.2 with ⟨h1, h2⟩ | ⟨g, cap, cur, h1, _, _, h3, _⟩
    · rw [h1]
      simp [Builtin.append_, run_underlying ht, sizeOf, typeInfo, hi, Builtin.lenOf, Builtin.firstCells]
    · rw [h1]
      simp [Builtin.append_, run_underlying ht, sizeOf, typeInfo, hi, Builtin.lenOf, Builtin.firstCells, h3, storeCells]
  | some ad =>
    have hcells : ∀ j u, (ys.flatMap enc)[j]? = some u → w.cell? (ad.add j) = some u := by
      intro j u hu
      have hpos : 0 < ys.length := by
        cases ys with
        | nil => simp at hu
        | cons y ys => simp
      obtain ⟨b, off, hA, hcl⟩ := hsl hpos
      injection hA with hA
      subst hA
      have hj : j < ys.length * sz := by
        have := (List.getElem?_eq_some_iff.1 hu).1
        rw [flat_len hc.len] at this
        exact this
      have hq : j / sz < ys.length := Nat.div_lt_of_lt_mul (by rw [Nat.mul_comm]; exact hj)
      have hr : j % sz < sz := Nat.mod_lt _ h0
      have hjd : j / sz * sz + j % sz = j := by rw [Nat.mul_comm]; exact Nat.div_add_mod j sz
      have h1 := flat_at hc.len ys (j / sz) _ (j % sz) (List.getElem?_eq_getElem hq) hr
      rw [hjd, hu] at h1
      have h2 := hcl (j / sz) _ (j % sz) u (List.getElem?_eq_getElem hq) h1.symm
      rw [hjd] at h2
      rw [← h2]
      unfold Addr.add
      split
      · rename_i hz'; rw [hz', Nat.add_zero]
      · rfl
    obtain ⟨v', w', hrun, h2, h3, _, h5⟩ := run_append_own_at (P := P) w base t ty e i z sz bytes ht hi hz hs hby hzs h0 (.slice A xs.length c) xs.length (xs.flatMap enc) hown ad ys.length d (ys.flatMap enc) (flat_len hc.len ys) hcells (one_flat hc ys) h63 hbytes hbase
    exact fin v' w' hrun h2 h3 h5

theorem wp_append_sl {o : Oper} {a : Act} {K : Act → World → Prop} {Q : Exit → Act → World → Prop} {t : TypeId} {bytes : Nat} (w : World) (s x : Operand) (ho : o.op = .call { callee := .builtin .append, args := #[s, x], argTypes := #[t, t] })
    (hE : Elem P t e sz bytes) (hc : EncOk enc sz) (hown : Own enc sz w base e A c xs) {n : Nat} (hn : xs.length = n) (hs : a.eval s = .slice A n c) {B : Option Addr} {m d : Nat} {ys : List α} (hx : a.eval x = .slice B m d) (hm : ys.length = m) (hsl : Sl enc sz w B ys)
    (h63 : n + m ≤ maxLen) (hbytes : (n + m) * bytes ≤ 140737488355328) (hbase : base ≤ w.heap.size) (H : Nat) (hH : w.heap.size = H) (N : Nat) (hN : n + m = N)
    (h : ∀ A' c' w', Own enc sz w' base e A' c' (xs ++ ys) → w.grownBy w' (blk A) → (blk A' = blk A ∨ blk A' = some H) → K (a.put o.dst (.slice A' N c')) w') : o.wp P a w K Q := by
  subst hn
  subst hH
  subst hN
  obtain ⟨A', c', w', hr, h2, h3, h4⟩ := run_append_sl (P := P) (ty := o.type) w hE hc hown hm hsl h63 hbytes hbase
  unfold Oper.wp execOp
  simp only [ho, resolve, invoke, builtin, Sem.run_bind, Sem.run_pure, Result.andThen_ok, List.map_toArray, List.map_cons, List.map_nil, hs, hx]
  rw [hr]
  exact h A' c' w' h2 h3 h4

/-- at a plain region's operation -/
theorem wpList_append_sl {ops : Array Oper} {rest : List Oper} {o : Oper} {a : Act} {Q : Exit → Act → World → Prop} {t : TypeId} {bytes : Nat} (w : World) (hgd : o.guard = none) (s x : Operand) (ho : o.op = .call { callee := .builtin .append, args := #[s, x], argTypes := #[t, t] })
    (hE : Elem P t e sz bytes) (hc : EncOk enc sz) (hown : Own enc sz w base e A c xs) {n : Nat} (hn : xs.length = n) (hs : a.eval s = .slice A n c) {B : Option Addr} {m d : Nat} {ys : List α} (hx : a.eval x = .slice B m d) (hm : ys.length = m) (hsl : Sl enc sz w B ys)
    (h63 : n + m ≤ maxLen) (hbytes : (n + m) * bytes ≤ 140737488355328) (hbase : base ≤ w.heap.size) (H : Nat) (hH : w.heap.size = H) (N : Nat) (hN : n + m = N)
    (h : ∀ A' c' w', Own enc sz w' base e A' c' (xs ++ ys) → w.grownBy w' (blk A) → (blk A' = blk A ∨ blk A' = some H) → wpList P ops Q rest (a.put o.dst (.slice A' N c')) w') : wpList P ops Q (o :: rest) a w :=
  wpList_plain hgd fun _ hK => wp_append_sl w s x ho hE hc hown hn hs hx hm hsl h63 hbytes hbase H hH N hN fun A' c' w' h2 h3 h4 => hK _ _ (h A' c' w' h2 h3 h4)

/-- at a step of a region that draws its order -/
theorem step_append_sl {ops : Array Oper} {o : Oper} {a : Act} {K : Act → World → Prop} {Q : Exit → Act → World → Prop} {E : Prop} {t : TypeId} {bytes : Nat} (w : World) (hgd : o.guard = none) (s x : Operand) (ho : o.op = .call { callee := .builtin .append, args := #[s, x], argTypes := #[t, t] })
    (hE : Elem P t e sz bytes) (hc : EncOk enc sz) (hown : Own enc sz w base e A c xs) {n : Nat} (hn : xs.length = n) (hs : a.eval s = .slice A n c) {B : Option Addr} {m d : Nat} {ys : List α} (hx : a.eval x = .slice B m d) (hm : ys.length = m) (hsl : Sl enc sz w B ys)
    (h63 : n + m ≤ maxLen) (hbytes : (n + m) * bytes ≤ 140737488355328) (hbase : base ≤ w.heap.size) (H : Nat) (hH : w.heap.size = H) (N : Nat) (hN : n + m = N)
    (h : ∀ A' c' w', Own enc sz w' base e A' c' (xs ++ ys) → w.grownBy w' (blk A) → (blk A' = blk A ∨ blk A' = some H) → K (a.put o.dst (.slice A' N c')) w') :
    if Region.wanted o (yielded ops a.tmps) = true then Oper.wp P o a w K Q else E := by
  have hw : Region.wanted o (yielded ops a.tmps) = true := by simp [Region.wanted, hgd]
  rw [if_pos hw]
  exact wp_append_sl w s x ho hE hc hown hn hs hx hm hsl h63 hbytes hbase H hH N hN h

/-- a cut of a slice, from its beginning -/
theorem Sl.take (h : Sl enc sz w A xs) (k : Nat) : Sl enc sz w A (xs.take k) := fun h0 => by
  obtain ⟨b, off, hA, hc⟩ := h (by simp at h0; omega)
  refine ⟨b, off, hA, fun i x j u hx hu => hc i x j u ?_ hu⟩
  have := (List.getElem?_eq_some_iff.1 hx).1
  rw [List.getElem?_take] at hx
  split at hx
  · exact hx
  · cases hx
/-- .. and to its end, as the walk spells the address -/
theorem Sl.drop {b off k : Nat} (h : Sl enc sz w (some ⟨b, off, none⟩) xs) (hk : k < xs.length) : Sl enc sz w (some ⟨b, off + k * sz, none⟩) (xs.drop k) := fun _ => by
  obtain ⟨b', off', hA, hc⟩ := h (by omega)
  injection hA with hA
  injection hA with h1 h2
  subst h1 h2
  refine ⟨b, off + k * sz, rfl, fun i x j u hx hu => ?_⟩
  rw [List.getElem?_drop] at hx
  have := hc (k + i) x j u hx hu
  rw [Nat.add_mul] at this
  rw [show off + k * sz + (i * sz + j) = off + (k * sz + i * sz + j) by omega]
  exact this
end

/-- an empty row, just made -/
theorem Own.empty {α : Type} {enc : α → List Value} {sz : Nat} (w : World) {base : Nat} (e : TypeId) (hb : base ≤ w.heap.size) : Own enc sz (w.alloc (.cells #[] e)) base e (some ⟨w.heap.size, 0, none⟩) 0 [] :=
  ⟨by simp, .inr ⟨w.heap.size, 0, #[], rfl, hb, heap_alloc_new w _, Nat.le_refl _, by simp [maxLen], by simp, by simp⟩⟩
theorem keepA0 {W w1 : World} {o : Obj} (h : Below W.heap.size W w1) : Below W.heap.size W (w1.alloc o) := h.alloc h.size o
theorem keepG0 {W w1 w2 : World} {row : Option Nat} (h : Below W.heap.size W w1) (hg : w1.grownBy w2 row) (hr : ∀ k, row = some k → W.heap.size ≤ k) : Below W.heap.size W w2 := bgrow h hg hr
theorem grow_ne {A A' : Option Addr} {H g : Nat} (h : blk A' = blk A ∨ blk A' = some H) (hne : blk A = none ∨ blk A ≠ some g) (hg : g < H) : blk A' = none ∨ blk A' ≠ some g := by
  rcases h with h | h
  · rw [h]; exact hne
  · right; rw [h]; intro e; injection e with e; omega

theorem Sl.grown {α : Type} {enc : α → List Value} {sz : Nat} {w w' : World} {A : Option Addr} {xs : List α} {row : Option Nat} (h : Sl enc sz w A xs) (hg : w.grownBy w' row) (hne : ∀ g, row = some g → blk A ≠ some g) : Sl enc sz w' A xs := fun h0 => by
  obtain ⟨b, off, hA, hc⟩ := h h0
  refine ⟨b, off, hA, fun i x j u hx hu => ?_⟩
  have h1 := hc i x j u hx hu
  rw [World.cell?_of_block (w := w) (hg.block b (World.block_lt_of_cell? w _ h1) (fun e => hne b e.symm (by rw [hA]; rfl)))]
  exact h1
theorem Own.empty' {α : Type} {enc : α → List Value} {sz : Nat} (w : World) {base G : Nat} (e : TypeId) (hG : w.heap.size = G) (hb : base ≤ G) : Own enc sz (w.alloc (.cells #[] e)) base e (some ⟨G, 0, none⟩) 0 [] := by
  subst hG; exact Own.empty w e hb
theorem Sl.new' {α : Type} {enc : α → List Value} {sz : Nat} (hc : EncOk enc sz) (w : World) (y : α) (cs : Array Value) (hcs : cs.toList = enc y) (t : TypeId) {G : Nat} (hG : w.heap.size = G) : Sl enc sz (w.alloc (.cells cs t)) (some ⟨G, 0, none⟩) [y] := by
  subst hG; exact Sl.new hc w y cs hcs t
theorem grow_ge {A A' : Option Addr} {H B : Nat} (h : blk A' = blk A ∨ blk A' = some H) (hA : ∀ q, blk A = some q → B ≤ q) (hH : B ≤ H) : ∀ q, blk A' = some q → B ≤ q := by
  intro q hq
  rcases h with h | h
  · exact hA q (by rw [← h]; exact hq)
  · rw [h] at hq; injection hq with hq; omega
theorem ge_at {G B : Nat} (h : B ≤ G) : ∀ q, blk (some (⟨G, 0, none⟩ : Addr)) = some q → B ≤ q := by
  intro q hq
  injection hq with hq
  have : G = q := hq
  omega
theorem ne_below {row : Option Nat} {g o B : Nat} (h : ∀ q, row = some q → B ≤ q) (hg : g < B) : ∀ q, row = some q → blk (some (⟨g, o, none⟩ : Addr)) ≠ some q := by
  intro q hq e
  have := h q hq
  injection e with e
  have : g = q := e
  omega
/-! S of a drawn region: what was there is as it was, and a slice reads as a list -/
section
variable {α : Type} {enc : α → List Value} {sz : Nat} {W w1 w2 : World} {A : Option Addr} {xs : List α} {o : Obj}
theorem keepS (h : Below W.heap.size W w1 ∧ Sl enc sz w1 A xs) : Below W.heap.size W (w1.alloc o) ∧ Sl enc sz (w1.alloc o) A xs := ⟨h.1.alloc h.1.size o, h.2.alloc o⟩
theorem keepSd (h : Below W.heap.size W w1.drew ∧ Sl enc sz w1.drew A xs) : Below W.heap.size W (w1.alloc o).drew ∧ Sl enc sz (w1.alloc o).drew A xs :=
  ⟨(keepS (w1 := w1) (W := W) (o := o) ⟨⟨h.1.os, h.1.tape, h.1.output, h.1.size, h.1.block⟩, h.2⟩).1.drew, Sl.alloc (w := w1) h.2 o⟩
theorem keepSg {row : Option Nat} (h : Below W.heap.size W w1 ∧ Sl enc sz w1 A xs) (hg : w1.grownBy w2 row) (hr : ∀ k, row = some k → W.heap.size ≤ k) (hne : ∀ g, row = some g → blk A ≠ some g) : Below W.heap.size W w2 ∧ Sl enc sz w2 A xs :=
  ⟨bgrow h.1 hg hr, h.2.grown hg hne⟩
theorem Sl.of (h : Below W.heap.size W w1 ∧ Sl enc sz w1 A xs) : Sl enc sz w1 A xs := h.2
end

/-- a call that hands back a row of its own -/
def RetSl {α : Type} (enc : α → List Value) (sz : Nat) (e : TypeId) (xs : List α) (w : World) (en : Ending) (w' : World) : Prop :=
  ∃ A c, en = .returned (.slice A xs.length c) ∧ Own enc sz w' w.heap.size e A c xs ∧ Below w.heap.size w w'

end Go.Proofs.Ytpimflmmfnffeaa

/- A block that is known whole: an object behind a pointer. -/
namespace Go.Proofs.Ytpimflmmfnffeaa
open Go.RowKit

/-- block g is just these cells, of element type t, none frozen -/
def Blk (w : World) (g : Nat) (t : TypeId) (cs : Array Value) : Prop := w.heap[g]? = some (.cells cs t (0, 0))

section
variable {w w' : World} {g : Nat} {t : TypeId} {cs : Array Value}
theorem Blk.lt (h : Blk w g t cs) : g < w.heap.size := by
  rcases Nat.lt_or_ge g w.heap.size with hlt | hge
  · exact hlt
  · unfold Blk at h; rw [Array.getElem?_eq_none hge] at h; cases h
theorem Blk.cell (h : Blk w g t cs) (i : Nat) (v : Value) (hv : cs[i]? = some v) : w.cell? ⟨g, i, none⟩ = some v := (cell_of_row w g i cs t (0, 0) h).trans hv
theorem Blk.frozen (h : Blk w g t cs) (i : Nat) : w.frozen? ⟨g, i, none⟩ = false := by
  unfold Blk at h
  simp [World.frozen?, h]
theorem Blk.new (w : World) (t : TypeId) (cs : Array Value) : Blk (w.alloc (.cells cs t)) w.heap.size t cs := heap_alloc_new w _
theorem Blk.new' (w : World) (t : TypeId) (cs : Array Value) {g : Nat} (h : w.heap.size = g) : Blk (w.alloc (.cells cs t)) g t cs := by subst h; exact Blk.new w t cs
theorem Blk.alloc (h : Blk w g t cs) (o : Obj) : Blk (w.alloc o) g t cs := (Below.heap_alloc w o g h.lt).trans h
theorem Blk.drew (h : Blk w g t cs) : Blk w.drew g t cs := h
theorem Blk.drewN (h : Blk w g t cs) (n : Nat) : Blk (w.drewN n) g t cs := h
theorem Blk.set_ (h : Blk w g t cs) (i : Nat) (u : Value) : Blk (w.setCell ⟨g, i, none⟩ u) g t (cs.setIfInBounds i u) := by
  unfold Blk at h ⊢
  simp [World.setCell, Array.getElem?_modify, h]
theorem Blk.far (h : Blk w g t cs) {p : Addr} (hp : g ≠ p.block) (u : Value) : Blk (w.setCell p u) g t cs := (Below.heap_setCell w p u g hp).trans h
theorem Blk.keep (h : Blk w g t cs) (hb : Below w.heap.size w w') : Blk w' g t cs := (hb.block g h.lt).trans h
theorem Blk.grown {row : Option Nat} (h : Blk w g t cs) (hb : w.grownBy w' row) (hg : some g ≠ row) : Blk w' g t cs := (hb.block g h.lt hg).trans h
end

/-! only block g, and what is new, has turned -/
section
variable {a w w1 : World} {g : Nat}
theorem only_refl (w : World) (g : Nat) : w.grownBy w (some g) := World.grownBy.refl w _
theorem only_drew (h : a.grownBy w (some g)) : a.grownBy w.drew (some g) := ⟨h.os, h.tape, h.output, h.size, h.block⟩
theorem only_drewN (h : a.grownBy w (some g)) (n : Nat) : a.grownBy (w.drewN n) (some g) := ⟨h.os, h.tape, h.output, h.size, h.block⟩
theorem only_alloc (h : a.grownBy w (some g)) (o : Obj) : a.grownBy (w.alloc o) (some g) :=
  ⟨h.os, h.tape, h.output, Nat.le_trans h.size (by simp), fun i hi hne => (Below.heap_alloc w o i (Nat.lt_of_lt_of_le hi h.size)).trans (h.block i hi hne)⟩
theorem only_set (h : a.grownBy w (some g)) (i : Nat) (u : Value) : a.grownBy (w.setCell ⟨g, i, none⟩ u) (some g) :=
  ⟨h.os, h.tape, h.output, by simpa [World.setCell] using h.size, fun k hk hne => (Below.heap_setCell w ⟨g, i, none⟩ u k (fun e => hne (by rw [e]))).trans (h.block k hk hne)⟩
theorem only_trans (h : a.grownBy w (some g)) (k : w.grownBy w1 (some g)) : a.grownBy w1 (some g) :=
  ⟨k.os.trans h.os, k.tape.trans h.tape, k.output.trans h.output, Nat.le_trans h.size k.size, fun i hi hne => (k.block i (Nat.lt_of_lt_of_le hi h.size) hne).trans (h.block i hi hne)⟩
theorem only_below (h : a.grownBy w (some g)) (k : Below w.heap.size w w1) : a.grownBy w1 (some g) :=
  ⟨k.os.trans h.os, k.tape.trans h.tape, k.output.trans h.output, Nat.le_trans h.size k.size, fun i hi hne => (k.block i (Nat.lt_of_lt_of_le hi h.size)).trans (h.block i hi hne)⟩
/-- an object of the call's own has turned: nothing that was there has -/
theorem below_only {W : World} (h : Below W.heap.size W w) (k : w.grownBy w1 (some g)) (hg : W.heap.size ≤ g) : Below W.heap.size W w1 :=
  h.grown k h.size (fun q hq => by injection hq with hq; omega)
end

end Go.Proofs.Ytpimflmmfnffeaa

/- A region that draws its order, beside calls that make memory: walked once, in the order of the text, over the class of worlds that keep what was there. -/
namespace Go.Proofs.Ytpimflmmfnffeaa
open Go.RowKit

/-- a world that keeps what W had -/
structure Aft (W : World) where
  w : World
  ok : Below W.heap.size W w
instance instAftSome (W : World) : Nonempty (Aft W) := ⟨⟨W, Below.refl _ _⟩⟩
theorem Aft.cell {W : World} {p : Addr} {v : Value} (c : W.cell? p = some v) : ∀ n : Aft W, n.w.cell? p = some v := fun n => kcell n.ok c
theorem Aft.below {W w : World} (h : ∃ n : Aft W, w = n.w) : Below W.heap.size W w := by
  obtain ⟨n, rfl⟩ := h
  exact n.ok
theorem aft_call {P : Program} {f : FuncId} {args : Array Value} {W : World} {n : Aft W} {v : Value} (h : Calls P f args n.w fun e w' => e = .returned v ∧ Below n.w.heap.size n.w w') :
    Calls P f args n.w fun e w'' => e = .returned v ∧ ∃ m : Aft W, w'' = m.w :=
  h.mono fun _ w' ⟨he, hb⟩ => ⟨he, ⟨w', bstep n.ok (Nat.le_refl _) hb⟩, rfl⟩
theorem aft_same {P : Program} {f : FuncId} {args : Array Value} {W : World} {n : Aft W} {v : Value} (h : Calls P f args n.w fun e w' => e = .returned v ∧ n.w = w') :
    Calls P f args n.w fun e w'' => e = .returned v ∧ ∃ m : Aft W, w'' = m.w :=
  h.mono fun _ _ ⟨he, hb⟩ => ⟨he, n, hb.symm⟩
theorem aft_drew {P : Program} {f : FuncId} {args : Array Value} {W : World} {n : Aft W} {v : Value} (h : Calls P f args n.w fun e w' => e = .returned v ∧ ∃ m, w' = n.w.drewN m) :
    Calls P f args n.w fun e w'' => e = .returned v ∧ ∃ m : Aft W, w'' = m.w :=
  h.mono fun _ w' ⟨he, m, hb⟩ => ⟨he, ⟨w', by rw [hb]; exact bdrewN n.ok m⟩, rfl⟩
theorem wp_region_aft {P : Program} {id : Nat} {Q : Exit → Act → World → Prop} {a : Act} {W : World} {l : List Oper} (hm : P.follows .mixedOrders = true) (hB : Region.lexB .any l.toArray = true)
    (h : wpQuiet P l.toArray (fun w' => ∃ n : Aft W, w' = n.w) (fun a' => ∀ w', (∃ n : Aft W, w' = n.w) → Q .normal a' w') l a) : (Code.region id l.toArray true).wp P Q a W :=
  wp_region_quiet (C := fun w' => ∃ n : Aft W, w' = n.w) hm hB ⟨⟨_, (Below.refl _ _).drew⟩, rfl⟩ (by simpa using h)
end Go.Proofs.Ytpimflmmfnffeaa

/- What a call keeps: the blocks of a set; a world of which only so much is kept in mind. -/
namespace Go.Proofs.Ytpimflmmfnffeaa
open Go.RowKit

/-- the blocks of F stay -/
structure Kp (F : Nat → Prop) (a w : World) : Prop where
  os : w.os = a.os
  tape : w.tape = a.tape
  output : w.output = a.output
  size : a.heap.size ≤ w.heap.size
  block : ∀ i, F i → w.heap[i]? = a.heap[i]?
section
variable {F : Nat → Prop} {a w w' : World} {g : Nat}
theorem Kp.refl (F : Nat → Prop) (w : World) : Kp F w w := ⟨rfl, rfl, rfl, Nat.le_refl _, fun _ _ => rfl⟩
theorem Kp.trans (h : Kp F a w) (k : Kp F w w') : Kp F a w' :=
  ⟨k.os.trans h.os, k.tape.trans h.tape, k.output.trans h.output, Nat.le_trans h.size k.size, fun i hi => (k.block i hi).trans (h.block i hi)⟩
theorem Kp.of_below (h : Below a.heap.size a w) (hF : ∀ b, F b → b < a.heap.size) : Kp F a w := ⟨h.os, h.tape, h.output, h.size, fun i hi => h.block i (hF i hi)⟩
theorem Kp.of_low {B : Nat} (h : Below B a w) (hF : ∀ b, F b → b < B) : Kp F a w := ⟨h.os, h.tape, h.output, h.size, fun i hi => h.block i (hF i hi)⟩
theorem Kp.grown {r : Option Nat} (h : a.grownBy w r) (hF : ∀ b, F b → b < a.heap.size ∧ some b ≠ r) : Kp F a w := ⟨h.os, h.tape, h.output, h.size, fun i hi => h.block i (hF i hi).1 (hF i hi).2⟩
theorem Kp.drew (h : Kp F a w) : Kp F a w.drew := ⟨h.os, h.tape, h.output, h.size, h.block⟩
theorem Kp.drewN (h : Kp F a w) (n : Nat) : Kp F a (w.drewN n) := ⟨h.os, h.tape, h.output, h.size, h.block⟩
theorem Kp.cell (h : Kp F a w) {p : Addr} {v : Value} (hc : a.cell? p = some v) (hp : F p.block) : w.cell? p = some v := by
  rw [World.cell?_of_block (w := a) (h.block p.block hp)]; exact hc
theorem Kp.blk (h : Kp F a w) {q : Nat} {t : TypeId} {cs : Array Value} (hc : Blk a q t cs) (hq : F q) : Blk w q t cs := (h.block q hq).trans hc
theorem Kp.mono {G : Nat → Prop} (h : Kp F a w) (hG : ∀ b, G b → F b) : Kp G a w := ⟨h.os, h.tape, h.output, h.size, fun i hi => h.block i (hG i hi)⟩
theorem Kp.low {B : Nat} (h : Kp F a w) (hF : ∀ b, b < B → F b) : Below B a w := ⟨h.os, h.tape, h.output, h.size, fun i hi => h.block i (hF i hi)⟩
end
theorem at_world {F : World → Prop} {W : World} (Φ : World → Prop) (h : Φ W) (k : ∀ W', Φ W' → F W') : F W := k W h
end Go.Proofs.Ytpimflmmfnffeaa

/- A region that draws its order, walked once, in the order of the text, over ANY class of worlds: its loads see cells that all worlds of the class have; its calls hand back the same value in each world of the class and stay in the class. -/
namespace Go.Proofs.Ytpimflmmfnffeaa
open Go.RowKit

structure InC (C : World → Prop) where
  w : World
  ok : C w
theorem cls_cell {C : World → Prop} {p : Addr} {v : Value} (h : ∀ w, C w → w.cell? p = some v) : ∀ n : InC C, n.w.cell? p = some v := fun n => h n.w n.ok
theorem cls_call {C : World → Prop} {P : Program} {f : FuncId} {args : Array Value} {n : InC C} {v : Value} (h : ∀ w, C w → Calls P f args w fun e w' => e = .returned v ∧ C w') :
    Calls P f args n.w fun e w'' => e = .returned v ∧ ∃ m : InC C, w'' = m.w :=
  (h n.w n.ok).mono fun _ w' ⟨he, hb⟩ => ⟨he, ⟨w', hb⟩, rfl⟩
theorem cls_out {C : World → Prop} {w : World} (h : ∃ n : InC C, w = n.w) : C w := by
  obtain ⟨n, rfl⟩ := h
  exact n.ok
theorem wp_region_cls {P : Program} {id : Nat} {Q : Exit → Act → World → Prop} {a : Act} {W : World} {l : List Oper} (C : World → Prop) (h0 : C W.drew) (hm : P.follows .mixedOrders = true) (hB : Region.lexB .any l.toArray = true)
    (h : wpQuiet P l.toArray (fun w' => ∃ n : InC C, w' = n.w) (fun a' => ∀ w', (∃ n : InC C, w' = n.w) → Q .normal a' w') l a) : (Code.region id l.toArray true).wp P Q a W :=
  wp_region_quiet (C := fun w' => ∃ n : InC C, w' = n.w) hm hB ⟨⟨_, h0⟩, rfl⟩ (by simpa using h)
end Go.Proofs.Ytpimflmmfnffeaa
