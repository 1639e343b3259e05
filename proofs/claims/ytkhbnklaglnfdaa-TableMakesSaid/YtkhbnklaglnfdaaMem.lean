/- Words for memory: slices that read as lists, of the call's own and of the arguments; how an argument's slice is opened. -/
import Derived.Test.YtkhbnklaglnfdaaBase
import Derived.Deep.Slices
import Derived.Deep.Fields
import Derived.Deep.AppendLies
import Derived.OwnWalk
namespace Go.Proofs.Ytkhbnklaglnfdaa
open Go.ChangeShapes Go.WideShapes Go.ChangeAt Go.RowKit Go.Deep

section
variable {α : Type} {enc : α → List Value} {sz : Nat}

theorem flat_len (he : ∀ x, (enc x).length = sz) (xs : List α) : (xs.flatMap enc).length = xs.length * sz := by
  induction xs with
  | nil => simp
  | cons x xs ih => simp only [List.flatMap_cons, List.length_append, List.length_cons, ih, he x, Nat.add_mul]; omega

theorem flat_at (he : ∀ x, (enc x).length = sz) : ∀ (xs : List α) (i : Nat) (x : α) (j : Nat), xs[i]? = some x → j < sz → (xs.flatMap enc)[i * sz + j]? = (enc x)[j]?
  | [], i, x, j, h, _ => by simp at h
  | y :: ys, 0, x, j, h, hj => by
    simp at h
    subst h
    simp only [List.flatMap_cons, Nat.zero_mul, Nat.zero_add]
    rw [List.getElem?_append_left (by rw [he]; exact hj)]
  | y :: ys, i + 1, x, j, h, hj => by
    simp at h
    simp only [List.flatMap_cons]
    rw [List.getElem?_append_right (by rw [he, Nat.add_mul]; omega), he, show (i + 1) * sz + j - sz = i * sz + j by rw [Nat.add_mul]; omega]
    exact flat_at he ys i x j h hj

/-- The slice at A reads as the list xs, each element sz cells. -/
def Sl (enc : α → List Value) (sz : Nat) (w : World) (A : Option Addr) (xs : List α) : Prop :=
  0 < xs.length → ∃ b off, A = some ⟨b, off, none⟩ ∧ ∀ (i : Nat) (x : α) (j : Nat) (u : Value), xs[i]? = some x → (enc x)[j]? = some u → w.cell? ⟨b, off + (i * sz + j), none⟩ = some u

theorem Sl.nil (w : World) (A : Option Addr) : Sl enc sz w A [] := fun h => absurd h (by simp)
theorem Sl.keep {w w' : World} {A : Option Addr} {xs : List α} (h : Sl enc sz w A xs) (hb : Below w.heap.size w w') : Sl enc sz w' A xs := fun h0 => by
  obtain ⟨b, off, hA, hc⟩ := h h0
  exact ⟨b, off, hA, fun i x j u hx hu => kcell hb (hc i x j u hx hu)⟩
theorem Sl.alloc {w : World} {A : Option Addr} {xs : List α} (h : Sl enc sz w A xs) (o : Obj) : Sl enc sz (w.alloc o) A xs := h.keep (below1 _ _)
theorem Sl.drew {w : World} {A : Option Addr} {xs : List α} (h : Sl enc sz w A xs) : Sl enc sz w.drew A xs := h
/-- where a place is asked for, there is an address -/
theorem Sl.at_ {w : World} {A : Option Addr} {xs : List α} {i : Nat} (h : Sl enc sz w A xs) (hi : i < xs.length) :
    ∃ b off, A = some ⟨b, off, none⟩ ∧ ∀ (j : Nat) (u : Value), (enc xs[i])[j]? = some u → w.cell? ⟨b, off + (i * sz + j), none⟩ = some u := by
  obtain ⟨b, off, hA, hc⟩ := h (by omega)
  exact ⟨b, off, hA, fun j u hu => hc i _ j u (List.getElem?_eq_getElem hi) hu⟩

/-- a row of the call's own reads as a list -/
theorem own_sl {w : World} {base : Nat} {e : TypeId} {v : Value} {xs : List α} (he : ∀ x, (enc x).length = sz) (h : w.ownsRow base e sz v xs.length (xs.flatMap enc)) :
    ∃ A c, v = .slice A xs.length c ∧ Sl enc sz w A xs := by
  rcases h.2 with ⟨hv, hn⟩ | ⟨g, cap, cur, hv, hg, hh, h1, h2, h3, h4⟩
  · refine ⟨none, 0, by rw [hv, hn], fun h0 => by omega⟩
  · refine ⟨some ⟨g, 0, none⟩, cap, hv, fun _ => ⟨g, 0, rfl, fun i x j u hx hu => ?_⟩⟩
    subst hv
    have hj : j < sz := by rw [← he x]; exact (List.getElem?_eq_some_iff.1 hu).1
    have hi : i < xs.length := (List.getElem?_eq_some_iff.1 hx).1
    have hlt : i * sz + j < xs.length * sz := by
      have : (i + 1) * sz ≤ xs.length * sz := Nat.mul_le_mul_right _ hi
      rw [Nat.add_mul] at this
      omega
    rw [Nat.zero_add, h.cellAt _ hlt, flat_at he xs i x j hx hj, hu]

end

theorem Sl.block_lt {α : Type} {enc : α → List Value} {sz : Nat} {w : World} {b off : Nat} {xs : List α} (h : Sl enc sz w (some ⟨b, off, none⟩) xs) (h0 : 0 < xs.length) (he : ∀ x : α, 0 < (enc x).length) : b < w.heap.size := by
  obtain ⟨b', off', hA, hc⟩ := h h0
  injection hA with hA
  injection hA with h1 h2
  subst h1 h2
  have hx := List.getElem?_eq_getElem h0
  exact World.block_lt_of_cell? w _ (hc 0 _ 0 _ hx (List.getElem?_eq_getElem (he _)))

/-! S of a drawn region, kept over a new block and over an append to a row of the call's own -/
theorem gcell {W w1 w2 : World} {row : Option Nat} {p : Addr} {v : Value} (h : w1.cell? p = some v) (hg : w1.grownBy w2 row) (hr : ∀ k, row = some k → W.heap.size ≤ k) (hp : p.block < W.heap.size) : w2.cell? p = some v := by
  rw [World.cell?_of_block (w := w1) (hg.block p.block (World.block_lt_of_cell? w1 p h) (fun e => by have := hr _ e.symm; omega))]
  exact h
theorem bgrow {W w1 w2 : World} {row : Option Nat} (h : Below W.heap.size W w1) (hg : w1.grownBy w2 row) (hr : ∀ k, row = some k → W.heap.size ≤ k) : Below W.heap.size W w2 := h.grown hg h.size hr
theorem keepA3 {W w1 : World} {p q r : Addr} {v u x : Value} (h : Below W.heap.size W w1 ∧ w1.cell? p = some v ∧ w1.cell? q = some u ∧ w1.cell? r = some x) (o : Obj) :
    Below W.heap.size W (w1.alloc o) ∧ (w1.alloc o).cell? p = some v ∧ (w1.alloc o).cell? q = some u ∧ (w1.alloc o).cell? r = some x :=
  ⟨h.1.alloc h.1.size o, kcell (below1 _ _) h.2.1, kcell (below1 _ _) h.2.2.1, kcell (below1 _ _) h.2.2.2⟩
theorem keepG3 {W w1 w2 : World} {row : Option Nat} {p q r : Addr} {v u x : Value} (h : Below W.heap.size W w1 ∧ w1.cell? p = some v ∧ w1.cell? q = some u ∧ w1.cell? r = some x) (hg : w1.grownBy w2 row) (hr : ∀ k, row = some k → W.heap.size ≤ k)
    (hp : p.block < W.heap.size) (hq : q.block < W.heap.size) (hr' : r.block < W.heap.size) : Below W.heap.size W w2 ∧ w2.cell? p = some v ∧ w2.cell? q = some u ∧ w2.cell? r = some x :=
  ⟨bgrow h.1 hg hr, gcell h.2.1 hg hr hp, gcell h.2.2.1 hg hr hq, gcell h.2.2.2 hg hr hr'⟩

/-! whole numbers -/
def eI (x : Int) : List Value := [.int .i64 x]
def eU (x : Int) : List Value := [.int .u64 x]
theorem eI_len (x : Int) : (eI x).length = 1 := rfl
theorem eU_len (x : Int) : (eU x).length = 1 := rfl
theorem Sl.int_at {w : World} {A : Option Addr} {xs : List Int} {i : Nat} (h : Sl eI 1 w A xs) (hi : i < xs.length) :
    ∃ b off, A = some ⟨b, off, none⟩ ∧ w.cell? ⟨b, off + i, none⟩ = some (.int .i64 xs[i]) := by
  obtain ⟨b, off, hA, hc⟩ := h.at_ hi
  refine ⟨b, off, hA, ?_⟩
  have := hc 0 _ (show (eI xs[i])[0]? = some (.int .i64 xs[i]) from rfl)
  simpa using this
theorem Sl.u64_at {w : World} {A : Option Addr} {xs : List Int} {i : Nat} (h : Sl eU 1 w A xs) (hi : i < xs.length) :
    ∃ b off, A = some ⟨b, off, none⟩ ∧ w.cell? ⟨b, off + i, none⟩ = some (.int .u64 xs[i]) := by
  obtain ⟨b, off, hA, hc⟩ := h.at_ hi
  refine ⟨b, off, hA, ?_⟩
  have := hc 0 _ (show (eU xs[i])[0]? = some (.int .u64 xs[i]) from rfl)
  simpa using this

theorem own_int_at {w : World} {base : Nat} {e : TypeId} {g n cap : Nat} {xs : List Int} (h : w.ownsRow base e 1 (.slice (some ⟨g, 0, none⟩) n cap) n (xs.flatMap eI)) (hn : xs.length = n) {i : Nat} (hi : i < xs.length) :
    w.cell? ⟨g, i, none⟩ = some (.int .i64 xs[i]) := by
  rw [h.cellAt i (by omega)]
  have := flat_at eI_len xs i xs[i] 0 (List.getElem?_eq_getElem hi) (by omega)
  simpa [eI] using this
theorem flat_set (xs : List Int) (i : Nat) (x : Int) : (xs.flatMap eI).set i (.int .i64 x) = (xs.set i x).flatMap eI := by
  induction xs generalizing i with
  | nil => simp
  | cons y ys ih =>
    cases i with
    | zero => simp [eI]
    | succ i => simpa [eI] using ih i
/-- a store into a row of the call's own -/
theorem own_int_set {w : World} {base : Nat} {e : TypeId} {g n cap : Nat} {xs : List Int} (h : w.ownsRow base e 1 (.slice (some ⟨g, 0, none⟩) n cap) n (xs.flatMap eI)) (i : Nat) (x : Int) :
    (w.setCell ⟨g, i, none⟩ (.int .i64 x)).ownsRow base e 1 (.slice (some ⟨g, 0, none⟩) n cap) n ((xs.set i x).flatMap eI) ∧ w.grownBy (w.setCell ⟨g, i, none⟩ (.int .i64 x)) (some g) := by
  rw [← flat_set]
  exact h.stored i _
theorem made_ints (n : Nat) : (madeCells (Value.int .i64 0).cells (n * 1)).toList = (List.replicate n 0).flatMap eI := by
  have h1 : (List.replicate n (0 : Int)).flatMap eI = List.replicate n (Value.int .i64 0) := by
    induction n with
    | zero => rfl
    | succ n ih => rw [List.replicate_succ, List.flatMap_cons, ih]; rfl
  rw [h1]
  apply List.ext_getElem
  · simp [madeCells]
  · intro i h2 h3
    simp [madeCells, Value.cells, Nat.mod_one]

/-! An argument's slice, opened by what one element reads as. -/
theorem open_rows {H : Type} {enc0 : TypeId × Value → H} {P : Program} {w : World} {r : Reach} {b0 : Nat} {t e : TypeId} {v : Value} {d : DataW H} {p : List MemPlace} {α : Type} {enc : α → List Value} {sz : Nat} (good : α → Prop)
    (ht : P.underlying t = some (.slice e)) (hC : P.cellsOf e = sz) (hsz : 0 < sz) (hv : Value.okWide P w r b0 t v) (h : DataW.Trod enc0 P w 0 (fun _ => true) true t v d p)
    (hdec : ∀ (cs : List Value) (x : DataW H × List MemPlace) (n : Nat), cs.length = sz → DataW.trod enc0 P w 0 (fun _ => true) true n e cs = some x → ∃ a : α, cs = enc a ∧ good a) :
    ∃ (A : Option Addr) (xs : List α) (c : Nat), v = .slice A xs.length c ∧ xs.length ≤ c ∧ c ≤ maxLen ∧ Sl enc sz w A xs ∧ (∀ x ∈ xs, good x) := by
  obtain ⟨A, len, cap, rfl⟩ := okWide_slice ht hv
  obtain ⟨fuel, hf⟩ := h
  rcases open_slice ht hf with ⟨hcs, _⟩ | ⟨a, len', cap', m, n, D, Pl, hcs, _, hl, hm, hmm, _, hi⟩
  · simp [Value.cells] at hcs
    obtain ⟨rfl, rfl, rfl⟩ := hcs
    exact ⟨none, [], 0, rfl, by simp, by simp [maxLen], Sl.nil _ _, by simp⟩
  · simp [Value.cells] at hcs
    obtain ⟨rfl, rfl, rfl⟩ := hcs
    simp at hmm
    subst hmm
    have key : ∀ i : Nat, ∃ x : Option α, i < len → ∃ y, x = some y ∧ good y ∧ w.cells? 0 (a.add (i * sz)) sz = some (enc y) := fun i => by
      by_cases hlt : i < len
      · obtain ⟨cs', hc, hd⟩ := hi i (by omega)
        rw [hC] at hc
        obtain ⟨y, rfl, hg⟩ := hdec cs' _ n (World.cells?_some hc).2.1 hd
        exact ⟨some y, fun _ => ⟨y, rfl, hg, hc⟩⟩
      · exact ⟨none, fun h => absurd h hlt⟩
    obtain ⟨f, hf'⟩ := Classical.axiomOfChoice key
    let xs := (List.range len).filterMap f
    have hxs : ∀ i, i < len → ∃ y, f i = some y ∧ good y ∧ w.cells? 0 (a.add (i * sz)) sz = some (enc y) := hf'
    have hlen : ∀ k, k ≤ len → ((List.range k).filterMap f).length = k := by
      intro k
      induction k with
      | zero => simp
      | succ k ih =>
        intro hk
        obtain ⟨y, hy, _⟩ := hxs k (by omega)
        rw [List.range_succ, List.filterMap_append, List.length_append, ih (by omega)]
        simp [hy]
    have hget : ∀ k, k ≤ len → ∀ i, i < k → ((List.range k).filterMap f)[i]? = f i := by
      intro k
      induction k with
      | zero => intro _ i hi; omega
      | succ k ih =>
        intro hk i hi
        obtain ⟨y, hy, _⟩ := hxs k (by omega)
        rw [List.range_succ, List.filterMap_append]
        by_cases hik : i < k
        · rw [List.getElem?_append_left (by rw [hlen k (by omega)]; exact hik)]
          exact ih (by omega) i hik
        · obtain rfl : i = k := by omega
          rw [List.getElem?_append_right (by rw [hlen i (by omega)]; omega), hlen i (by omega)]
          simp [hy]
    have hl2 := hlen len (Nat.le_refl _)
    refine ⟨some a, xs, m, by rw [show xs.length = len from hl2], by rw [show xs.length = len from hl2]; exact hl, hm, fun h0 => ?_, fun x hx => ?_⟩
    · rw [show xs.length = len from hl2] at h0
      obtain ⟨y0, _, _, hc0⟩ := hxs 0 h0
      have h00 := (World.cells?_some hc0).2.2 0 hsz
      have hl0 := (World.cells?_some hc0).2.1
      have hsp : a.spot = none := by
        have hz : (a.add (0 * sz)).add 0 = a := by simp [Addr.add]
        rw [hz, List.getElem?_eq_getElem (by omega)] at h00
        unfold World.cell? at h00
        cases hs : a.spot with
        | none => rfl
        | some s => simp [hs] at h00; split at h00 <;> simp at h00
      obtain ⟨ab, ao, asp⟩ := a
      simp at hsp
      subst hsp
      refine ⟨ab, ao, rfl, fun i x j u hx hu => ?_⟩
      have hil : i < len := by
        have := (List.getElem?_eq_some_iff.1 hx).1
        rw [show xs.length = len from hl2] at this
        exact this
      obtain ⟨y, hy, _, hc⟩ := hxs i hil
      have hxy : x = y := by
        have := hget len (Nat.le_refl _) i hil
        rw [show ((List.range len).filterMap f) = xs from rfl, hx, hy] at this
        injection this
      subst hxy
      have hj : j < sz := by
        have h1 := (World.cells?_some hc).2.1
        have h2 := (List.getElem?_eq_some_iff.1 hu).1
        omega
      have h3 := (World.cells?_some hc).2.2 j hj
      rw [hu] at h3
      rw [← h3]
      congr 1
      rw [Go.Deep.add_add]
      unfold Addr.add
      split
      · rename_i h0; rw [h0, Nat.add_zero]
      · rfl
    · obtain ⟨i, hi', hfi⟩ := List.mem_filterMap.1 hx
      obtain ⟨y, hy, hg, _⟩ := hxs i (List.mem_range.1 hi')
      rw [hy] at hfi
      injection hfi with hfi
      subst hfi
      exact hg

theorem dec_int {H : Type} {enc0 : TypeId × Value → H} {P : Program} {w : World} {e : TypeId} {k : IntKind} (he : P.underlying e = some (.int k)) :
    ∀ (cs : List Value) (x : DataW H × List MemPlace) (n : Nat), cs.length = 1 → DataW.trod enc0 P w 0 (fun _ => true) true n e cs = some x → ∃ a : Int, cs = [.int k a] ∧ (Lit.int k a).wf = true := by
  intro cs x n _ h
  obtain ⟨a, rfl, _, hw⟩ := DataW.trod_int he h
  exact ⟨a, rfl, hw⟩

/-- one field of one cell of an element -/
theorem dec_field {H : Type} {enc0 : TypeId × Value → H} {P : Program} {w : World} {e : TypeId} {fs : Array Field} {cs : List Value} {x : DataW H × List MemPlace} {n : Nat} (he : P.underlying e = some (.struct fs)) (hone : oneCellFields P fs = true)
    (hC : P.cellsOf e = fs.size) (h : DataW.trod enc0 P w 0 (fun _ => true) true n e cs = some x) (j : Nat) (f : Field) (hj : fs[j]? = some f) :
    cs.length = fs.size ∧ ∃ (v : Value) (y : DataW H × List MemPlace) (m : Nat), cs[j]? = some v ∧ DataW.trod enc0 P w 0 (fun _ => true) true m f.type [v] = some y := by
  obtain ⟨ys, n', hn', hy, hlen, hyl, hf⟩ := DataW.trod_struct he h
  rw [hC] at hlen
  obtain ⟨ho, hk⟩ := hone_of hone j f hj
  have hjl : j < fs.size := (Array.getElem?_eq_some_iff.1 hj).1
  have h1 := hf j f hj
  rw [ho, hk] at h1
  have hone' : (cs.drop j).take 1 = [cs[j]'(by omega)] := by
    rw [List.drop_eq_getElem_cons (by omega)]
    rfl
  rw [hone', List.getElem?_eq_getElem (show j < ys.length by omega)] at h1
  exact ⟨hlen, _, _, n', List.getElem?_eq_getElem (by omega), h1⟩

end Go.Proofs.Ytkhbnklaglnfdaa
