/- Both boards side by side: one call of each. -/
import Derived.Test.YtdfklbjkcednhaaX3
import Derived.Test.YtdfklbjkcednhaaW13
namespace Go.Proofs.Ytdfklbjkcednhaa
open Go.RowKit Go.Lib

def wantR (L : List Nt) (e f n k : Int) : Int := if wantOk e f n k then (if 0 ≤ plcN L e f then 7 else 0) else 1
def wantL (L : List Nt) (e f n k : Int) : List Nt := if wantOk e f n k then (if 0 ≤ plcN L e f then L else L ++ [⟨e, f, n + k, 0⟩]) else L
def givL (L : List Nt) (e f : Int) : List Nt := match fiN L e f with | some i => L.eraseIdx i | none => L
theorem wantL_len (L : List Nt) (e f n k : Int) : (wantL L e f n k).length ≤ L.length + 1 := by
  unfold wantL
  split
  · split <;> simp
  · simp
theorem givL_len (L : List Nt) (e f : Int) : (givL L e f).length ≤ L.length := by
  unfold givL
  split
  · exact List.length_eraseIdx_le _ _
  · exact Nat.le_refl _
theorem wantL_env {L : List Nt} {e f n k : Int} (h : ∀ y ∈ L, 0 ≤ y.nEnv ∧ y.nEnv < 8) : ∀ y ∈ wantL L e f n k, 0 ≤ y.nEnv ∧ y.nEnv < 8 := by
  unfold wantL
  split
  · rename_i hw
    split
    · exact h
    · intro y hy
      rcases List.mem_append.1 hy with hy | hy
      · exact h y hy
      · simp at hy
        subst hy
        exact hw.1
  · exact h
theorem givL_env {L : List Nt} {e f : Int} (h : ∀ y ∈ L, 0 ≤ y.nEnv ∧ y.nEnv < 8) : ∀ y ∈ givL L e f, 0 ≤ y.nEnv ∧ y.nEnv < 8 := by
  unfold givL
  split
  · exact fun y hy => h y (List.mem_of_mem_eraseIdx hy)
  · exact h
/-- a call of the document's: the board behind it, and another value -/
def RetR (L' : List Nt) (P' : List (List Int)) (v : Value) (w : World) (e : Ending) (w' : World) : Prop :=
  ∃ x', e = .returned (.tuple #[.agg (eRd x').toArray, v]) ∧ RdOk w' x' ∧ x'.rL = L' ∧ x'.rT.map Td.tV = P' ∧ Below w.heap.size w w'
theorem rwant_any (x : Rd) (env frm now k : Int) (w : World) (h : RdOk w x) (hl : x.rL.length ≤ 500) :
    Calls Try.prog 12 #[.agg (eRd x).toArray, .int .i64 env, .int .i64 frm, .int .i64 now, .int .i64 k] w (RetR (wantL x.rL env frm now k) (x.rT.map Td.tV) (.int .i64 (wantR x.rL env frm now k)) w) := by
  unfold wantL wantR
  by_cases hw : wantOk env frm now k
  · rw [if_pos hw, if_pos hw]
    by_cases hp : 0 ≤ plcN x.rL env frm
    · rw [if_pos hp, if_pos hp]
      exact (rwant_twice x env frm now k w h hl hw hp).mono fun e w' ⟨h1, h2⟩ => ⟨x, h1, h.keep h2, rfl, rfl, h2⟩
    · rw [if_neg hp, if_neg hp]
      exact (rwant_new x env frm now k w h hl hw (by omega)).mono fun e w' ⟨A', c', h1, h2, h3⟩ => ⟨_, h1, h2, rfl, rfl, h3⟩
  · rw [if_neg hw, if_neg hw]
    exact (rwant_bad x env frm now k w h hw).mono fun e w' ⟨h1, h2⟩ => ⟨x, h1, h.keep h2, rfl, rfl, h2⟩
theorem rgiven_any (x : Rd) (env frm : Int) (w : World) (h : RdOk w x) (hl : x.rL.length ≤ 500) :
    Calls Try.prog 9 #[.agg (eRd x).toArray, .int .i64 env, .int .i64 frm] w (RetR (givL x.rL env frm) (x.rT.map Td.tV) (.bool (fiN x.rL env frm).isSome) w) := by
  unfold givL
  cases hf : fiN x.rL env frm with
  | none => exact (rgiven_no x env frm w h hl hf).mono fun e w' ⟨h1, h2⟩ => ⟨x, h1, h.keep h2, rfl, rfl, h2⟩
  | some i => exact (rgiven_ok x env frm i w h hl hf).mono fun e w' ⟨A', c', h1, h2, h3⟩ => ⟨_, h1, h2, rfl, rfl, h3⟩
theorem pwant_any {g c : Nat} {A : Option Addr} {L : List Nt} {VS : List Vc} (env frm now k : Int) (w : World) (hd : Bd w g A c L VS) (hl : L.length ≤ 500) :
    Calls Try.prog 8 #[.pointer (some ⟨g, 0, none⟩), .int .i64 env, .int .i64 frm, .int .i64 now, .int .i64 k] w (RetBd g (wantL L env frm now k) VS (.int .i64 (wantR L env frm now k)) w) := by
  unfold wantL wantR
  by_cases hw : wantOk env frm now k
  · rw [if_pos hw, if_pos hw]
    exact want_ok env frm now k w hd hl hw
  · rw [if_neg hw, if_neg hw]
    exact (want_bad env frm now k w hw).mono fun e w' ⟨h1, h2⟩ => ⟨A, c, h1, by rw [← h2]; exact hd, by rw [← h2]; exact Ne.refl g w⟩
theorem pgiven_any {g c : Nat} {A : Option Addr} {L : List Nt} {VS : List Vc} (env frm : Int) (w : World) (hd : Bd w g A c L VS) (hl : L.length ≤ 500) :
    Calls Try.prog 6 #[.pointer (some ⟨g, 0, none⟩), .int .i64 env, .int .i64 frm] w (RetBd g (givL L env frm) VS (.bool (fiN L env frm).isSome) w) :=
  (given_any env frm w hd hl).mono fun e w' ⟨h1, h2, h3⟩ => ⟨A, c, h1, h2, h3⟩

/-- the document's board in its variable at h, beside the program's at g -/
structure Half (w : World) (g h : Nat) (A : Option Addr) (c : Nat) (L : List Nt) (VS : List Vc) (x : Rd) : Prop where
  bd : Bd w g A c L VS
  bx : Blk w h 47 (eRd x).toArray
  ok : RdOk w x
section
variable {w w' w5 w7 : World} {g h c c' : Nat} {A A' : Option Addr} {L L' : List Nt} {VS VS' : List Vc} {x x' : Rd}
theorem Half.keep (k : Half w g h A c L VS x) (hb : Below w.heap.size w w') : Half w' g h A c L VS x := ⟨k.bd.keep hb, k.bx.keep hb, k.ok.keep hb⟩
theorem Bd.grown {u : Nat} {t : TypeId} {cs : Array Value} (k : Bd w g A c L VS) (hu : Blk w u t cs) (ht : t ≠ 39) (hug : u ≠ g) (hg : w.grownBy w' (some u)) : Bd w' g A c L VS :=
  ⟨k.b.grown hg (fun e => hug (by injection e with e; exact e.symm)), k.o.kept hg (by
    cases hb : blk A with
    | none => exact .inl rfl
    | some q =>
      right
      intro e
      injection e with e
      obtain ⟨cs', hq⟩ := k.o.ty q hb
      exact blk_ne hq hu (fun e => ht e.symm) e), k.v8, k.ok⟩
theorem RdOk.grown {u : Nat} {cs : Array Value} (k : RdOk w x) (hu : Blk w u 47 cs) (hg : w.grownBy w' (some u)) : RdOk w' x := by
  have hne : ∀ q, blk x.rA = some q → q ≠ u := fun q hq => by
    obtain ⟨c2, h2⟩ := k.ty q hq
    exact blk_ne h2 hu (by decide)
  exact ⟨k.sl.grown hg (fun r hr e => by injection hr with hr; exact hne r e hr.symm), k.cap, k.shape, k.t8, fun t ht => ((Tq.of (k.tok t ht)).grown hg hu).ok (k.tok t ht).len, fun q hq => (k.ty q hq).imp fun _ k2 => k2.grown hg (fun e => by injection e with e; exact hne q hq e)⟩
/-- another board is laid into the document's variable -/
theorem Half.laid (hd : Bd w5 g A c L VS) (hb : Blk w5 h 47 (eRd x).toArray) (ho : RdOk w5 x') (hgh : h ≠ g) (h8 : x.rT.length = 8) : Half (w5.setCells h 0 (eRd x')) g h A c L VS x' := by
  have hG := grown_setCells h (eRd x') 0 _ _ (only_refl w5 h)
  exact ⟨hd.grown hb (by decide) hgh hG, hb.fill _ (by simp [eRd, ho.t8, h8]), ho.grown hb hG⟩
/-- the program's call -/
theorem Half.turn (k : Half w g h A c L VS x) (hd : Bd w7 g A' c' L' VS') (hn : Ne g w w7) (hgh : h ≠ g) : Half w7 g h A' c' L' VS' x := ⟨hd, hn.blk k.bx hgh (by decide), k.ok.ne k.bd hn⟩
/-- both hold the same -/
def TwoS (w : World) (g h : Nat) (L : List Nt) : Prop := ∃ A c VS x, Half w g h A c L VS x ∧ x.rL = L ∧ x.rT.map Td.tV = VS.map cntV ∧ ∀ y ∈ L, 0 ≤ y.nEnv ∧ y.nEnv < 8
theorem TwoS.keep (k : TwoS w g h L) (hb : Below w.heap.size w w') : TwoS w' g h L := by
  obtain ⟨A, c, VS, x, h1, h2, h3, h4⟩ := k
  exact ⟨A, c, VS, x, h1.keep hb, h2, h3, h4⟩
end
end Go.Proofs.Ytdfklbjkcednhaa
