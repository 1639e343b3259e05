/- Words for the statement FramesPlay: both memories; the chapter's example. -/
import Derived.Test.YtjmonplgabhceaaU6
namespace Go.Proofs.Ytjmonplgabhceaa
open Go.RowKit Go.Lib

structure Bo (w : World) (B n g q c : Nat) (s : FrS) (R : List FrE) : Prop where
  f : Fm w g s
  d : Dm w (some ⟨q, 0, none⟩) c R
  m : Mt s R
  gq : g ≠ q
  gB : B ≤ g
  qB : B ≤ q
  n : R.length = n
section
variable {w w' w2 : World} {B n g q c : Nat} {s : FrS} {R : List FrE}
theorem Bo.keep (h : Bo w B n g q c s R) (hb : Below w.heap.size w w') : Bo w' B n g q c s R := ⟨h.f.keep hb, h.d.keep hb, h.m, h.gq, h.gB, h.qB, h.n⟩
/-- behind a call of the program's: the document's memory is as it was -/
theorem Bo.far (h : Bo w B n g q c s R) (hg : w.grownBy w' (some g)) : Dm w' (some ⟨q, 0, none⟩) c R :=
  ⟨h.d.len, h.d.own.kept hg (.inr (fun e => h.gq (by injection e with e; exact e.symm)))⟩
/-- behind a call of both -/
theorem Bo.next (h : Bo w B n g q c s R) {s' : FrS} {R' : List FrE} {q' d' : Nat} (hf : Fm w' g s') (hg : w.grownBy w' (some g)) (hd : Dm w2 (some ⟨q', 0, none⟩) d' R') (hq : q' = q ∨ w'.heap.size ≤ q') (hb : Below w'.heap.size w' w2) (hm : Mt s' R') (hn : R'.length = n) :
    Bo w2 B n g q' d' s' R' := by
  have h1 := h.f.at_.lt
  have h2 := hg.size
  have h3 := h.qB
  have h4 := h.gB
  have h5 := h.gq
  refine ⟨hf.keep hb, hd, hm, ?_, h4, ?_, hn⟩
  · rcases hq with rfl | hq <;> omega
  · rcases hq with rfl | hq <;> omega
end
/-- what the document's calls hand back, of n frames -/
def RetDN (q n : Nat) (R' : List FrE) (vs : List Value) (w : World) (e : Ending) (w' : World) : Prop := ∃ (q' d : Nat), e = .returned (.tuple (.slice (some ⟨q', 0, none⟩) n d :: vs).toArray) ∧ Dm w' (some ⟨q', 0, none⟩) d R' ∧ (q' = q ∨ w.heap.size ≤ q') ∧ Below w.heap.size w w'
theorem retDN_of {q c n : Nat} {R' : List FrE} {vs : List Value} {w : World} {f : FuncId} {args : Array Value} (hn : R'.length = n) (h : Calls Try.prog f args w (RetDT q c R' vs w)) : Calls Try.prog f args w (RetDN q n R' vs w) := by
  subst hn
  exact h
theorem freeE_eq {s : FrS} {R : List FrE} (h : Mt s R) (i : Int) : (if takenF s i then (0 : Int) else 6) = giveE R i := by
  unfold giveE
  rw [h.taken]
theorem takeE_eq {s : FrS} {R : List FrE} (h : Mt s R) : (((firstF s).getD 0 : Nat) : Int) = (tkK R : Int) ∧ (if (firstF s).isSome then (0 : Int) else 20) = tkE R := by
  unfold tkK tkE
  rw [h.first]
  exact ⟨rfl, rfl⟩

def aw0 : FrS := newF 4
def aw1 : FrS := takeF aw0
def aw2 : FrS := takeF aw1
def aw3 : FrS := freeF aw2 0
set_option maxRecDepth 100000 in
theorem aw_facts : firstF aw1 = some 1 ∧ takenF aw2 0 = true ∧ firstF aw3 = some 0 := ⟨by decide +kernel, by decide +kernel, by decide +kernel⟩
set_option maxRecDepth 100000 in
set_option maxHeartbeats 4000000 in
theorem awake_any (w : World) : Calls Try.prog 4 #[] w fun e w' => e = .returned (.bool true) ∧ Below w.heap.size w w' := by
  have h0 : Hid (∀ W, Calls Try.prog 5 #[.int .i64 4] W (RetNF 4 W)) := fun W => new_yes 4 W (by omega) (by omega)
  have h1 : Hid (∀ g W, Fm W g aw0 → Calls Try.prog 13 #[.pointer (some ⟨g, 0, none⟩)] W (RetTkF aw0 g W)) := fun g W h => take_any aw0 g W h
  have h2 : Hid (∀ g W, Fm W g aw1 → Calls Try.prog 13 #[.pointer (some ⟨g, 0, none⟩)] W fun e w' => e = .returned (.tuple #[.int .i64 1, .int .i64 0]) ∧ Fm w' g aw2 ∧ W.grownBy w' (some g)) := fun g W h => by
    have := take_any aw1 g W h
    unfold RetTkF at this
    rw [aw_facts.1] at this
    exact this
  have h3 : Hid (∀ g W, Fm W g aw2 → Calls Try.prog 7 #[.pointer (some ⟨g, 0, none⟩), .int .i64 0] W (RetF aw3 g (.int .i64 0) W)) := fun g W h => by
    have := free_any aw2 g 0 W h
    rw [aw_facts.2.1] at this
    exact this
  have h4 : Hid (∀ g W, Fm W g aw3 → Calls Try.prog 13 #[.pointer (some ⟨g, 0, none⟩)] W fun e w' => e = .returned (.tuple #[.int .i64 0, .int .i64 0]) ∧ Fm w' g (takeF aw3) ∧ W.grownBy w' (some g)) := fun g W h => by
    have := take_any aw3 g W h
    unfold RetTkF at this
    rw [aw_facts.2.2] at this
    exact this
  go_enter Try.func4, Try.ntmps4
  go_wp2_with fail
  refine (h0.out _).mono ?_
  rintro e w1 ⟨rfl, f1, b1⟩
  go_wp2_with fail
  refine (h1.out _ _ f1).mono ?_
  rintro e w2 ⟨rfl, f2, b2⟩
  replace b1 := below_only b1 b2 (Nat.le_refl _)
  go_wp2_with fail
  refine (h2.out _ _ f2).mono ?_
  rintro e w3 ⟨rfl, f3, b3⟩
  replace b1 := below_only b1 b3 (Nat.le_refl _)
  go_wp2_with fail
  refine (h3.out _ _ f3).mono ?_
  rintro e w4 ⟨rfl, f4, b4⟩
  replace b1 := below_only b1 b4 (Nat.le_refl _)
  go_wp2_with fail
  refine (h4.out _ _ f4).mono ?_
  rintro e w5 ⟨rfl, f5, b5⟩
  replace b1 := below_only b1 b5 (Nat.le_refl _)
  go_wp2_with fail
  go_ret
  exact ⟨rfl, b1⟩
end Go.Proofs.Ytjmonplgabhceaa
