/- Walks: boxes of letters in channels. -/
import Derived.Test.YtldpplfkimdaaaaSel
import Derived.Test.YtldpplfkimdaaaaAft
namespace Go.Proofs.Ytldpplfkimdaaaa
open Go.RowKit Go.Conc

structure Lt where
  from_ : Int
  word : Int
def ltV (l : Lt) : Value := .agg #[.int .i64 l.from_, .int .u64 l.word]
structure BoxS where
  l : List Lt
  room : Nat
  shut : Bool
def bufA (l : List Lt) : Array Value := (l.map ltV).toArray
theorem bufA_size (l : List Lt) : (bufA l).size = l.length := by simp [bufA]
theorem bufA_push (l : List Lt) (x : Lt) : (bufA l).push (ltV x) = bufA (l ++ [x]) := by simp [bufA]
theorem bufA_tail (x : Lt) (l : List Lt) : (bufA (x :: l)).extract 1 (bufA (x :: l)).size = bufA l := by
  unfold bufA
  simp [List.take_of_length_le]
theorem bufA_head (x : Lt) (l : List Lt) : (bufA (x :: l)).getD 0 undef = ltV x := by simp [bufA]

def Chn (w : World) (g : Nat) (b : BoxS) : Prop := ∃ s r, w.heap[g]? = some (.chan b.room (bufA b.l) b.shut s r false)
/-- a box at a pointer to block g + 1, its channel in block g -/
def Bx (w : World) (g : Nat) (b : BoxS) : Prop := Chn w g b ∧ Blk w (g + 1) 70 #[.chan (some g), .int .i64 b.room, .bool b.shut]

/-- only the two blocks of a box, and what is new, have turned -/
structure Ch (a w : World) (g : Nat) : Prop where
  os : w.os = a.os
  tape : w.tape = a.tape
  output : w.output = a.output
  size : a.heap.size ≤ w.heap.size
  block : ∀ i, i < a.heap.size → i ≠ g → i ≠ g + 1 → w.heap[i]? = a.heap[i]?
theorem Ch.refl (w : World) (g : Nat) : Ch w w g := ⟨rfl, rfl, rfl, Nat.le_refl _, fun _ _ _ _ => rfl⟩
theorem Ch.trans {a w w' : World} {g : Nat} (h : Ch a w g) (k : Ch w w' g) : Ch a w' g :=
  ⟨k.os.trans h.os, k.tape.trans h.tape, k.output.trans h.output, Nat.le_trans h.size k.size, fun i hi h1 h2 => (k.block i (Nat.lt_of_lt_of_le hi h.size) h1 h2).trans (h.block i hi h1 h2)⟩
theorem Ch.of_below {a w : World} {g : Nat} (h : Below a.heap.size a w) : Ch a w g := ⟨h.os, h.tape, h.output, h.size, fun i hi _ _ => h.block i hi⟩
theorem Ch.setChan {a w : World} {g : Nat} (h : Ch a w g) (cap : Nat) (buf : Array Value) (cl : Bool) (s r : Nat) (tm : Bool) : Ch a (w.setChan g cap buf cl s r tm) g :=
  h.trans ⟨rfl, rfl, rfl, by simp [World.setChan], fun i _ h1 _ => by simp only [World.setChan]; rw [Array.getElem?_setIfInBounds_ne (Ne.symm h1)]⟩
theorem Ch.setCell {a w : World} {g : Nat} (h : Ch a w g) (o : Nat) (v : Value) : Ch a (w.setCell ⟨g + 1, o, none⟩ v) g :=
  h.trans ⟨rfl, rfl, rfl, by simp [World.setCell], fun i _ _ h2 => Below.heap_setCell w ⟨g + 1, o, none⟩ v i h2⟩
theorem Ch.alloc {a w : World} {g : Nat} (h : Ch a w g) (o : Obj) : Ch a (w.alloc o) g := h.trans (Ch.of_below (below1 w o))
theorem below_ch {W a w : World} {g : Nat} (h : Below W.heap.size W a) (hg : W.heap.size ≤ g) (k : Ch a w g) : Below W.heap.size W w :=
  ⟨k.os.trans h.os, k.tape.trans h.tape, k.output.trans h.output, Nat.le_trans h.size k.size, fun i hi => (k.block i (Nat.lt_of_lt_of_le hi h.size) (by omega) (by omega)).trans (h.block i hi)⟩
theorem Chn.lt {w : World} {g : Nat} {b : BoxS} (h : Chn w g b) : g < w.heap.size := by
  obtain ⟨s, r, h⟩ := h
  rcases Nat.lt_or_ge g w.heap.size with hlt | hge
  · exact hlt
  · rw [Array.getElem?_eq_none hge] at h; cases h
theorem Bx.keep {w w' : World} {g : Nat} {b : BoxS} (h : Bx w g b) (hb : Below w.heap.size w w') : Bx w' g b := by
  refine ⟨?_, h.2.keep hb⟩
  have hl := h.1.lt
  obtain ⟨⟨s, r, h1⟩, _⟩ := h
  exact ⟨s, r, (hb.block g hl).trans h1⟩
theorem Bx.alloc {w : World} {g : Nat} {b : BoxS} (h : Bx w g b) (o : Obj) : Bx (w.alloc o) g b := h.keep (below1 _ _)
theorem Bx.far {w w' : World} {g g' : Nat} {b : BoxS} (h : Bx w g' b) (hc : Ch w w' g) (h1 : g' ≠ g) (h2 : g' ≠ g + 1) (h3 : g' + 1 ≠ g) : Bx w' g' b := by
  have hl := h.1.lt
  have hl2 := h.2.lt
  obtain ⟨⟨s, r, hx⟩, hy⟩ := h
  exact ⟨⟨s, r, (hc.block g' hl h1 h2).trans hx⟩, (hc.block (g' + 1) hl2 h3 (by omega)).trans hy⟩

theorem neq_chan (g : Nat) (w : World) : (binOp .neq 68 (.chan (some g)) (.chan none)).run Try.prog w = .ok (.bool true) w := by kernel_rfl
theorem neq_chan0 (w : World) : (binOp .neq 68 (.chan none) (.chan none)).run Try.prog w = .ok (.bool false) w := by kernel_rfl
set_option maxHeartbeats 1000000 in
theorem made_yes (b : BoxS) (g : Nat) (w : World) (hb : Bx w g b) : Calls Try.prog 28 #[.pointer (some ⟨g + 1, 0, none⟩)] w fun e w' => e = .returned (.bool true) ∧ w = w' := by
  have c0 := hb.2.cell 0 (.chan (some g)) rfl
  have hq := neq_chan g
  go_enter Try.func28, Try.ntmps28
  go_wp2
  go_ret
  exact ⟨rfl, rfl⟩

theorem info_lt : ∃ i, Try.prog.info? 32 = some i ∧ i.bytes = 16 := by
  have h : (Try.prog.info? 32).map (·.bytes) = some 16 := by kernel_rfl
  obtain ⟨i, hi, hb⟩ := Option.map_eq_some_iff.1 h
  exact ⟨i, hi, hb⟩
theorem mk_chan (n : Nat) (h : n ≤ 64) (w : World) : (Instr.makeChan 68 (.int .i64 n)).run Try.prog w = .ok (.chan (some w.heap.size)) (w.alloc (.chan n #[] false 0 0 false)) := by
  obtain ⟨i, hi, hb⟩ := info_lt
  exact run_makeChan (P := Try.prog) (w := w) Try.underlying68 hi .i64 n (by omega) (by rw [hb]; omega)
set_option maxHeartbeats 1000000 in
theorem new_yes (n : Nat) (w : World) (h1 : 1 ≤ n) (h2 : n ≤ 64) :
    Calls Try.prog 8 #[.int .i64 n] w fun e w' => e = .returned (.tuple #[.pointer (some ⟨w.heap.size + 1, 0, none⟩), .int .i64 0]) ∧ Bx w' w.heap.size ⟨[], n, false⟩ ∧ Below w.heap.size w w' := by
  have hmk := mk_chan n h2
  go_enter Try.func8, Try.ntmps8
  go_wp2
  go_ret2
  refine ⟨rfl, ⟨⟨0, 0, ?_⟩, Blk.new' _ _ _ (by simp)⟩, (below1 _ _).alloc (by simp) _⟩
  rw [Below.heap_alloc _ _ _ (by simp)]
  exact heap_alloc_new w _
theorem new_no (n : Int) (w : World) (h : n < 1 ∨ 64 < n) : Calls Try.prog 8 #[.int .i64 n] w fun e w' => e = .returned (.tuple #[.pointer none, .int .i64 1]) ∧ w = w' := by
  rcases h with h | h
  · go_enter Try.func8, Try.ntmps8
    go_wp2
    go_ret2
    exact ⟨rfl, rfl⟩
  · have h' : ¬ n < 1 := by omega
    go_enter Try.func8, Try.ntmps8
    go_wp2
    go_ret2
    exact ⟨rfl, rfl⟩
end Go.Proofs.Ytldpplfkimdaaaa
