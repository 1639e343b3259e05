/- Texts laid as one: K4, K4b, K4c, K4d, K4e. -/
import Derived.Test.YtpimflmmfnffeaaZ11
import Derived.StillTailTactics
/- Walks: what each instruction does, in any machine. -/
namespace Go.Proofs.Ytpimflmmfnffeaa
open Go.RowKit Go.Lib
open Tlb (Tb)
open Fr (FrS Fm)

/-- a store into a block of F -/
theorem Mo.out {F : Nat → Prop} {w : World} {gt gf gc : Nat} {T : Int → Tt} {st : St} (q : Mo F w gt gf gc T st) {p : Addr} (hp : F p.block) (v : Value) : Mo F (w.setCell p v) gt gf gc T st := by
  obtain ⟨A, c, L, h, m, q⟩ := q
  obtain ⟨_, o1, o2, o3, o4⟩ := q.off _ hp
  have hg : w.grownBy (w.setCell p v) (some p.block) := ⟨rfl, rfl, rfl, by simp [World.setCell], fun k _ hne => Below.heap_setCell w p v k (fun e => hne (by rw [e]))⟩
  exact ⟨A, c, L, h, m, q.tb.only hg (Ne.symm o1) o4, ⟨q.fm.n0, q.fm.t, q.fm.b, q.fm.at_.grown hg (by simpa using Ne.symm o2)⟩, q.cp.grown hg (by simpa using Ne.symm o3), q.rg, q.uni, q.len, q.tt, q.tf, q.tc, q.fc, q.af, q.ac, fun i hi => ⟨Nat.lt_of_lt_of_le (q.off i hi).1 hg.size, (q.off i hi).2⟩⟩
theorem Kp.new_ {F : Nat → Prop} {a w : World} (h : Kp F a w) (hF : ∀ i, F i → i < a.heap.size) {p : Addr} (hp : a.heap.size ≤ p.block) (v : Value) : Kp F a (w.setCell p v) :=
  ⟨h.os, h.tape, h.output, by simpa [World.setCell] using h.size, fun i hi => (Below.heap_setCell w p v i (by have := hF i hi; omega)).trans (h.block i hi)⟩
def RetO (F : Nat → Prop) (gt gf gc : Nat) (T : Int → Tt) (st : St) (r : Except (Int × Int) (St × Tp)) (w : World) (e : Ending) (w' : World) : Prop := match r with
  | .error z => e = endE st.pc (.error z) ∧ Mo F w' gt gf gc T st ∧ Kp F w w'
  | .ok y => e = .returned (.tuple #[.int .i64 y.1.pc, .agg #[.int .i64 y.2.k, .int .i64 y.2.p, .int .u64 y.2.x]]) ∧ Mo F w' gt gf gc T ⟨y.1.R, st.pc, y.1.s⟩ ∧ Kp F w w'
theorem wrap_rng (x : Int) : 0 ≤ IntKind.u64.wrap x ∧ IntKind.u64.wrap x < 18446744073709551616 := by rw [IntKind.wrap_u64]; omega
theorem rk_rng (op : Nat) {b c : Int} (hb : 0 ≤ b ∧ b < 18446744073709551616) (hc : 0 ≤ c ∧ c < 18446744073709551616) : 0 ≤ rk op b c ∧ rk op b c < 18446744073709551616 := by
  have hd : ∀ d : Int, 0 < d → 0 ≤ b / d ∧ b / d < 18446744073709551616 := fun d hd => ⟨Int.ediv_nonneg hb.1 (by omega), Int.lt_of_le_of_lt (Int.ediv_le_self _ hb.1) hb.2⟩
  unfold rk
  split
  · exact wrap_rng _
  · split
    · exact wrap_rng _
    · split
      · exact wrap_rng _
      · split
        · rcases Int.lt_or_eq_of_le hc.1 with h | h
          · exact hd c h
          · rw [← h]; simp
        · split
          · exact wrap_rng _
          · split
            · exact wrap_rng _
            · split
              · exact wrap_rng _
              · split
                · exact wrap_rng _
                · split
                  · exact hd _ (Int.pow_pos (by decide))
                  · split <;> simp
theorem reckon_z (f : Nat) (b : Int) (gc : Nat) (p : Int) (w : World) (cf : w.cell? ⟨f, 0, none⟩ = some (.pointer (some ⟨gc, 0, none⟩))) (ca : w.cell? ⟨gc, 8, none⟩ = some (.int .i64 p)) : Calls Try.prog 29 #[.pointer (some ⟨f, 0, none⟩), .int .i64 5, .int .u64 b, .int .u64 0] w fun e w' => e = endE p (.error (4, 0)) ∧ w = w' := by
  go_enter Try.func29, Try.ntmps29
  go_wp2_with fail
  refine (give_mo f 4 0 p gc w cf ca).mono ?_
  rintro e w3 ⟨rfl, rfl⟩
  simp only [endE]
  go_wp2_with fail
  simp only [bodyPost, endE]
  refine ⟨trivial, ?_⟩
  first | exact ⟨trivial, rfl⟩ | exact ⟨rfl, rfl⟩ | simp
/-- three stores of a trap -/
def put3 (w : World) (b : Nat) (k p x : Int) : World := ((w.setCell ⟨b, 0, none⟩ (.int .i64 k)).setCell ⟨b, 1, none⟩ (.int .i64 p)).setCell ⟨b, 2, none⟩ (.int .u64 x)
theorem Mo.out3 {F : Nat → Prop} {w : World} {gt gf gc : Nat} {T : Int → Tt} {st : St} (q : Mo F w gt gf gc T st) {b : Nat} (hp : F b) (k p x : Int) : Mo F (put3 w b k p x) gt gf gc T st := ((q.out (p := ⟨b, 0, none⟩) hp _).out (p := ⟨b, 1, none⟩) hp _).out (p := ⟨b, 2, none⟩) hp _
theorem Kp.new3 {F : Nat → Prop} {a w : World} (h : Kp F a w) (hF : ∀ i, F i → i < a.heap.size) {b : Nat} (hp : a.heap.size ≤ b) (k p x : Int) : Kp F a (put3 w b k p x) := ((h.new_ hF (p := ⟨b, 0, none⟩) hp _).new_ hF (p := ⟨b, 1, none⟩) hp _).new_ hF (p := ⟨b, 2, none⟩) hp _

set_option maxRecDepth 100000 in
set_option maxHeartbeats 4000000 in
theorem im_halt (F : Nat → Prop) (f gt gf gc : Nat) (C : Option Addr) (cl cc : Nat) (env : Int) (T : Int → Tt) (st : St) (a b c k : Nat) (w : World) (q : Mo F w gt gf gc T st) (hl : Fg w f gt gf gc C cl cc env) (hf : F f) (ha : a ≤ 7) (hb : b ≤ 7) (hc : c ≤ 7) (hk : k ≤ 17592186044415) (p0 : 0 ≤ st.pc) (p1 : st.pc < 9223372036854775807) :
    Calls Try.prog 19 #[.pointer (some ⟨f, 0, none⟩), .agg #[.int .i64 0, .int .i64 a, .int .i64 b, .int .i64 c, .int .u64 k]] w (RetO F gt gf gc T st (doM (T env) ⟨0, a, b, c, k⟩ st) w) := by
  obtain ⟨F2, hF2⟩ : ∃ F2 : Nat → Prop, F2 = fun i => (F i ∨ i = w.heap.size) ∨ i = (w.alloc (Obj.cells #[.int .i64 0, .int .i64 a, .int .i64 b, .int .i64 c, .int .u64 k] 59)).heap.size := ⟨_, rfl⟩
  have q2 := (q.box (Obj.cells #[.int .i64 0, .int .i64 a, .int .i64 b, .int .i64 c, .int .u64 k] 59)).box (Obj.cells #[.int .i64 0, .int .i64 0, .int .u64 0] 41)
  rw [← hF2] at q2
  have HS : Hid ((∀ i, F i → F2 i) ∧ F2 w.heap.size ∧ F2 (w.heap.size + 1) ∧ ∀ i, F i → i < w.heap.size) := ⟨fun i hi => by rw [hF2]; exact .inl (.inl hi), by rw [hF2]; exact .inl (.inr rfl), by rw [hF2]; exact .inr (by simp), q.lt⟩
  have hB := (below1 w (Obj.cells #[.int .i64 0, .int .i64 a, .int .i64 b, .int .i64 c, .int .u64 k] 59)).alloc (by simp) (Obj.cells #[.int .i64 0, .int .i64 0, .int .u64 0] 41)
  have HB := Lib.hid (Kp.of_below hB q.lt)
  have bi := (Blk.new w 59 #[.int .i64 0, .int .i64 a, .int .i64 b, .int .i64 c, .int .u64 k]).alloc (Obj.cells #[.int .i64 0, .int .i64 0, .int .u64 0] 41)
  have bt := Blk.new' (w.alloc (Obj.cells #[.int .i64 0, .int .i64 a, .int .i64 b, .int .i64 c, .int .u64 k] 59)) 41 #[.int .i64 0, .int .i64 0, .int .u64 0] (g := w.heap.size + 1) (by simp)
  have HL := Lib.hid (hl.keep hB)
  have HF := Lib.hid (show F2 f from by rw [hF2]; exact .inl (.inl hf))
  have hgc : gc < w.heap.size := q.cpu.lt
  have hfl : f < w.heap.size := q.lt f hf
  have q8 := q.c8
  clear hF2 q hf
  simp only [doM, Nat.reduceEqDiff, if_true, if_false, false_and, true_and]
  have cf0 := hl.c0
  clear hl
  go_enter Try.func19, Try.ntmps19
  go_wp2_with fail
  generalize (w.alloc (Obj.cells #[.int .i64 0, .int .i64 a, .int .i64 b, .int .i64 c, .int .u64 k] 59)).alloc (Obj.cells #[.int .i64 0, .int .i64 0, .int .u64 0] 41) = w1 at *
  clear cf0 hB q8
  have cf0 := HL.out.c0
  have q8 := q2.c8
  have qa := q2.reg ha
  have qb := q2.reg hb
  have qc := q2.reg hc
  have i0 := bi.cell 0 (.int .i64 0) rfl
  have i1 := bi.cell 1 (.int .i64 a) rfl
  have i2 := bi.cell 2 (.int .i64 b) rfl
  have i3 := bi.cell 3 (.int .i64 c) rfl
  have i4 := bi.cell 4 (.int .u64 k) rfl
  have g0 := q2.frozen a
  have a0 : (0 : Int) ≤ (a : Int) := by omega
  have a1 : (a : Int) < 8 := by omega
  have b0 : (0 : Int) ≤ (b : Int) := by omega
  have b1 : (b : Int) < 8 := by omega
  have c0 : (0 : Int) ≤ (c : Int) := by omega
  have c1 : (c : Int) < 8 := by omega
  have ra := rng_rat q2.rng a
  have rb := rng_rat q2.rng b
  have rc := rng_rat q2.rng c
  go_quiet (fail)
  have k0 := bt.cell 0 (.int .i64 0) rfl
  have k1 := bt.cell 1 (.int .i64 0) rfl
  have k2 := bt.cell 2 (.int .u64 0) rfl
  have l0 := bt.frozen 0
  have l1 := bt.frozen 1
  have l2 := bt.frozen 2
  go_wp2_with fail
  refine (give_mo f 2 0 st.pc gc _ (by exact cf0) (by exact q8)).mono ?_
  rintro e w3 ⟨rfl, rfl⟩
  simp only [bodyPost, endE]
  exact ⟨trivial, rfl, (q2.drewN nq).less HS.out.1, HB.out.drewN nq⟩

set_option maxRecDepth 100000 in
set_option maxHeartbeats 4000000 in
theorem im_set (F : Nat → Prop) (f gt gf gc : Nat) (C : Option Addr) (cl cc : Nat) (env : Int) (T : Int → Tt) (st : St) (a b c k : Nat) (w : World) (q : Mo F w gt gf gc T st) (hl : Fg w f gt gf gc C cl cc env) (hf : F f) (ha : a ≤ 7) (hb : b ≤ 7) (hc : c ≤ 7) (hk : k ≤ 17592186044415) (p0 : 0 ≤ st.pc) (p1 : st.pc < 9223372036854775807) :
    Calls Try.prog 19 #[.pointer (some ⟨f, 0, none⟩), .agg #[.int .i64 1, .int .i64 a, .int .i64 b, .int .i64 c, .int .u64 k]] w (RetO F gt gf gc T st (doM (T env) ⟨1, a, b, c, k⟩ st) w) := by
  obtain ⟨F2, hF2⟩ : ∃ F2 : Nat → Prop, F2 = fun i => (F i ∨ i = w.heap.size) ∨ i = (w.alloc (Obj.cells #[.int .i64 1, .int .i64 a, .int .i64 b, .int .i64 c, .int .u64 k] 59)).heap.size := ⟨_, rfl⟩
  have q2 := (q.box (Obj.cells #[.int .i64 1, .int .i64 a, .int .i64 b, .int .i64 c, .int .u64 k] 59)).box (Obj.cells #[.int .i64 0, .int .i64 0, .int .u64 0] 41)
  rw [← hF2] at q2
  have HS : Hid ((∀ i, F i → F2 i) ∧ F2 w.heap.size ∧ F2 (w.heap.size + 1) ∧ ∀ i, F i → i < w.heap.size) := ⟨fun i hi => by rw [hF2]; exact .inl (.inl hi), by rw [hF2]; exact .inl (.inr rfl), by rw [hF2]; exact .inr (by simp), q.lt⟩
  have hB := (below1 w (Obj.cells #[.int .i64 1, .int .i64 a, .int .i64 b, .int .i64 c, .int .u64 k] 59)).alloc (by simp) (Obj.cells #[.int .i64 0, .int .i64 0, .int .u64 0] 41)
  have HB := Lib.hid (Kp.of_below hB q.lt)
  have bi := (Blk.new w 59 #[.int .i64 1, .int .i64 a, .int .i64 b, .int .i64 c, .int .u64 k]).alloc (Obj.cells #[.int .i64 0, .int .i64 0, .int .u64 0] 41)
  have bt := Blk.new' (w.alloc (Obj.cells #[.int .i64 1, .int .i64 a, .int .i64 b, .int .i64 c, .int .u64 k] 59)) 41 #[.int .i64 0, .int .i64 0, .int .u64 0] (g := w.heap.size + 1) (by simp)
  have HL := Lib.hid (hl.keep hB)
  have HF := Lib.hid (show F2 f from by rw [hF2]; exact .inl (.inl hf))
  have hgc : gc < w.heap.size := q.cpu.lt
  have hfl : f < w.heap.size := q.lt f hf
  have q8 := q.c8
  clear hF2 q hf
  simp only [doM, Nat.reduceEqDiff, if_true, if_false, false_and, true_and]
  have cf0 := hl.c0
  clear hl
  go_enter Try.func19, Try.ntmps19
  go_wp2_with fail
  generalize (w.alloc (Obj.cells #[.int .i64 1, .int .i64 a, .int .i64 b, .int .i64 c, .int .u64 k] 59)).alloc (Obj.cells #[.int .i64 0, .int .i64 0, .int .u64 0] 41) = w1 at *
  clear cf0 hB q8
  have cf0 := HL.out.c0
  have q8 := q2.c8
  have qa := q2.reg ha
  have qb := q2.reg hb
  have qc := q2.reg hc
  have i0 := bi.cell 0 (.int .i64 1) rfl
  have i1 := bi.cell 1 (.int .i64 a) rfl
  have i2 := bi.cell 2 (.int .i64 b) rfl
  have i3 := bi.cell 3 (.int .i64 c) rfl
  have i4 := bi.cell 4 (.int .u64 k) rfl
  have g0 := q2.frozen a
  have a0 : (0 : Int) ≤ (a : Int) := by omega
  have a1 : (a : Int) < 8 := by omega
  have b0 : (0 : Int) ≤ (b : Int) := by omega
  have b1 : (b : Int) < 8 := by omega
  have c0 : (0 : Int) ≤ (c : Int) := by omega
  have c1 : (c : Int) < 8 := by omega
  have ra := rng_rat q2.rng a
  have rb := rng_rat q2.rng b
  have rc := rng_rat q2.rng c
  go_quiet (fail)
  have k0 := bt.cell 0 (.int .i64 0) rfl
  have k1 := bt.cell 1 (.int .i64 0) rfl
  have k2 := bt.cell 2 (.int .u64 0) rfl
  have l0 := bt.frozen 0
  have l1 := bt.frozen 1
  have l2 := bt.frozen 2
  go_wp2_with fail
  have HM := Lib.hid (Mo.setR (q2.drewN nq) ha (v := (k : Int)) (by omega) (by omega))
  change bodyPost _ _ _ _ _ (put3 ((w1.drewN nq).setCell ⟨gc, a, none⟩ (.int .u64 k)) (w.heap.size + 1) 0 0 0)
  exact bodyPost_ret (v := .tuple #[.int .i64 (st.pc + 1), .agg #[.int .i64 (0), .int .i64 (0), .int .u64 (0)]]) (by simp [results, Try.results19, go_sem, put3, *]) rfl ⟨rfl, (HM.out.1.out3 HS.out.2.2.1 _ _ _).less HS.out.1, ((HB.out.drewN nq).trans (HM.out.2.mono HS.out.1)).new3 HS.out.2.2.2 (by omega) _ _ _⟩

set_option maxRecDepth 100000 in
set_option maxHeartbeats 4000000 in
theorem im_jump (F : Nat → Prop) (f gt gf gc : Nat) (C : Option Addr) (cl cc : Nat) (env : Int) (T : Int → Tt) (st : St) (a b c k : Nat) (w : World) (q : Mo F w gt gf gc T st) (hl : Fg w f gt gf gc C cl cc env) (hf : F f) (ha : a ≤ 7) (hb : b ≤ 7) (hc : c ≤ 7) (hk : k ≤ 17592186044415) (p0 : 0 ≤ st.pc) (p1 : st.pc < 9223372036854775807) :
    Calls Try.prog 19 #[.pointer (some ⟨f, 0, none⟩), .agg #[.int .i64 14, .int .i64 a, .int .i64 b, .int .i64 c, .int .u64 k]] w (RetO F gt gf gc T st (doM (T env) ⟨14, a, b, c, k⟩ st) w) := by
  obtain ⟨F2, hF2⟩ : ∃ F2 : Nat → Prop, F2 = fun i => (F i ∨ i = w.heap.size) ∨ i = (w.alloc (Obj.cells #[.int .i64 14, .int .i64 a, .int .i64 b, .int .i64 c, .int .u64 k] 59)).heap.size := ⟨_, rfl⟩
  have q2 := (q.box (Obj.cells #[.int .i64 14, .int .i64 a, .int .i64 b, .int .i64 c, .int .u64 k] 59)).box (Obj.cells #[.int .i64 0, .int .i64 0, .int .u64 0] 41)
  rw [← hF2] at q2
  have HS : Hid ((∀ i, F i → F2 i) ∧ F2 w.heap.size ∧ F2 (w.heap.size + 1) ∧ ∀ i, F i → i < w.heap.size) := ⟨fun i hi => by rw [hF2]; exact .inl (.inl hi), by rw [hF2]; exact .inl (.inr rfl), by rw [hF2]; exact .inr (by simp), q.lt⟩
  have hB := (below1 w (Obj.cells #[.int .i64 14, .int .i64 a, .int .i64 b, .int .i64 c, .int .u64 k] 59)).alloc (by simp) (Obj.cells #[.int .i64 0, .int .i64 0, .int .u64 0] 41)
  have HB := Lib.hid (Kp.of_below hB q.lt)
  have bi := (Blk.new w 59 #[.int .i64 14, .int .i64 a, .int .i64 b, .int .i64 c, .int .u64 k]).alloc (Obj.cells #[.int .i64 0, .int .i64 0, .int .u64 0] 41)
  have bt := Blk.new' (w.alloc (Obj.cells #[.int .i64 14, .int .i64 a, .int .i64 b, .int .i64 c, .int .u64 k] 59)) 41 #[.int .i64 0, .int .i64 0, .int .u64 0] (g := w.heap.size + 1) (by simp)
  have HL := Lib.hid (hl.keep hB)
  have HF := Lib.hid (show F2 f from by rw [hF2]; exact .inl (.inl hf))
  have hgc : gc < w.heap.size := q.cpu.lt
  have hfl : f < w.heap.size := q.lt f hf
  have q8 := q.c8
  clear hF2 q hf
  simp only [doM, Nat.reduceEqDiff, if_true, if_false, false_and, true_and]
  have cf0 := hl.c0
  clear hl
  go_enter Try.func19, Try.ntmps19
  go_wp2_with fail
  generalize (w.alloc (Obj.cells #[.int .i64 14, .int .i64 a, .int .i64 b, .int .i64 c, .int .u64 k] 59)).alloc (Obj.cells #[.int .i64 0, .int .i64 0, .int .u64 0] 41) = w1 at *
  clear cf0 hB q8
  have cf0 := HL.out.c0
  have q8 := q2.c8
  have qa := q2.reg ha
  have qb := q2.reg hb
  have qc := q2.reg hc
  have i0 := bi.cell 0 (.int .i64 14) rfl
  have i1 := bi.cell 1 (.int .i64 a) rfl
  have i2 := bi.cell 2 (.int .i64 b) rfl
  have i3 := bi.cell 3 (.int .i64 c) rfl
  have i4 := bi.cell 4 (.int .u64 k) rfl
  have g0 := q2.frozen a
  have a0 : (0 : Int) ≤ (a : Int) := by omega
  have a1 : (a : Int) < 8 := by omega
  have b0 : (0 : Int) ≤ (b : Int) := by omega
  have b1 : (b : Int) < 8 := by omega
  have c0 : (0 : Int) ≤ (c : Int) := by omega
  have c1 : (c : Int) < 8 := by omega
  have ra := rng_rat q2.rng a
  have rb := rng_rat q2.rng b
  have rc := rng_rat q2.rng c
  go_quiet (fail)
  have k0 := bt.cell 0 (.int .i64 0) rfl
  have k1 := bt.cell 1 (.int .i64 0) rfl
  have k2 := bt.cell 2 (.int .u64 0) rfl
  have l0 := bt.frozen 0
  have l1 := bt.frozen 1
  have l2 := bt.frozen 2
  go_wp2_with fail
  have HM := Lib.hid (And.intro (q2.drewN nq) (Kp.refl F2 (w1.drewN nq)))
  change bodyPost _ _ _ _ _ (put3 (w1.drewN nq) (w.heap.size + 1) 0 0 0)
  exact bodyPost_ret (v := .tuple #[.int .i64 ((k : Int)), .agg #[.int .i64 (0), .int .i64 (0), .int .u64 (0)]]) (by simp [results, Try.results19, go_sem, put3, *]) rfl ⟨rfl, (HM.out.1.out3 HS.out.2.2.1 _ _ _).less HS.out.1, ((HB.out.drewN nq).trans (HM.out.2.mono HS.out.1)).new3 HS.out.2.2.2 (by omega) _ _ _⟩
end Go.Proofs.Ytpimflmmfnffeaa

/- Walks: what each instruction does, in any machine (on). -/
namespace Go.Proofs.Ytpimflmmfnffeaa
open Go.RowKit Go.Lib
open Tlb (Tb)
open Fr (FrS Fm)

set_option maxRecDepth 100000 in
set_option maxHeartbeats 4000000 in
theorem im_branch0 (F : Nat → Prop) (f gt gf gc : Nat) (C : Option Addr) (cl cc : Nat) (env : Int) (T : Int → Tt) (st : St) (a b c k : Nat) (w : World) (q : Mo F w gt gf gc T st) (hl : Fg w f gt gf gc C cl cc env) (hf : F f) (ha : a ≤ 7) (hb : b ≤ 7) (hc : c ≤ 7) (hk : k ≤ 17592186044415) (p0 : 0 ≤ st.pc) (p1 : st.pc < 9223372036854775807) (hz : rat st.R a = 0) :
    Calls Try.prog 19 #[.pointer (some ⟨f, 0, none⟩), .agg #[.int .i64 15, .int .i64 a, .int .i64 b, .int .i64 c, .int .u64 k]] w (RetO F gt gf gc T st (doM (T env) ⟨15, a, b, c, k⟩ st) w) := by
  obtain ⟨F2, hF2⟩ : ∃ F2 : Nat → Prop, F2 = fun i => (F i ∨ i = w.heap.size) ∨ i = (w.alloc (Obj.cells #[.int .i64 15, .int .i64 a, .int .i64 b, .int .i64 c, .int .u64 k] 59)).heap.size := ⟨_, rfl⟩
  have q2 := (q.box (Obj.cells #[.int .i64 15, .int .i64 a, .int .i64 b, .int .i64 c, .int .u64 k] 59)).box (Obj.cells #[.int .i64 0, .int .i64 0, .int .u64 0] 41)
  rw [← hF2] at q2
  have HS : Hid ((∀ i, F i → F2 i) ∧ F2 w.heap.size ∧ F2 (w.heap.size + 1) ∧ ∀ i, F i → i < w.heap.size) := ⟨fun i hi => by rw [hF2]; exact .inl (.inl hi), by rw [hF2]; exact .inl (.inr rfl), by rw [hF2]; exact .inr (by simp), q.lt⟩
  have hB := (below1 w (Obj.cells #[.int .i64 15, .int .i64 a, .int .i64 b, .int .i64 c, .int .u64 k] 59)).alloc (by simp) (Obj.cells #[.int .i64 0, .int .i64 0, .int .u64 0] 41)
  have HB := Lib.hid (Kp.of_below hB q.lt)
  have bi := (Blk.new w 59 #[.int .i64 15, .int .i64 a, .int .i64 b, .int .i64 c, .int .u64 k]).alloc (Obj.cells #[.int .i64 0, .int .i64 0, .int .u64 0] 41)
  have bt := Blk.new' (w.alloc (Obj.cells #[.int .i64 15, .int .i64 a, .int .i64 b, .int .i64 c, .int .u64 k] 59)) 41 #[.int .i64 0, .int .i64 0, .int .u64 0] (g := w.heap.size + 1) (by simp)
  have HL := Lib.hid (hl.keep hB)
  have HF := Lib.hid (show F2 f from by rw [hF2]; exact .inl (.inl hf))
  have hgc : gc < w.heap.size := q.cpu.lt
  have hfl : f < w.heap.size := q.lt f hf
  have q8 := q.c8
  clear hF2 q hf
  simp only [doM, Nat.reduceEqDiff, if_true, if_false, false_and, true_and]
  rw [if_pos hz]
  replace hz := Lib.hid hz
  have cf0 := hl.c0
  clear hl
  go_enter Try.func19, Try.ntmps19
  go_wp2_with fail
  generalize (w.alloc (Obj.cells #[.int .i64 15, .int .i64 a, .int .i64 b, .int .i64 c, .int .u64 k] 59)).alloc (Obj.cells #[.int .i64 0, .int .i64 0, .int .u64 0] 41) = w1 at *
  clear cf0 hB q8
  have cf0 := HL.out.c0
  have q8 := q2.c8
  have qa := q2.reg ha
  have qb := q2.reg hb
  have qc := q2.reg hc
  have i0 := bi.cell 0 (.int .i64 15) rfl
  have i1 := bi.cell 1 (.int .i64 a) rfl
  have i2 := bi.cell 2 (.int .i64 b) rfl
  have i3 := bi.cell 3 (.int .i64 c) rfl
  have i4 := bi.cell 4 (.int .u64 k) rfl
  have g0 := q2.frozen a
  have a0 : (0 : Int) ≤ (a : Int) := by omega
  have a1 : (a : Int) < 8 := by omega
  have b0 : (0 : Int) ≤ (b : Int) := by omega
  have b1 : (b : Int) < 8 := by omega
  have c0 : (0 : Int) ≤ (c : Int) := by omega
  have c1 : (c : Int) < 8 := by omega
  have ra := rng_rat q2.rng a
  have rb := rng_rat q2.rng b
  have rc := rng_rat q2.rng c
  rw [hz.out] at qa
  go_quiet (fail)
  have k0 := bt.cell 0 (.int .i64 0) rfl
  have k1 := bt.cell 1 (.int .i64 0) rfl
  have k2 := bt.cell 2 (.int .u64 0) rfl
  have l0 := bt.frozen 0
  have l1 := bt.frozen 1
  have l2 := bt.frozen 2
  go_wp2_with fail
  have HM := Lib.hid (And.intro (q2.drewN nq) (Kp.refl F2 (w1.drewN nq)))
  change bodyPost _ _ _ _ _ (put3 (w1.drewN nq) (w.heap.size + 1) 0 0 0)
  exact bodyPost_ret (v := .tuple #[.int .i64 (st.pc + 1), .agg #[.int .i64 (0), .int .i64 (0), .int .u64 (0)]]) (by simp [results, Try.results19, go_sem, put3, *]) rfl ⟨rfl, (HM.out.1.out3 HS.out.2.2.1 _ _ _).less HS.out.1, ((HB.out.drewN nq).trans (HM.out.2.mono HS.out.1)).new3 HS.out.2.2.2 (by omega) _ _ _⟩

set_option maxRecDepth 100000 in
set_option maxHeartbeats 4000000 in
theorem im_branch1 (F : Nat → Prop) (f gt gf gc : Nat) (C : Option Addr) (cl cc : Nat) (env : Int) (T : Int → Tt) (st : St) (a b c k : Nat) (w : World) (q : Mo F w gt gf gc T st) (hl : Fg w f gt gf gc C cl cc env) (hf : F f) (ha : a ≤ 7) (hb : b ≤ 7) (hc : c ≤ 7) (hk : k ≤ 17592186044415) (p0 : 0 ≤ st.pc) (p1 : st.pc < 9223372036854775807) (hz : ¬ rat st.R a = 0) :
    Calls Try.prog 19 #[.pointer (some ⟨f, 0, none⟩), .agg #[.int .i64 15, .int .i64 a, .int .i64 b, .int .i64 c, .int .u64 k]] w (RetO F gt gf gc T st (doM (T env) ⟨15, a, b, c, k⟩ st) w) := by
  obtain ⟨F2, hF2⟩ : ∃ F2 : Nat → Prop, F2 = fun i => (F i ∨ i = w.heap.size) ∨ i = (w.alloc (Obj.cells #[.int .i64 15, .int .i64 a, .int .i64 b, .int .i64 c, .int .u64 k] 59)).heap.size := ⟨_, rfl⟩
  have q2 := (q.box (Obj.cells #[.int .i64 15, .int .i64 a, .int .i64 b, .int .i64 c, .int .u64 k] 59)).box (Obj.cells #[.int .i64 0, .int .i64 0, .int .u64 0] 41)
  rw [← hF2] at q2
  have HS : Hid ((∀ i, F i → F2 i) ∧ F2 w.heap.size ∧ F2 (w.heap.size + 1) ∧ ∀ i, F i → i < w.heap.size) := ⟨fun i hi => by rw [hF2]; exact .inl (.inl hi), by rw [hF2]; exact .inl (.inr rfl), by rw [hF2]; exact .inr (by simp), q.lt⟩
  have hB := (below1 w (Obj.cells #[.int .i64 15, .int .i64 a, .int .i64 b, .int .i64 c, .int .u64 k] 59)).alloc (by simp) (Obj.cells #[.int .i64 0, .int .i64 0, .int .u64 0] 41)
  have HB := Lib.hid (Kp.of_below hB q.lt)
  have bi := (Blk.new w 59 #[.int .i64 15, .int .i64 a, .int .i64 b, .int .i64 c, .int .u64 k]).alloc (Obj.cells #[.int .i64 0, .int .i64 0, .int .u64 0] 41)
  have bt := Blk.new' (w.alloc (Obj.cells #[.int .i64 15, .int .i64 a, .int .i64 b, .int .i64 c, .int .u64 k] 59)) 41 #[.int .i64 0, .int .i64 0, .int .u64 0] (g := w.heap.size + 1) (by simp)
  have HL := Lib.hid (hl.keep hB)
  have HF := Lib.hid (show F2 f from by rw [hF2]; exact .inl (.inl hf))
  have hgc : gc < w.heap.size := q.cpu.lt
  have hfl : f < w.heap.size := q.lt f hf
  have q8 := q.c8
  clear hF2 q hf
  simp only [doM, Nat.reduceEqDiff, if_true, if_false, false_and, true_and]
  rw [if_neg hz]
  replace hz := Lib.hid hz
  have cf0 := hl.c0
  clear hl
  go_enter Try.func19, Try.ntmps19
  go_wp2_with fail
  generalize (w.alloc (Obj.cells #[.int .i64 15, .int .i64 a, .int .i64 b, .int .i64 c, .int .u64 k] 59)).alloc (Obj.cells #[.int .i64 0, .int .i64 0, .int .u64 0] 41) = w1 at *
  clear cf0 hB q8
  have cf0 := HL.out.c0
  have q8 := q2.c8
  have qa := q2.reg ha
  have qb := q2.reg hb
  have qc := q2.reg hc
  have i0 := bi.cell 0 (.int .i64 15) rfl
  have i1 := bi.cell 1 (.int .i64 a) rfl
  have i2 := bi.cell 2 (.int .i64 b) rfl
  have i3 := bi.cell 3 (.int .i64 c) rfl
  have i4 := bi.cell 4 (.int .u64 k) rfl
  have g0 := q2.frozen a
  have a0 : (0 : Int) ≤ (a : Int) := by omega
  have a1 : (a : Int) < 8 := by omega
  have b0 : (0 : Int) ≤ (b : Int) := by omega
  have b1 : (b : Int) < 8 := by omega
  have c0 : (0 : Int) ≤ (c : Int) := by omega
  have c1 : (c : Int) < 8 := by omega
  have ra := rng_rat q2.rng a
  have rb := rng_rat q2.rng b
  have rc := rng_rat q2.rng c
  go_quiet (fail)
  have k0 := bt.cell 0 (.int .i64 0) rfl
  have k1 := bt.cell 1 (.int .i64 0) rfl
  have k2 := bt.cell 2 (.int .u64 0) rfl
  have l0 := bt.frozen 0
  have l1 := bt.frozen 1
  have l2 := bt.frozen 2
  have hz2 := hz.out
  go_wp2_with fail
  have HM := Lib.hid (And.intro (q2.drewN nq) (Kp.refl F2 (w1.drewN nq)))
  change bodyPost _ _ _ _ _ (put3 (w1.drewN nq) (w.heap.size + 1) 0 0 0)
  exact bodyPost_ret (v := .tuple #[.int .i64 ((k : Int)), .agg #[.int .i64 (0), .int .i64 (0), .int .u64 (0)]]) (by simp [results, Try.results19, go_sem, put3, *]) rfl ⟨rfl, (HM.out.1.out3 HS.out.2.2.1 _ _ _).less HS.out.1, ((HB.out.drewN nq).trans (HM.out.2.mono HS.out.1)).new3 HS.out.2.2.2 (by omega) _ _ _⟩

set_option maxRecDepth 100000 in
set_option maxHeartbeats 4000000 in
theorem im_link (F : Nat → Prop) (f gt gf gc : Nat) (C : Option Addr) (cl cc : Nat) (env : Int) (T : Int → Tt) (st : St) (a b c k : Nat) (w : World) (q : Mo F w gt gf gc T st) (hl : Fg w f gt gf gc C cl cc env) (hf : F f) (ha : a ≤ 7) (hb : b ≤ 7) (hc : c ≤ 7) (hk : k ≤ 17592186044415) (p0 : 0 ≤ st.pc) (p1 : st.pc < 9223372036854775807) :
    Calls Try.prog 19 #[.pointer (some ⟨f, 0, none⟩), .agg #[.int .i64 17, .int .i64 a, .int .i64 b, .int .i64 c, .int .u64 k]] w (RetO F gt gf gc T st (doM (T env) ⟨17, a, b, c, k⟩ st) w) := by
  obtain ⟨F2, hF2⟩ : ∃ F2 : Nat → Prop, F2 = fun i => (F i ∨ i = w.heap.size) ∨ i = (w.alloc (Obj.cells #[.int .i64 17, .int .i64 a, .int .i64 b, .int .i64 c, .int .u64 k] 59)).heap.size := ⟨_, rfl⟩
  have q2 := (q.box (Obj.cells #[.int .i64 17, .int .i64 a, .int .i64 b, .int .i64 c, .int .u64 k] 59)).box (Obj.cells #[.int .i64 0, .int .i64 0, .int .u64 0] 41)
  rw [← hF2] at q2
  have HS : Hid ((∀ i, F i → F2 i) ∧ F2 w.heap.size ∧ F2 (w.heap.size + 1) ∧ ∀ i, F i → i < w.heap.size) := ⟨fun i hi => by rw [hF2]; exact .inl (.inl hi), by rw [hF2]; exact .inl (.inr rfl), by rw [hF2]; exact .inr (by simp), q.lt⟩
  have hB := (below1 w (Obj.cells #[.int .i64 17, .int .i64 a, .int .i64 b, .int .i64 c, .int .u64 k] 59)).alloc (by simp) (Obj.cells #[.int .i64 0, .int .i64 0, .int .u64 0] 41)
  have HB := Lib.hid (Kp.of_below hB q.lt)
  have bi := (Blk.new w 59 #[.int .i64 17, .int .i64 a, .int .i64 b, .int .i64 c, .int .u64 k]).alloc (Obj.cells #[.int .i64 0, .int .i64 0, .int .u64 0] 41)
  have bt := Blk.new' (w.alloc (Obj.cells #[.int .i64 17, .int .i64 a, .int .i64 b, .int .i64 c, .int .u64 k] 59)) 41 #[.int .i64 0, .int .i64 0, .int .u64 0] (g := w.heap.size + 1) (by simp)
  have HL := Lib.hid (hl.keep hB)
  have HF := Lib.hid (show F2 f from by rw [hF2]; exact .inl (.inl hf))
  have hgc : gc < w.heap.size := q.cpu.lt
  have hfl : f < w.heap.size := q.lt f hf
  have q8 := q.c8
  clear hF2 q hf
  simp only [doM, Nat.reduceEqDiff, if_true, if_false, false_and, true_and]
  have cf0 := hl.c0
  clear hl
  go_enter Try.func19, Try.ntmps19
  go_wp2_with fail
  generalize (w.alloc (Obj.cells #[.int .i64 17, .int .i64 a, .int .i64 b, .int .i64 c, .int .u64 k] 59)).alloc (Obj.cells #[.int .i64 0, .int .i64 0, .int .u64 0] 41) = w1 at *
  clear cf0 hB q8
  have cf0 := HL.out.c0
  have q8 := q2.c8
  have qa := q2.reg ha
  have qb := q2.reg hb
  have qc := q2.reg hc
  have i0 := bi.cell 0 (.int .i64 17) rfl
  have i1 := bi.cell 1 (.int .i64 a) rfl
  have i2 := bi.cell 2 (.int .i64 b) rfl
  have i3 := bi.cell 3 (.int .i64 c) rfl
  have i4 := bi.cell 4 (.int .u64 k) rfl
  have g0 := q2.frozen a
  have a0 : (0 : Int) ≤ (a : Int) := by omega
  have a1 : (a : Int) < 8 := by omega
  have b0 : (0 : Int) ≤ (b : Int) := by omega
  have b1 : (b : Int) < 8 := by omega
  have c0 : (0 : Int) ≤ (c : Int) := by omega
  have c1 : (c : Int) < 8 := by omega
  have ra := rng_rat q2.rng a
  have rb := rng_rat q2.rng b
  have rc := rng_rat q2.rng c
  go_quiet (fail)
  have k0 := bt.cell 0 (.int .i64 0) rfl
  have k1 := bt.cell 1 (.int .i64 0) rfl
  have k2 := bt.cell 2 (.int .u64 0) rfl
  have l0 := bt.frozen 0
  have l1 := bt.frozen 1
  have l2 := bt.frozen 2
  go_wp2_with fail
  have HM := Lib.hid (Mo.setR (q2.drewN nq) ha (v := st.pc + 1) (by omega) (by omega))
  change bodyPost _ _ _ _ _ (put3 ((w1.drewN nq).setCell ⟨gc, a, none⟩ (.int .u64 (st.pc + 1))) (w.heap.size + 1) 0 0 0)
  exact bodyPost_ret (v := .tuple #[.int .i64 ((k : Int)), .agg #[.int .i64 (0), .int .i64 (0), .int .u64 (0)]]) (by simp [results, Try.results19, go_sem, put3, *]) rfl ⟨rfl, (HM.out.1.out3 HS.out.2.2.1 _ _ _).less HS.out.1, ((HB.out.drewN nq).trans (HM.out.2.mono HS.out.1)).new3 HS.out.2.2.2 (by omega) _ _ _⟩

set_option maxRecDepth 100000 in
set_option maxHeartbeats 4000000 in
theorem im_back0 (F : Nat → Prop) (f gt gf gc : Nat) (C : Option Addr) (cl cc : Nat) (env : Int) (T : Int → Tt) (st : St) (a b c k : Nat) (w : World) (q : Mo F w gt gf gc T st) (hl : Fg w f gt gf gc C cl cc env) (hf : F f) (ha : a ≤ 7) (hb : b ≤ 7) (hc : c ≤ 7) (hk : k ≤ 17592186044415) (p0 : 0 ≤ st.pc) (p1 : st.pc < 9223372036854775807) (hz : 17592186044415 < rat st.R a) :
    Calls Try.prog 19 #[.pointer (some ⟨f, 0, none⟩), .agg #[.int .i64 18, .int .i64 a, .int .i64 b, .int .i64 c, .int .u64 k]] w (RetO F gt gf gc T st (doM (T env) ⟨18, a, b, c, k⟩ st) w) := by
  obtain ⟨F2, hF2⟩ : ∃ F2 : Nat → Prop, F2 = fun i => (F i ∨ i = w.heap.size) ∨ i = (w.alloc (Obj.cells #[.int .i64 18, .int .i64 a, .int .i64 b, .int .i64 c, .int .u64 k] 59)).heap.size := ⟨_, rfl⟩
  have q2 := (q.box (Obj.cells #[.int .i64 18, .int .i64 a, .int .i64 b, .int .i64 c, .int .u64 k] 59)).box (Obj.cells #[.int .i64 0, .int .i64 0, .int .u64 0] 41)
  rw [← hF2] at q2
  have HS : Hid ((∀ i, F i → F2 i) ∧ F2 w.heap.size ∧ F2 (w.heap.size + 1) ∧ ∀ i, F i → i < w.heap.size) := ⟨fun i hi => by rw [hF2]; exact .inl (.inl hi), by rw [hF2]; exact .inl (.inr rfl), by rw [hF2]; exact .inr (by simp), q.lt⟩
  have hB := (below1 w (Obj.cells #[.int .i64 18, .int .i64 a, .int .i64 b, .int .i64 c, .int .u64 k] 59)).alloc (by simp) (Obj.cells #[.int .i64 0, .int .i64 0, .int .u64 0] 41)
  have HB := Lib.hid (Kp.of_below hB q.lt)
  have bi := (Blk.new w 59 #[.int .i64 18, .int .i64 a, .int .i64 b, .int .i64 c, .int .u64 k]).alloc (Obj.cells #[.int .i64 0, .int .i64 0, .int .u64 0] 41)
  have bt := Blk.new' (w.alloc (Obj.cells #[.int .i64 18, .int .i64 a, .int .i64 b, .int .i64 c, .int .u64 k] 59)) 41 #[.int .i64 0, .int .i64 0, .int .u64 0] (g := w.heap.size + 1) (by simp)
  have HL := Lib.hid (hl.keep hB)
  have HF := Lib.hid (show F2 f from by rw [hF2]; exact .inl (.inl hf))
  have hgc : gc < w.heap.size := q.cpu.lt
  have hfl : f < w.heap.size := q.lt f hf
  have q8 := q.c8
  clear hF2 q hf
  simp only [doM, Nat.reduceEqDiff, if_true, if_false, false_and, true_and]
  rw [if_pos hz]
  replace hz := Lib.hid hz
  have cf0 := hl.c0
  clear hl
  go_enter Try.func19, Try.ntmps19
  go_wp2_with fail
  generalize (w.alloc (Obj.cells #[.int .i64 18, .int .i64 a, .int .i64 b, .int .i64 c, .int .u64 k] 59)).alloc (Obj.cells #[.int .i64 0, .int .i64 0, .int .u64 0] 41) = w1 at *
  clear cf0 hB q8
  have cf0 := HL.out.c0
  have q8 := q2.c8
  have qa := q2.reg ha
  have qb := q2.reg hb
  have qc := q2.reg hc
  have i0 := bi.cell 0 (.int .i64 18) rfl
  have i1 := bi.cell 1 (.int .i64 a) rfl
  have i2 := bi.cell 2 (.int .i64 b) rfl
  have i3 := bi.cell 3 (.int .i64 c) rfl
  have i4 := bi.cell 4 (.int .u64 k) rfl
  have g0 := q2.frozen a
  have a0 : (0 : Int) ≤ (a : Int) := by omega
  have a1 : (a : Int) < 8 := by omega
  have b0 : (0 : Int) ≤ (b : Int) := by omega
  have b1 : (b : Int) < 8 := by omega
  have c0 : (0 : Int) ≤ (c : Int) := by omega
  have c1 : (c : Int) < 8 := by omega
  have ra := rng_rat q2.rng a
  have rb := rng_rat q2.rng b
  have rc := rng_rat q2.rng c
  go_quiet (fail)
  have k0 := bt.cell 0 (.int .i64 0) rfl
  have k1 := bt.cell 1 (.int .i64 0) rfl
  have k2 := bt.cell 2 (.int .u64 0) rfl
  have l0 := bt.frozen 0
  have l1 := bt.frozen 1
  have l2 := bt.frozen 2
  have hz2 := hz.out
  go_wp2_with fail
  refine (give_mo f 3 (rat st.R a) st.pc gc _ (by exact cf0) (by exact q8)).mono ?_
  rintro e w3 ⟨rfl, rfl⟩
  simp only [bodyPost, endE]
  exact ⟨trivial, rfl, (q2.drewN nq).less HS.out.1, HB.out.drewN nq⟩

set_option maxRecDepth 100000 in
set_option maxHeartbeats 4000000 in
theorem im_back1 (F : Nat → Prop) (f gt gf gc : Nat) (C : Option Addr) (cl cc : Nat) (env : Int) (T : Int → Tt) (st : St) (a b c k : Nat) (w : World) (q : Mo F w gt gf gc T st) (hl : Fg w f gt gf gc C cl cc env) (hf : F f) (ha : a ≤ 7) (hb : b ≤ 7) (hc : c ≤ 7) (hk : k ≤ 17592186044415) (p0 : 0 ≤ st.pc) (p1 : st.pc < 9223372036854775807) (hz : ¬ 17592186044415 < rat st.R a) :
    Calls Try.prog 19 #[.pointer (some ⟨f, 0, none⟩), .agg #[.int .i64 18, .int .i64 a, .int .i64 b, .int .i64 c, .int .u64 k]] w (RetO F gt gf gc T st (doM (T env) ⟨18, a, b, c, k⟩ st) w) := by
  obtain ⟨F2, hF2⟩ : ∃ F2 : Nat → Prop, F2 = fun i => (F i ∨ i = w.heap.size) ∨ i = (w.alloc (Obj.cells #[.int .i64 18, .int .i64 a, .int .i64 b, .int .i64 c, .int .u64 k] 59)).heap.size := ⟨_, rfl⟩
  have q2 := (q.box (Obj.cells #[.int .i64 18, .int .i64 a, .int .i64 b, .int .i64 c, .int .u64 k] 59)).box (Obj.cells #[.int .i64 0, .int .i64 0, .int .u64 0] 41)
  rw [← hF2] at q2
  have HS : Hid ((∀ i, F i → F2 i) ∧ F2 w.heap.size ∧ F2 (w.heap.size + 1) ∧ ∀ i, F i → i < w.heap.size) := ⟨fun i hi => by rw [hF2]; exact .inl (.inl hi), by rw [hF2]; exact .inl (.inr rfl), by rw [hF2]; exact .inr (by simp), q.lt⟩
  have hB := (below1 w (Obj.cells #[.int .i64 18, .int .i64 a, .int .i64 b, .int .i64 c, .int .u64 k] 59)).alloc (by simp) (Obj.cells #[.int .i64 0, .int .i64 0, .int .u64 0] 41)
  have HB := Lib.hid (Kp.of_below hB q.lt)
  have bi := (Blk.new w 59 #[.int .i64 18, .int .i64 a, .int .i64 b, .int .i64 c, .int .u64 k]).alloc (Obj.cells #[.int .i64 0, .int .i64 0, .int .u64 0] 41)
  have bt := Blk.new' (w.alloc (Obj.cells #[.int .i64 18, .int .i64 a, .int .i64 b, .int .i64 c, .int .u64 k] 59)) 41 #[.int .i64 0, .int .i64 0, .int .u64 0] (g := w.heap.size + 1) (by simp)
  have HL := Lib.hid (hl.keep hB)
  have HF := Lib.hid (show F2 f from by rw [hF2]; exact .inl (.inl hf))
  have hgc : gc < w.heap.size := q.cpu.lt
  have hfl : f < w.heap.size := q.lt f hf
  have q8 := q.c8
  clear hF2 q hf
  simp only [doM, Nat.reduceEqDiff, if_true, if_false, false_and, true_and]
  rw [if_neg hz]
  replace hz := Lib.hid hz
  have cf0 := hl.c0
  clear hl
  go_enter Try.func19, Try.ntmps19
  go_wp2_with fail
  generalize (w.alloc (Obj.cells #[.int .i64 18, .int .i64 a, .int .i64 b, .int .i64 c, .int .u64 k] 59)).alloc (Obj.cells #[.int .i64 0, .int .i64 0, .int .u64 0] 41) = w1 at *
  clear cf0 hB q8
  have cf0 := HL.out.c0
  have q8 := q2.c8
  have qa := q2.reg ha
  have qb := q2.reg hb
  have qc := q2.reg hc
  have i0 := bi.cell 0 (.int .i64 18) rfl
  have i1 := bi.cell 1 (.int .i64 a) rfl
  have i2 := bi.cell 2 (.int .i64 b) rfl
  have i3 := bi.cell 3 (.int .i64 c) rfl
  have i4 := bi.cell 4 (.int .u64 k) rfl
  have g0 := q2.frozen a
  have a0 : (0 : Int) ≤ (a : Int) := by omega
  have a1 : (a : Int) < 8 := by omega
  have b0 : (0 : Int) ≤ (b : Int) := by omega
  have b1 : (b : Int) < 8 := by omega
  have c0 : (0 : Int) ≤ (c : Int) := by omega
  have c1 : (c : Int) < 8 := by omega
  have ra := rng_rat q2.rng a
  have rb := rng_rat q2.rng b
  have rc := rng_rat q2.rng c
  go_quiet (fail)
  have k0 := bt.cell 0 (.int .i64 0) rfl
  have k1 := bt.cell 1 (.int .i64 0) rfl
  have k2 := bt.cell 2 (.int .u64 0) rfl
  have l0 := bt.frozen 0
  have l1 := bt.frozen 1
  have l2 := bt.frozen 2
  have hz2 := hz.out
  go_wp2_with fail
  have HM := Lib.hid (And.intro (q2.drewN nq) (Kp.refl F2 (w1.drewN nq)))
  change bodyPost _ _ _ _ _ (put3 (w1.drewN nq) (w.heap.size + 1) 0 0 0)
  exact bodyPost_ret (v := .tuple #[.int .i64 (rat st.R a), .agg #[.int .i64 (0), .int .i64 (0), .int .u64 (0)]]) (by simp [results, Try.results19, go_sem, put3, *]) rfl ⟨rfl, (HM.out.1.out3 HS.out.2.2.1 _ _ _).less HS.out.1, ((HB.out.drewN nq).trans (HM.out.2.mono HS.out.1)).new3 HS.out.2.2.2 (by omega) _ _ _⟩
end Go.Proofs.Ytpimflmmfnffeaa

/- Walks: what each instruction does, in any machine (on). -/
namespace Go.Proofs.Ytpimflmmfnffeaa
open Go.RowKit Go.Lib
open Tlb (Tb)
open Fr (FrS Fm)

set_option maxRecDepth 100000 in
set_option maxHeartbeats 4000000 in
theorem im_2 (F : Nat → Prop) (f gt gf gc : Nat) (C : Option Addr) (cl cc : Nat) (env : Int) (T : Int → Tt) (st : St) (a b c k : Nat) (w : World) (q : Mo F w gt gf gc T st) (hl : Fg w f gt gf gc C cl cc env) (hf : F f) (ha : a ≤ 7) (hb : b ≤ 7) (hc : c ≤ 7) (hk : k ≤ 17592186044415) (p0 : 0 ≤ st.pc) (p1 : st.pc < 9223372036854775807) :
    Calls Try.prog 19 #[.pointer (some ⟨f, 0, none⟩), .agg #[.int .i64 2, .int .i64 a, .int .i64 b, .int .i64 c, .int .u64 k]] w (RetO F gt gf gc T st (doM (T env) ⟨2, a, b, c, k⟩ st) w) := by
  obtain ⟨F2, hF2⟩ : ∃ F2 : Nat → Prop, F2 = fun i => (F i ∨ i = w.heap.size) ∨ i = (w.alloc (Obj.cells #[.int .i64 2, .int .i64 a, .int .i64 b, .int .i64 c, .int .u64 k] 59)).heap.size := ⟨_, rfl⟩
  have q2 := (q.box (Obj.cells #[.int .i64 2, .int .i64 a, .int .i64 b, .int .i64 c, .int .u64 k] 59)).box (Obj.cells #[.int .i64 0, .int .i64 0, .int .u64 0] 41)
  rw [← hF2] at q2
  have HS : Hid ((∀ i, F i → F2 i) ∧ F2 w.heap.size ∧ F2 (w.heap.size + 1) ∧ ∀ i, F i → i < w.heap.size) := ⟨fun i hi => by rw [hF2]; exact .inl (.inl hi), by rw [hF2]; exact .inl (.inr rfl), by rw [hF2]; exact .inr (by simp), q.lt⟩
  have hB := (below1 w (Obj.cells #[.int .i64 2, .int .i64 a, .int .i64 b, .int .i64 c, .int .u64 k] 59)).alloc (by simp) (Obj.cells #[.int .i64 0, .int .i64 0, .int .u64 0] 41)
  have HB := Lib.hid (Kp.of_below hB q.lt)
  have bi := (Blk.new w 59 #[.int .i64 2, .int .i64 a, .int .i64 b, .int .i64 c, .int .u64 k]).alloc (Obj.cells #[.int .i64 0, .int .i64 0, .int .u64 0] 41)
  have bt := Blk.new' (w.alloc (Obj.cells #[.int .i64 2, .int .i64 a, .int .i64 b, .int .i64 c, .int .u64 k] 59)) 41 #[.int .i64 0, .int .i64 0, .int .u64 0] (g := w.heap.size + 1) (by simp)
  have HL := Lib.hid (hl.keep hB)
  have HF := Lib.hid (show F2 f from by rw [hF2]; exact .inl (.inl hf))
  have hgc : gc < w.heap.size := q.cpu.lt
  have hfl : f < w.heap.size := q.lt f hf
  have q8 := q.c8
  clear hF2 q hf
  simp only [doM, Nat.reduceEqDiff, if_true, if_false, false_and, true_and]
  have cf0 := hl.c0
  clear hl
  go_enter Try.func19, Try.ntmps19
  go_wp2_with fail
  generalize (w.alloc (Obj.cells #[.int .i64 2, .int .i64 a, .int .i64 b, .int .i64 c, .int .u64 k] 59)).alloc (Obj.cells #[.int .i64 0, .int .i64 0, .int .u64 0] 41) = w1 at *
  clear cf0 hB q8
  have cf0 := HL.out.c0
  have q8 := q2.c8
  have qa := q2.reg ha
  have qb := q2.reg hb
  have qc := q2.reg hc
  have i0 := bi.cell 0 (.int .i64 2) rfl
  have i1 := bi.cell 1 (.int .i64 a) rfl
  have i2 := bi.cell 2 (.int .i64 b) rfl
  have i3 := bi.cell 3 (.int .i64 c) rfl
  have i4 := bi.cell 4 (.int .u64 k) rfl
  have g0 := q2.frozen a
  have a0 : (0 : Int) ≤ (a : Int) := by omega
  have a1 : (a : Int) < 8 := by omega
  have b0 : (0 : Int) ≤ (b : Int) := by omega
  have b1 : (b : Int) < 8 := by omega
  have c0 : (0 : Int) ≤ (c : Int) := by omega
  have c1 : (c : Int) < 8 := by omega
  have ra := rng_rat q2.rng a
  have rb := rng_rat q2.rng b
  have rc := rng_rat q2.rng c
  go_quiet (fail)
  have k0 := bt.cell 0 (.int .i64 0) rfl
  have k1 := bt.cell 1 (.int .i64 0) rfl
  have k2 := bt.cell 2 (.int .u64 0) rfl
  have l0 := bt.frozen 0
  have l1 := bt.frozen 1
  have l2 := bt.frozen 2
  go_wp2_with (go_at_call 29; refine (reckon_2 f (rat st.R b) (rat st.R c) _ rb.1 rb.2 rc.1 rc.2).mono ?_; rintro e w3 ⟨rfl, rfl⟩)
  have hrk := rk_rng 2 rb rc
  have HM := Lib.hid (Mo.setR (q2.drewN nq) ha (v := rk 2 (rat st.R b) (rat st.R c)) hrk.1 hrk.2)
  change bodyPost _ _ _ _ _ (put3 ((w1.drewN nq).setCell ⟨gc, a, none⟩ (.int .u64 (rk 2 (rat st.R b) (rat st.R c)))) (w.heap.size + 1) 0 0 0)
  exact bodyPost_ret (v := .tuple #[.int .i64 (st.pc + 1), .agg #[.int .i64 (0), .int .i64 (0), .int .u64 (0)]]) (by simp [results, Try.results19, go_sem, put3, *]) rfl ⟨rfl, (HM.out.1.out3 HS.out.2.2.1 _ _ _).less HS.out.1, ((HB.out.drewN nq).trans (HM.out.2.mono HS.out.1)).new3 HS.out.2.2.2 (by omega) _ _ _⟩

set_option maxRecDepth 100000 in
set_option maxHeartbeats 4000000 in
theorem im_3 (F : Nat → Prop) (f gt gf gc : Nat) (C : Option Addr) (cl cc : Nat) (env : Int) (T : Int → Tt) (st : St) (a b c k : Nat) (w : World) (q : Mo F w gt gf gc T st) (hl : Fg w f gt gf gc C cl cc env) (hf : F f) (ha : a ≤ 7) (hb : b ≤ 7) (hc : c ≤ 7) (hk : k ≤ 17592186044415) (p0 : 0 ≤ st.pc) (p1 : st.pc < 9223372036854775807) :
    Calls Try.prog 19 #[.pointer (some ⟨f, 0, none⟩), .agg #[.int .i64 3, .int .i64 a, .int .i64 b, .int .i64 c, .int .u64 k]] w (RetO F gt gf gc T st (doM (T env) ⟨3, a, b, c, k⟩ st) w) := by
  obtain ⟨F2, hF2⟩ : ∃ F2 : Nat → Prop, F2 = fun i => (F i ∨ i = w.heap.size) ∨ i = (w.alloc (Obj.cells #[.int .i64 3, .int .i64 a, .int .i64 b, .int .i64 c, .int .u64 k] 59)).heap.size := ⟨_, rfl⟩
  have q2 := (q.box (Obj.cells #[.int .i64 3, .int .i64 a, .int .i64 b, .int .i64 c, .int .u64 k] 59)).box (Obj.cells #[.int .i64 0, .int .i64 0, .int .u64 0] 41)
  rw [← hF2] at q2
  have HS : Hid ((∀ i, F i → F2 i) ∧ F2 w.heap.size ∧ F2 (w.heap.size + 1) ∧ ∀ i, F i → i < w.heap.size) := ⟨fun i hi => by rw [hF2]; exact .inl (.inl hi), by rw [hF2]; exact .inl (.inr rfl), by rw [hF2]; exact .inr (by simp), q.lt⟩
  have hB := (below1 w (Obj.cells #[.int .i64 3, .int .i64 a, .int .i64 b, .int .i64 c, .int .u64 k] 59)).alloc (by simp) (Obj.cells #[.int .i64 0, .int .i64 0, .int .u64 0] 41)
  have HB := Lib.hid (Kp.of_below hB q.lt)
  have bi := (Blk.new w 59 #[.int .i64 3, .int .i64 a, .int .i64 b, .int .i64 c, .int .u64 k]).alloc (Obj.cells #[.int .i64 0, .int .i64 0, .int .u64 0] 41)
  have bt := Blk.new' (w.alloc (Obj.cells #[.int .i64 3, .int .i64 a, .int .i64 b, .int .i64 c, .int .u64 k] 59)) 41 #[.int .i64 0, .int .i64 0, .int .u64 0] (g := w.heap.size + 1) (by simp)
  have HL := Lib.hid (hl.keep hB)
  have HF := Lib.hid (show F2 f from by rw [hF2]; exact .inl (.inl hf))
  have hgc : gc < w.heap.size := q.cpu.lt
  have hfl : f < w.heap.size := q.lt f hf
  have q8 := q.c8
  clear hF2 q hf
  simp only [doM, Nat.reduceEqDiff, if_true, if_false, false_and, true_and]
  have cf0 := hl.c0
  clear hl
  go_enter Try.func19, Try.ntmps19
  go_wp2_with fail
  generalize (w.alloc (Obj.cells #[.int .i64 3, .int .i64 a, .int .i64 b, .int .i64 c, .int .u64 k] 59)).alloc (Obj.cells #[.int .i64 0, .int .i64 0, .int .u64 0] 41) = w1 at *
  clear cf0 hB q8
  have cf0 := HL.out.c0
  have q8 := q2.c8
  have qa := q2.reg ha
  have qb := q2.reg hb
  have qc := q2.reg hc
  have i0 := bi.cell 0 (.int .i64 3) rfl
  have i1 := bi.cell 1 (.int .i64 a) rfl
  have i2 := bi.cell 2 (.int .i64 b) rfl
  have i3 := bi.cell 3 (.int .i64 c) rfl
  have i4 := bi.cell 4 (.int .u64 k) rfl
  have g0 := q2.frozen a
  have a0 : (0 : Int) ≤ (a : Int) := by omega
  have a1 : (a : Int) < 8 := by omega
  have b0 : (0 : Int) ≤ (b : Int) := by omega
  have b1 : (b : Int) < 8 := by omega
  have c0 : (0 : Int) ≤ (c : Int) := by omega
  have c1 : (c : Int) < 8 := by omega
  have ra := rng_rat q2.rng a
  have rb := rng_rat q2.rng b
  have rc := rng_rat q2.rng c
  go_quiet (fail)
  have k0 := bt.cell 0 (.int .i64 0) rfl
  have k1 := bt.cell 1 (.int .i64 0) rfl
  have k2 := bt.cell 2 (.int .u64 0) rfl
  have l0 := bt.frozen 0
  have l1 := bt.frozen 1
  have l2 := bt.frozen 2
  go_wp2_with (go_at_call 29; refine (reckon_3 f (rat st.R b) (rat st.R c) _ rb.1 rb.2 rc.1 rc.2).mono ?_; rintro e w3 ⟨rfl, rfl⟩)
  have hrk := rk_rng 3 rb rc
  have HM := Lib.hid (Mo.setR (q2.drewN nq) ha (v := rk 3 (rat st.R b) (rat st.R c)) hrk.1 hrk.2)
  change bodyPost _ _ _ _ _ (put3 ((w1.drewN nq).setCell ⟨gc, a, none⟩ (.int .u64 (rk 3 (rat st.R b) (rat st.R c)))) (w.heap.size + 1) 0 0 0)
  exact bodyPost_ret (v := .tuple #[.int .i64 (st.pc + 1), .agg #[.int .i64 (0), .int .i64 (0), .int .u64 (0)]]) (by simp [results, Try.results19, go_sem, put3, *]) rfl ⟨rfl, (HM.out.1.out3 HS.out.2.2.1 _ _ _).less HS.out.1, ((HB.out.drewN nq).trans (HM.out.2.mono HS.out.1)).new3 HS.out.2.2.2 (by omega) _ _ _⟩

set_option maxRecDepth 100000 in
set_option maxHeartbeats 4000000 in
theorem im_4 (F : Nat → Prop) (f gt gf gc : Nat) (C : Option Addr) (cl cc : Nat) (env : Int) (T : Int → Tt) (st : St) (a b c k : Nat) (w : World) (q : Mo F w gt gf gc T st) (hl : Fg w f gt gf gc C cl cc env) (hf : F f) (ha : a ≤ 7) (hb : b ≤ 7) (hc : c ≤ 7) (hk : k ≤ 17592186044415) (p0 : 0 ≤ st.pc) (p1 : st.pc < 9223372036854775807) :
    Calls Try.prog 19 #[.pointer (some ⟨f, 0, none⟩), .agg #[.int .i64 4, .int .i64 a, .int .i64 b, .int .i64 c, .int .u64 k]] w (RetO F gt gf gc T st (doM (T env) ⟨4, a, b, c, k⟩ st) w) := by
  obtain ⟨F2, hF2⟩ : ∃ F2 : Nat → Prop, F2 = fun i => (F i ∨ i = w.heap.size) ∨ i = (w.alloc (Obj.cells #[.int .i64 4, .int .i64 a, .int .i64 b, .int .i64 c, .int .u64 k] 59)).heap.size := ⟨_, rfl⟩
  have q2 := (q.box (Obj.cells #[.int .i64 4, .int .i64 a, .int .i64 b, .int .i64 c, .int .u64 k] 59)).box (Obj.cells #[.int .i64 0, .int .i64 0, .int .u64 0] 41)
  rw [← hF2] at q2
  have HS : Hid ((∀ i, F i → F2 i) ∧ F2 w.heap.size ∧ F2 (w.heap.size + 1) ∧ ∀ i, F i → i < w.heap.size) := ⟨fun i hi => by rw [hF2]; exact .inl (.inl hi), by rw [hF2]; exact .inl (.inr rfl), by rw [hF2]; exact .inr (by simp), q.lt⟩
  have hB := (below1 w (Obj.cells #[.int .i64 4, .int .i64 a, .int .i64 b, .int .i64 c, .int .u64 k] 59)).alloc (by simp) (Obj.cells #[.int .i64 0, .int .i64 0, .int .u64 0] 41)
  have HB := Lib.hid (Kp.of_below hB q.lt)
  have bi := (Blk.new w 59 #[.int .i64 4, .int .i64 a, .int .i64 b, .int .i64 c, .int .u64 k]).alloc (Obj.cells #[.int .i64 0, .int .i64 0, .int .u64 0] 41)
  have bt := Blk.new' (w.alloc (Obj.cells #[.int .i64 4, .int .i64 a, .int .i64 b, .int .i64 c, .int .u64 k] 59)) 41 #[.int .i64 0, .int .i64 0, .int .u64 0] (g := w.heap.size + 1) (by simp)
  have HL := Lib.hid (hl.keep hB)
  have HF := Lib.hid (show F2 f from by rw [hF2]; exact .inl (.inl hf))
  have hgc : gc < w.heap.size := q.cpu.lt
  have hfl : f < w.heap.size := q.lt f hf
  have q8 := q.c8
  clear hF2 q hf
  simp only [doM, Nat.reduceEqDiff, if_true, if_false, false_and, true_and]
  have cf0 := hl.c0
  clear hl
  go_enter Try.func19, Try.ntmps19
  go_wp2_with fail
  generalize (w.alloc (Obj.cells #[.int .i64 4, .int .i64 a, .int .i64 b, .int .i64 c, .int .u64 k] 59)).alloc (Obj.cells #[.int .i64 0, .int .i64 0, .int .u64 0] 41) = w1 at *
  clear cf0 hB q8
  have cf0 := HL.out.c0
  have q8 := q2.c8
  have qa := q2.reg ha
  have qb := q2.reg hb
  have qc := q2.reg hc
  have i0 := bi.cell 0 (.int .i64 4) rfl
  have i1 := bi.cell 1 (.int .i64 a) rfl
  have i2 := bi.cell 2 (.int .i64 b) rfl
  have i3 := bi.cell 3 (.int .i64 c) rfl
  have i4 := bi.cell 4 (.int .u64 k) rfl
  have g0 := q2.frozen a
  have a0 : (0 : Int) ≤ (a : Int) := by omega
  have a1 : (a : Int) < 8 := by omega
  have b0 : (0 : Int) ≤ (b : Int) := by omega
  have b1 : (b : Int) < 8 := by omega
  have c0 : (0 : Int) ≤ (c : Int) := by omega
  have c1 : (c : Int) < 8 := by omega
  have ra := rng_rat q2.rng a
  have rb := rng_rat q2.rng b
  have rc := rng_rat q2.rng c
  go_quiet (fail)
  have k0 := bt.cell 0 (.int .i64 0) rfl
  have k1 := bt.cell 1 (.int .i64 0) rfl
  have k2 := bt.cell 2 (.int .u64 0) rfl
  have l0 := bt.frozen 0
  have l1 := bt.frozen 1
  have l2 := bt.frozen 2
  go_wp2_with (go_at_call 29; refine (reckon_4 f (rat st.R b) (rat st.R c) _ rb.1 rb.2 rc.1 rc.2).mono ?_; rintro e w3 ⟨rfl, rfl⟩)
  have hrk := rk_rng 4 rb rc
  have HM := Lib.hid (Mo.setR (q2.drewN nq) ha (v := rk 4 (rat st.R b) (rat st.R c)) hrk.1 hrk.2)
  change bodyPost _ _ _ _ _ (put3 ((w1.drewN nq).setCell ⟨gc, a, none⟩ (.int .u64 (rk 4 (rat st.R b) (rat st.R c)))) (w.heap.size + 1) 0 0 0)
  exact bodyPost_ret (v := .tuple #[.int .i64 (st.pc + 1), .agg #[.int .i64 (0), .int .i64 (0), .int .u64 (0)]]) (by simp [results, Try.results19, go_sem, put3, *]) rfl ⟨rfl, (HM.out.1.out3 HS.out.2.2.1 _ _ _).less HS.out.1, ((HB.out.drewN nq).trans (HM.out.2.mono HS.out.1)).new3 HS.out.2.2.2 (by omega) _ _ _⟩

set_option maxRecDepth 100000 in
set_option maxHeartbeats 4000000 in
theorem im_div0 (F : Nat → Prop) (f gt gf gc : Nat) (C : Option Addr) (cl cc : Nat) (env : Int) (T : Int → Tt) (st : St) (a b c k : Nat) (w : World) (q : Mo F w gt gf gc T st) (hl : Fg w f gt gf gc C cl cc env) (hf : F f) (ha : a ≤ 7) (hb : b ≤ 7) (hc : c ≤ 7) (hk : k ≤ 17592186044415) (p0 : 0 ≤ st.pc) (p1 : st.pc < 9223372036854775807) (hz : rat st.R c = 0) :
    Calls Try.prog 19 #[.pointer (some ⟨f, 0, none⟩), .agg #[.int .i64 5, .int .i64 a, .int .i64 b, .int .i64 c, .int .u64 k]] w (RetO F gt gf gc T st (doM (T env) ⟨5, a, b, c, k⟩ st) w) := by
  obtain ⟨F2, hF2⟩ : ∃ F2 : Nat → Prop, F2 = fun i => (F i ∨ i = w.heap.size) ∨ i = (w.alloc (Obj.cells #[.int .i64 5, .int .i64 a, .int .i64 b, .int .i64 c, .int .u64 k] 59)).heap.size := ⟨_, rfl⟩
  have q2 := (q.box (Obj.cells #[.int .i64 5, .int .i64 a, .int .i64 b, .int .i64 c, .int .u64 k] 59)).box (Obj.cells #[.int .i64 0, .int .i64 0, .int .u64 0] 41)
  rw [← hF2] at q2
  have HS : Hid ((∀ i, F i → F2 i) ∧ F2 w.heap.size ∧ F2 (w.heap.size + 1) ∧ ∀ i, F i → i < w.heap.size) := ⟨fun i hi => by rw [hF2]; exact .inl (.inl hi), by rw [hF2]; exact .inl (.inr rfl), by rw [hF2]; exact .inr (by simp), q.lt⟩
  have hB := (below1 w (Obj.cells #[.int .i64 5, .int .i64 a, .int .i64 b, .int .i64 c, .int .u64 k] 59)).alloc (by simp) (Obj.cells #[.int .i64 0, .int .i64 0, .int .u64 0] 41)
  have HB := Lib.hid (Kp.of_below hB q.lt)
  have bi := (Blk.new w 59 #[.int .i64 5, .int .i64 a, .int .i64 b, .int .i64 c, .int .u64 k]).alloc (Obj.cells #[.int .i64 0, .int .i64 0, .int .u64 0] 41)
  have bt := Blk.new' (w.alloc (Obj.cells #[.int .i64 5, .int .i64 a, .int .i64 b, .int .i64 c, .int .u64 k] 59)) 41 #[.int .i64 0, .int .i64 0, .int .u64 0] (g := w.heap.size + 1) (by simp)
  have HL := Lib.hid (hl.keep hB)
  have HF := Lib.hid (show F2 f from by rw [hF2]; exact .inl (.inl hf))
  have hgc : gc < w.heap.size := q.cpu.lt
  have hfl : f < w.heap.size := q.lt f hf
  have q8 := q.c8
  clear hF2 q hf
  simp only [doM, Nat.reduceEqDiff, if_true, if_false, false_and, true_and]
  rw [if_pos hz]
  replace hz := Lib.hid hz
  have cf0 := hl.c0
  clear hl
  go_enter Try.func19, Try.ntmps19
  go_wp2_with fail
  generalize (w.alloc (Obj.cells #[.int .i64 5, .int .i64 a, .int .i64 b, .int .i64 c, .int .u64 k] 59)).alloc (Obj.cells #[.int .i64 0, .int .i64 0, .int .u64 0] 41) = w1 at *
  clear cf0 hB q8
  have cf0 := HL.out.c0
  have q8 := q2.c8
  have qa := q2.reg ha
  have qb := q2.reg hb
  have qc := q2.reg hc
  have i0 := bi.cell 0 (.int .i64 5) rfl
  have i1 := bi.cell 1 (.int .i64 a) rfl
  have i2 := bi.cell 2 (.int .i64 b) rfl
  have i3 := bi.cell 3 (.int .i64 c) rfl
  have i4 := bi.cell 4 (.int .u64 k) rfl
  have g0 := q2.frozen a
  have a0 : (0 : Int) ≤ (a : Int) := by omega
  have a1 : (a : Int) < 8 := by omega
  have b0 : (0 : Int) ≤ (b : Int) := by omega
  have b1 : (b : Int) < 8 := by omega
  have c0 : (0 : Int) ≤ (c : Int) := by omega
  have c1 : (c : Int) < 8 := by omega
  have ra := rng_rat q2.rng a
  have rb := rng_rat q2.rng b
  have rc := rng_rat q2.rng c
  rw [hz.out] at qc
  go_quiet (fail)
  have k0 := bt.cell 0 (.int .i64 0) rfl
  have k1 := bt.cell 1 (.int .i64 0) rfl
  have k2 := bt.cell 2 (.int .u64 0) rfl
  have l0 := bt.frozen 0
  have l1 := bt.frozen 1
  have l2 := bt.frozen 2
  have cf0' := cf0
  go_wp2_with fail
  refine (reckon_z f (rat st.R b) gc st.pc _ (by exact cf0) (by exact q8)).mono ?_
  rintro e w3 ⟨rfl, rfl⟩
  simp only [endE]
  go_wp2_with fail
  simp only [bodyPost, endE]
  exact ⟨trivial, rfl, (q2.drewN nq).less HS.out.1, HB.out.drewN nq⟩

set_option maxRecDepth 100000 in
set_option maxHeartbeats 4000000 in
theorem im_div1 (F : Nat → Prop) (f gt gf gc : Nat) (C : Option Addr) (cl cc : Nat) (env : Int) (T : Int → Tt) (st : St) (a b c k : Nat) (w : World) (q : Mo F w gt gf gc T st) (hl : Fg w f gt gf gc C cl cc env) (hf : F f) (ha : a ≤ 7) (hb : b ≤ 7) (hc : c ≤ 7) (hk : k ≤ 17592186044415) (p0 : 0 ≤ st.pc) (p1 : st.pc < 9223372036854775807) (hz : ¬ rat st.R c = 0) :
    Calls Try.prog 19 #[.pointer (some ⟨f, 0, none⟩), .agg #[.int .i64 5, .int .i64 a, .int .i64 b, .int .i64 c, .int .u64 k]] w (RetO F gt gf gc T st (doM (T env) ⟨5, a, b, c, k⟩ st) w) := by
  obtain ⟨F2, hF2⟩ : ∃ F2 : Nat → Prop, F2 = fun i => (F i ∨ i = w.heap.size) ∨ i = (w.alloc (Obj.cells #[.int .i64 5, .int .i64 a, .int .i64 b, .int .i64 c, .int .u64 k] 59)).heap.size := ⟨_, rfl⟩
  have q2 := (q.box (Obj.cells #[.int .i64 5, .int .i64 a, .int .i64 b, .int .i64 c, .int .u64 k] 59)).box (Obj.cells #[.int .i64 0, .int .i64 0, .int .u64 0] 41)
  rw [← hF2] at q2
  have HS : Hid ((∀ i, F i → F2 i) ∧ F2 w.heap.size ∧ F2 (w.heap.size + 1) ∧ ∀ i, F i → i < w.heap.size) := ⟨fun i hi => by rw [hF2]; exact .inl (.inl hi), by rw [hF2]; exact .inl (.inr rfl), by rw [hF2]; exact .inr (by simp), q.lt⟩
  have hB := (below1 w (Obj.cells #[.int .i64 5, .int .i64 a, .int .i64 b, .int .i64 c, .int .u64 k] 59)).alloc (by simp) (Obj.cells #[.int .i64 0, .int .i64 0, .int .u64 0] 41)
  have HB := Lib.hid (Kp.of_below hB q.lt)
  have bi := (Blk.new w 59 #[.int .i64 5, .int .i64 a, .int .i64 b, .int .i64 c, .int .u64 k]).alloc (Obj.cells #[.int .i64 0, .int .i64 0, .int .u64 0] 41)
  have bt := Blk.new' (w.alloc (Obj.cells #[.int .i64 5, .int .i64 a, .int .i64 b, .int .i64 c, .int .u64 k] 59)) 41 #[.int .i64 0, .int .i64 0, .int .u64 0] (g := w.heap.size + 1) (by simp)
  have HL := Lib.hid (hl.keep hB)
  have HF := Lib.hid (show F2 f from by rw [hF2]; exact .inl (.inl hf))
  have hgc : gc < w.heap.size := q.cpu.lt
  have hfl : f < w.heap.size := q.lt f hf
  have q8 := q.c8
  clear hF2 q hf
  simp only [doM, Nat.reduceEqDiff, if_true, if_false, false_and, true_and]
  rw [if_neg hz]
  replace hz := Lib.hid hz
  have cf0 := hl.c0
  clear hl
  go_enter Try.func19, Try.ntmps19
  go_wp2_with fail
  generalize (w.alloc (Obj.cells #[.int .i64 5, .int .i64 a, .int .i64 b, .int .i64 c, .int .u64 k] 59)).alloc (Obj.cells #[.int .i64 0, .int .i64 0, .int .u64 0] 41) = w1 at *
  clear cf0 hB q8
  have cf0 := HL.out.c0
  have q8 := q2.c8
  have qa := q2.reg ha
  have qb := q2.reg hb
  have qc := q2.reg hc
  have i0 := bi.cell 0 (.int .i64 5) rfl
  have i1 := bi.cell 1 (.int .i64 a) rfl
  have i2 := bi.cell 2 (.int .i64 b) rfl
  have i3 := bi.cell 3 (.int .i64 c) rfl
  have i4 := bi.cell 4 (.int .u64 k) rfl
  have g0 := q2.frozen a
  have a0 : (0 : Int) ≤ (a : Int) := by omega
  have a1 : (a : Int) < 8 := by omega
  have b0 : (0 : Int) ≤ (b : Int) := by omega
  have b1 : (b : Int) < 8 := by omega
  have c0 : (0 : Int) ≤ (c : Int) := by omega
  have c1 : (c : Int) < 8 := by omega
  have ra := rng_rat q2.rng a
  have rb := rng_rat q2.rng b
  have rc := rng_rat q2.rng c
  go_quiet (fail)
  have k0 := bt.cell 0 (.int .i64 0) rfl
  have k1 := bt.cell 1 (.int .i64 0) rfl
  have k2 := bt.cell 2 (.int .u64 0) rfl
  have l0 := bt.frozen 0
  have l1 := bt.frozen 1
  have l2 := bt.frozen 2
  go_wp2_with (go_at_call 29; refine (reckon_5 f (rat st.R b) (rat st.R c) _ rb.1 rb.2 rc.1 rc.2 hz.out).mono ?_; rintro e w3 ⟨rfl, rfl⟩)
  have hrk := rk_rng 5 rb rc
  have HM := Lib.hid (Mo.setR (q2.drewN nq) ha (v := rk 5 (rat st.R b) (rat st.R c)) hrk.1 hrk.2)
  change bodyPost _ _ _ _ _ (put3 ((w1.drewN nq).setCell ⟨gc, a, none⟩ (.int .u64 (rk 5 (rat st.R b) (rat st.R c)))) (w.heap.size + 1) 0 0 0)
  exact bodyPost_ret (v := .tuple #[.int .i64 (st.pc + 1), .agg #[.int .i64 (0), .int .i64 (0), .int .u64 (0)]]) (by simp [results, Try.results19, go_sem, put3, *]) rfl ⟨rfl, (HM.out.1.out3 HS.out.2.2.1 _ _ _).less HS.out.1, ((HB.out.drewN nq).trans (HM.out.2.mono HS.out.1)).new3 HS.out.2.2.2 (by omega) _ _ _⟩

set_option maxRecDepth 100000 in
set_option maxHeartbeats 4000000 in
theorem im_6 (F : Nat → Prop) (f gt gf gc : Nat) (C : Option Addr) (cl cc : Nat) (env : Int) (T : Int → Tt) (st : St) (a b c k : Nat) (w : World) (q : Mo F w gt gf gc T st) (hl : Fg w f gt gf gc C cl cc env) (hf : F f) (ha : a ≤ 7) (hb : b ≤ 7) (hc : c ≤ 7) (hk : k ≤ 17592186044415) (p0 : 0 ≤ st.pc) (p1 : st.pc < 9223372036854775807) :
    Calls Try.prog 19 #[.pointer (some ⟨f, 0, none⟩), .agg #[.int .i64 6, .int .i64 a, .int .i64 b, .int .i64 c, .int .u64 k]] w (RetO F gt gf gc T st (doM (T env) ⟨6, a, b, c, k⟩ st) w) := by
  obtain ⟨F2, hF2⟩ : ∃ F2 : Nat → Prop, F2 = fun i => (F i ∨ i = w.heap.size) ∨ i = (w.alloc (Obj.cells #[.int .i64 6, .int .i64 a, .int .i64 b, .int .i64 c, .int .u64 k] 59)).heap.size := ⟨_, rfl⟩
  have q2 := (q.box (Obj.cells #[.int .i64 6, .int .i64 a, .int .i64 b, .int .i64 c, .int .u64 k] 59)).box (Obj.cells #[.int .i64 0, .int .i64 0, .int .u64 0] 41)
  rw [← hF2] at q2
  have HS : Hid ((∀ i, F i → F2 i) ∧ F2 w.heap.size ∧ F2 (w.heap.size + 1) ∧ ∀ i, F i → i < w.heap.size) := ⟨fun i hi => by rw [hF2]; exact .inl (.inl hi), by rw [hF2]; exact .inl (.inr rfl), by rw [hF2]; exact .inr (by simp), q.lt⟩
  have hB := (below1 w (Obj.cells #[.int .i64 6, .int .i64 a, .int .i64 b, .int .i64 c, .int .u64 k] 59)).alloc (by simp) (Obj.cells #[.int .i64 0, .int .i64 0, .int .u64 0] 41)
  have HB := Lib.hid (Kp.of_below hB q.lt)
  have bi := (Blk.new w 59 #[.int .i64 6, .int .i64 a, .int .i64 b, .int .i64 c, .int .u64 k]).alloc (Obj.cells #[.int .i64 0, .int .i64 0, .int .u64 0] 41)
  have bt := Blk.new' (w.alloc (Obj.cells #[.int .i64 6, .int .i64 a, .int .i64 b, .int .i64 c, .int .u64 k] 59)) 41 #[.int .i64 0, .int .i64 0, .int .u64 0] (g := w.heap.size + 1) (by simp)
  have HL := Lib.hid (hl.keep hB)
  have HF := Lib.hid (show F2 f from by rw [hF2]; exact .inl (.inl hf))
  have hgc : gc < w.heap.size := q.cpu.lt
  have hfl : f < w.heap.size := q.lt f hf
  have q8 := q.c8
  clear hF2 q hf
  simp only [doM, Nat.reduceEqDiff, if_true, if_false, false_and, true_and]
  have cf0 := hl.c0
  clear hl
  go_enter Try.func19, Try.ntmps19
  go_wp2_with fail
  generalize (w.alloc (Obj.cells #[.int .i64 6, .int .i64 a, .int .i64 b, .int .i64 c, .int .u64 k] 59)).alloc (Obj.cells #[.int .i64 0, .int .i64 0, .int .u64 0] 41) = w1 at *
  clear cf0 hB q8
  have cf0 := HL.out.c0
  have q8 := q2.c8
  have qa := q2.reg ha
  have qb := q2.reg hb
  have qc := q2.reg hc
  have i0 := bi.cell 0 (.int .i64 6) rfl
  have i1 := bi.cell 1 (.int .i64 a) rfl
  have i2 := bi.cell 2 (.int .i64 b) rfl
  have i3 := bi.cell 3 (.int .i64 c) rfl
  have i4 := bi.cell 4 (.int .u64 k) rfl
  have g0 := q2.frozen a
  have a0 : (0 : Int) ≤ (a : Int) := by omega
  have a1 : (a : Int) < 8 := by omega
  have b0 : (0 : Int) ≤ (b : Int) := by omega
  have b1 : (b : Int) < 8 := by omega
  have c0 : (0 : Int) ≤ (c : Int) := by omega
  have c1 : (c : Int) < 8 := by omega
  have ra := rng_rat q2.rng a
  have rb := rng_rat q2.rng b
  have rc := rng_rat q2.rng c
  go_quiet (fail)
  have k0 := bt.cell 0 (.int .i64 0) rfl
  have k1 := bt.cell 1 (.int .i64 0) rfl
  have k2 := bt.cell 2 (.int .u64 0) rfl
  have l0 := bt.frozen 0
  have l1 := bt.frozen 1
  have l2 := bt.frozen 2
  go_wp2_with (go_at_call 29; refine (reckon_6 f (rat st.R b) (rat st.R c) _ rb.1 rb.2 rc.1 rc.2).mono ?_; rintro e w3 ⟨rfl, rfl⟩)
  have hrk := rk_rng 6 rb rc
  have HM := Lib.hid (Mo.setR (q2.drewN nq) ha (v := rk 6 (rat st.R b) (rat st.R c)) hrk.1 hrk.2)
  change bodyPost _ _ _ _ _ (put3 ((w1.drewN nq).setCell ⟨gc, a, none⟩ (.int .u64 (rk 6 (rat st.R b) (rat st.R c)))) (w.heap.size + 1) 0 0 0)
  exact bodyPost_ret (v := .tuple #[.int .i64 (st.pc + 1), .agg #[.int .i64 (0), .int .i64 (0), .int .u64 (0)]]) (by simp [results, Try.results19, go_sem, put3, *]) rfl ⟨rfl, (HM.out.1.out3 HS.out.2.2.1 _ _ _).less HS.out.1, ((HB.out.drewN nq).trans (HM.out.2.mono HS.out.1)).new3 HS.out.2.2.2 (by omega) _ _ _⟩
end Go.Proofs.Ytpimflmmfnffeaa

/- Walks: what each instruction does, in any machine (on). -/
namespace Go.Proofs.Ytpimflmmfnffeaa
open Go.RowKit Go.Lib
open Tlb (Tb)
open Fr (FrS Fm)

set_option maxRecDepth 100000 in
set_option maxHeartbeats 4000000 in
theorem im_7 (F : Nat → Prop) (f gt gf gc : Nat) (C : Option Addr) (cl cc : Nat) (env : Int) (T : Int → Tt) (st : St) (a b c k : Nat) (w : World) (q : Mo F w gt gf gc T st) (hl : Fg w f gt gf gc C cl cc env) (hf : F f) (ha : a ≤ 7) (hb : b ≤ 7) (hc : c ≤ 7) (hk : k ≤ 17592186044415) (p0 : 0 ≤ st.pc) (p1 : st.pc < 9223372036854775807) :
    Calls Try.prog 19 #[.pointer (some ⟨f, 0, none⟩), .agg #[.int .i64 7, .int .i64 a, .int .i64 b, .int .i64 c, .int .u64 k]] w (RetO F gt gf gc T st (doM (T env) ⟨7, a, b, c, k⟩ st) w) := by
  obtain ⟨F2, hF2⟩ : ∃ F2 : Nat → Prop, F2 = fun i => (F i ∨ i = w.heap.size) ∨ i = (w.alloc (Obj.cells #[.int .i64 7, .int .i64 a, .int .i64 b, .int .i64 c, .int .u64 k] 59)).heap.size := ⟨_, rfl⟩
  have q2 := (q.box (Obj.cells #[.int .i64 7, .int .i64 a, .int .i64 b, .int .i64 c, .int .u64 k] 59)).box (Obj.cells #[.int .i64 0, .int .i64 0, .int .u64 0] 41)
  rw [← hF2] at q2
  have HS : Hid ((∀ i, F i → F2 i) ∧ F2 w.heap.size ∧ F2 (w.heap.size + 1) ∧ ∀ i, F i → i < w.heap.size) := ⟨fun i hi => by rw [hF2]; exact .inl (.inl hi), by rw [hF2]; exact .inl (.inr rfl), by rw [hF2]; exact .inr (by simp), q.lt⟩
  have hB := (below1 w (Obj.cells #[.int .i64 7, .int .i64 a, .int .i64 b, .int .i64 c, .int .u64 k] 59)).alloc (by simp) (Obj.cells #[.int .i64 0, .int .i64 0, .int .u64 0] 41)
  have HB := Lib.hid (Kp.of_below hB q.lt)
  have bi := (Blk.new w 59 #[.int .i64 7, .int .i64 a, .int .i64 b, .int .i64 c, .int .u64 k]).alloc (Obj.cells #[.int .i64 0, .int .i64 0, .int .u64 0] 41)
  have bt := Blk.new' (w.alloc (Obj.cells #[.int .i64 7, .int .i64 a, .int .i64 b, .int .i64 c, .int .u64 k] 59)) 41 #[.int .i64 0, .int .i64 0, .int .u64 0] (g := w.heap.size + 1) (by simp)
  have HL := Lib.hid (hl.keep hB)
  have HF := Lib.hid (show F2 f from by rw [hF2]; exact .inl (.inl hf))
  have hgc : gc < w.heap.size := q.cpu.lt
  have hfl : f < w.heap.size := q.lt f hf
  have q8 := q.c8
  clear hF2 q hf
  simp only [doM, Nat.reduceEqDiff, if_true, if_false, false_and, true_and]
  have cf0 := hl.c0
  clear hl
  go_enter Try.func19, Try.ntmps19
  go_wp2_with fail
  generalize (w.alloc (Obj.cells #[.int .i64 7, .int .i64 a, .int .i64 b, .int .i64 c, .int .u64 k] 59)).alloc (Obj.cells #[.int .i64 0, .int .i64 0, .int .u64 0] 41) = w1 at *
  clear cf0 hB q8
  have cf0 := HL.out.c0
  have q8 := q2.c8
  have qa := q2.reg ha
  have qb := q2.reg hb
  have qc := q2.reg hc
  have i0 := bi.cell 0 (.int .i64 7) rfl
  have i1 := bi.cell 1 (.int .i64 a) rfl
  have i2 := bi.cell 2 (.int .i64 b) rfl
  have i3 := bi.cell 3 (.int .i64 c) rfl
  have i4 := bi.cell 4 (.int .u64 k) rfl
  have g0 := q2.frozen a
  have a0 : (0 : Int) ≤ (a : Int) := by omega
  have a1 : (a : Int) < 8 := by omega
  have b0 : (0 : Int) ≤ (b : Int) := by omega
  have b1 : (b : Int) < 8 := by omega
  have c0 : (0 : Int) ≤ (c : Int) := by omega
  have c1 : (c : Int) < 8 := by omega
  have ra := rng_rat q2.rng a
  have rb := rng_rat q2.rng b
  have rc := rng_rat q2.rng c
  go_quiet (fail)
  have k0 := bt.cell 0 (.int .i64 0) rfl
  have k1 := bt.cell 1 (.int .i64 0) rfl
  have k2 := bt.cell 2 (.int .u64 0) rfl
  have l0 := bt.frozen 0
  have l1 := bt.frozen 1
  have l2 := bt.frozen 2
  go_wp2_with (go_at_call 29; refine (reckon_7 f (rat st.R b) (rat st.R c) _ rb.1 rb.2 rc.1 rc.2).mono ?_; rintro e w3 ⟨rfl, rfl⟩)
  have hrk := rk_rng 7 rb rc
  have HM := Lib.hid (Mo.setR (q2.drewN nq) ha (v := rk 7 (rat st.R b) (rat st.R c)) hrk.1 hrk.2)
  change bodyPost _ _ _ _ _ (put3 ((w1.drewN nq).setCell ⟨gc, a, none⟩ (.int .u64 (rk 7 (rat st.R b) (rat st.R c)))) (w.heap.size + 1) 0 0 0)
  exact bodyPost_ret (v := .tuple #[.int .i64 (st.pc + 1), .agg #[.int .i64 (0), .int .i64 (0), .int .u64 (0)]]) (by simp [results, Try.results19, go_sem, put3, *]) rfl ⟨rfl, (HM.out.1.out3 HS.out.2.2.1 _ _ _).less HS.out.1, ((HB.out.drewN nq).trans (HM.out.2.mono HS.out.1)).new3 HS.out.2.2.2 (by omega) _ _ _⟩

set_option maxRecDepth 100000 in
set_option maxHeartbeats 4000000 in
theorem im_8 (F : Nat → Prop) (f gt gf gc : Nat) (C : Option Addr) (cl cc : Nat) (env : Int) (T : Int → Tt) (st : St) (a b c k : Nat) (w : World) (q : Mo F w gt gf gc T st) (hl : Fg w f gt gf gc C cl cc env) (hf : F f) (ha : a ≤ 7) (hb : b ≤ 7) (hc : c ≤ 7) (hk : k ≤ 17592186044415) (p0 : 0 ≤ st.pc) (p1 : st.pc < 9223372036854775807) :
    Calls Try.prog 19 #[.pointer (some ⟨f, 0, none⟩), .agg #[.int .i64 8, .int .i64 a, .int .i64 b, .int .i64 c, .int .u64 k]] w (RetO F gt gf gc T st (doM (T env) ⟨8, a, b, c, k⟩ st) w) := by
  obtain ⟨F2, hF2⟩ : ∃ F2 : Nat → Prop, F2 = fun i => (F i ∨ i = w.heap.size) ∨ i = (w.alloc (Obj.cells #[.int .i64 8, .int .i64 a, .int .i64 b, .int .i64 c, .int .u64 k] 59)).heap.size := ⟨_, rfl⟩
  have q2 := (q.box (Obj.cells #[.int .i64 8, .int .i64 a, .int .i64 b, .int .i64 c, .int .u64 k] 59)).box (Obj.cells #[.int .i64 0, .int .i64 0, .int .u64 0] 41)
  rw [← hF2] at q2
  have HS : Hid ((∀ i, F i → F2 i) ∧ F2 w.heap.size ∧ F2 (w.heap.size + 1) ∧ ∀ i, F i → i < w.heap.size) := ⟨fun i hi => by rw [hF2]; exact .inl (.inl hi), by rw [hF2]; exact .inl (.inr rfl), by rw [hF2]; exact .inr (by simp), q.lt⟩
  have hB := (below1 w (Obj.cells #[.int .i64 8, .int .i64 a, .int .i64 b, .int .i64 c, .int .u64 k] 59)).alloc (by simp) (Obj.cells #[.int .i64 0, .int .i64 0, .int .u64 0] 41)
  have HB := Lib.hid (Kp.of_below hB q.lt)
  have bi := (Blk.new w 59 #[.int .i64 8, .int .i64 a, .int .i64 b, .int .i64 c, .int .u64 k]).alloc (Obj.cells #[.int .i64 0, .int .i64 0, .int .u64 0] 41)
  have bt := Blk.new' (w.alloc (Obj.cells #[.int .i64 8, .int .i64 a, .int .i64 b, .int .i64 c, .int .u64 k] 59)) 41 #[.int .i64 0, .int .i64 0, .int .u64 0] (g := w.heap.size + 1) (by simp)
  have HL := Lib.hid (hl.keep hB)
  have HF := Lib.hid (show F2 f from by rw [hF2]; exact .inl (.inl hf))
  have hgc : gc < w.heap.size := q.cpu.lt
  have hfl : f < w.heap.size := q.lt f hf
  have q8 := q.c8
  clear hF2 q hf
  simp only [doM, Nat.reduceEqDiff, if_true, if_false, false_and, true_and]
  have cf0 := hl.c0
  clear hl
  go_enter Try.func19, Try.ntmps19
  go_wp2_with fail
  generalize (w.alloc (Obj.cells #[.int .i64 8, .int .i64 a, .int .i64 b, .int .i64 c, .int .u64 k] 59)).alloc (Obj.cells #[.int .i64 0, .int .i64 0, .int .u64 0] 41) = w1 at *
  clear cf0 hB q8
  have cf0 := HL.out.c0
  have q8 := q2.c8
  have qa := q2.reg ha
  have qb := q2.reg hb
  have qc := q2.reg hc
  have i0 := bi.cell 0 (.int .i64 8) rfl
  have i1 := bi.cell 1 (.int .i64 a) rfl
  have i2 := bi.cell 2 (.int .i64 b) rfl
  have i3 := bi.cell 3 (.int .i64 c) rfl
  have i4 := bi.cell 4 (.int .u64 k) rfl
  have g0 := q2.frozen a
  have a0 : (0 : Int) ≤ (a : Int) := by omega
  have a1 : (a : Int) < 8 := by omega
  have b0 : (0 : Int) ≤ (b : Int) := by omega
  have b1 : (b : Int) < 8 := by omega
  have c0 : (0 : Int) ≤ (c : Int) := by omega
  have c1 : (c : Int) < 8 := by omega
  have ra := rng_rat q2.rng a
  have rb := rng_rat q2.rng b
  have rc := rng_rat q2.rng c
  go_quiet (fail)
  have k0 := bt.cell 0 (.int .i64 0) rfl
  have k1 := bt.cell 1 (.int .i64 0) rfl
  have k2 := bt.cell 2 (.int .u64 0) rfl
  have l0 := bt.frozen 0
  have l1 := bt.frozen 1
  have l2 := bt.frozen 2
  go_wp2_with (go_at_call 29; refine (reckon_8 f (rat st.R b) (rat st.R c) _ rb.1 rb.2 rc.1 rc.2).mono ?_; rintro e w3 ⟨rfl, rfl⟩)
  have hrk := rk_rng 8 rb rc
  have HM := Lib.hid (Mo.setR (q2.drewN nq) ha (v := rk 8 (rat st.R b) (rat st.R c)) hrk.1 hrk.2)
  change bodyPost _ _ _ _ _ (put3 ((w1.drewN nq).setCell ⟨gc, a, none⟩ (.int .u64 (rk 8 (rat st.R b) (rat st.R c)))) (w.heap.size + 1) 0 0 0)
  exact bodyPost_ret (v := .tuple #[.int .i64 (st.pc + 1), .agg #[.int .i64 (0), .int .i64 (0), .int .u64 (0)]]) (by simp [results, Try.results19, go_sem, put3, *]) rfl ⟨rfl, (HM.out.1.out3 HS.out.2.2.1 _ _ _).less HS.out.1, ((HB.out.drewN nq).trans (HM.out.2.mono HS.out.1)).new3 HS.out.2.2.2 (by omega) _ _ _⟩

set_option maxRecDepth 100000 in
set_option maxHeartbeats 4000000 in
theorem im_9 (F : Nat → Prop) (f gt gf gc : Nat) (C : Option Addr) (cl cc : Nat) (env : Int) (T : Int → Tt) (st : St) (a b c k : Nat) (w : World) (q : Mo F w gt gf gc T st) (hl : Fg w f gt gf gc C cl cc env) (hf : F f) (ha : a ≤ 7) (hb : b ≤ 7) (hc : c ≤ 7) (hk : k ≤ 17592186044415) (p0 : 0 ≤ st.pc) (p1 : st.pc < 9223372036854775807) :
    Calls Try.prog 19 #[.pointer (some ⟨f, 0, none⟩), .agg #[.int .i64 9, .int .i64 a, .int .i64 b, .int .i64 c, .int .u64 k]] w (RetO F gt gf gc T st (doM (T env) ⟨9, a, b, c, k⟩ st) w) := by
  obtain ⟨F2, hF2⟩ : ∃ F2 : Nat → Prop, F2 = fun i => (F i ∨ i = w.heap.size) ∨ i = (w.alloc (Obj.cells #[.int .i64 9, .int .i64 a, .int .i64 b, .int .i64 c, .int .u64 k] 59)).heap.size := ⟨_, rfl⟩
  have q2 := (q.box (Obj.cells #[.int .i64 9, .int .i64 a, .int .i64 b, .int .i64 c, .int .u64 k] 59)).box (Obj.cells #[.int .i64 0, .int .i64 0, .int .u64 0] 41)
  rw [← hF2] at q2
  have HS : Hid ((∀ i, F i → F2 i) ∧ F2 w.heap.size ∧ F2 (w.heap.size + 1) ∧ ∀ i, F i → i < w.heap.size) := ⟨fun i hi => by rw [hF2]; exact .inl (.inl hi), by rw [hF2]; exact .inl (.inr rfl), by rw [hF2]; exact .inr (by simp), q.lt⟩
  have hB := (below1 w (Obj.cells #[.int .i64 9, .int .i64 a, .int .i64 b, .int .i64 c, .int .u64 k] 59)).alloc (by simp) (Obj.cells #[.int .i64 0, .int .i64 0, .int .u64 0] 41)
  have HB := Lib.hid (Kp.of_below hB q.lt)
  have bi := (Blk.new w 59 #[.int .i64 9, .int .i64 a, .int .i64 b, .int .i64 c, .int .u64 k]).alloc (Obj.cells #[.int .i64 0, .int .i64 0, .int .u64 0] 41)
  have bt := Blk.new' (w.alloc (Obj.cells #[.int .i64 9, .int .i64 a, .int .i64 b, .int .i64 c, .int .u64 k] 59)) 41 #[.int .i64 0, .int .i64 0, .int .u64 0] (g := w.heap.size + 1) (by simp)
  have HL := Lib.hid (hl.keep hB)
  have HF := Lib.hid (show F2 f from by rw [hF2]; exact .inl (.inl hf))
  have hgc : gc < w.heap.size := q.cpu.lt
  have hfl : f < w.heap.size := q.lt f hf
  have q8 := q.c8
  clear hF2 q hf
  simp only [doM, Nat.reduceEqDiff, if_true, if_false, false_and, true_and]
  have cf0 := hl.c0
  clear hl
  go_enter Try.func19, Try.ntmps19
  go_wp2_with fail
  generalize (w.alloc (Obj.cells #[.int .i64 9, .int .i64 a, .int .i64 b, .int .i64 c, .int .u64 k] 59)).alloc (Obj.cells #[.int .i64 0, .int .i64 0, .int .u64 0] 41) = w1 at *
  clear cf0 hB q8
  have cf0 := HL.out.c0
  have q8 := q2.c8
  have qa := q2.reg ha
  have qb := q2.reg hb
  have qc := q2.reg hc
  have i0 := bi.cell 0 (.int .i64 9) rfl
  have i1 := bi.cell 1 (.int .i64 a) rfl
  have i2 := bi.cell 2 (.int .i64 b) rfl
  have i3 := bi.cell 3 (.int .i64 c) rfl
  have i4 := bi.cell 4 (.int .u64 k) rfl
  have g0 := q2.frozen a
  have a0 : (0 : Int) ≤ (a : Int) := by omega
  have a1 : (a : Int) < 8 := by omega
  have b0 : (0 : Int) ≤ (b : Int) := by omega
  have b1 : (b : Int) < 8 := by omega
  have c0 : (0 : Int) ≤ (c : Int) := by omega
  have c1 : (c : Int) < 8 := by omega
  have ra := rng_rat q2.rng a
  have rb := rng_rat q2.rng b
  have rc := rng_rat q2.rng c
  go_quiet (fail)
  have k0 := bt.cell 0 (.int .i64 0) rfl
  have k1 := bt.cell 1 (.int .i64 0) rfl
  have k2 := bt.cell 2 (.int .u64 0) rfl
  have l0 := bt.frozen 0
  have l1 := bt.frozen 1
  have l2 := bt.frozen 2
  go_wp2_with (go_at_call 29; refine (reckon_9 f (rat st.R b) (rat st.R c) _ rb.1 rb.2 rc.1 rc.2).mono ?_; rintro e w3 ⟨rfl, rfl⟩)
  have hrk := rk_rng 9 rb rc
  have HM := Lib.hid (Mo.setR (q2.drewN nq) ha (v := rk 9 (rat st.R b) (rat st.R c)) hrk.1 hrk.2)
  change bodyPost _ _ _ _ _ (put3 ((w1.drewN nq).setCell ⟨gc, a, none⟩ (.int .u64 (rk 9 (rat st.R b) (rat st.R c)))) (w.heap.size + 1) 0 0 0)
  exact bodyPost_ret (v := .tuple #[.int .i64 (st.pc + 1), .agg #[.int .i64 (0), .int .i64 (0), .int .u64 (0)]]) (by simp [results, Try.results19, go_sem, put3, *]) rfl ⟨rfl, (HM.out.1.out3 HS.out.2.2.1 _ _ _).less HS.out.1, ((HB.out.drewN nq).trans (HM.out.2.mono HS.out.1)).new3 HS.out.2.2.2 (by omega) _ _ _⟩

set_option maxRecDepth 100000 in
set_option maxHeartbeats 4000000 in
theorem im_10 (F : Nat → Prop) (f gt gf gc : Nat) (C : Option Addr) (cl cc : Nat) (env : Int) (T : Int → Tt) (st : St) (a b c k : Nat) (w : World) (q : Mo F w gt gf gc T st) (hl : Fg w f gt gf gc C cl cc env) (hf : F f) (ha : a ≤ 7) (hb : b ≤ 7) (hc : c ≤ 7) (hk : k ≤ 17592186044415) (p0 : 0 ≤ st.pc) (p1 : st.pc < 9223372036854775807) :
    Calls Try.prog 19 #[.pointer (some ⟨f, 0, none⟩), .agg #[.int .i64 10, .int .i64 a, .int .i64 b, .int .i64 c, .int .u64 k]] w (RetO F gt gf gc T st (doM (T env) ⟨10, a, b, c, k⟩ st) w) := by
  obtain ⟨F2, hF2⟩ : ∃ F2 : Nat → Prop, F2 = fun i => (F i ∨ i = w.heap.size) ∨ i = (w.alloc (Obj.cells #[.int .i64 10, .int .i64 a, .int .i64 b, .int .i64 c, .int .u64 k] 59)).heap.size := ⟨_, rfl⟩
  have q2 := (q.box (Obj.cells #[.int .i64 10, .int .i64 a, .int .i64 b, .int .i64 c, .int .u64 k] 59)).box (Obj.cells #[.int .i64 0, .int .i64 0, .int .u64 0] 41)
  rw [← hF2] at q2
  have HS : Hid ((∀ i, F i → F2 i) ∧ F2 w.heap.size ∧ F2 (w.heap.size + 1) ∧ ∀ i, F i → i < w.heap.size) := ⟨fun i hi => by rw [hF2]; exact .inl (.inl hi), by rw [hF2]; exact .inl (.inr rfl), by rw [hF2]; exact .inr (by simp), q.lt⟩
  have hB := (below1 w (Obj.cells #[.int .i64 10, .int .i64 a, .int .i64 b, .int .i64 c, .int .u64 k] 59)).alloc (by simp) (Obj.cells #[.int .i64 0, .int .i64 0, .int .u64 0] 41)
  have HB := Lib.hid (Kp.of_below hB q.lt)
  have bi := (Blk.new w 59 #[.int .i64 10, .int .i64 a, .int .i64 b, .int .i64 c, .int .u64 k]).alloc (Obj.cells #[.int .i64 0, .int .i64 0, .int .u64 0] 41)
  have bt := Blk.new' (w.alloc (Obj.cells #[.int .i64 10, .int .i64 a, .int .i64 b, .int .i64 c, .int .u64 k] 59)) 41 #[.int .i64 0, .int .i64 0, .int .u64 0] (g := w.heap.size + 1) (by simp)
  have HL := Lib.hid (hl.keep hB)
  have HF := Lib.hid (show F2 f from by rw [hF2]; exact .inl (.inl hf))
  have hgc : gc < w.heap.size := q.cpu.lt
  have hfl : f < w.heap.size := q.lt f hf
  have q8 := q.c8
  clear hF2 q hf
  simp only [doM, Nat.reduceEqDiff, if_true, if_false, false_and, true_and]
  have cf0 := hl.c0
  clear hl
  go_enter Try.func19, Try.ntmps19
  go_wp2_with fail
  generalize (w.alloc (Obj.cells #[.int .i64 10, .int .i64 a, .int .i64 b, .int .i64 c, .int .u64 k] 59)).alloc (Obj.cells #[.int .i64 0, .int .i64 0, .int .u64 0] 41) = w1 at *
  clear cf0 hB q8
  have cf0 := HL.out.c0
  have q8 := q2.c8
  have qa := q2.reg ha
  have qb := q2.reg hb
  have qc := q2.reg hc
  have i0 := bi.cell 0 (.int .i64 10) rfl
  have i1 := bi.cell 1 (.int .i64 a) rfl
  have i2 := bi.cell 2 (.int .i64 b) rfl
  have i3 := bi.cell 3 (.int .i64 c) rfl
  have i4 := bi.cell 4 (.int .u64 k) rfl
  have g0 := q2.frozen a
  have a0 : (0 : Int) ≤ (a : Int) := by omega
  have a1 : (a : Int) < 8 := by omega
  have b0 : (0 : Int) ≤ (b : Int) := by omega
  have b1 : (b : Int) < 8 := by omega
  have c0 : (0 : Int) ≤ (c : Int) := by omega
  have c1 : (c : Int) < 8 := by omega
  have ra := rng_rat q2.rng a
  have rb := rng_rat q2.rng b
  have rc := rng_rat q2.rng c
  go_quiet (fail)
  have k0 := bt.cell 0 (.int .i64 0) rfl
  have k1 := bt.cell 1 (.int .i64 0) rfl
  have k2 := bt.cell 2 (.int .u64 0) rfl
  have l0 := bt.frozen 0
  have l1 := bt.frozen 1
  have l2 := bt.frozen 2
  go_wp2_with (go_at_call 29; refine (reckon_10 f (rat st.R b) (rat st.R c) _ rb.1 rb.2 rc.1 rc.2).mono ?_; rintro e w3 ⟨rfl, rfl⟩)
  have hrk := rk_rng 10 rb rc
  have HM := Lib.hid (Mo.setR (q2.drewN nq) ha (v := rk 10 (rat st.R b) (rat st.R c)) hrk.1 hrk.2)
  change bodyPost _ _ _ _ _ (put3 ((w1.drewN nq).setCell ⟨gc, a, none⟩ (.int .u64 (rk 10 (rat st.R b) (rat st.R c)))) (w.heap.size + 1) 0 0 0)
  exact bodyPost_ret (v := .tuple #[.int .i64 (st.pc + 1), .agg #[.int .i64 (0), .int .i64 (0), .int .u64 (0)]]) (by simp [results, Try.results19, go_sem, put3, *]) rfl ⟨rfl, (HM.out.1.out3 HS.out.2.2.1 _ _ _).less HS.out.1, ((HB.out.drewN nq).trans (HM.out.2.mono HS.out.1)).new3 HS.out.2.2.2 (by omega) _ _ _⟩

set_option maxRecDepth 100000 in
set_option maxHeartbeats 4000000 in
theorem im_11 (F : Nat → Prop) (f gt gf gc : Nat) (C : Option Addr) (cl cc : Nat) (env : Int) (T : Int → Tt) (st : St) (a b c k : Nat) (w : World) (q : Mo F w gt gf gc T st) (hl : Fg w f gt gf gc C cl cc env) (hf : F f) (ha : a ≤ 7) (hb : b ≤ 7) (hc : c ≤ 7) (hk : k ≤ 17592186044415) (p0 : 0 ≤ st.pc) (p1 : st.pc < 9223372036854775807) :
    Calls Try.prog 19 #[.pointer (some ⟨f, 0, none⟩), .agg #[.int .i64 11, .int .i64 a, .int .i64 b, .int .i64 c, .int .u64 k]] w (RetO F gt gf gc T st (doM (T env) ⟨11, a, b, c, k⟩ st) w) := by
  obtain ⟨F2, hF2⟩ : ∃ F2 : Nat → Prop, F2 = fun i => (F i ∨ i = w.heap.size) ∨ i = (w.alloc (Obj.cells #[.int .i64 11, .int .i64 a, .int .i64 b, .int .i64 c, .int .u64 k] 59)).heap.size := ⟨_, rfl⟩
  have q2 := (q.box (Obj.cells #[.int .i64 11, .int .i64 a, .int .i64 b, .int .i64 c, .int .u64 k] 59)).box (Obj.cells #[.int .i64 0, .int .i64 0, .int .u64 0] 41)
  rw [← hF2] at q2
  have HS : Hid ((∀ i, F i → F2 i) ∧ F2 w.heap.size ∧ F2 (w.heap.size + 1) ∧ ∀ i, F i → i < w.heap.size) := ⟨fun i hi => by rw [hF2]; exact .inl (.inl hi), by rw [hF2]; exact .inl (.inr rfl), by rw [hF2]; exact .inr (by simp), q.lt⟩
  have hB := (below1 w (Obj.cells #[.int .i64 11, .int .i64 a, .int .i64 b, .int .i64 c, .int .u64 k] 59)).alloc (by simp) (Obj.cells #[.int .i64 0, .int .i64 0, .int .u64 0] 41)
  have HB := Lib.hid (Kp.of_below hB q.lt)
  have bi := (Blk.new w 59 #[.int .i64 11, .int .i64 a, .int .i64 b, .int .i64 c, .int .u64 k]).alloc (Obj.cells #[.int .i64 0, .int .i64 0, .int .u64 0] 41)
  have bt := Blk.new' (w.alloc (Obj.cells #[.int .i64 11, .int .i64 a, .int .i64 b, .int .i64 c, .int .u64 k] 59)) 41 #[.int .i64 0, .int .i64 0, .int .u64 0] (g := w.heap.size + 1) (by simp)
  have HL := Lib.hid (hl.keep hB)
  have HF := Lib.hid (show F2 f from by rw [hF2]; exact .inl (.inl hf))
  have hgc : gc < w.heap.size := q.cpu.lt
  have hfl : f < w.heap.size := q.lt f hf
  have q8 := q.c8
  clear hF2 q hf
  simp only [doM, Nat.reduceEqDiff, if_true, if_false, false_and, true_and]
  have cf0 := hl.c0
  clear hl
  go_enter Try.func19, Try.ntmps19
  go_wp2_with fail
  generalize (w.alloc (Obj.cells #[.int .i64 11, .int .i64 a, .int .i64 b, .int .i64 c, .int .u64 k] 59)).alloc (Obj.cells #[.int .i64 0, .int .i64 0, .int .u64 0] 41) = w1 at *
  clear cf0 hB q8
  have cf0 := HL.out.c0
  have q8 := q2.c8
  have qa := q2.reg ha
  have qb := q2.reg hb
  have qc := q2.reg hc
  have i0 := bi.cell 0 (.int .i64 11) rfl
  have i1 := bi.cell 1 (.int .i64 a) rfl
  have i2 := bi.cell 2 (.int .i64 b) rfl
  have i3 := bi.cell 3 (.int .i64 c) rfl
  have i4 := bi.cell 4 (.int .u64 k) rfl
  have g0 := q2.frozen a
  have a0 : (0 : Int) ≤ (a : Int) := by omega
  have a1 : (a : Int) < 8 := by omega
  have b0 : (0 : Int) ≤ (b : Int) := by omega
  have b1 : (b : Int) < 8 := by omega
  have c0 : (0 : Int) ≤ (c : Int) := by omega
  have c1 : (c : Int) < 8 := by omega
  have ra := rng_rat q2.rng a
  have rb := rng_rat q2.rng b
  have rc := rng_rat q2.rng c
  go_quiet (fail)
  have k0 := bt.cell 0 (.int .i64 0) rfl
  have k1 := bt.cell 1 (.int .i64 0) rfl
  have k2 := bt.cell 2 (.int .u64 0) rfl
  have l0 := bt.frozen 0
  have l1 := bt.frozen 1
  have l2 := bt.frozen 2
  go_wp2_with (go_at_call 29; refine (reckon_11 f (rat st.R b) (rat st.R c) _ rb.1 rb.2 rc.1 rc.2).mono ?_; rintro e w3 ⟨rfl, rfl⟩)
  have hrk := rk_rng 11 rb rc
  have HM := Lib.hid (Mo.setR (q2.drewN nq) ha (v := rk 11 (rat st.R b) (rat st.R c)) hrk.1 hrk.2)
  change bodyPost _ _ _ _ _ (put3 ((w1.drewN nq).setCell ⟨gc, a, none⟩ (.int .u64 (rk 11 (rat st.R b) (rat st.R c)))) (w.heap.size + 1) 0 0 0)
  exact bodyPost_ret (v := .tuple #[.int .i64 (st.pc + 1), .agg #[.int .i64 (0), .int .i64 (0), .int .u64 (0)]]) (by simp [results, Try.results19, go_sem, put3, *]) rfl ⟨rfl, (HM.out.1.out3 HS.out.2.2.1 _ _ _).less HS.out.1, ((HB.out.drewN nq).trans (HM.out.2.mono HS.out.1)).new3 HS.out.2.2.2 (by omega) _ _ _⟩
end Go.Proofs.Ytpimflmmfnffeaa

/- Walks: what each instruction does, in any machine (on). -/
namespace Go.Proofs.Ytpimflmmfnffeaa
open Go.RowKit Go.Lib
open Tlb (Tb)
open Fr (FrS Fm)
theorem ldM_rng {t : Tt} {s : FrS} {ad v : Int} (h : ldM t s ad = .ok v) : 0 ≤ v ∧ v < 18446744073709551616 := by
  unfold ldM at h
  split at h
  · cases h
  · split at h
    · injection h with h
      rw [← h]
      exact wrap_rng _
    · cases h

set_option maxRecDepth 100000 in
set_option maxHeartbeats 4000000 in
theorem im_load0 (F : Nat → Prop) (f gt gf gc : Nat) (C : Option Addr) (cl cc : Nat) (env : Int) (T : Int → Tt) (st : St) (a b c k : Nat) (w : World) (q : Mo F w gt gf gc T st) (hl : Fg w f gt gf gc C cl cc env) (hf : F f) (ha : a ≤ 7) (hb : b ≤ 7) (hc : c ≤ 7) (hk : k ≤ 17592186044415) (p0 : 0 ≤ st.pc) (p1 : st.pc < 9223372036854775807) (z : Int × Int) (hz : ldM (T env) st.s (adr (rat st.R b) k) = .error z) :
    Calls Try.prog 19 #[.pointer (some ⟨f, 0, none⟩), .agg #[.int .i64 12, .int .i64 a, .int .i64 b, .int .i64 c, .int .u64 k]] w (RetO F gt gf gc T st (doM (T env) ⟨12, a, b, c, k⟩ st) w) := by
  obtain ⟨F2, hF2⟩ : ∃ F2 : Nat → Prop, F2 = fun i => (F i ∨ i = w.heap.size) ∨ i = (w.alloc (Obj.cells #[.int .i64 12, .int .i64 a, .int .i64 b, .int .i64 c, .int .u64 k] 59)).heap.size := ⟨_, rfl⟩
  have q2 := (q.box (Obj.cells #[.int .i64 12, .int .i64 a, .int .i64 b, .int .i64 c, .int .u64 k] 59)).box (Obj.cells #[.int .i64 0, .int .i64 0, .int .u64 0] 41)
  rw [← hF2] at q2
  have HS : Hid ((∀ i, F i → F2 i) ∧ F2 w.heap.size ∧ F2 (w.heap.size + 1) ∧ ∀ i, F i → i < w.heap.size) := ⟨fun i hi => by rw [hF2]; exact .inl (.inl hi), by rw [hF2]; exact .inl (.inr rfl), by rw [hF2]; exact .inr (by simp), q.lt⟩
  have hB := (below1 w (Obj.cells #[.int .i64 12, .int .i64 a, .int .i64 b, .int .i64 c, .int .u64 k] 59)).alloc (by simp) (Obj.cells #[.int .i64 0, .int .i64 0, .int .u64 0] 41)
  have HB := Lib.hid (Kp.of_below hB q.lt)
  have bi := (Blk.new w 59 #[.int .i64 12, .int .i64 a, .int .i64 b, .int .i64 c, .int .u64 k]).alloc (Obj.cells #[.int .i64 0, .int .i64 0, .int .u64 0] 41)
  have bt := Blk.new' (w.alloc (Obj.cells #[.int .i64 12, .int .i64 a, .int .i64 b, .int .i64 c, .int .u64 k] 59)) 41 #[.int .i64 0, .int .i64 0, .int .u64 0] (g := w.heap.size + 1) (by simp)
  have HL := Lib.hid (hl.keep hB)
  have HF := Lib.hid (show F2 f from by rw [hF2]; exact .inl (.inl hf))
  have hgc : gc < w.heap.size := q.cpu.lt
  have hfl : f < w.heap.size := q.lt f hf
  have q8 := q.c8
  clear hF2 q hf
  simp only [doM, Nat.reduceEqDiff, if_true, if_false, false_and, true_and]
  rw [hz]
  simp only
  replace hz := Lib.hid hz
  have cf0 := hl.c0
  clear hl
  go_enter Try.func19, Try.ntmps19
  go_wp2_with fail
  generalize (w.alloc (Obj.cells #[.int .i64 12, .int .i64 a, .int .i64 b, .int .i64 c, .int .u64 k] 59)).alloc (Obj.cells #[.int .i64 0, .int .i64 0, .int .u64 0] 41) = w1 at *
  clear cf0 hB q8
  have cf0 := HL.out.c0
  have q8 := q2.c8
  have qa := q2.reg ha
  have qb := q2.reg hb
  have qc := q2.reg hc
  have i0 := bi.cell 0 (.int .i64 12) rfl
  have i1 := bi.cell 1 (.int .i64 a) rfl
  have i2 := bi.cell 2 (.int .i64 b) rfl
  have i3 := bi.cell 3 (.int .i64 c) rfl
  have i4 := bi.cell 4 (.int .u64 k) rfl
  have g0 := q2.frozen a
  have a0 : (0 : Int) ≤ (a : Int) := by omega
  have a1 : (a : Int) < 8 := by omega
  have b0 : (0 : Int) ≤ (b : Int) := by omega
  have b1 : (b : Int) < 8 := by omega
  have c0 : (0 : Int) ≤ (c : Int) := by omega
  have c1 : (c : Int) < 8 := by omega
  have ra := rng_rat q2.rng a
  have rb := rng_rat q2.rng b
  have rc := rng_rat q2.rng c
  go_quiet (fail)
  have k0 := bt.cell 0 (.int .i64 0) rfl
  have k1 := bt.cell 1 (.int .i64 0) rfl
  have k2 := bt.cell 2 (.int .u64 0) rfl
  have l0 := bt.frozen 0
  have l1 := bt.frozen 1
  have l2 := bt.frozen 2
  have had := wrap_rng (rat st.R b + k)
  have hlm := load_mo F2 f gt gf gc C cl cc env T st (adr (rat st.R b) k) (w1.drewN nq) (q2.drewN nq) ⟨HL.out.c0, HL.out.c1, HL.out.c2, HL.out.c3, HL.out.c4⟩ HF.out had.1 had.2
  rw [hz.out] at hlm
  simp only [mapV] at hlm
  unfold adr at hlm
  replace hlm := Lib.hid hlm
  go_wp2_with fail
  refine hlm.out.mono ?_
  rintro e w2 ⟨rfl, hq, hk⟩
  simp only [endE]
  go_wp2_with fail
  simp only [bodyPost, endE]
  exact ⟨trivial, rfl, hq.less HS.out.1, (HB.out.drewN nq).trans (hk.mono HS.out.1)⟩

set_option maxRecDepth 100000 in
set_option maxHeartbeats 4000000 in
theorem im_load1 (F : Nat → Prop) (f gt gf gc : Nat) (C : Option Addr) (cl cc : Nat) (env : Int) (T : Int → Tt) (st : St) (a b c k : Nat) (w : World) (q : Mo F w gt gf gc T st) (hl : Fg w f gt gf gc C cl cc env) (hf : F f) (ha : a ≤ 7) (hb : b ≤ 7) (hc : c ≤ 7) (hk : k ≤ 17592186044415) (p0 : 0 ≤ st.pc) (p1 : st.pc < 9223372036854775807) (v : Int) (hz : ldM (T env) st.s (adr (rat st.R b) k) = .ok v) :
    Calls Try.prog 19 #[.pointer (some ⟨f, 0, none⟩), .agg #[.int .i64 12, .int .i64 a, .int .i64 b, .int .i64 c, .int .u64 k]] w (RetO F gt gf gc T st (doM (T env) ⟨12, a, b, c, k⟩ st) w) := by
  obtain ⟨F2, hF2⟩ : ∃ F2 : Nat → Prop, F2 = fun i => (F i ∨ i = w.heap.size) ∨ i = (w.alloc (Obj.cells #[.int .i64 12, .int .i64 a, .int .i64 b, .int .i64 c, .int .u64 k] 59)).heap.size := ⟨_, rfl⟩
  have q2 := (q.box (Obj.cells #[.int .i64 12, .int .i64 a, .int .i64 b, .int .i64 c, .int .u64 k] 59)).box (Obj.cells #[.int .i64 0, .int .i64 0, .int .u64 0] 41)
  rw [← hF2] at q2
  have HS : Hid ((∀ i, F i → F2 i) ∧ F2 w.heap.size ∧ F2 (w.heap.size + 1) ∧ ∀ i, F i → i < w.heap.size) := ⟨fun i hi => by rw [hF2]; exact .inl (.inl hi), by rw [hF2]; exact .inl (.inr rfl), by rw [hF2]; exact .inr (by simp), q.lt⟩
  have hB := (below1 w (Obj.cells #[.int .i64 12, .int .i64 a, .int .i64 b, .int .i64 c, .int .u64 k] 59)).alloc (by simp) (Obj.cells #[.int .i64 0, .int .i64 0, .int .u64 0] 41)
  have HB := Lib.hid (Kp.of_below hB q.lt)
  have bi := (Blk.new w 59 #[.int .i64 12, .int .i64 a, .int .i64 b, .int .i64 c, .int .u64 k]).alloc (Obj.cells #[.int .i64 0, .int .i64 0, .int .u64 0] 41)
  have bt := Blk.new' (w.alloc (Obj.cells #[.int .i64 12, .int .i64 a, .int .i64 b, .int .i64 c, .int .u64 k] 59)) 41 #[.int .i64 0, .int .i64 0, .int .u64 0] (g := w.heap.size + 1) (by simp)
  have HL := Lib.hid (hl.keep hB)
  have HF := Lib.hid (show F2 f from by rw [hF2]; exact .inl (.inl hf))
  have hgc : gc < w.heap.size := q.cpu.lt
  have hfl : f < w.heap.size := q.lt f hf
  have q8 := q.c8
  clear hF2 q hf
  simp only [doM, Nat.reduceEqDiff, if_true, if_false, false_and, true_and]
  rw [hz]
  simp only
  replace hz := Lib.hid hz
  have cf0 := hl.c0
  clear hl
  go_enter Try.func19, Try.ntmps19
  go_wp2_with fail
  generalize (w.alloc (Obj.cells #[.int .i64 12, .int .i64 a, .int .i64 b, .int .i64 c, .int .u64 k] 59)).alloc (Obj.cells #[.int .i64 0, .int .i64 0, .int .u64 0] 41) = w1 at *
  clear cf0 hB q8
  have cf0 := HL.out.c0
  have q8 := q2.c8
  have qa := q2.reg ha
  have qb := q2.reg hb
  have qc := q2.reg hc
  have i0 := bi.cell 0 (.int .i64 12) rfl
  have i1 := bi.cell 1 (.int .i64 a) rfl
  have i2 := bi.cell 2 (.int .i64 b) rfl
  have i3 := bi.cell 3 (.int .i64 c) rfl
  have i4 := bi.cell 4 (.int .u64 k) rfl
  have g0 := q2.frozen a
  have a0 : (0 : Int) ≤ (a : Int) := by omega
  have a1 : (a : Int) < 8 := by omega
  have b0 : (0 : Int) ≤ (b : Int) := by omega
  have b1 : (b : Int) < 8 := by omega
  have c0 : (0 : Int) ≤ (c : Int) := by omega
  have c1 : (c : Int) < 8 := by omega
  have ra := rng_rat q2.rng a
  have rb := rng_rat q2.rng b
  have rc := rng_rat q2.rng c
  go_quiet (fail)
  have k0 := bt.cell 0 (.int .i64 0) rfl
  have k1 := bt.cell 1 (.int .i64 0) rfl
  have k2 := bt.cell 2 (.int .u64 0) rfl
  have l0 := bt.frozen 0
  have l1 := bt.frozen 1
  have l2 := bt.frozen 2
  have had := wrap_rng (rat st.R b + k)
  have hlm := load_mo F2 f gt gf gc C cl cc env T st (adr (rat st.R b) k) (w1.drewN nq) (q2.drewN nq) ⟨HL.out.c0, HL.out.c1, HL.out.c2, HL.out.c3, HL.out.c4⟩ HF.out had.1 had.2
  rw [hz.out] at hlm
  simp only [mapV] at hlm
  unfold adr at hlm
  replace hlm := Lib.hid hlm
  go_wp2_with fail
  refine hlm.out.mono ?_
  rintro e w2 ⟨rfl, hq, hk⟩
  simp only [endE]
  have bt2 := hk.blk (bt.drewN nq) HS.out.2.2.1
  clear k0 k1 k2 l0 l1 l2 bt bi
  have k0 := bt2.cell 0 (.int .i64 0) rfl
  have k1 := bt2.cell 1 (.int .i64 0) rfl
  have k2 := bt2.cell 2 (.int .u64 0) rfl
  have l0 := bt2.frozen 0
  have l1 := bt2.frozen 1
  have l2 := bt2.frozen 2
  have hv := ldM_rng hz.out
  have qa2 := hq.reg ha
  have ga2 := hq.frozen a
  go_wp2_with fail
  have HM := Lib.hid (Mo.setR hq ha (v := v) hv.1 hv.2)
  change bodyPost _ _ _ _ _ (put3 (w2.setCell ⟨gc, a, none⟩ (.int .u64 v)) (w.heap.size + 1) 0 0 0)
  exact bodyPost_ret (v := .tuple #[.int .i64 (st.pc + 1), .agg #[.int .i64 (0), .int .i64 (0), .int .u64 (0)]]) (by simp [results, Try.results19, go_sem, put3, *]) rfl ⟨rfl, (HM.out.1.out3 HS.out.2.2.1 _ _ _).less HS.out.1, (((HB.out.drewN nq).trans (hk.mono HS.out.1)).trans (HM.out.2.mono HS.out.1)).new3 HS.out.2.2.2 (by omega) _ _ _⟩

set_option maxRecDepth 100000 in
set_option maxHeartbeats 4000000 in
theorem im_store0 (F : Nat → Prop) (f gt gf gc : Nat) (C : Option Addr) (cl cc : Nat) (env : Int) (T : Int → Tt) (st : St) (a b c k : Nat) (w : World) (q : Mo F w gt gf gc T st) (hl : Fg w f gt gf gc C cl cc env) (hf : F f) (ha : a ≤ 7) (hb : b ≤ 7) (hc : c ≤ 7) (hk : k ≤ 17592186044415) (p0 : 0 ≤ st.pc) (p1 : st.pc < 9223372036854775807) (z : Int × Int) (hz : stM (T env) st.s (adr (rat st.R b) k) (rat st.R a) = .error z) :
    Calls Try.prog 19 #[.pointer (some ⟨f, 0, none⟩), .agg #[.int .i64 13, .int .i64 a, .int .i64 b, .int .i64 c, .int .u64 k]] w (RetO F gt gf gc T st (doM (T env) ⟨13, a, b, c, k⟩ st) w) := by
  obtain ⟨F2, hF2⟩ : ∃ F2 : Nat → Prop, F2 = fun i => (F i ∨ i = w.heap.size) ∨ i = (w.alloc (Obj.cells #[.int .i64 13, .int .i64 a, .int .i64 b, .int .i64 c, .int .u64 k] 59)).heap.size := ⟨_, rfl⟩
  have q2 := (q.box (Obj.cells #[.int .i64 13, .int .i64 a, .int .i64 b, .int .i64 c, .int .u64 k] 59)).box (Obj.cells #[.int .i64 0, .int .i64 0, .int .u64 0] 41)
  rw [← hF2] at q2
  have HS : Hid ((∀ i, F i → F2 i) ∧ F2 w.heap.size ∧ F2 (w.heap.size + 1) ∧ ∀ i, F i → i < w.heap.size) := ⟨fun i hi => by rw [hF2]; exact .inl (.inl hi), by rw [hF2]; exact .inl (.inr rfl), by rw [hF2]; exact .inr (by simp), q.lt⟩
  have hB := (below1 w (Obj.cells #[.int .i64 13, .int .i64 a, .int .i64 b, .int .i64 c, .int .u64 k] 59)).alloc (by simp) (Obj.cells #[.int .i64 0, .int .i64 0, .int .u64 0] 41)
  have HB := Lib.hid (Kp.of_below hB q.lt)
  have bi := (Blk.new w 59 #[.int .i64 13, .int .i64 a, .int .i64 b, .int .i64 c, .int .u64 k]).alloc (Obj.cells #[.int .i64 0, .int .i64 0, .int .u64 0] 41)
  have bt := Blk.new' (w.alloc (Obj.cells #[.int .i64 13, .int .i64 a, .int .i64 b, .int .i64 c, .int .u64 k] 59)) 41 #[.int .i64 0, .int .i64 0, .int .u64 0] (g := w.heap.size + 1) (by simp)
  have HL := Lib.hid (hl.keep hB)
  have HF := Lib.hid (show F2 f from by rw [hF2]; exact .inl (.inl hf))
  have hgc : gc < w.heap.size := q.cpu.lt
  have hfl : f < w.heap.size := q.lt f hf
  have q8 := q.c8
  clear hF2 q hf
  simp only [doM, Nat.reduceEqDiff, if_true, if_false, false_and, true_and]
  rw [hz]
  simp only
  replace hz := Lib.hid hz
  have cf0 := hl.c0
  clear hl
  go_enter Try.func19, Try.ntmps19
  go_wp2_with fail
  generalize (w.alloc (Obj.cells #[.int .i64 13, .int .i64 a, .int .i64 b, .int .i64 c, .int .u64 k] 59)).alloc (Obj.cells #[.int .i64 0, .int .i64 0, .int .u64 0] 41) = w1 at *
  clear cf0 hB q8
  have cf0 := HL.out.c0
  have q8 := q2.c8
  have qa := q2.reg ha
  have qb := q2.reg hb
  have qc := q2.reg hc
  have i0 := bi.cell 0 (.int .i64 13) rfl
  have i1 := bi.cell 1 (.int .i64 a) rfl
  have i2 := bi.cell 2 (.int .i64 b) rfl
  have i3 := bi.cell 3 (.int .i64 c) rfl
  have i4 := bi.cell 4 (.int .u64 k) rfl
  have g0 := q2.frozen a
  have a0 : (0 : Int) ≤ (a : Int) := by omega
  have a1 : (a : Int) < 8 := by omega
  have b0 : (0 : Int) ≤ (b : Int) := by omega
  have b1 : (b : Int) < 8 := by omega
  have c0 : (0 : Int) ≤ (c : Int) := by omega
  have c1 : (c : Int) < 8 := by omega
  have ra := rng_rat q2.rng a
  have rb := rng_rat q2.rng b
  have rc := rng_rat q2.rng c
  go_quiet (fail)
  have k0 := bt.cell 0 (.int .i64 0) rfl
  have k1 := bt.cell 1 (.int .i64 0) rfl
  have k2 := bt.cell 2 (.int .u64 0) rfl
  have l0 := bt.frozen 0
  have l1 := bt.frozen 1
  have l2 := bt.frozen 2
  have had := wrap_rng (rat st.R b + k)
  have hsm := Lib.hid (fun W hW hF => store_mo F2 f gt gf gc C cl cc env T st (adr (rat st.R b) k) (rat st.R a) W hW hF HF.out had.1 had.2 ra.1 ra.2)
  rw [hz.out] at hsm
  unfold adr at hsm
  go_wp2_with fail
  have hq3 := q2.drewN nq
  have hb3 : Kp F w (w1.drewN nq) := HB.out.drewN nq
  have bt3 : Blk (w1.drewN nq) (w.heap.size + 1) 41 #[.int .i64 0, .int .i64 0, .int .u64 0] := bt
  have hg3 : Hid (Fg (w1.drewN nq) f gt gf gc C cl cc env) := ⟨HL.out.c0, HL.out.c1, HL.out.c2, HL.out.c3, HL.out.c4⟩
  have ecf : (w1.drewN nq).cell? ⟨f, 0, none⟩ = some (.pointer (some ⟨gc, 0, none⟩)) := cf0
  have eq8 : (w1.drewN nq).cell? ⟨gc, 8, none⟩ = some (.int .i64 st.pc) := q8
  have eqa : (w1.drewN nq).cell? ⟨gc, a, none⟩ = some (.int .u64 (rat st.R a)) := qa
  have ei4 : (w1.drewN nq).cell? ⟨w.heap.size, 4, none⟩ = some (.int .u64 k) := i4
  clear k0 k1 k2 l0 l1 l2 bt bi cf0 q8 qa qb qc i0 i1 i2 i3 i4 g0 q2 HB HL
  generalize w1.drewN nq = wd at *
  go_still_tail 8, (by kernel_rfl)
  change wpList _ _ _ _ _ wd.drew
  have hq4 := hq3.drew
  have hg4 : Fg wd.drew f gt gf gc C cl cc env := ⟨hg3.out.c0, hg3.out.c1, hg3.out.c2, hg3.out.c3, hg3.out.c4⟩
  replace hb3 : Kp F w wd.drew := hb3.drew
  replace bt3 : Blk wd.drew (w.heap.size + 1) 41 #[.int .i64 0, .int .i64 0, .int .u64 0] := bt3
  clear hq3 hg3 ecf eq8 eqa ei4
  generalize wd.drew = w3 at *
  go_wp2_with (go_at_call 28; refine (hsm.out w3 hq4 hg4).mono ?_; rintro e w2 ⟨rfl, hq, hk⟩; simp only [mapF, endE]; have bt2 := hk.blk bt3 HS.out.2.2.1; have k0 := bt2.cell 0 (.int .i64 0) rfl; have k1 := bt2.cell 1 (.int .i64 0) rfl; have k2 := bt2.cell 2 (.int .u64 0) rfl; have l0 := bt2.frozen 0; have l1 := bt2.frozen 1; have l2 := bt2.frozen 2)
  simp only [mapF, stOf] at hq
  go_wp2_with fail
  simp only [bodyPost, endE]
  exact ⟨trivial, rfl, hq.less HS.out.1, hb3.trans (hk.mono HS.out.1)⟩

set_option maxRecDepth 100000 in
set_option maxHeartbeats 4000000 in
theorem im_store1 (F : Nat → Prop) (f gt gf gc : Nat) (C : Option Addr) (cl cc : Nat) (env : Int) (T : Int → Tt) (st : St) (a b c k : Nat) (w : World) (q : Mo F w gt gf gc T st) (hl : Fg w f gt gf gc C cl cc env) (hf : F f) (ha : a ≤ 7) (hb : b ≤ 7) (hc : c ≤ 7) (hk : k ≤ 17592186044415) (p0 : 0 ≤ st.pc) (p1 : st.pc < 9223372036854775807) (s : FrS) (hz : stM (T env) st.s (adr (rat st.R b) k) (rat st.R a) = .ok s) :
    Calls Try.prog 19 #[.pointer (some ⟨f, 0, none⟩), .agg #[.int .i64 13, .int .i64 a, .int .i64 b, .int .i64 c, .int .u64 k]] w (RetO F gt gf gc T st (doM (T env) ⟨13, a, b, c, k⟩ st) w) := by
  obtain ⟨F2, hF2⟩ : ∃ F2 : Nat → Prop, F2 = fun i => (F i ∨ i = w.heap.size) ∨ i = (w.alloc (Obj.cells #[.int .i64 13, .int .i64 a, .int .i64 b, .int .i64 c, .int .u64 k] 59)).heap.size := ⟨_, rfl⟩
  have q2 := (q.box (Obj.cells #[.int .i64 13, .int .i64 a, .int .i64 b, .int .i64 c, .int .u64 k] 59)).box (Obj.cells #[.int .i64 0, .int .i64 0, .int .u64 0] 41)
  rw [← hF2] at q2
  have HS : Hid ((∀ i, F i → F2 i) ∧ F2 w.heap.size ∧ F2 (w.heap.size + 1) ∧ ∀ i, F i → i < w.heap.size) := ⟨fun i hi => by rw [hF2]; exact .inl (.inl hi), by rw [hF2]; exact .inl (.inr rfl), by rw [hF2]; exact .inr (by simp), q.lt⟩
  have hB := (below1 w (Obj.cells #[.int .i64 13, .int .i64 a, .int .i64 b, .int .i64 c, .int .u64 k] 59)).alloc (by simp) (Obj.cells #[.int .i64 0, .int .i64 0, .int .u64 0] 41)
  have HB := Lib.hid (Kp.of_below hB q.lt)
  have bi := (Blk.new w 59 #[.int .i64 13, .int .i64 a, .int .i64 b, .int .i64 c, .int .u64 k]).alloc (Obj.cells #[.int .i64 0, .int .i64 0, .int .u64 0] 41)
  have bt := Blk.new' (w.alloc (Obj.cells #[.int .i64 13, .int .i64 a, .int .i64 b, .int .i64 c, .int .u64 k] 59)) 41 #[.int .i64 0, .int .i64 0, .int .u64 0] (g := w.heap.size + 1) (by simp)
  have HL := Lib.hid (hl.keep hB)
  have HF := Lib.hid (show F2 f from by rw [hF2]; exact .inl (.inl hf))
  have hgc : gc < w.heap.size := q.cpu.lt
  have hfl : f < w.heap.size := q.lt f hf
  have q8 := q.c8
  clear hF2 q hf
  simp only [doM, Nat.reduceEqDiff, if_true, if_false, false_and, true_and]
  rw [hz]
  simp only
  replace hz := Lib.hid hz
  have cf0 := hl.c0
  clear hl
  go_enter Try.func19, Try.ntmps19
  go_wp2_with fail
  generalize (w.alloc (Obj.cells #[.int .i64 13, .int .i64 a, .int .i64 b, .int .i64 c, .int .u64 k] 59)).alloc (Obj.cells #[.int .i64 0, .int .i64 0, .int .u64 0] 41) = w1 at *
  clear cf0 hB q8
  have cf0 := HL.out.c0
  have q8 := q2.c8
  have qa := q2.reg ha
  have qb := q2.reg hb
  have qc := q2.reg hc
  have i0 := bi.cell 0 (.int .i64 13) rfl
  have i1 := bi.cell 1 (.int .i64 a) rfl
  have i2 := bi.cell 2 (.int .i64 b) rfl
  have i3 := bi.cell 3 (.int .i64 c) rfl
  have i4 := bi.cell 4 (.int .u64 k) rfl
  have g0 := q2.frozen a
  have a0 : (0 : Int) ≤ (a : Int) := by omega
  have a1 : (a : Int) < 8 := by omega
  have b0 : (0 : Int) ≤ (b : Int) := by omega
  have b1 : (b : Int) < 8 := by omega
  have c0 : (0 : Int) ≤ (c : Int) := by omega
  have c1 : (c : Int) < 8 := by omega
  have ra := rng_rat q2.rng a
  have rb := rng_rat q2.rng b
  have rc := rng_rat q2.rng c
  go_quiet (fail)
  have k0 := bt.cell 0 (.int .i64 0) rfl
  have k1 := bt.cell 1 (.int .i64 0) rfl
  have k2 := bt.cell 2 (.int .u64 0) rfl
  have l0 := bt.frozen 0
  have l1 := bt.frozen 1
  have l2 := bt.frozen 2
  have had := wrap_rng (rat st.R b + k)
  have hsm := Lib.hid (fun W hW hF => store_mo F2 f gt gf gc C cl cc env T st (adr (rat st.R b) k) (rat st.R a) W hW hF HF.out had.1 had.2 ra.1 ra.2)
  rw [hz.out] at hsm
  unfold adr at hsm
  go_wp2_with fail
  have hq3 := q2.drewN nq
  have hb3 : Kp F w (w1.drewN nq) := HB.out.drewN nq
  have bt3 : Blk (w1.drewN nq) (w.heap.size + 1) 41 #[.int .i64 0, .int .i64 0, .int .u64 0] := bt
  have hg3 : Hid (Fg (w1.drewN nq) f gt gf gc C cl cc env) := ⟨HL.out.c0, HL.out.c1, HL.out.c2, HL.out.c3, HL.out.c4⟩
  have ecf : (w1.drewN nq).cell? ⟨f, 0, none⟩ = some (.pointer (some ⟨gc, 0, none⟩)) := cf0
  have eq8 : (w1.drewN nq).cell? ⟨gc, 8, none⟩ = some (.int .i64 st.pc) := q8
  have eqa : (w1.drewN nq).cell? ⟨gc, a, none⟩ = some (.int .u64 (rat st.R a)) := qa
  have ei4 : (w1.drewN nq).cell? ⟨w.heap.size, 4, none⟩ = some (.int .u64 k) := i4
  clear k0 k1 k2 l0 l1 l2 bt bi cf0 q8 qa qb qc i0 i1 i2 i3 i4 g0 q2 HB HL
  generalize w1.drewN nq = wd at *
  go_still_tail 8, (by kernel_rfl)
  change wpList _ _ _ _ _ wd.drew
  have hq4 := hq3.drew
  have hg4 : Fg wd.drew f gt gf gc C cl cc env := ⟨hg3.out.c0, hg3.out.c1, hg3.out.c2, hg3.out.c3, hg3.out.c4⟩
  replace hb3 : Kp F w wd.drew := hb3.drew
  replace bt3 : Blk wd.drew (w.heap.size + 1) 41 #[.int .i64 0, .int .i64 0, .int .u64 0] := bt3
  clear hq3 hg3 ecf eq8 eqa ei4
  generalize wd.drew = w3 at *
  go_wp2_with (go_at_call 28; refine (hsm.out w3 hq4 hg4).mono ?_; rintro e w2 ⟨rfl, hq, hk⟩; simp only [mapF, endE]; have bt2 := hk.blk bt3 HS.out.2.2.1; have k0 := bt2.cell 0 (.int .i64 0) rfl; have k1 := bt2.cell 1 (.int .i64 0) rfl; have k2 := bt2.cell 2 (.int .u64 0) rfl; have l0 := bt2.frozen 0; have l1 := bt2.frozen 1; have l2 := bt2.frozen 2)
  simp only [mapF, stOf] at hq
  have HM := Lib.hid (And.intro hq (Kp.refl F2 w2))
  change bodyPost _ _ _ _ _ (put3 w2 (w.heap.size + 1) 0 0 0)
  exact bodyPost_ret (v := .tuple #[.int .i64 (st.pc + 1), .agg #[.int .i64 (0), .int .i64 (0), .int .u64 (0)]]) (by simp [results, Try.results19, go_sem, put3, *]) rfl ⟨rfl, (HM.out.1.out3 HS.out.2.2.1 _ _ _).less HS.out.1, ((hb3.trans (hk.mono HS.out.1)).trans (HM.out.2.mono HS.out.1)).new3 HS.out.2.2.2 (by omega) _ _ _⟩

set_option maxRecDepth 100000 in
set_option maxHeartbeats 4000000 in
theorem im_ask (F : Nat → Prop) (f gt gf gc : Nat) (C : Option Addr) (cl cc : Nat) (env : Int) (T : Int → Tt) (st : St) (a b c k : Nat) (w : World) (q : Mo F w gt gf gc T st) (hl : Fg w f gt gf gc C cl cc env) (hf : F f) (ha : a ≤ 7) (hb : b ≤ 7) (hc : c ≤ 7) (hk : k ≤ 17592186044415) (p0 : 0 ≤ st.pc) (p1 : st.pc < 9223372036854775807) :
    Calls Try.prog 19 #[.pointer (some ⟨f, 0, none⟩), .agg #[.int .i64 16, .int .i64 a, .int .i64 b, .int .i64 c, .int .u64 k]] w (RetO F gt gf gc T st (doM (T env) ⟨16, a, b, c, k⟩ st) w) := by
  obtain ⟨F2, hF2⟩ : ∃ F2 : Nat → Prop, F2 = fun i => (F i ∨ i = w.heap.size) ∨ i = (w.alloc (Obj.cells #[.int .i64 16, .int .i64 a, .int .i64 b, .int .i64 c, .int .u64 k] 59)).heap.size := ⟨_, rfl⟩
  have q2 := (q.box (Obj.cells #[.int .i64 16, .int .i64 a, .int .i64 b, .int .i64 c, .int .u64 k] 59)).box (Obj.cells #[.int .i64 0, .int .i64 0, .int .u64 0] 41)
  rw [← hF2] at q2
  have HS : Hid ((∀ i, F i → F2 i) ∧ F2 w.heap.size ∧ F2 (w.heap.size + 1) ∧ ∀ i, F i → i < w.heap.size) := ⟨fun i hi => by rw [hF2]; exact .inl (.inl hi), by rw [hF2]; exact .inl (.inr rfl), by rw [hF2]; exact .inr (by simp), q.lt⟩
  have hB := (below1 w (Obj.cells #[.int .i64 16, .int .i64 a, .int .i64 b, .int .i64 c, .int .u64 k] 59)).alloc (by simp) (Obj.cells #[.int .i64 0, .int .i64 0, .int .u64 0] 41)
  have HB := Lib.hid (Kp.of_below hB q.lt)
  have bi := (Blk.new w 59 #[.int .i64 16, .int .i64 a, .int .i64 b, .int .i64 c, .int .u64 k]).alloc (Obj.cells #[.int .i64 0, .int .i64 0, .int .u64 0] 41)
  have bt := Blk.new' (w.alloc (Obj.cells #[.int .i64 16, .int .i64 a, .int .i64 b, .int .i64 c, .int .u64 k] 59)) 41 #[.int .i64 0, .int .i64 0, .int .u64 0] (g := w.heap.size + 1) (by simp)
  have HL := Lib.hid (hl.keep hB)
  have HF := Lib.hid (show F2 f from by rw [hF2]; exact .inl (.inl hf))
  have hgc : gc < w.heap.size := q.cpu.lt
  have hfl : f < w.heap.size := q.lt f hf
  have q8 := q.c8
  clear hF2 q hf
  simp only [doM, Nat.reduceEqDiff, if_true, if_false, false_and, true_and]
  have cf0 := hl.c0
  clear hl
  go_enter Try.func19, Try.ntmps19
  go_wp2_with fail
  generalize (w.alloc (Obj.cells #[.int .i64 16, .int .i64 a, .int .i64 b, .int .i64 c, .int .u64 k] 59)).alloc (Obj.cells #[.int .i64 0, .int .i64 0, .int .u64 0] 41) = w1 at *
  clear cf0 hB q8
  have cf0 := HL.out.c0
  have q8 := q2.c8
  have qa := q2.reg ha
  have qb := q2.reg hb
  have qc := q2.reg hc
  have i0 := bi.cell 0 (.int .i64 16) rfl
  have i1 := bi.cell 1 (.int .i64 a) rfl
  have i2 := bi.cell 2 (.int .i64 b) rfl
  have i3 := bi.cell 3 (.int .i64 c) rfl
  have i4 := bi.cell 4 (.int .u64 k) rfl
  have g0 := q2.frozen a
  have a0 : (0 : Int) ≤ (a : Int) := by omega
  have a1 : (a : Int) < 8 := by omega
  have b0 : (0 : Int) ≤ (b : Int) := by omega
  have b1 : (b : Int) < 8 := by omega
  have c0 : (0 : Int) ≤ (c : Int) := by omega
  have c1 : (c : Int) < 8 := by omega
  have ra := rng_rat q2.rng a
  have rb := rng_rat q2.rng b
  have rc := rng_rat q2.rng c
  go_quiet (fail)
  have k0 := bt.cell 0 (.int .i64 0) rfl
  have k1 := bt.cell 1 (.int .i64 0) rfl
  have k2 := bt.cell 2 (.int .u64 0) rfl
  have l0 := bt.frozen 0
  have l1 := bt.frozen 1
  have l2 := bt.frozen 2
  go_wp2_with fail
  have hq3 := q2.drewN nq
  have hb3 : Kp F w (w1.drewN nq) := HB.out.drewN nq
  have bt3 : Blk (w1.drewN nq) (w.heap.size + 1) 41 #[.int .i64 0, .int .i64 0, .int .u64 0] := bt
  have hg3 : Hid (Fg (w1.drewN nq) f gt gf gc C cl cc env) := ⟨HL.out.c0, HL.out.c1, HL.out.c2, HL.out.c3, HL.out.c4⟩
  have ecf : (w1.drewN nq).cell? ⟨f, 0, none⟩ = some (.pointer (some ⟨gc, 0, none⟩)) := cf0
  have eq8 : (w1.drewN nq).cell? ⟨gc, 8, none⟩ = some (.int .i64 st.pc) := q8
  have eqa : (w1.drewN nq).cell? ⟨gc, a, none⟩ = some (.int .u64 (rat st.R a)) := qa
  have ei4 : (w1.drewN nq).cell? ⟨w.heap.size, 4, none⟩ = some (.int .u64 k) := i4
  clear k0 k1 k2 l0 l1 l2 bt bi cf0 q8 qa qb qc i0 i1 i2 i3 i4 g0 q2 HB HL
  generalize w1.drewN nq = wd at *
  go_still_tail 13, (by kernel_rfl)
  change wpList _ _ _ _ _ wd.drew
  have k0 : wd.drew.cell? ⟨w.heap.size + 1, 0, none⟩ = some (.int .i64 0) := bt3.cell 0 (.int .i64 0) rfl
  have k1 : wd.drew.cell? ⟨w.heap.size + 1, 1, none⟩ = some (.int .i64 0) := bt3.cell 1 (.int .i64 0) rfl
  have k2 : wd.drew.cell? ⟨w.heap.size + 1, 2, none⟩ = some (.int .u64 0) := bt3.cell 2 (.int .u64 0) rfl
  have l0 : wd.drew.frozen? ⟨w.heap.size + 1, 0, none⟩ = false := bt3.frozen 0
  have l1 : wd.drew.frozen? ⟨w.heap.size + 1, 1, none⟩ = false := bt3.frozen 1
  have l2 : wd.drew.frozen? ⟨w.heap.size + 1, 2, none⟩ = false := bt3.frozen 2
  have hq4 := hq3.drew
  replace hb3 : Kp F w wd.drew := hb3.drew
  clear hq3 hg3 ecf eq8 eqa ei4 bt3
  generalize wd.drew = w3 at *
  go_wp2_with fail
  have HM := Lib.hid (And.intro hq4 (Kp.refl F2 w3))
  change bodyPost _ _ _ _ _ (put3 w3 (w.heap.size + 1) (1) (st.pc) (rat st.R a))
  exact bodyPost_ret (v := .tuple #[.int .i64 (st.pc + 1), .agg #[.int .i64 (1), .int .i64 (st.pc), .int .u64 (rat st.R a)]]) (by simp [results, Try.results19, go_sem, put3, *]) rfl ⟨rfl, (HM.out.1.out3 HS.out.2.2.1 _ _ _).less HS.out.1, (hb3.trans (HM.out.2.mono HS.out.1)).new3 HS.out.2.2.2 (by omega) _ _ _⟩
end Go.Proofs.Ytpimflmmfnffeaa
