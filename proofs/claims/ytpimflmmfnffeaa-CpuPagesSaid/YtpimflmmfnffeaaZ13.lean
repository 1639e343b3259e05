/- Texts laid as one: K5, K6, K7. -/
import Derived.Test.YtpimflmmfnffeaaZ12
/- Walks: Decode of any word; what is fetched. -/
namespace Go.Proofs.Ytpimflmmfnffeaa
open Go.RowKit Go.Lib
open Tlb (Tb)
open Fr (FrS Fm)

def decV (x : Nat) : Value := match decM x with
  | some i => .tuple #[.agg #[.int .i64 i.op, .int .i64 i.a, .int .i64 i.b, .int .i64 i.c, .int .u64 i.n], .int .i64 0]
  | none => .tuple #[.agg #[.int .i64 0, .int .i64 0, .int .i64 0, .int .i64 0, .int .u64 0], .int .i64 21]
theorem decode_any (x : Nat) (hx : x < 18446744073709551616) (w : World) : Calls Try.prog 30 #[.int .u64 x] w fun e w' => e = .returned (decV x) ∧ Below w.heap.size w w' := by
  have h := decode_num x (x % 256) (x / 256 % 16) (x / 4096 % 16) (x / 65536 % 16) (x / 1048576) w hx (get_parts x hx) (by omega) _ rfl
  unfold decV decM
  cases hr : rightI ((x % 256 : Nat) : Int) ((x / 256 % 16 : Nat) : Int) ((x / 4096 % 16 : Nat) : Int) ((x / 65536 % 16 : Nat) : Int) ((x / 1048576 : Nat) : Int)
  · rw [hr] at h
    simpa using h
  · rw [hr] at h
    simpa using h
/-- the code: a row of words, all of whose blocks are of F -/
structure Cd (F : Nat → Prop) (w : World) (C : Option Addr) (CL : List Int) : Prop where
  sl : Sl eU 1 w C CL
  rg : ∀ v ∈ CL, 0 ≤ v ∧ v < 18446744073709551616
  len : CL.length ≤ 9223372036854775807
  inF : 0 < CL.length → ∀ b, Go.Proofs.Ytpimflmmfnffeaa.blk C = some b → F b
theorem Cd.kp {F : Nat → Prop} {w w' : World} {C : Option Addr} {CL : List Int} (h : Cd F w C CL) (k : Kp F w w') : Cd F w' C CL := by
  refine ⟨fun hp => ?_, h.rg, h.len, h.inF⟩
  obtain ⟨b, off, hA, hc⟩ := h.sl hp
  exact ⟨b, off, hA, fun i x j u hx hu => k.cell (hc i x j u hx hu) (h.inF hp b (by rw [hA]; rfl))⟩
theorem Cd.more {F G : Nat → Prop} {w : World} {C : Option Addr} {CL : List Int} (h : Cd F w C CL) (hG : ∀ i, F i → G i) : Cd G w C CL := ⟨h.sl, h.rg, h.len, fun hp b hb => hG b (h.inF hp b hb)⟩
theorem Cd.at_ {F : Nat → Prop} {w : World} {C : Option Addr} {CL : List Int} (h : Cd F w C CL) {i : Nat} (hi : i < CL.length) : ∃ b off, C = some ⟨b, off, none⟩ ∧ w.cell? ⟨b, off + i, none⟩ = some (.int .u64 (rat CL i)) ∧ 0 ≤ rat CL i ∧ rat CL i < 18446744073709551616 := by
  obtain ⟨b, off, hA, hc⟩ := h.sl (by omega)
  have e : rat CL i = CL[i] := by unfold rat; rw [List.getElem?_eq_getElem hi]; rfl
  refine ⟨b, off, hA, ?_, ?_⟩
  · have := hc i CL[i] 0 (.int .u64 CL[i]) (List.getElem?_eq_getElem hi) rfl
    rw [e]
    simpa using this
  · rw [e]; exact h.rg _ (List.getElem_mem _)
def fetM (CL : List Int) (p : Int) : Except (Int × Int) In :=
  if p < 0 ∨ (CL.length : Int) ≤ p then .error (3, 0)
  else match decM (rat CL p.toNat).toNat with
    | none => .error (3, rat CL p.toNat)
    | some i => .ok i
def inV (r : Except (Int × Int) In) : Except (Int × Int) Value := match r with
  | .ok i => .ok (.agg #[.int .i64 i.op, .int .i64 i.a, .int .i64 i.b, .int .i64 i.c, .int .u64 i.n])
  | .error z => .error z

set_option maxRecDepth 100000 in
set_option maxHeartbeats 4000000 in
theorem fetch_mo (F : Nat → Prop) (f gt gf gc : Nat) (C : Option Addr) (cc : Nat) (CL : List Int) (env p : Int) (w : World) (hl : Fg w f gt gf gc C CL.length cc env) (c8 : w.cell? ⟨gc, 8, none⟩ = some (.int .i64 p)) (hc : Cd F w C CL) :
    Calls Try.prog 20 #[.pointer (some ⟨f, 0, none⟩)] w fun e w' => e = endE p (inV (fetM CL p)) ∧ Below w.heap.size w w' := by
  have hB := below1 w (Obj.cells #[.int .i64 0, .int .i64 0, .int .i64 0, .int .i64 0, .int .u64 0] 59)
  have bk := Blk.new w 59 #[.int .i64 0, .int .i64 0, .int .i64 0, .int .i64 0, .int .u64 0]
  have cf0 := kcell hB hl.c0
  have cf1 := kcell hB hl.c1
  have ca := kcell hB c8
  have hl0 := hl.c0
  have hc8 := c8
  clear c8
  unfold fetM
  by_cases h0 : p < 0
  · rw [if_pos (.inl h0)]
    simp only [inV]
    clear hl hc
    go_enter Try.func20, Try.ntmps20
    go_wp2_with fail
    generalize w.alloc (Obj.cells #[.int .i64 0, .int .i64 0, .int .i64 0, .int .i64 0, .int .u64 0] 59) = w1 at *
    go_quiet (fail)
    go_wp2_with fail
    refine (give_mo f 3 0 p gc _ (by exact cf0) (by exact ca)).mono ?_
    rintro e w3 ⟨rfl, rfl⟩
    simp only [bodyPost, endE]
    exact ⟨rfl, rfl, bdrewN hB _⟩
  · by_cases h1 : (CL.length : Int) ≤ p
    · rw [if_pos (.inr h1)]
      simp only [inV]
      clear hl hc
      generalize CL.length = n at *
      go_enter Try.func20, Try.ntmps20
      go_wp2_with fail
      generalize w.alloc (Obj.cells #[.int .i64 0, .int .i64 0, .int .i64 0, .int .i64 0, .int .u64 0] 59) = w1 at *
      go_quiet (fail)
      go_wp2_with fail
      refine (give_mo f 3 0 p gc _ (by exact cf0) (by exact ca)).mono ?_
      rintro e w3 ⟨rfl, rfl⟩
      simp only [bodyPost, endE]
      exact ⟨rfl, rfl, bdrewN hB _⟩
    · rw [if_neg (by omega)]
      obtain ⟨k, rfl⟩ := Int.eq_ofNat_of_zero_le (show 0 ≤ p by omega)
      rw [Int.toNat_natCast]
      have hlen := hc.len
      obtain ⟨b, off, hA, hx, hx0, hx1⟩ := hc.at_ (i := k) (by omega)
      subst hA
      replace hx := kcell hB hx
      obtain ⟨x, hxx⟩ := Int.eq_ofNat_of_zero_le hx0
      rw [hxx] at hx hx1 ⊢
      rw [Int.toNat_natCast]
      have HD := Lib.hid (fun W => decode_any x (by omega) W)
      unfold decV at HD
      clear hxx hx0 hx1 hl hc
      have hfl : f < w.heap.size := World.block_lt_of_cell? w _ hl0
      have hgl : gc < w.heap.size := World.block_lt_of_cell? w _ hc8
      have hl0' := Lib.hid hl0
      have hc8' := Lib.hid hc8
      clear hl0 hc8
      have hk : k < CL.length := by omega
      clear h0 h1 hlen
      generalize CL.length = n at *
      cases hd : decM x with
      | none =>
        rw [hd] at HD
        simp only [inV]
        simp only at HD
        go_enter Try.func20, Try.ntmps20
        go_wp2_with fail
        generalize w.alloc (Obj.cells #[.int .i64 0, .int .i64 0, .int .i64 0, .int .i64 0, .int .u64 0] 59) = w1 at *
        go_quiet (fail)
        go_wp2_with fail
        go_quiet (fail)
        go_wp2_with fail
        refine (HD.out _).mono ?_
        rintro e w2 ⟨rfl, hb⟩
        replace bk := (bk.drewN _).keep hb
        replace cf0 := kcell hb (show World.cell? _ _ = _ from cf0)
        replace ca := kcell hb (show World.cell? _ _ = _ from ca)
        replace hB := bstep (bdrewN hB _) (Nat.le_refl _) hb
        clear hb cf1 hx
        have hlt := bk.lt
        have bk4 := Blk.new w2 59 #[.int .i64 0, .int .i64 0, .int .i64 0, .int .i64 0, .int .u64 0]
        have z0 := bk.cell 0 (.int .i64 0) rfl
        have z1 := bk.cell 1 (.int .i64 0) rfl
        have z2 := bk.cell 2 (.int .i64 0) rfl
        have z3 := bk.cell 3 (.int .i64 0) rfl
        have z4 := bk.cell 4 (.int .u64 0) rfl
        have f0 := bk.frozen 0
        have f1 := bk.frozen 1
        have f2 := bk.frozen 2
        have f3 := bk.frozen 3
        have f4 := bk.frozen 4
        go_wp2_with fail
        refine (give_mo f 3 x k gc _ (kcell (below1 _ _) cf0) (kcell (below1 _ _) ca)).mono ?_
        rintro e w3 ⟨rfl, rfl⟩
        simp only [endE]
        go_wp2_with fail
        simp only [bodyPost, endE]
        exact ⟨trivial, trivial, hB.alloc hB.size _⟩
      | some i =>
        rw [hd] at HD
        simp only [inV]
        simp only at HD
        generalize hn0 : i.op = n0 at *
        generalize hn1 : i.a = n1 at *
        generalize hn2 : i.b = n2 at *
        generalize hn3 : i.c = n3 at *
        generalize hn4 : i.n = n4 at *
        clear hd hn0 hn1 hn2 hn3 hn4
        go_enter Try.func20, Try.ntmps20
        go_wp2_with fail
        generalize w.alloc (Obj.cells #[.int .i64 0, .int .i64 0, .int .i64 0, .int .i64 0, .int .u64 0] 59) = w1 at *
        go_quiet (fail)
        go_wp2_with fail
        go_quiet (fail)
        go_wp2_with fail
        refine (HD.out _).mono ?_
        rintro e w2 ⟨rfl, hb⟩
        replace bk := (bk.drewN _).keep hb
        replace hB := bstep (bdrewN hB _) (Nat.le_refl _) hb
        clear hb cf0 cf1 ca hx
        have hlt := bk.lt
        have bk4 := Blk.new w2 59 #[.int .i64 n0, .int .i64 n1, .int .i64 n2, .int .i64 n3, .int .u64 n4]
        have z0 := bk.cell 0 (.int .i64 0) rfl
        have z1 := bk.cell 1 (.int .i64 0) rfl
        have z2 := bk.cell 2 (.int .i64 0) rfl
        have z3 := bk.cell 3 (.int .i64 0) rfl
        have z4 := bk.cell 4 (.int .u64 0) rfl
        have f0 := bk.frozen 0
        have f1 := bk.frozen 1
        have f2 := bk.frozen 2
        have f3 := bk.frozen 3
        have f4 := bk.frozen 4
        go_wp2_with fail
        have hX := (hB.grown (only_set5 w2 w.heap.size (.int .i64 n0) (.int .i64 n1) (.int .i64 n2) (.int .i64 n3) (.int .u64 n4)) hB.size (fun k hk => by injection hk with hk; omega))
        exact bodyPost_ret (v := .agg #[.int .i64 n0, .int .i64 n1, .int .i64 n2, .int .i64 n3, .int .u64 n4]) (by simp [results, Try.results20, go_sem, *]) rfl ⟨rfl, hX.alloc hX.size _⟩
end Go.Proofs.Ytpimflmmfnffeaa

/- Walks: all instructions; Step, in any machine. -/
namespace Go.Proofs.Ytpimflmmfnffeaa
open Go.RowKit Go.Lib
open Tlb (Tb)
open Fr (FrS Fm)

theorem im_mo (F : Nat → Prop) (f gt gf gc : Nat) (C : Option Addr) (cl cc : Nat) (env : Int) (T : Int → Tt) (st : St) (i : In) (w : World) (q : Mo F w gt gf gc T st) (hl : Fg w f gt gf gc C cl cc env) (hf : F f) (ok : InOk i) (p0 : 0 ≤ st.pc) (p1 : st.pc < 9223372036854775807) :
    Calls Try.prog 19 #[.pointer (some ⟨f, 0, none⟩), .agg #[.int .i64 i.op, .int .i64 i.a, .int .i64 i.b, .int .i64 i.c, .int .u64 i.n]] w (RetO F gt gf gc T st (doM (T env) i st) w) := by
  obtain ⟨op, a, b, c, k⟩ := i
  obtain ⟨h0, h1, h2, h3, h4⟩ := ok
  simp only at h0 h1 h2 h3 h4
  rcases (by omega : op = 0 ∨ op = 1 ∨ op = 2 ∨ op = 3 ∨ op = 4 ∨ op = 5 ∨ op = 6 ∨ op = 7 ∨ op = 8 ∨ op = 9 ∨ op = 10 ∨ op = 11 ∨ op = 12 ∨ op = 13 ∨ op = 14 ∨ op = 15 ∨ op = 16 ∨ op = 17 ∨ op = 18) with rfl | rfl | rfl | rfl | rfl | rfl | rfl | rfl | rfl | rfl | rfl | rfl | rfl | rfl | rfl | rfl | rfl | rfl | rfl
  · exact im_halt F f gt gf gc C cl cc env T st a b c k w q hl hf h1 h2 h3 h4 p0 p1
  · exact im_set F f gt gf gc C cl cc env T st a b c k w q hl hf h1 h2 h3 h4 p0 p1
  · exact im_2 F f gt gf gc C cl cc env T st a b c k w q hl hf h1 h2 h3 h4 p0 p1
  · exact im_3 F f gt gf gc C cl cc env T st a b c k w q hl hf h1 h2 h3 h4 p0 p1
  · exact im_4 F f gt gf gc C cl cc env T st a b c k w q hl hf h1 h2 h3 h4 p0 p1
  · by_cases hz : rat st.R c = 0
    · exact im_div0 F f gt gf gc C cl cc env T st a b c k w q hl hf h1 h2 h3 h4 p0 p1 hz
    · exact im_div1 F f gt gf gc C cl cc env T st a b c k w q hl hf h1 h2 h3 h4 p0 p1 hz
  · exact im_6 F f gt gf gc C cl cc env T st a b c k w q hl hf h1 h2 h3 h4 p0 p1
  · exact im_7 F f gt gf gc C cl cc env T st a b c k w q hl hf h1 h2 h3 h4 p0 p1
  · exact im_8 F f gt gf gc C cl cc env T st a b c k w q hl hf h1 h2 h3 h4 p0 p1
  · exact im_9 F f gt gf gc C cl cc env T st a b c k w q hl hf h1 h2 h3 h4 p0 p1
  · exact im_10 F f gt gf gc C cl cc env T st a b c k w q hl hf h1 h2 h3 h4 p0 p1
  · exact im_11 F f gt gf gc C cl cc env T st a b c k w q hl hf h1 h2 h3 h4 p0 p1
  · cases hz : ldM (T env) st.s (adr (rat st.R b) k) with
    | error z => exact im_load0 F f gt gf gc C cl cc env T st a b c k w q hl hf h1 h2 h3 h4 p0 p1 z hz
    | ok v => exact im_load1 F f gt gf gc C cl cc env T st a b c k w q hl hf h1 h2 h3 h4 p0 p1 v hz
  · cases hz : stM (T env) st.s (adr (rat st.R b) k) (rat st.R a) with
    | error z => exact im_store0 F f gt gf gc C cl cc env T st a b c k w q hl hf h1 h2 h3 h4 p0 p1 z hz
    | ok v => exact im_store1 F f gt gf gc C cl cc env T st a b c k w q hl hf h1 h2 h3 h4 p0 p1 v hz
  · exact im_jump F f gt gf gc C cl cc env T st a b c k w q hl hf h1 h2 h3 h4 p0 p1
  · by_cases hz : rat st.R a = 0
    · exact im_branch0 F f gt gf gc C cl cc env T st a b c k w q hl hf h1 h2 h3 h4 p0 p1 hz
    · exact im_branch1 F f gt gf gc C cl cc env T st a b c k w q hl hf h1 h2 h3 h4 p0 p1 hz
  · exact im_ask F f gt gf gc C cl cc env T st a b c k w q hl hf h1 h2 h3 h4 p0 p1
  · exact im_link F f gt gf gc C cl cc env T st a b c k w q hl hf h1 h2 h3 h4 p0 p1
  · by_cases hz : 17592186044415 < rat st.R a
    · exact im_back0 F f gt gf gc C cl cc env T st a b c k w q hl hf h1 h2 h3 h4 p0 p1 hz
    · exact im_back1 F f gt gf gc C cl cc env T st a b c k w q hl hf h1 h2 h3 h4 p0 p1 hz
theorem stepM_eq (t : Tt) (C : List Int) (m : St) : stepM t C m = match fetM C m.pc with
    | .error z => (⟨z.1, m.pc, z.2⟩, m)
    | .ok i => match doM t i m with
      | .error z => (⟨z.1, m.pc, z.2⟩, m)
      | .ok q => (q.2, q.1) := by
  unfold stepM fetM
  split
  · rfl
  · cases decM (rat C m.pc.toNat).toNat <;> rfl
theorem fetM_ok {C : List Int} {p : Int} {i : In} (h : fetM C p = .ok i) : InOk i ∧ 0 ≤ p ∧ p < C.length := by
  unfold fetM at h
  split at h
  · cases h
  · rename_i hp
    split at h
    · cases h
    · rename_i j hj
      injection h with h
      subst h
      exact ⟨decM_ok hj, by omega, by omega⟩
def RetSt (F : Nat → Prop) (gt gf gc : Nat) (T : Int → Tt) (r : Tp × St) (w : World) (e : Ending) (w' : World) : Prop := e = .returned (.agg #[.int .i64 r.1.k, .int .i64 r.1.p, .int .u64 r.1.x]) ∧ Mo F w' gt gf gc T r.2 ∧ Kp F w w'
/-- only a block of G, none of F, has turned -/
theorem Mo.less_grown {F G : Nat → Prop} {w w' : World} {gt gf gc b : Nat} {T : Int → Tt} {st : St} (q : Mo G w gt gf gc T st) (hg : w.grownBy w' (some b)) (hFG : ∀ i, F i → G i) {B : Nat} (hF : ∀ i, F i → i < B) (hb : B ≤ b ∧ G b) : Mo F w' gt gf gc T st := by
  obtain ⟨A, c, L, h, m, q⟩ := q
  obtain ⟨_, o1, o2, o3, o4⟩ := q.off _ hb.2
  exact ⟨A, c, L, h, m, q.tb.only hg (Ne.symm o1) o4, ⟨q.fm.n0, q.fm.t, q.fm.b, q.fm.at_.grown hg (by simpa using Ne.symm o2)⟩, q.cp.grown hg (by simpa using Ne.symm o3), q.rg, q.uni, q.len, q.tt, q.tf, q.tc, q.fc, q.af, q.ac, fun i hi => ⟨Nat.lt_of_lt_of_le (q.off i (hFG i hi)).1 hg.size, (q.off i (hFG i hi)).2⟩⟩
theorem Kp.new_grown {F : Nat → Prop} {a w w' : World} {b : Nat} (h : Kp F a w) (hg : w.grownBy w' (some b)) (hF : ∀ i, F i → i < a.heap.size) (hb : a.heap.size ≤ b) : Kp F a w' :=
  ⟨hg.os.trans h.os, hg.tape.trans h.tape, hg.output.trans h.output, Nat.le_trans h.size hg.size, fun i hi => by
    have := hF i hi
    exact (hg.block i (by have := h.size; omega) (by simp; omega)).trans (h.block i hi)⟩

set_option maxRecDepth 100000 in
set_option maxHeartbeats 4000000 in
theorem step_fe (F : Nat → Prop) (gt gf gc : Nat) (C : Option Addr) (cc : Nat) (CL : List Int) (env : Int) (T : Int → Tt) (st : St) (w : World) (q : Mo F w gt gf gc T st) (hc : Cd F w C CL) (z : Int × Int) (hft : fetM CL st.pc = .error z) :
    Calls Try.prog 8 #[.pointer (some ⟨gc, 0, none⟩), .slice C CL.length cc, .agg #[.int .i64 env, .pointer (some ⟨gt, 0, none⟩), .pointer (some ⟨gf, 0, none⟩)]] w (RetSt F gt gf gc T (⟨z.1, st.pc, z.2⟩, st) w) := by
  have hmf : ∀ (fn : Fn) (first cap : Array Value) (w : World), (Instr.makeFunc fn first cap).run Try.prog w = .ok (.func fn first cap) w := fun _ _ _ _ => rfl
  obtain ⟨F3, hF3⟩ : ∃ F3 : Nat → Prop, F3 = fun i => ((F i ∨ i = w.heap.size) ∨ i = (w.alloc (Obj.cells #[.int .i64 env, .pointer (some ⟨gt, 0, none⟩), .pointer (some ⟨gf, 0, none⟩)] 30)).heap.size) ∨ i = ((w.alloc (Obj.cells #[.int .i64 env, .pointer (some ⟨gt, 0, none⟩), .pointer (some ⟨gf, 0, none⟩)] 30)).alloc (Obj.cells #[.int .i64 0, .int .i64 0, .int .u64 0] 41)).heap.size := ⟨_, rfl⟩
  have q3 := ((q.box (Obj.cells #[.int .i64 env, .pointer (some ⟨gt, 0, none⟩), .pointer (some ⟨gf, 0, none⟩)] 30)).box (Obj.cells #[.int .i64 0, .int .i64 0, .int .u64 0] 41)).box (Obj.cells #[.pointer (some ⟨gc, 0, none⟩), .slice C CL.length cc, .int .i64 env, .pointer (some ⟨gt, 0, none⟩), .pointer (some ⟨gf, 0, none⟩)] 77)
  rw [← hF3] at q3
  have HS : Hid ((∀ i, F i → F3 i) ∧ F3 w.heap.size ∧ F3 (w.heap.size + 1) ∧ F3 (w.heap.size + 1 + 1) ∧ ∀ i, F i → i < w.heap.size) := ⟨fun i hi => by rw [hF3]; exact .inl (.inl (.inl hi)), by rw [hF3]; exact .inl (.inl (.inr rfl)), by rw [hF3]; exact .inl (.inr (by simp)), by rw [hF3]; exact .inr (by simp), q.lt⟩
  have hB : Below w.heap.size w (((w.alloc (Obj.cells #[.int .i64 env, .pointer (some ⟨gt, 0, none⟩), .pointer (some ⟨gf, 0, none⟩)] 30)).alloc (Obj.cells #[.int .i64 0, .int .i64 0, .int .u64 0] 41)).alloc (Obj.cells #[.pointer (some ⟨gc, 0, none⟩), .slice C CL.length cc, .int .i64 env, .pointer (some ⟨gt, 0, none⟩), .pointer (some ⟨gf, 0, none⟩)] 77)) := ((below1 w (Obj.cells #[.int .i64 env, .pointer (some ⟨gt, 0, none⟩), .pointer (some ⟨gf, 0, none⟩)] 30)).alloc (by simp) _).alloc (by simp; omega) _
  have HB := Lib.hid (Kp.of_below hB q.lt)
  have bt := (Blk.new' (w.alloc (Obj.cells #[.int .i64 env, .pointer (some ⟨gt, 0, none⟩), .pointer (some ⟨gf, 0, none⟩)] 30)) 41 #[.int .i64 0, .int .i64 0, .int .u64 0] (g := w.heap.size + 1) (by simp)).alloc (Obj.cells #[.pointer (some ⟨gc, 0, none⟩), .slice C CL.length cc, .int .i64 env, .pointer (some ⟨gt, 0, none⟩), .pointer (some ⟨gf, 0, none⟩)] 77)
  have bf := Blk.new' ((w.alloc (Obj.cells #[.int .i64 env, .pointer (some ⟨gt, 0, none⟩), .pointer (some ⟨gf, 0, none⟩)] 30)).alloc (Obj.cells #[.int .i64 0, .int .i64 0, .int .u64 0] 41)) 77 #[.pointer (some ⟨gc, 0, none⟩), .slice C CL.length cc, .int .i64 env, .pointer (some ⟨gt, 0, none⟩), .pointer (some ⟨gf, 0, none⟩)] (g := w.heap.size + 1 + 1) (by simp)
  have hc3 := (hc.kp (Kp.of_below hB q.lt)).more HS.out.1
  clear hF3 q hc
  go_enter_defers Try.func8, Try.ntmps8
  go_wp2_with fail
  generalize (((w.alloc (Obj.cells #[.int .i64 env, .pointer (some ⟨gt, 0, none⟩), .pointer (some ⟨gf, 0, none⟩)] 30)).alloc (Obj.cells #[.int .i64 0, .int .i64 0, .int .u64 0] 41)).alloc (Obj.cells #[.pointer (some ⟨gc, 0, none⟩), .slice C CL.length cc, .int .i64 env, .pointer (some ⟨gt, 0, none⟩), .pointer (some ⟨gf, 0, none⟩)] 77)) = w1 at *
  clear hB
  have hl : Fg w1 (w.heap.size + 1 + 1) gt gf gc C CL.length cc env := ⟨bf.cell 0 _ rfl, bf.cell 1 _ rfl, bf.cell 2 _ rfl, bf.cell 3 _ rfl, bf.cell 4 _ rfl⟩
  have hfm := fetch_mo F3 (w.heap.size + 1 + 1) gt gf gc C cc CL env st.pc w1 hl q3.c8 hc3
  rw [hft] at hfm
  refine hfm.mono ?_
  rintro e w2 ⟨rfl, hb⟩
  replace q3 := q3.keep hb
  replace bt := bt.keep hb
  have HK : Hid (Kp F w w2) := HB.out.trans (Kp.of_below hb (fun i hi => by have := HS.out.2.2.2.2 i hi; have := bf.lt; omega))
  replace hl := hl.keep hb
  clear hb bf HB hfm
  simp only [inV, endE]
  have HQ := Lib.hid q3
  clear q3 hl hc3
  go_wp2_with fail
  refine leaves_cons (f := 18) (args := #[.pointer (some ⟨w.heap.size + 1, 0, none⟩)]) (by simp) (by simp [go_sem]) ?_
  refine (catch_trap _ z.1 st.pc z.2 _ _ _ [] _ bt).mono ?_
  rintro e u' w'' ⟨rfl, rfl, hgr, bt5⟩
  have k0 := bt5.cell 0 (.int .i64 z.1) rfl
  have k1 := bt5.cell 1 (.int .i64 st.pc) rfl
  have k2 := bt5.cell 2 (.int .u64 z.2) rfl
  have hX := HQ.out.less_grown hgr HS.out.1 HS.out.2.2.2.2 ⟨by omega, HS.out.2.2.1⟩
  have hY := HK.out.new_grown hgr HS.out.2.2.2.2 (by omega)
  simp [Leaves, settle, results, Try.results8, go_sem, k0, k1, k2]
  exact ⟨rfl, hX, hY⟩

set_option maxRecDepth 100000 in
set_option maxHeartbeats 4000000 in
theorem step_de (F : Nat → Prop) (gt gf gc : Nat) (C : Option Addr) (cc : Nat) (CL : List Int) (env : Int) (T : Int → Tt) (st : St) (w : World) (q : Mo F w gt gf gc T st) (hc : Cd F w C CL) (i : In) (hft : fetM CL st.pc = .ok i) (z : Int × Int) (hdo : doM (T env) i st = .error z) :
    Calls Try.prog 8 #[.pointer (some ⟨gc, 0, none⟩), .slice C CL.length cc, .agg #[.int .i64 env, .pointer (some ⟨gt, 0, none⟩), .pointer (some ⟨gf, 0, none⟩)]] w (RetSt F gt gf gc T (⟨z.1, st.pc, z.2⟩, st) w) := by
  have hmf : ∀ (fn : Fn) (first cap : Array Value) (w : World), (Instr.makeFunc fn first cap).run Try.prog w = .ok (.func fn first cap) w := fun _ _ _ _ => rfl
  obtain ⟨F3, hF3⟩ : ∃ F3 : Nat → Prop, F3 = fun i => ((F i ∨ i = w.heap.size) ∨ i = (w.alloc (Obj.cells #[.int .i64 env, .pointer (some ⟨gt, 0, none⟩), .pointer (some ⟨gf, 0, none⟩)] 30)).heap.size) ∨ i = ((w.alloc (Obj.cells #[.int .i64 env, .pointer (some ⟨gt, 0, none⟩), .pointer (some ⟨gf, 0, none⟩)] 30)).alloc (Obj.cells #[.int .i64 0, .int .i64 0, .int .u64 0] 41)).heap.size := ⟨_, rfl⟩
  have q3 := ((q.box (Obj.cells #[.int .i64 env, .pointer (some ⟨gt, 0, none⟩), .pointer (some ⟨gf, 0, none⟩)] 30)).box (Obj.cells #[.int .i64 0, .int .i64 0, .int .u64 0] 41)).box (Obj.cells #[.pointer (some ⟨gc, 0, none⟩), .slice C CL.length cc, .int .i64 env, .pointer (some ⟨gt, 0, none⟩), .pointer (some ⟨gf, 0, none⟩)] 77)
  rw [← hF3] at q3
  have HS : Hid ((∀ i, F i → F3 i) ∧ F3 w.heap.size ∧ F3 (w.heap.size + 1) ∧ F3 (w.heap.size + 1 + 1) ∧ ∀ i, F i → i < w.heap.size) := ⟨fun i hi => by rw [hF3]; exact .inl (.inl (.inl hi)), by rw [hF3]; exact .inl (.inl (.inr rfl)), by rw [hF3]; exact .inl (.inr (by simp)), by rw [hF3]; exact .inr (by simp), q.lt⟩
  have hB : Below w.heap.size w (((w.alloc (Obj.cells #[.int .i64 env, .pointer (some ⟨gt, 0, none⟩), .pointer (some ⟨gf, 0, none⟩)] 30)).alloc (Obj.cells #[.int .i64 0, .int .i64 0, .int .u64 0] 41)).alloc (Obj.cells #[.pointer (some ⟨gc, 0, none⟩), .slice C CL.length cc, .int .i64 env, .pointer (some ⟨gt, 0, none⟩), .pointer (some ⟨gf, 0, none⟩)] 77)) := ((below1 w (Obj.cells #[.int .i64 env, .pointer (some ⟨gt, 0, none⟩), .pointer (some ⟨gf, 0, none⟩)] 30)).alloc (by simp) _).alloc (by simp; omega) _
  have HB := Lib.hid (Kp.of_below hB q.lt)
  have bt := (Blk.new' (w.alloc (Obj.cells #[.int .i64 env, .pointer (some ⟨gt, 0, none⟩), .pointer (some ⟨gf, 0, none⟩)] 30)) 41 #[.int .i64 0, .int .i64 0, .int .u64 0] (g := w.heap.size + 1) (by simp)).alloc (Obj.cells #[.pointer (some ⟨gc, 0, none⟩), .slice C CL.length cc, .int .i64 env, .pointer (some ⟨gt, 0, none⟩), .pointer (some ⟨gf, 0, none⟩)] 77)
  have bf := Blk.new' ((w.alloc (Obj.cells #[.int .i64 env, .pointer (some ⟨gt, 0, none⟩), .pointer (some ⟨gf, 0, none⟩)] 30)).alloc (Obj.cells #[.int .i64 0, .int .i64 0, .int .u64 0] 41)) 77 #[.pointer (some ⟨gc, 0, none⟩), .slice C CL.length cc, .int .i64 env, .pointer (some ⟨gt, 0, none⟩), .pointer (some ⟨gf, 0, none⟩)] (g := w.heap.size + 1 + 1) (by simp)
  have hc3 := (hc.kp (Kp.of_below hB q.lt)).more HS.out.1
  clear hF3 q hc
  go_enter_defers Try.func8, Try.ntmps8
  go_wp2_with fail
  generalize (((w.alloc (Obj.cells #[.int .i64 env, .pointer (some ⟨gt, 0, none⟩), .pointer (some ⟨gf, 0, none⟩)] 30)).alloc (Obj.cells #[.int .i64 0, .int .i64 0, .int .u64 0] 41)).alloc (Obj.cells #[.pointer (some ⟨gc, 0, none⟩), .slice C CL.length cc, .int .i64 env, .pointer (some ⟨gt, 0, none⟩), .pointer (some ⟨gf, 0, none⟩)] 77)) = w1 at *
  clear hB
  have hl : Fg w1 (w.heap.size + 1 + 1) gt gf gc C CL.length cc env := ⟨bf.cell 0 _ rfl, bf.cell 1 _ rfl, bf.cell 2 _ rfl, bf.cell 3 _ rfl, bf.cell 4 _ rfl⟩
  have HD := Lib.hid (fun (W : World) hW hl (hi : InOk i ∧ 0 ≤ st.pc ∧ st.pc < CL.length) => im_mo F3 (w.heap.size + 1 + 1) gt gf gc C CL.length cc env T st i W hW hl HS.out.2.2.2.1 hi.1 hi.2.1 (by have := hc3.len; have := hi.2.2; omega))
  have hfm := fetch_mo F3 (w.heap.size + 1 + 1) gt gf gc C cc CL env st.pc w1 hl q3.c8 hc3
  rw [hft] at hfm
  refine hfm.mono ?_
  rintro e w2 ⟨rfl, hb⟩
  replace q3 := q3.keep hb
  replace bt := bt.keep hb
  have HK : Hid (Kp F w w2) := HB.out.trans (Kp.of_below hb (fun i hi => by have := HS.out.2.2.2.2 i hi; have := bf.lt; omega))
  replace hl := hl.keep hb
  clear hb bf HB hfm
  have hok := Lib.hid (fetM_ok hft)
  have HC := Lib.hid hc3
  clear hc3
  simp only [inV, endE]
  go_wp2_with fail
  have HD2 := HD.out w2 q3 hl hok.out
  clear HD hl q3
  rw [hdo] at HD2
  refine HD2.mono ?_
  rintro e w3 ⟨rfl, hq4, hk4⟩
  simp only [endE]
  replace bt := hk4.blk bt HS.out.2.2.1
  replace HK : Hid (Kp F w w3) := HK.out.trans (hk4.mono HS.out.1)
  have HQ := Lib.hid hq4
  clear HD2 hq4 hk4
  go_wp2_with fail
  refine leaves_cons (f := 18) (args := #[.pointer (some ⟨w.heap.size + 1, 0, none⟩)]) (by simp) (by simp [go_sem]) ?_
  refine (catch_trap _ z.1 st.pc z.2 _ _ _ [] _ bt).mono ?_
  rintro e u' w'' ⟨rfl, rfl, hgr, bt5⟩
  have k0 := bt5.cell 0 (.int .i64 z.1) rfl
  have k1 := bt5.cell 1 (.int .i64 st.pc) rfl
  have k2 := bt5.cell 2 (.int .u64 z.2) rfl
  have hX := HQ.out.less_grown hgr HS.out.1 HS.out.2.2.2.2 ⟨by omega, HS.out.2.2.1⟩
  have hY := HK.out.new_grown hgr HS.out.2.2.2.2 (by omega)
  simp [Leaves, settle, results, Try.results8, go_sem, k0, k1, k2]
  exact ⟨rfl, hX, hY⟩

set_option maxRecDepth 100000 in
set_option maxHeartbeats 4000000 in
theorem step_ok (F : Nat → Prop) (gt gf gc : Nat) (C : Option Addr) (cc : Nat) (CL : List Int) (env : Int) (T : Int → Tt) (st : St) (w : World) (q : Mo F w gt gf gc T st) (hc : Cd F w C CL) (i : In) (hft : fetM CL st.pc = .ok i) (y : St × Tp) (hdo : doM (T env) i st = .ok y) :
    Calls Try.prog 8 #[.pointer (some ⟨gc, 0, none⟩), .slice C CL.length cc, .agg #[.int .i64 env, .pointer (some ⟨gt, 0, none⟩), .pointer (some ⟨gf, 0, none⟩)]] w (RetSt F gt gf gc T (y.2, y.1) w) := by
  have hmf : ∀ (fn : Fn) (first cap : Array Value) (w : World), (Instr.makeFunc fn first cap).run Try.prog w = .ok (.func fn first cap) w := fun _ _ _ _ => rfl
  obtain ⟨F3, hF3⟩ : ∃ F3 : Nat → Prop, F3 = fun i => ((F i ∨ i = w.heap.size) ∨ i = (w.alloc (Obj.cells #[.int .i64 env, .pointer (some ⟨gt, 0, none⟩), .pointer (some ⟨gf, 0, none⟩)] 30)).heap.size) ∨ i = ((w.alloc (Obj.cells #[.int .i64 env, .pointer (some ⟨gt, 0, none⟩), .pointer (some ⟨gf, 0, none⟩)] 30)).alloc (Obj.cells #[.int .i64 0, .int .i64 0, .int .u64 0] 41)).heap.size := ⟨_, rfl⟩
  have q3 := ((q.box (Obj.cells #[.int .i64 env, .pointer (some ⟨gt, 0, none⟩), .pointer (some ⟨gf, 0, none⟩)] 30)).box (Obj.cells #[.int .i64 0, .int .i64 0, .int .u64 0] 41)).box (Obj.cells #[.pointer (some ⟨gc, 0, none⟩), .slice C CL.length cc, .int .i64 env, .pointer (some ⟨gt, 0, none⟩), .pointer (some ⟨gf, 0, none⟩)] 77)
  rw [← hF3] at q3
  have HS : Hid ((∀ i, F i → F3 i) ∧ F3 w.heap.size ∧ F3 (w.heap.size + 1) ∧ F3 (w.heap.size + 1 + 1) ∧ ∀ i, F i → i < w.heap.size) := ⟨fun i hi => by rw [hF3]; exact .inl (.inl (.inl hi)), by rw [hF3]; exact .inl (.inl (.inr rfl)), by rw [hF3]; exact .inl (.inr (by simp)), by rw [hF3]; exact .inr (by simp), q.lt⟩
  have hB : Below w.heap.size w (((w.alloc (Obj.cells #[.int .i64 env, .pointer (some ⟨gt, 0, none⟩), .pointer (some ⟨gf, 0, none⟩)] 30)).alloc (Obj.cells #[.int .i64 0, .int .i64 0, .int .u64 0] 41)).alloc (Obj.cells #[.pointer (some ⟨gc, 0, none⟩), .slice C CL.length cc, .int .i64 env, .pointer (some ⟨gt, 0, none⟩), .pointer (some ⟨gf, 0, none⟩)] 77)) := ((below1 w (Obj.cells #[.int .i64 env, .pointer (some ⟨gt, 0, none⟩), .pointer (some ⟨gf, 0, none⟩)] 30)).alloc (by simp) _).alloc (by simp; omega) _
  have HB := Lib.hid (Kp.of_below hB q.lt)
  have bt := (Blk.new' (w.alloc (Obj.cells #[.int .i64 env, .pointer (some ⟨gt, 0, none⟩), .pointer (some ⟨gf, 0, none⟩)] 30)) 41 #[.int .i64 0, .int .i64 0, .int .u64 0] (g := w.heap.size + 1) (by simp)).alloc (Obj.cells #[.pointer (some ⟨gc, 0, none⟩), .slice C CL.length cc, .int .i64 env, .pointer (some ⟨gt, 0, none⟩), .pointer (some ⟨gf, 0, none⟩)] 77)
  have bf := Blk.new' ((w.alloc (Obj.cells #[.int .i64 env, .pointer (some ⟨gt, 0, none⟩), .pointer (some ⟨gf, 0, none⟩)] 30)).alloc (Obj.cells #[.int .i64 0, .int .i64 0, .int .u64 0] 41)) 77 #[.pointer (some ⟨gc, 0, none⟩), .slice C CL.length cc, .int .i64 env, .pointer (some ⟨gt, 0, none⟩), .pointer (some ⟨gf, 0, none⟩)] (g := w.heap.size + 1 + 1) (by simp)
  have hc3 := (hc.kp (Kp.of_below hB q.lt)).more HS.out.1
  clear hF3 q hc
  go_enter_defers Try.func8, Try.ntmps8
  go_wp2_with fail
  generalize (((w.alloc (Obj.cells #[.int .i64 env, .pointer (some ⟨gt, 0, none⟩), .pointer (some ⟨gf, 0, none⟩)] 30)).alloc (Obj.cells #[.int .i64 0, .int .i64 0, .int .u64 0] 41)).alloc (Obj.cells #[.pointer (some ⟨gc, 0, none⟩), .slice C CL.length cc, .int .i64 env, .pointer (some ⟨gt, 0, none⟩), .pointer (some ⟨gf, 0, none⟩)] 77)) = w1 at *
  clear hB
  have hl : Fg w1 (w.heap.size + 1 + 1) gt gf gc C CL.length cc env := ⟨bf.cell 0 _ rfl, bf.cell 1 _ rfl, bf.cell 2 _ rfl, bf.cell 3 _ rfl, bf.cell 4 _ rfl⟩
  have HD := Lib.hid (fun (W : World) hW hl (hi : InOk i ∧ 0 ≤ st.pc ∧ st.pc < CL.length) => im_mo F3 (w.heap.size + 1 + 1) gt gf gc C CL.length cc env T st i W hW hl HS.out.2.2.2.1 hi.1 hi.2.1 (by have := hc3.len; have := hi.2.2; omega))
  have hfm := fetch_mo F3 (w.heap.size + 1 + 1) gt gf gc C cc CL env st.pc w1 hl q3.c8 hc3
  rw [hft] at hfm
  refine hfm.mono ?_
  rintro e w2 ⟨rfl, hb⟩
  replace q3 := q3.keep hb
  replace bt := bt.keep hb
  have HK : Hid (Kp F w w2) := HB.out.trans (Kp.of_below hb (fun i hi => by have := HS.out.2.2.2.2 i hi; have := bf.lt; omega))
  replace hl := hl.keep hb
  clear hb bf HB hfm
  have hok := Lib.hid (fetM_ok hft)
  have HC := Lib.hid hc3
  clear hc3
  simp only [inV, endE]
  go_wp2_with fail
  have HD2 := HD.out w2 q3 hl hok.out
  clear HD hl q3
  rw [hdo] at HD2
  refine HD2.mono ?_
  rintro e w3 ⟨rfl, hq4, hk4⟩
  replace bt := hk4.blk bt HS.out.2.2.1
  replace HK : Hid (Kp F w w3) := HK.out.trans (hk4.mono HS.out.1)
  have HQ := Lib.hid hq4
  have q8 := hq4.c8
  have g8 := hq4.frozen 8
  have hgcb : gc ≠ w.heap.size + 1 := by
    obtain ⟨A, c, L, h, m, q⟩ := hq4
    exact Ne.symm (q.off _ HS.out.2.2.1).2.2.2.1
  have k0 := bt.cell 0 (.int .i64 0) rfl
  have k1 := bt.cell 1 (.int .i64 0) rfl
  have k2 := bt.cell 2 (.int .u64 0) rfl
  have l0 := bt.frozen 0
  have l1 := bt.frozen 1
  have l2 := bt.frozen 2
  clear HD2 hq4 hk4
  go_wp2_with fail
  clear q8 g8 k0 k1 k2 l0 l1 l2
  refine leaves_cons (f := 18) (args := #[.pointer (some ⟨w.heap.size + 1, 0, none⟩)]) (by simp) (by simp [go_sem]) ?_
  refine (catch_idle _ _).mono ?_
  rintro e u' w'' ⟨rfl, rfl, rfl⟩
  have HP := Lib.hid (HQ.out.setP y.1.pc)
  have hX : Mo F3 (((((((w3.setCell ⟨gc, 8, none⟩ (.int .i64 y.1.pc)).setCell ⟨w.heap.size + 1, 0, none⟩ (.int .i64 y.2.k)).setCell ⟨w.heap.size + 1, 1, none⟩ (.int .i64 y.2.p)).setCell ⟨w.heap.size + 1, 2, none⟩ (.int .u64 y.2.x)).setCell ⟨w.heap.size + 1, 0, none⟩ (.int .i64 y.2.k)).setCell ⟨w.heap.size + 1, 1, none⟩ (.int .i64 y.2.p)).setCell ⟨w.heap.size + 1, 2, none⟩ (.int .u64 y.2.x)) gt gf gc T y.1 := (HP.out.1.out3 HS.out.2.2.1 y.2.k y.2.p y.2.x).out3 HS.out.2.2.1 y.2.k y.2.p y.2.x
  have hY : Kp F w (((((((w3.setCell ⟨gc, 8, none⟩ (.int .i64 y.1.pc)).setCell ⟨w.heap.size + 1, 0, none⟩ (.int .i64 y.2.k)).setCell ⟨w.heap.size + 1, 1, none⟩ (.int .i64 y.2.p)).setCell ⟨w.heap.size + 1, 2, none⟩ (.int .u64 y.2.x)).setCell ⟨w.heap.size + 1, 0, none⟩ (.int .i64 y.2.k)).setCell ⟨w.heap.size + 1, 1, none⟩ (.int .i64 y.2.p)).setCell ⟨w.heap.size + 1, 2, none⟩ (.int .u64 y.2.x)) := ((HK.out.trans (HP.out.2.mono HS.out.1)).new3 HS.out.2.2.2.2 (b := w.heap.size + 1) (by omega) y.2.k y.2.p y.2.x).new3 HS.out.2.2.2.2 (b := w.heap.size + 1) (by omega) y.2.k y.2.p y.2.x
  have bt5 : Blk (((((((w3.setCell ⟨gc, 8, none⟩ (.int .i64 y.1.pc)).setCell ⟨w.heap.size + 1, 0, none⟩ (.int .i64 y.2.k)).setCell ⟨w.heap.size + 1, 1, none⟩ (.int .i64 y.2.p)).setCell ⟨w.heap.size + 1, 2, none⟩ (.int .u64 y.2.x)).setCell ⟨w.heap.size + 1, 0, none⟩ (.int .i64 y.2.k)).setCell ⟨w.heap.size + 1, 1, none⟩ (.int .i64 y.2.p)).setCell ⟨w.heap.size + 1, 2, none⟩ (.int .u64 y.2.x)) (w.heap.size + 1) 41 #[.int .i64 y.2.k, .int .i64 y.2.p, .int .u64 y.2.x] := ((((((bt.far (p := ⟨gc, 8, none⟩) (Ne.symm hgcb) (.int .i64 y.1.pc)).set_ 0 (.int .i64 y.2.k)).set_ 1 (.int .i64 y.2.p)).set_ 2 (.int .u64 y.2.x)).set_ 0 (.int .i64 y.2.k)).set_ 1 (.int .i64 y.2.p)).set_ 2 (.int .u64 y.2.x)
  generalize (((((((w3.setCell ⟨gc, 8, none⟩ (.int .i64 y.1.pc)).setCell ⟨w.heap.size + 1, 0, none⟩ (.int .i64 y.2.k)).setCell ⟨w.heap.size + 1, 1, none⟩ (.int .i64 y.2.p)).setCell ⟨w.heap.size + 1, 2, none⟩ (.int .u64 y.2.x)).setCell ⟨w.heap.size + 1, 0, none⟩ (.int .i64 y.2.k)).setCell ⟨w.heap.size + 1, 1, none⟩ (.int .i64 y.2.p)).setCell ⟨w.heap.size + 1, 2, none⟩ (.int .u64 y.2.x)) = w5 at *
  have k0 := bt5.cell 0 (.int .i64 y.2.k) rfl
  have k1 := bt5.cell 1 (.int .i64 y.2.p) rfl
  have k2 := bt5.cell 2 (.int .u64 y.2.x) rfl
  simp [Leaves, settle, results, Try.results8, go_sem, k0, k1, k2]
  exact ⟨rfl, hX.less HS.out.1, hY⟩
theorem step_mo (F : Nat → Prop) (gt gf gc : Nat) (C : Option Addr) (cc : Nat) (CL : List Int) (env : Int) (T : Int → Tt) (st : St) (w : World) (q : Mo F w gt gf gc T st) (hc : Cd F w C CL) :
    Calls Try.prog 8 #[.pointer (some ⟨gc, 0, none⟩), .slice C CL.length cc, .agg #[.int .i64 env, .pointer (some ⟨gt, 0, none⟩), .pointer (some ⟨gf, 0, none⟩)]] w (RetSt F gt gf gc T (stepM (T env) CL st) w) := by
  rw [stepM_eq]
  cases hft : fetM CL st.pc with
  | error z => exact step_fe F gt gf gc C cc CL env T st w q hc z hft
  | ok i =>
    simp only
    cases hdo : doM (T env) i st with
    | error z => exact step_de F gt gf gc C cc CL env T st w q hc i hft z hdo
    | ok y => exact step_ok F gt gf gc C cc CL env T st w q hc i hft y hdo
end Go.Proofs.Ytpimflmmfnffeaa

/- Walk: Run, in any machine. -/
namespace Go.Proofs.Ytpimflmmfnffeaa
open Go.RowKit Go.Lib

def RetRun (F : Nat → Prop) (gt gf gc : Nat) (T : Int → Tt) (r : Tp × Nat × St) (w : World) (e : Ending) (w' : World) : Prop := e = .returned (.tuple #[.agg #[.int .i64 r.1.k, .int .i64 r.1.p, .int .u64 r.1.x], .int .i64 r.2.1]) ∧ Mo F w' gt gf gc T r.2.2 ∧ Kp F w w'

set_option maxRecDepth 100000 in
set_option maxHeartbeats 4000000 in
theorem run_mo (F : Nat → Prop) (gt gf gc : Nat) (C : Option Addr) (cc : Nat) (CL : List Int) (env : Int) (T : Int → Tt) (st : St) (k : Nat) (w : World) (q : Mo F w gt gf gc T st) (hc : Cd F w C CL) (hk : k ≤ 1000) :
    Calls Try.prog 9 #[.pointer (some ⟨gc, 0, none⟩), .slice C CL.length cc, .agg #[.int .i64 env, .pointer (some ⟨gt, 0, none⟩), .pointer (some ⟨gf, 0, none⟩)], .int .i64 k] w (RetRun F gt gf gc T (runM (T env) CL k 0 st) w) := by
  obtain ⟨F2, hF2⟩ : ∃ F2 : Nat → Prop, F2 = fun i => (F i ∨ i = w.heap.size) ∨ i = (w.alloc (Obj.cells #[.int .i64 env, .pointer (some ⟨gt, 0, none⟩), .pointer (some ⟨gf, 0, none⟩)] 30)).heap.size := ⟨_, rfl⟩
  have q2 := (q.box (Obj.cells #[.int .i64 env, .pointer (some ⟨gt, 0, none⟩), .pointer (some ⟨gf, 0, none⟩)] 30)).box (Obj.cells #[.int .i64 0, .int .i64 0, .int .u64 0] 41)
  rw [← hF2] at q2
  have HS : Hid ((∀ i, F i → F2 i) ∧ F2 w.heap.size ∧ F2 (w.heap.size + 1) ∧ ∀ i, F i → i < w.heap.size) := ⟨fun i hi => by rw [hF2]; exact .inl (.inl hi), by rw [hF2]; exact .inl (.inr rfl), by rw [hF2]; exact .inr (by simp), q.lt⟩
  have hB : Below w.heap.size w ((w.alloc (Obj.cells #[.int .i64 env, .pointer (some ⟨gt, 0, none⟩), .pointer (some ⟨gf, 0, none⟩)] 30)).alloc (Obj.cells #[.int .i64 0, .int .i64 0, .int .u64 0] 41)) := (below1 w (Obj.cells #[.int .i64 env, .pointer (some ⟨gt, 0, none⟩), .pointer (some ⟨gf, 0, none⟩)] 30)).alloc (by simp) _
  have HB := Lib.hid (Kp.of_below hB q.lt)
  have bp := (Blk.new w 30 #[.int .i64 env, .pointer (some ⟨gt, 0, none⟩), .pointer (some ⟨gf, 0, none⟩)]).alloc (Obj.cells #[.int .i64 0, .int .i64 0, .int .u64 0] 41)
  have bt := Blk.new' (w.alloc (Obj.cells #[.int .i64 env, .pointer (some ⟨gt, 0, none⟩), .pointer (some ⟨gf, 0, none⟩)] 30)) 41 #[.int .i64 0, .int .i64 0, .int .u64 0] (g := w.heap.size + 1) (by simp)
  have HC := Lib.hid ((hc.kp (Kp.of_below hB q.lt)).more HS.out.1)
  have hm1 : min (k : Int) 65536 = k := by omega
  have hm2 : max (0 : Int) k = k := by omega
  clear hF2 q hc
  go_enter Try.func9, Try.ntmps9
  go_wp2_with fail
  generalize ((w.alloc (Obj.cells #[.int .i64 env, .pointer (some ⟨gt, 0, none⟩), .pointer (some ⟨gf, 0, none⟩)] 30)).alloc (Obj.cells #[.int .i64 0, .int .i64 0, .int .u64 0] 41)) = w1 at *
  clear hB
  have HQ2 := Lib.hid q2
  clear q2
  go_loopw [10, 11, 17] (fun _ _ s17 wr => ∃ (j : Nat) (m : St), j ≤ k ∧ s17 = .int .i64 j ∧ Hid (Mo F2 wr gt gf gc T m ∧ Kp F w wr ∧ Kp F2 w1 wr) ∧ Hid (runM (T env) CL (k - j) j m = runM (T env) CL k 0 st)) (fun _ _ i _ => k - (intOf i).toNat)
  case atStart => exact ⟨0, st, Nat.zero_le _, rfl, ⟨HQ2.out, HB.out, Kp.refl F2 w1⟩, rfl⟩
  case round =>
    obtain ⟨j, m, hj, rfl, HR, HE⟩ := hrel
    by_cases hjk : j < k
    · have hst := Lib.hid (step_mo F2 gt gf gc C cc CL env T m wr HR.out.1 (HC.out.kp HR.out.2.2))
      obtain ⟨kk, pp, xx, m2, hr⟩ : ∃ kk pp xx m2, stepM (T env) CL m = (⟨kk, pp, xx⟩, m2) := ⟨_, _, _, _, rfl⟩
      rw [hr] at hst
      have HE1 : Hid (runM (T env) CL k 0 st = if kk = 0 then runM (T env) CL (k - (j + 1)) (j + 1) m2 else if kk = 1 then (⟨kk, pp, xx⟩, j + 1, m2) else (⟨kk, pp, xx⟩, j, m2)) := by
        unfold Hid
        rw [← HE.out, show k - j = (k - (j + 1)) + 1 by omega, runM, hr]
      have p0 := (HR.out.2.2.blk bp HS.out.2.1).cell 0 (.int .i64 env) rfl
      have p1 := (HR.out.2.2.blk bp HS.out.2.1).cell 1 (.pointer (some ⟨gt, 0, none⟩)) rfl
      have p2 := (HR.out.2.2.blk bp HS.out.2.1).cell 2 (.pointer (some ⟨gf, 0, none⟩)) rfl
      clear hr HE
      by_cases e0 : kk = 0
      · subst e0
        go_wp2_with fail
        refine hst.out.mono ?_
        rintro e w3 ⟨rfl, hq3, hk3⟩
        have HM : Hid (Mo F2 (w3.alloc (Obj.cells #[.int .i64 0, .int .i64 pp, .int .u64 xx] 41)) gt gf gc T m2 ∧ Kp F w (w3.alloc (Obj.cells #[.int .i64 0, .int .i64 pp, .int .u64 xx] 41)) ∧ Kp F2 w1 (w3.alloc (Obj.cells #[.int .i64 0, .int .i64 pp, .int .u64 xx] 41))) := ⟨hq3.keep (below1 w3 _), (HR.out.2.1.trans (hk3.mono HS.out.1)).trans ((hq3.kp (below1 w3 _)).mono HS.out.1), (HR.out.2.2.trans hk3).trans (hq3.kp (below1 w3 _))⟩
        clear hq3 hk3 p0 p1 p2
        go_wp2_with fail
        go_roundw
        case rel => exact ⟨j + 1, m2, by omega, by go_num, HM.out, by unfold Hid; rw [HE1.out]; simp⟩
        case measure => simp [intOf]; omega
      · by_cases e1 : kk = 1
        · subst e1
          go_wp2_with fail
          refine hst.out.mono ?_
          rintro e w3 ⟨rfl, hq3, hk3⟩
          have HM : Hid (Mo F2 (w3.alloc (Obj.cells #[.int .i64 1, .int .i64 pp, .int .u64 xx] 41)) gt gf gc T m2 ∧ Kp F w (w3.alloc (Obj.cells #[.int .i64 1, .int .i64 pp, .int .u64 xx] 41)) ∧ Kp F2 w1 (w3.alloc (Obj.cells #[.int .i64 1, .int .i64 pp, .int .u64 xx] 41))) := ⟨hq3.keep (below1 w3 _), (HR.out.2.1.trans (hk3.mono HS.out.1)).trans ((hq3.kp (below1 w3 _)).mono HS.out.1), (HR.out.2.2.trans hk3).trans (hq3.kp (below1 w3 _))⟩
          clear hq3 hk3 p0 p1 p2
          have bt3 := HM.out.2.2.blk bt HS.out.2.2.1
          have k0 := bt3.cell 0 (.int .i64 0) rfl
          have k1 := bt3.cell 1 (.int .i64 0) rfl
          have k2 := bt3.cell 2 (.int .u64 0) rfl
          have l0 := bt3.frozen 0
          have l1 := bt3.frozen 1
          have l2 := bt3.frozen 2
          go_wp2_with fail
          have HP := Lib.hid (And.intro (HM.out.1.out3 HS.out.2.2.1 (1) (pp) (xx)) (HM.out.2.1.new3 HS.out.2.2.2 (b := w.heap.size + 1) (by omega) (1) (pp) (xx)))
          change bodyPost _ _ _ _ _ (put3 (w3.alloc (Obj.cells #[.int .i64 1, .int .i64 pp, .int .u64 xx] 41)) (w.heap.size + 1) (1) (pp) (xx))
          refine bodyPost_ret (v := .tuple #[.agg #[.int .i64 (1), .int .i64 (pp), .int .u64 (xx)], .int .i64 (((j : Nat) : Int) + 1)]) (by simp [results, Try.results9, go_sem, put3, *]) rfl ?_
          unfold RetRun
          rw [HE1.out]
          simp only [if_true]
          exact ⟨rfl, HP.out.1.less HS.out.1, HP.out.2⟩
        · have HE0 : Hid (¬ kk = 0) := e0
          go_wp2_with fail
          refine hst.out.mono ?_
          rintro e w3 ⟨rfl, hq3, hk3⟩
          have HM : Hid (Mo F2 (w3.alloc (Obj.cells #[.int .i64 kk, .int .i64 pp, .int .u64 xx] 41)) gt gf gc T m2 ∧ Kp F w (w3.alloc (Obj.cells #[.int .i64 kk, .int .i64 pp, .int .u64 xx] 41)) ∧ Kp F2 w1 (w3.alloc (Obj.cells #[.int .i64 kk, .int .i64 pp, .int .u64 xx] 41))) := ⟨hq3.keep (below1 w3 _), (HR.out.2.1.trans (hk3.mono HS.out.1)).trans ((hq3.kp (below1 w3 _)).mono HS.out.1), (HR.out.2.2.trans hk3).trans (hq3.kp (below1 w3 _))⟩
          clear hq3 hk3 p0 p1 p2
          have bt3 := HM.out.2.2.blk bt HS.out.2.2.1
          have k0 := bt3.cell 0 (.int .i64 0) rfl
          have k1 := bt3.cell 1 (.int .i64 0) rfl
          have k2 := bt3.cell 2 (.int .u64 0) rfl
          have l0 := bt3.frozen 0
          have l1 := bt3.frozen 1
          have l2 := bt3.frozen 2
          go_wp2_with fail
          have HP := Lib.hid (And.intro (HM.out.1.out3 HS.out.2.2.1 (kk) (pp) (xx)) (HM.out.2.1.new3 HS.out.2.2.2 (b := w.heap.size + 1) (by omega) (kk) (pp) (xx)))
          change bodyPost _ _ _ _ _ (put3 (w3.alloc (Obj.cells #[.int .i64 kk, .int .i64 pp, .int .u64 xx] 41)) (w.heap.size + 1) (kk) (pp) (xx))
          refine bodyPost_ret (v := .tuple #[.agg #[.int .i64 (kk), .int .i64 (pp), .int .u64 (xx)], .int .i64 (j)]) (by simp [results, Try.results9, go_sem, put3, *]) rfl ?_
          unfold RetRun
          rw [HE1.out, if_neg HE0.out, if_neg e1]
          exact ⟨rfl, HP.out.1.less HS.out.1, HP.out.2⟩
    · obtain rfl : j = k := by omega
      have HM := HR
      have bt3 := HM.out.2.2.blk bt HS.out.2.2.1
      have k0 := bt3.cell 0 (.int .i64 0) rfl
      have k1 := bt3.cell 1 (.int .i64 0) rfl
      have k2 := bt3.cell 2 (.int .u64 0) rfl
      have l0 := bt3.frozen 0
      have l1 := bt3.frozen 1
      have l2 := bt3.frozen 2
      have HE1 : Hid (runM (T env) CL j 0 st = (⟨0, 0, 0⟩, j, m)) := by
        unfold Hid
        rw [← HE.out, Nat.sub_self]
        rfl
      go_wp2_with fail
      · have HP := Lib.hid (And.intro (HM.out.1.out3 HS.out.2.2.1 (0) (0) (0)) (HM.out.2.1.new3 HS.out.2.2.2 (b := w.heap.size + 1) (by omega) (0) (0) (0)))
        change bodyPost _ _ _ _ _ (put3 wr (w.heap.size + 1) (0) (0) (0))
        refine bodyPost_ret (v := .tuple #[.agg #[.int .i64 (0), .int .i64 (0), .int .u64 (0)], .int .i64 (((j : Nat) : Int))]) (by simp [results, Try.results9, go_sem, put3, *]) rfl ?_
        unfold RetRun
        rw [HE1.out]
        exact ⟨rfl, HP.out.1.less HS.out.1, HP.out.2⟩
      · obtain rfl : j = 0 := by omega
        have HP := Lib.hid (And.intro (HM.out.1.out3 HS.out.2.2.1 (0) (0) (0)) (HM.out.2.1.new3 HS.out.2.2.2 (b := w.heap.size + 1) (by omega) (0) (0) (0)))
        change bodyPost _ _ _ _ _ (put3 wr (w.heap.size + 1) (0) (0) (0))
        refine bodyPost_ret (v := .tuple #[.agg #[.int .i64 (0), .int .i64 (0), .int .u64 (0)], .int .i64 0]) (by simp [results, Try.results9, go_sem, put3, *]) rfl ?_
        unfold RetRun
        rw [HE1.out]
        exact ⟨rfl, HP.out.1.less HS.out.1, HP.out.2⟩
end Go.Proofs.Ytpimflmmfnffeaa
