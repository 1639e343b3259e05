/- Texts laid as one: K14, K15. -/
import Derived.Test.YtpimflmmfnffeaaZ15
import Derived.StillTailTactics
import Derived.Test.YtpimflmmfnffeaaZ4
import Derived.Test.YtpimflmmfnffeaaZ2
import Derived.Test.YtpimflmmfnffeaaZ5
import Derived.Deep.DeepCutAuto
import Derived.Deep.CutBlock
/- CpuPages: code whose pages are loaded when it stops at them does the same as though all had been loaded from the beginning. -/
namespace Go.Proofs.Ytpimflmmfnffeaa
open Go.RowKit Go.Lib
open Tlb (En Tb eE eE_ok enV)
open Fr (FrS Fm newF)

theorem info_int : (Try.prog.info? 3).map (fun i => (i.zero, i.size, i.bytes)) = some (some (.int .i64 0), 1, 8) := by kernel_rfl
theorem elI : Elem Try.prog 46 3 1 8 := elem_mk Try.underlying46 info_int rfl (by omega)
theorem kp_out {F : Nat → Prop} {a w : World} (h : Kp F a w) {p : Addr} (hp : ∀ i, F i → i ≠ p.block) (v : Value) : Kp F a (w.setCell p v) := ⟨h.os, h.tape, h.output, by simpa [World.setCell] using h.size, fun i hi => (Below.heap_setCell w p v i (hp i hi)).trans (h.block i hi)⟩
theorem below_mono9 {a w w' : World} (h : Below a.heap.size a w) (k : Below w.heap.size w w') : Below a.heap.size w w' := k.mono h.size
set_option maxRecDepth 100000 in
set_option maxHeartbeats 8000000 in
theorem pages_any (all took envn : Nat) (ha : all ≤ 255) (ht : took ≤ 255) (he : envn ≤ 255) (A : Option Addr) (c : Nat) (l : List En) (C : Option Addr) (cc : Nat) (CL : List Int) (most : Nat) (hmo : most ≤ 255) (w : World) (hs : Sl eE 4 w A l) (hl : l.length ≤ 9223372036854775807)
    (hcs : Sl eU 1 w C CL) (hc1 : ∀ v ∈ CL, 0 ≤ v ∧ v < 18446744073709551616) (hc2 : CL.length ≤ 9223372036854775807) :
    Calls Try.prog 4 #[.agg #[.int .u8 all, .int .u8 took, .slice A l.length c, .int .u8 envn], .slice C CL.length cc, .int .u8 most] w fun e w' => e = .returned (.bool true) ∧ Below w.heap.size w w' := by
  have HPL := Lib.hid (fun W (hW : Sl eE 4 W A l) (b : Bool) => place_any all took envn ha ht he A c l b W hW hl)
  obtain ⟨e8, he8⟩ : ∃ e8, e8 = envn % 8 := ⟨_, rfl⟩
  rw [← he8] at HPL
  obtain ⟨sF, hsF⟩ : ∃ sF, sF = takesF (took % 33) (newF (1 + all % 32)) := ⟨_, rfl⟩
  rw [← hsF] at HPL
  have HLA := Lib.hid (fun W (hW : Sl eE 4 W A l) (page : Int) => last_any all took envn e8 he8 A c l page W hW)
  clear he8 hsF ha ht he hl
  have HCD := Lib.hid (fun (Fb : Nat → Prop) (w' : World) (hb : Below w.heap.size w w') (hF : ∀ i, i < w.heap.size → Fb i) => cd_of hcs hc1 hc2 hb hF)
  have HS := Lib.hid hs
  clear hcs hc1 hc2 hs
  have hB0 := below1 w (Obj.cells #[.int .u8 all, .int .u8 took, .slice A l.length c, .int .u8 envn] 24)
  have bm := Blk.new w 24 #[.int .u8 all, .int .u8 took, .slice A l.length c, .int .u8 envn]
  go_enter Try.func4, Try.ntmps4
  go_wp2_with fail
  generalize w.alloc (Obj.cells #[.int .u8 all, .int .u8 took, .slice A l.length c, .int .u8 envn] 24) = w0 at *
  have hz0 : w.heap.size < w0.heap.size := bm.lt
  refine (awake_any w0).mono ?_
  rintro e w1 ⟨rfl, hb1⟩
  replace bm := bm.keep hb1
  replace hB0 := bstep hB0 (Nat.le_refl _) hb1
  have hz1 : w.heap.size < w1.heap.size := Nat.lt_of_lt_of_le hz0 hb1.size
  clear hb1 hz0
  have m2 := bm.cell 2 (.slice A l.length c) rfl
  by_cases h16 : 16 < l.length
  · have h16i : (16 : Int) < (l.length : Int) := by omega
    go_wp2_with fail
    refine (awake_any w1).mono ?_
    rintro e w2 ⟨rfl, hb2⟩
    have HF := Lib.hid (hB0.trans (hb2.mono (Nat.le_of_lt hz1)))
    clear hb2 m2 bm hB0
    go_wp2_with fail
    go_ret
    exact ⟨rfl, HF.out⟩
  · have h16i : ¬ (16 : Int) < (l.length : Int) := by omega
    go_upto_region 5 with (fail)
    clear m2
    go_cut [7, 8] (fun s7 s8 wx => ∃ b7 b8 gt gf gt' gf', s7 = .pointer (some ⟨b7, 0, none⟩) ∧ s8 = .pointer (some ⟨b8, 0, none⟩) ∧ w1.heap.size ≤ b7 ∧ w1.heap.size ≤ b8 ∧ b7 ≠ b8 ∧ Below w1.heap.size w1 wx ∧ TwoPl (fun i => i < w1.heap.size ∨ i = b7 ∨ i = b8) wx gt gf (loads l) gt' gf' [] sF ∧ Blk wx b7 30 (pA e8 gt gf) ∧ Blk wx b8 30 (pA e8 gt' gf'))
    case first =>
      have HBM := Lib.hid bm
      have HB0 := Lib.hid hB0
      have hlt16 : l.take 40 = l := List.take_of_length_le (by omega)
      have HPT : Hid (∀ W, Below w1.heap.size w1 W → Calls Try.prog 6 #[.agg #[.int .u8 all, .int .u8 took, .slice A l.length c, .int .u8 envn], .bool true] W (RetP (e8 : Int) (loads l) sF W)) := fun W hW => by
        have := HPL.out W (HS.out.keep (HB0.out.trans (hW.mono (by omega)))) true
        simp only [if_true, hlt16] at this
        exact this
      have HPF : Hid (∀ W, Below w1.heap.size w1 W → Calls Try.prog 6 #[.agg #[.int .u8 all, .int .u8 took, .slice A l.length c, .int .u8 envn], .bool false] W (RetP (e8 : Int) [] sF W)) := fun W hW => by
        have := HPL.out W (HS.out.keep (HB0.out.trans (hW.mono (by omega)))) false
        simpa using this
      clear hlt16 bm hB0
      refine region5 w1 w.heap.size _ _ _ _ (e8 : Int) (loads l) sF _ _ rfl (by kernel_rfl) rfl (by rfl) rfl HBM.out ⟨rfl, rfl, rfl, rfl⟩ ⟨_, rfl, rfl, rfl, rfl, by kernel_rfl⟩ ⟨_, rfl, rfl, rfl, rfl, by kernel_rfl⟩ ⟨_, rfl, rfl, rfl, rfl, by kernel_rfl⟩ ⟨_, rfl, rfl, rfl, rfl, by kernel_rfl⟩ ⟨_, rfl, rfl, rfl, rfl, by kernel_rfl⟩ ⟨_, rfl, rfl, rfl, rfl, by kernel_rfl⟩ ⟨_, rfl, rfl, rfl, rfl, by kernel_rfl⟩ ⟨_, rfl, rfl, rfl, rfl, by kernel_rfl⟩ HPT.out HPF.out ?_
      intro L γ wx hB
      obtain ⟨b7, b8, gt, gf, gt', gf', g1, g2, g3, g4, g5, g6, g7, g8, g9, g10⟩ := hB.all_
      unfold ptv at g1 g2
      have hkb := hB.kb
      have g8' : TwoPl (fun i => i < w1.heap.size ∨ i = b7 ∨ i = b8) wx gt gf (loads l) gt' gf' [] sF := g8.join (Below.refl _ _) (fun i hi => .inl (by rcases hi with hi | rfl | rfl; exact .inl hi; exact .inr (.inl g1); exact .inr (.inr g2)))
      have HX := Lib.hid (And.intro g3 (And.intro g4 (And.intro g5 (And.intro hkb (And.intro g8' (And.intro g9 g10))))))
      clear hB g3 g4 g5 hkb g8 g8' g9 g10
      simp only [D5, frV, Act.put, List.setIfInBounds_toArray, List.set_cons_zero, List.set_cons_succ, g1, g2]
      go_wp2_with fail
      go_meet
      case rel => exact ⟨b7, b8, gt, gf, gt', gf', rfl, rfl, HX.out.1, HX.out.2.1, HX.out.2.2.1, HX.out.2.2.2.1, HX.out.2.2.2.2.1, HX.out.2.2.2.2.2.1, HX.out.2.2.2.2.2.2⟩
    case rest =>
      obtain ⟨b7, b8, gt, gf, gt', gf', rfl, rfl, h71, h81, hne, hbx, htp, hb7, hb8⟩ := hcut
      have p0 := hb7.cell 0 (.int .i64 e8) rfl
      have p1 := hb7.cell 1 (.pointer (some ⟨gt, 0, none⟩)) rfl
      have p2 := hb7.cell 2 (.pointer (some ⟨gf, 0, none⟩)) rfl
      have q2 := hb8.cell 2 (.pointer (some ⟨gf', 0, none⟩)) rfl
      have h7l := hb7.lt
      have h8l := hb8.lt
      have hb4 : Below wc.heap.size wc ((wc.alloc (Obj.cells #[.int .u64 0, .int .u64 0, .int .u64 0, .int .u64 0, .int .u64 0, .int .u64 0, .int .u64 0, .int .u64 0, .int .i64 0] 36)).alloc (Obj.cells #[.int .u64 0, .int .u64 0, .int .u64 0, .int .u64 0, .int .u64 0, .int .u64 0, .int .u64 0, .int .u64 0, .int .i64 0] 36)) := (below1 wc _).alloc (by simp) _
      have ba := (Blk.new wc 36 #[.int .u64 0, .int .u64 0, .int .u64 0, .int .u64 0, .int .u64 0, .int .u64 0, .int .u64 0, .int .u64 0, .int .i64 0]).alloc (Obj.cells #[.int .u64 0, .int .u64 0, .int .u64 0, .int .u64 0, .int .u64 0, .int .u64 0, .int .u64 0, .int .u64 0, .int .i64 0] 36)
      have bb := Blk.new' (wc.alloc (Obj.cells #[.int .u64 0, .int .u64 0, .int .u64 0, .int .u64 0, .int .u64 0, .int .u64 0, .int .u64 0, .int .u64 0, .int .i64 0] 36)) 36 #[.int .u64 0, .int .u64 0, .int .u64 0, .int .u64 0, .int .u64 0, .int .u64 0, .int .u64 0, .int .u64 0, .int .i64 0] (g := wc.heap.size + 1) (by simp)
      obtain ⟨H0, hH0⟩ : ∃ H0 : Nat → Prop, H0 = fun i => i < w1.heap.size ∨ i = b7 ∨ i = b8 := ⟨_, rfl⟩
      have htw : Two H0 ((wc.alloc (Obj.cells #[.int .u64 0, .int .u64 0, .int .u64 0, .int .u64 0, .int .u64 0, .int .u64 0, .int .u64 0, .int .u64 0, .int .i64 0] 36)).alloc (Obj.cells #[.int .u64 0, .int .u64 0, .int .u64 0, .int .u64 0, .int .u64 0, .int .u64 0, .int .u64 0, .int .u64 0, .int .i64 0] 36)) ⟨gt, gf, wc.heap.size, tbl (loads l), ⟨List.replicate 8 0, 0, sF⟩⟩ ⟨gt', gf', wc.heap.size + 1, tbl [], ⟨List.replicate 8 0, 0, sF⟩⟩ := by
        refine (htp.join (H := fun i => (i < w1.heap.size ∨ i = b7 ∨ i = b8) ∨ i = wc.heap.size ∨ i = wc.heap.size + 1) hb4 (fun i hi => ?_)).cpus ba bb rng_zero rng_zero (by omega) (.inr (.inl rfl)) (.inr (.inr rfl)) (fun i hi => ?_)
        · rcases hi with hi | hi | hi
          · exact .inl hi
          · exact .inr ⟨by omega, by simp; omega⟩
          · exact .inr ⟨by omega, by simp; omega⟩
        · rw [hH0] at hi
          have hsz := hbx.size
          exact ⟨.inl hi, by rcases hi with hi | hi | hi <;> omega, by rcases hi with hi | hi | hi <;> omega⟩
      have HF : Hid ((∀ i, i < w.heap.size + 1 → H0 i) ∧ H0 b7 ∧ H0 b8) := ⟨fun i hi => by rw [hH0]; exact .inl (by omega), by rw [hH0]; exact .inr (.inl rfl), by rw [hH0]; exact .inr (.inr rfl)⟩
      have HB4 : Hid (Below w.heap.size w ((wc.alloc (Obj.cells #[.int .u64 0, .int .u64 0, .int .u64 0, .int .u64 0, .int .u64 0, .int .u64 0, .int .u64 0, .int .u64 0, .int .i64 0] 36)).alloc (Obj.cells #[.int .u64 0, .int .u64 0, .int .u64 0, .int .u64 0, .int .u64 0, .int .u64 0, .int .u64 0, .int .u64 0, .int .i64 0] 36))) := hB0.trans ((hbx.mono (Nat.le_of_lt hz1)).trans (hb4.mono (by have := hbx.size; omega)))
      have hmb : Blk ((wc.alloc (Obj.cells #[.int .u64 0, .int .u64 0, .int .u64 0, .int .u64 0, .int .u64 0, .int .u64 0, .int .u64 0, .int .u64 0, .int .i64 0] 36)).alloc (Obj.cells #[.int .u64 0, .int .u64 0, .int .u64 0, .int .u64 0, .int .u64 0, .int .u64 0, .int .u64 0, .int .u64 0, .int .i64 0] 36)) w.heap.size 24 #[.int .u8 all, .int .u8 took, .slice A l.length c, .int .u8 envn] := Blk.keep (show Blk wc w.heap.size 24 #[.int .u8 all, .int .u8 took, .slice A l.length c, .int .u8 envn] from (hbx.block _ hz1).trans bm) hb4
      have hp7 := hb7.keep hb4
      have hp8 := hb8.keep hb4
      clear bm hB0 hbx htp hb7 hb8 ba bb hH0
      go_wp2_with fail
      obtain ⟨gca, hgca⟩ : ∃ gca, gca = wc.heap.size := ⟨_, rfl⟩
      obtain ⟨gcb, hgcb⟩ : ∃ gcb, gcb = wc.heap.size + 1 := ⟨_, rfl⟩
      rw [← hgcb, ← hgca] at htw
      simp only [← hgcb]
      simp only [← hgca]
      clear p0 p1 p2 q2
      generalize (wc.alloc (Obj.cells #[.int .u64 0, .int .u64 0, .int .u64 0, .int .u64 0, .int .u64 0, .int .u64 0, .int .u64 0, .int .u64 0, .int .i64 0] 36)).alloc (Obj.cells #[.int .u64 0, .int .u64 0, .int .u64 0, .int .u64 0, .int .u64 0, .int .u64 0, .int .u64 0, .int .u64 0, .int .i64 0] 36) = w4 at *
      clear hgca hgcb hb4 h7l h8l hz1 hne h71 h81
      have HP7 := Lib.hid hp7
      have HP8 := Lib.hid hp8
      have HMB := Lib.hid hmb
      have HC4 := Lib.hid (HCD.out H0 w4 HB4.out (fun i hi => HF.out.1 i (by omega)))
      have HTW := Lib.hid htw
      clear hp7 hp8 hmb htw HCD HPL h16i
      have hl16 : l.length ≤ 16 := by omega
      clear h16
      obtain ⟨z, hz⟩ : ∃ z : St, z = ⟨List.replicate 8 0, 0, sF⟩ := ⟨_, rfl⟩
      obtain ⟨tk, tp, tx, n, sa, hra⟩ : ∃ tk tp tx n sa, runM (tbl (loads l) e8) CL most 0 z = (⟨tk, tp, tx⟩, n, sa) := ⟨_, _, _, _, _, rfl⟩
      obtain ⟨uk, up, ux, k, sb, hrb⟩ : ∃ uk up ux k sb, runM (tbl [] e8) CL most 0 z = (⟨uk, up, ux⟩, k, sb) := ⟨_, _, _, _, _, rfl⟩
      rw [← hz] at HTW
      have HRA := Lib.hid (HTW.out.left_ (R := fun e => e = .returned (.tuple #[.agg #[.int .i64 tk, .int .i64 tp, .int .u64 tx], .int .i64 n])) (T' := tbl (loads l)) (st' := sa) (f := 9) (args := #[.pointer (some ⟨gca, 0, none⟩), .slice C CL.length cc, .agg #[.int .i64 e8, .pointer (some ⟨gt, 0, none⟩), .pointer (some ⟨gf, 0, none⟩)], .int .i64 most]) (fun F hF hm => by
        have := run_mo F gt gf gca C cc CL e8 (tbl (loads l)) z most w4 hm (HC4.out.more hF) (by omega)
        rw [hra] at this
        exact this))
      have HPI : Hid (PI (tbl (loads l) e8) CL most z l e8 [] (tbl []) ⟨uk, up, ux⟩ k sb) := PI.start hrb
      refine HRA.out.mono ?_
      rintro e w5 ⟨rfl, htw5, hk5⟩
      clear HRA HTW
      have hkk5 := hk5.trans (htw5.kp (below1 w5 (Obj.cells #[.int .i64 tk, .int .i64 tp, .int .u64 tx] 41)))
      have hto5 := htw5.join (H := fun i => H0 i ∨ i = w5.heap.size) (below1 w5 (Obj.cells #[.int .i64 tk, .int .i64 tp, .int .u64 tx] 41)) (fun i hi => hi.imp id (fun h => ⟨by omega, by simp; omega⟩))
      have hbt := Blk.new w5 41 #[.int .i64 tk, .int .i64 tp, .int .u64 tx]
      have hp8 := hkk5.blk HP8.out HF.out.2.2
      have q0 := hp8.cell 0 (.int .i64 e8) rfl
      have q1 := hp8.cell 1 (.pointer (some ⟨gt', 0, none⟩)) rfl
      have q2 := hp8.cell 2 (.pointer (some ⟨gf', 0, none⟩)) rfl
      clear hp8 hk5 htw5
      go_wp2_with fail
      generalize hbt1 : w5.heap.size = bt1 at *
      generalize w5.alloc (Obj.cells #[.int .i64 tk, .int .i64 tp, .int .u64 tx] 41) = w6 at *
      clear hbt1
      have HRB := Lib.hid (hto5.swap.left_ (R := fun e => e = .returned (.tuple #[.agg #[.int .i64 uk, .int .i64 up, .int .u64 ux], .int .i64 k])) (T' := tbl []) (st' := sb) (f := 9) (args := #[.pointer (some ⟨gcb, 0, none⟩), .slice C CL.length cc, .agg #[.int .i64 e8, .pointer (some ⟨gt', 0, none⟩), .pointer (some ⟨gf', 0, none⟩)], .int .i64 most]) (fun F hF hm => by
        have := run_mo F gt' gf' gcb C cc CL e8 (tbl []) z most w6 hm ((HC4.out.kp hkk5).more (fun i hi => hF i (.inl hi))) (by omega)
        rw [hrb] at this
        exact this))
      have HT1 := Lib.hid hbt
      have HK6 := Lib.hid hkk5
      clear hbt hkk5 hto5
      refine HRB.out.mono ?_
      rintro e w7 ⟨rfl, htw7, hk7⟩
      clear HRB
      obtain ⟨H1, hH1⟩ : ∃ H1 : Nat → Prop, H1 = fun i => H0 i ∨ i = bt1 := ⟨_, rfl⟩
      rw [← hH1] at htw7 hk7
      have HF1 : Hid ((∀ i, H0 i → H1 i) ∧ H1 bt1) := ⟨fun i hi => by rw [hH1]; exact .inl hi, by rw [hH1]; exact .inr rfl⟩
      have hto8 := htw7.join (H := fun i => (H1 i ∨ i = w7.heap.size) ∨ blk (none : Option Addr) = some i) (below1 w7 (Obj.cells #[.int .i64 uk, .int .i64 up, .int .u64 ux] 41)) (fun i hi => by
        rcases hi with (hi | hi) | hi
        · exact .inl hi
        · exact .inr ⟨by omega, by simp; omega⟩
        · cases hi)
      have hk8 : Kp H1 w6 (w7.alloc (Obj.cells #[.int .i64 uk, .int .i64 up, .int .u64 ux] 41)) := hk7.trans (htw7.kp (below1 w7 _))
      have hb2 := Blk.new w7 41 #[.int .i64 uk, .int .i64 up, .int .u64 ux]
      have hs2 : (w7.alloc (Obj.cells #[.int .i64 uk, .int .i64 up, .int .u64 ux] 41)).heap.size = w7.heap.size + 1 := by simp
      have hl1 : ∀ i, H1 i → i < w7.heap.size := htw7.lt
      clear hH1 htw7 hk7 q0 q1 q2
      go_upto_block 0 with (fail)
      generalize hbt2 : w7.heap.size = bt2 at *
      generalize w7.alloc (Obj.cells #[.int .i64 uk, .int .i64 up, .int .u64 ux] 41) = w8 at *
      clear hbt2
      have HL1 := Lib.hid hl1
      have HK8 : Hid (Kp H0 w4 w8 ∧ Blk w8 bt1 41 #[.int .i64 tk, .int .i64 tp, .int .u64 tx]) := ⟨HK6.out.trans (hk8.mono HF1.out.1), hk8.blk HT1.out HF1.out.2⟩
      have HST := Lib.hid (And.intro hb2 (And.intro hs2 hto8))
      have HT : Hid (∀ p, tbl (loads l) e8 p = (lastL l e8 p).map fun x => (x.frame, x.write)) := fun p => by
        have := tbl_loads e8 p 16 l (Nat.le_refl _)
        rw [List.take_of_length_le hl16] at this
        exact this
      have HRE := Lib.hid hra
      clear hl1 hk8 hb2 hs2 hto8 HT1 HK6 hra hrb
      go_cut [14] (fun s14 wx => s14 = .int .i64 n ∧ ∃ T', Blk wx bt2 41 #[.int .i64 tk, .int .i64 tp, .int .u64 tx] ∧ Two H1 wx ⟨gt', gf', gcb, T', sa⟩ ⟨gt, gf, gca, tbl (loads l), sa⟩ ∧ Kp H1 w8 wx)
      case first =>
        go_wp2_with fail
        go_loopw [14, 15, 16, 17, 18, 19, 20, 21, 22] (fun s14 s15 s16 _ _ _ _ _ _ wr => ∃ (i : Nat) (got : List Int) (A1 : Option Addr) (c1 : Nat) (uk up ux : Int) (k : Nat) (sb : St) (T' : Int → Tt), got.length = i ∧ s16 = .int .i64 i ∧ s14 = .int .i64 k ∧ s15 = .slice A1 got.length c1 ∧
          Hid (Blk wr bt2 41 #[.int .i64 uk, .int .i64 up, .int .u64 ux] ∧ Own eI 1 wr w8.heap.size 3 A1 c1 got ∧ Two (fun i => (H1 i ∨ i = bt2) ∨ blk A1 = some i) wr ⟨gt', gf', gcb, T', sb⟩ ⟨gt, gf, gca, tbl (loads l), sa⟩ ∧ Kp H1 w8 wr) ∧ Hid (PI (tbl (loads l) e8) CL most z l e8 got T' ⟨uk, up, ux⟩ k sb)) (fun _ _ i _ _ _ _ _ _ _ => 20 - (intOf i).toNat)
        case atStart => exact ⟨0, [], none, 0, uk, up, ux, k, sb, tbl [], rfl, rfl, rfl, rfl, ⟨HST.out.1, Own.nil _ _ _, HST.out.2.2, Kp.refl H1 w8⟩, HPI.out⟩
        case round =>
          obtain ⟨i, got, A1, c1, uk, up, ux, k, sb, T', rfl, rfl, rfl, rfl, HR, HP⟩ := hrel
          have hgl : got.length ≤ 16 := HP.out.len hl16
          have hg17 : (got.length : Int) < 17 := by omega
          have t0 := HR.out.1.cell 0 (.int .i64 uk) rfl
          by_cases h5 : uk = 5
          · subst h5
            have t1 := HR.out.1.cell 1 (.int .i64 up) rfl
            have t2 := HR.out.1.cell 2 (.int .u64 ux) rfl
            obtain ⟨x0, x1⟩ : 0 ≤ ux ∧ ux < 18446744073709551616 := HP.out.xx rfl
            obtain ⟨pg, hpg⟩ : ∃ pg : Int, pg = ux / 16 := ⟨_, rfl⟩
            have hw : IntKind.i64.wrap pg = pg := by rw [IntKind.wrap_i64]; omega
            have hq16 : ux / 16 = pg := hpg.symm
            have HPG := Lib.hid hpg
            clear hpg
            have hkp : Kp H0 w4 wr := HK8.out.1.trans (HR.out.2.2.2.mono HF1.out.1)
            have hbw : Below w.heap.size w wr := HB4.out.trans (hkp.low (fun b hb => HF.out.1 b (by omega)))
            have hmr := hkp.blk HMB.out (HF.out.1 _ (by omega))
            have m0 := hmr.cell 0 (.int .u8 all) rfl
            have m1 := hmr.cell 1 (.int .u8 took) rfl
            have m2 := hmr.cell 2 (.slice A l.length c) rfl
            have m3 := hmr.cell 3 (.int .u8 envn) rfl
            have HLR := Lib.hid (HLA.out wr (HS.out.keep hbw) pg)
            rw [List.take_of_length_le hl16] at HLR
            obtain ⟨oX, hoX⟩ : ∃ oX, oX = lastL l e8 pg := ⟨_, rfl⟩
            rw [← hoX] at HLR
            replace hoX := Lib.hid hoX
            obtain ⟨x, hx⟩ : ∃ x, x = oX.getD zE := ⟨_, rfl⟩
            obtain ⟨b0, hb0⟩ : ∃ b0, b0 = oX.isSome := ⟨_, rfl⟩
            unfold RetLa enV at HLR
            rw [← hx, ← hb0] at HLR
            replace hx := Lib.hid hx
            replace hb0 := Lib.hid hb0
            clear hmr hkp hbw
            go_wp2_with fail
            with_reducible refine HLR.out.mono ?_
            rintro e w9 ⟨rfl, hb9⟩
            clear HLR m0 m1 m2 m3 t0 t1 t2 hw hq16 x0 x1
            have hbX := hb9.trans (below_mono9 hb9 (below1 w9 (Obj.cells #[.int .i64 x.env, .int .i64 x.page, .int .i64 x.frame, .bool x.write] 48)))
            have hbe := Blk.new w9 48 #[.int .i64 x.env, .int .i64 x.page, .int .i64 x.frame, .bool x.write]
            have hbez : wr.heap.size ≤ w9.heap.size := hb9.size
            have HBX := Lib.hid hbX
            have HBE := Lib.hid hbe
            clear hbX hbe hb9
            go_wp2_with fail
            generalize hbeq : w9.heap.size = be at *
            generalize w9.alloc (Obj.cells #[.int .i64 x.env, .int .i64 x.page, .int .i64 x.frame, .bool x.write] 48) = w10 at *
            clear hbeq
            go_loop [19, 20] (fun s19 s20 => ∃ j : Nat, j ≤ got.length ∧ s20 = .int .i64 j ∧ s19 = .bool (b0 && decide (pg ∉ got.take j))) (fun _ j => got.length - (intOf j).toNat)
            case atStart => exact ⟨0, Nat.zero_le _, rfl, by simp⟩
            case round =>
              obtain ⟨j, hj, rfl, h19⟩ := hrel
              have hown := HR.out.2.1.keep HBX.out
              by_cases hj2 : j < got.length
              · have j0 : (0 : Int) ≤ (j : Int) := by omega
                have j1 : (j : Int) < (got.length : Int) := by omega
                obtain ⟨qa, rfl⟩ : ∃ qa, A1 = some ⟨qa, 0, none⟩ := by
                  rcases hown.shape with ⟨_, e, _⟩ | ⟨q, rfl⟩
                  · rw [e] at hj2; simp at hj2
                  · exact ⟨q, rfl⟩
                have ya := own_cell eI_ok hown hj2 (j := 0) rfl
                simp only [Nat.mul_one, Nat.add_zero] at ya
                have HGJ : Hid (got.take (j + 1) = got.take j ++ [got[j]]) := by
                  unfold Hid
                  rw [List.take_add_one, List.getElem?_eq_getElem hj2]
                  rfl
                generalize got[j] = gj at *
                clear hown
                cases hbv : (b0 && decide (pg ∉ got.take j))
                · rw [hbv] at h19
                  subst h19
                  have HEQ : Hid ((b0 && decide (pg ∉ got.take (j + 1))) = false) := by
                    unfold Hid
                    rw [HGJ.out]
                    simp at hbv ⊢
                    intro h1 h2
                    exact absurd (hbv h1) h2
                  clear hbv ya
                  go_wp2_with fail
                  go_round
                  case rel => exact ⟨j + 1, by omega, by go_num, by rw [HEQ.out]⟩
                  case measure => simp [intOf]; omega
                · rw [hbv] at h19
                  subst h19
                  by_cases hgj : gj = pg
                  · have HEQ : Hid ((b0 && decide (pg ∉ got.take (j + 1))) = false) := by
                      unfold Hid
                      rw [HGJ.out, hgj]
                      simp
                    have hne : (gj != pg) = false := by simp [hgj]
                    clear hbv hgj HGJ
                    go_wp2_with fail
                    go_round
                    case rel => exact ⟨j + 1, by omega, by go_num, by rw [HEQ.out]⟩
                    case measure => simp [intOf]; omega
                  · have HEQ : Hid ((b0 && decide (pg ∉ got.take (j + 1))) = true) := by
                      unfold Hid
                      rw [HGJ.out]
                      simp at hbv ⊢
                      exact ⟨hbv.1, hbv.2, fun e => hgj e.symm⟩
                    have hne : (gj != pg) = true := by simp [hgj]
                    clear hbv hgj HGJ
                    go_wp2_with fail
                    go_round
                    case rel => exact ⟨j + 1, by omega, by go_num, by rw [HEQ.out]⟩
                    case measure => simp [intOf]; omega
              · obtain rfl : j = got.length := by omega
                rw [List.take_length] at h19
                cases hbv : (b0 && decide (pg ∉ got))
                · rw [hbv] at h19
                  subst h19
                  have HX : Hid (Blk w10 bt2 41 #[.int .i64 tk, .int .i64 tp, .int .u64 tx] ∧ k = n ∧ sb = sa) := by
                    have hd : lastL l e8 pg = none ∨ pg ∈ got := by
                      rw [hb0.out, hoX.out] at hbv
                      cases hl : lastL l e8 pg with
                      | none => exact .inl rfl
                      | some X => rw [hl] at hbv; simp at hbv; exact .inr hbv
                    have h1 := HP.out.done HT.out (.inr (by simp only; rw [← HPG.out]; exact hd))
                    rw [HRE.out] at h1
                    simp only [Prod.mk.injEq, Tp.mk.injEq] at h1
                    obtain ⟨⟨rfl, rfl, rfl⟩, rfl, rfl⟩ := h1
                    exact ⟨HR.out.1.keep HBX.out, rfl, rfl⟩
                  clear hbv hown
                  go_wp2_with fail
                  go_meet
                  case rel =>
                    obtain ⟨h1, rfl, rfl⟩ := HX.out
                    exact ⟨rfl, T', h1, (HR.out.2.2.1.keep HBX.out).less (fun i hi => .inl (.inl hi)), HR.out.2.2.2.trans ((HR.out.2.2.1.kp HBX.out).mono (fun i hi => .inl (.inl hi)))⟩
                · rw [hbv] at h19
                  subst h19
                  obtain ⟨hXs, hng⟩ : lastL l e8 pg = some x ∧ pg ∉ got := by
                    simp at hbv
                    refine ⟨?_, hbv.2⟩
                    have h1 := hbv.1
                    rw [hb0.out] at h1
                    rw [← hoX.out]
                    cases ho : oX with
                    | none => rw [ho] at h1; cases h1
                    | some X => rw [hx.out, ho]; rfl
                  obtain ⟨mk, hmk⟩ : ∃ mk : Nat, mk = most - k := ⟨_, rfl⟩
                  obtain ⟨vk, vp, vx, j, sb', hrv⟩ : ∃ vk vp vx j sb', runM (updT T' x e8) CL (most - k) 0 sb = (⟨vk, vp, vx⟩, j, sb') := ⟨_, _, _, _, _, rfl⟩
                  have HPN : Hid (PI (tbl (loads l) e8) CL most z l e8 (got ++ [pg]) (updT T' x) ⟨vk, vp, vx⟩ (k + j) sb') := by
                    have := HP.out.step HT.out rfl (X := x) (by simp only; rw [← HPG.out]; exact hXs) (by simp only; rw [← HPG.out]; exact hng) hrv
                    simp only at this
                    rw [← HPG.out] at this
                    exact this
                  have hkm := HP.out.le
                  have hglen : got.length < 16 := by have := HPN.out.len hl16; simp at this; omega
                  have hml : (most : Int) - (k : Int) = (mk : Int) := by omega
                  have hmk2 : mk ≤ 1000 := by omega
                  have hright := (lastL_mem hXs).2.2
                  have HLD := Lib.hid (fun (H : Nat → Prop) (W : World) (hW : Two H W ⟨gt', gf', gcb, T', sb⟩ ⟨gt, gf, gca, tbl (loads l), sa⟩) => hW.left_ (R := fun e => ∃ v, e = .returned v) (T' := updT T' x) (st' := sb) (f := 11) (args := #[.pointer (some ⟨gt', 0, none⟩), .agg #[.int .i64 x.env, .int .i64 x.page, .int .i64 x.frame, .bool x.write]]) (fun F hF hm => mload F gt' gf' gcb T' sb x W hm hright (fun L hu hT2 => Nat.lt_of_le_of_lt (tbl_small hu hT2 e8 got HP.out.ot) hglen)))
                  have HRN := Lib.hid (fun (H : Nat → Prop) (W : World) (hW : Two H W ⟨gt', gf', gcb, updT T' x, sb⟩ ⟨gt, gf, gca, tbl (loads l), sa⟩) (hC : Cd H W C CL) => hW.left_ (R := fun e => e = .returned (.tuple #[.agg #[.int .i64 vk, .int .i64 vp, .int .u64 vx], .int .i64 j])) (T' := updT T' x) (st' := sb') (f := 9) (args := #[.pointer (some ⟨gcb, 0, none⟩), .slice C CL.length cc, .agg #[.int .i64 e8, .pointer (some ⟨gt', 0, none⟩), .pointer (some ⟨gf', 0, none⟩)], .int .i64 mk]) (fun F hF hm => by
                    have := run_mo F gt' gf' gcb C cc CL e8 (updT T' x) sb mk W hm (hC.more hF) hmk2
                    rw [hmk, hrv] at this
                    rw [hmk]
                    exact this))
                  have HEN : Hid (∀ W : World, Calls Try.prog 12 #[.agg #[.int .i64 x.env, .int .i64 x.page, .int .i64 x.frame, .bool x.write]] W fun r w' => r = .returned (.agg #[.int .i64 x.env, .int .i64 x.page, .int .i64 x.frame, .bool x.write]) ∧ Keeps W w') := fun W => by
                    have := entry_any x W
                    unfold enV at this
                    exact this
                  have HOW := Lib.hid (hown.alloc (Obj.cells #[.int .i64 pg] 3))
                  have hsl := Lib.hid (Sl.new' eI_ok w10 pg #[.int .i64 pg] rfl 3 rfl)
                  have hz10 : w8.heap.size ≤ w10.heap.size := Nat.le_trans HR.out.2.2.2.size HBX.out.size
                  have hJJ : (k : Int) + (j : Int) = ((k + j : Nat) : Int) := by omega
                  have HJJ := Lib.hid hJJ
                  clear hbv hown hXs hng hmk hrv hright hJJ
                  go_upto_region 23 with (at_builtin; refine wpList_append_sl _ rfl _ _ rfl elI eI_ok HOW.out (n := got.length) rfl rfl (m := 1) rfl (ys := [pg]) rfl hsl.out (by simp only [maxLen]; omega) (by omega) (by simp; omega) _ rfl (got.length + 1) rfl ?_; intro A5 c5 w11 own11 hg11 at11)
                  have hb2n : ∀ q, blk A1 = some q → w8.heap.size ≤ q ∧ q < wr.heap.size := fun q hq => HR.out.2.1.lt q hq
                  have hbt8 : bt2 < w8.heap.size := by have := HST.out.2.1; omega
                  have h1l : ∀ i, H1 i → i < bt2 := HL1.out
                  have hba := below1 w10 (Obj.cells #[.int .i64 pg] 3)
                  have ht11 := ((HR.out.2.2.1.keep HBX.out).keep hba).row hg11 (A' := A5) (fun i hi => by
                    rcases at11 with h | h
                    · exact .inl (by rw [← h]; exact hi)
                    · right
                      rw [h] at hi
                      injection hi with hi
                      subst hi
                      exact ⟨Nat.le_refl _, (own11.lt _ h).2⟩)
                  have hbt11 : Blk w11 bt2 41 #[.int .i64 5, .int .i64 up, .int .u64 ux] := ((HR.out.1.keep HBX.out).keep hba).grown hg11 (fun e => by have := hb2n bt2 e.symm; omega)
                  have hbe11 := (HBE.out.keep hba).grown hg11 (fun e => by have := hb2n be e.symm; omega)
                  have hk11 : Kp H1 w8 w11 := (HR.out.2.2.2.trans (((HR.out.2.2.1.kp HBX.out).mono (fun i hi => .inl (.inl hi))).trans (((HR.out.2.2.1.keep HBX.out).kp hba).mono (fun i hi => .inl (.inl hi))))).trans (Kp.grown hg11 (fun i hi => ⟨by have := h1l i hi; simp; omega, fun e => by have := hb2n i e.symm; have := h1l i hi; omega⟩))
                  have hp8 := (HK8.out.1.trans (hk11.mono HF1.out.1)).blk HP8.out HF.out.2.2
                  have y1 := hp8.cell 1 (.pointer (some ⟨gt', 0, none⟩)) rfl
                  have z0 := hbe11.cell 0 (.int .i64 x.env) rfl
                  have z1 := hbe11.cell 1 (.int .i64 x.page) rfl
                  have z2 := hbe11.cell 2 (.int .i64 x.frame) rfl
                  have z3 := hbe11.cell 3 (.bool x.write) rfl
                  have HA11 := Lib.hid (And.intro ht11 (And.intro hbt11 (And.intro hk11 own11)))
                  clear ht11 hbt11 hbe11 hk11 hp8 own11 hg11 at11 hba hb2n HOW hsl HBE
                  have aft_y1 := cw_cell y1
                  have aft_z0 := cw_cell z0
                  have aft_z1 := cw_cell z1
                  have aft_z2 := cw_cell z2
                  have aft_z3 := cw_cell z3
                  refine wp_region_grand (Keeps _) (fun _ => Keeps) [] (fun _ _ _ => True) [4] [[4, 3, 2]] 158 (keeps_drew _) (fun _ _ _ h hz => keeps_trans h hz) (fun _ d hd _ v w w' _ h hz => by cases hd) (by kernel_rfl) (by kernel_rfl) (by rfl) ?_
                  repeat (first | (refine gr_row (by rfl) ?_; (try simp only [Act.put, List.setIfInBounds_toArray, List.set_cons_zero, List.set_cons_succ])) | (refine gr_free (by rfl) (by rfl) (by rfl) (by rfl) (by rfl) (fun K hK => ?_); go_big_quiet_op; refine hK _ ?_; clear hK K) | (refine gr_q (by rfl) (by rfl) (by rfl) (by rfl) (by rfl) (by rfl) (fun K hK => ?_); go_big_quiet_op; refine hK _ ?_; clear hK K) | (refine gr_no (by rfl) (by rfl) (by rfl) ?_; (try simp only [Act.put, List.setIfInBounds_toArray, List.set_cons_zero, List.set_cons_succ])) | (refine gr_call (by rfl) (by rfl) (by rfl) (by rfl) (by rfl) (fun K hK => ?_); go_simp; (try simp only [RUp, true_and]); first | (apply Exists.intro; refine ⟨fun n => ?_, hK _ ?_⟩; (with_reducible exact HEN.out _); clear hK K; (try simp only [Act.put, List.setIfInBounds_toArray, List.set_cons_zero, List.set_cons_succ])) | (apply Exists.intro; refine ⟨fun n => rfl, hK _ ?_⟩; clear hK K; (try simp only [Act.put, List.setIfInBounds_toArray, List.set_cons_zero, List.set_cons_succ]))))
                  refine gr_end ?_
                  intro γ w13 hb13 hT
                  clear aft_y1 aft_z0 aft_z1 aft_z2 aft_z3
                  simp only [putG, Act.put, List.setIfInBounds_toArray, List.set_cons_zero, List.set_cons_succ]
                  simp only [List.filterMap_cons, List.filterMap_nil, List.getElem?_cons_succ, List.getElem?_cons_zero]
                  clear y1 z0 z1 z2 z3
                  have hb13' : Below w11.heap.size w11 w13 := hb13
                  clear hb13 hT
                  have ht13 := HA11.out.1.keep hb13'
                  have hk13 := HA11.out.2.2.1.trans ((HA11.out.1.kp hb13').mono (fun i hi => .inl (.inl hi)))
                  have hp13 := (HK8.out.1.trans (hk13.mono HF1.out.1)).blk HP8.out HF.out.2.2
                  have HB13 := Lib.hid (And.intro hb13' hp13)
                  have HK13 := Lib.hid hk13
                  clear hb13' hk13 hp13
                  refine wpList_plain rfl (fun K hK => ?_)
                  go_wp2_with fail
                  with_reducible refine (HLD.out _ w13 ht13).mono ?_
                  rintro e w14 ⟨⟨v14, rfl⟩, ht14, hk14⟩
                  refine hK _ _ ?_
                  clear hK K
                  have hp14 := hk14.blk HB13.out.2 (.inl (.inl (HF1.out.1 _ HF.out.2.2)))
                  have q0 := hp14.cell 0 (.int .i64 e8) rfl
                  have q1 := hp14.cell 1 (.pointer (some ⟨gt', 0, none⟩)) rfl
                  have q2 := hp14.cell 2 (.pointer (some ⟨gf', 0, none⟩)) rfl
                  refine only_end ?_
                  (try simp only [Act.put])
                  have hC14 : Cd (fun i => (H1 i ∨ i = bt2) ∨ blk A5 = some i) w14 C CL := (HC4.out.kp ((HK8.out.1.trans (HK13.out.mono HF1.out.1)).trans (hk14.mono (fun i hi => .inl (.inl (HF1.out.1 i hi)))))).more (fun i hi => .inl (.inl (HF1.out.1 i hi)))
                  have hkj : k + j ≤ 255 := Nat.le_trans HPN.out.le hmo
                  clear hp14
                  go_wp2_with fail
                  with_reducible refine (HRN.out _ w14 ht14 hC14).mono ?_
                  rintro e w15 ⟨rfl, ht15, hk15⟩
                  have hba := below1 w15 (Obj.cells #[.int .i64 vk, .int .i64 vp, .int .u64 vx] 41)
                  have hb2 := (hk15.blk (hk14.blk (HA11.out.2.1.keep HB13.out.1) (.inl (.inr rfl))) (.inl (.inr rfl))).keep hba
                  have hown16 := (own_kp (own_kp (HA11.out.2.2.2.keep HB13.out.1) hk14 (fun b hb => .inr hb)) hk15 (fun b hb => .inr hb)).keep hba
                  have hk16 : Kp H1 w8 (w15.alloc (Obj.cells #[.int .i64 vk, .int .i64 vp, .int .u64 vx] 41)) := ((HK13.out.trans (hk14.mono (fun i hi => .inl (.inl hi)))).trans (hk15.mono (fun i hi => .inl (.inl hi)))).trans ((ht15.kp hba).mono (fun i hi => .inl (.inl hi)))
                  have ht16 := ht15.keep hba
                  have HBV := Lib.hid (Blk.new w15 41 #[.int .i64 vk, .int .i64 vp, .int .u64 vx])
                  clear hC14 ht14 hk14 ht15 hk15 hba q0 q1 q2 ht13
                  have t0 := hb2.cell 0 (.int .i64 5) rfl
                  have t1 := hb2.cell 1 (.int .i64 up) rfl
                  have t2 := hb2.cell 2 (.int .u64 ux) rfl
                  have f0 := hb2.frozen 0
                  have f1 := hb2.frozen 1
                  have f2 := hb2.frozen 2
                  have HN : Hid (Blk (put3 (w15.alloc (Obj.cells #[.int .i64 vk, .int .i64 vp, .int .u64 vx] 41)) bt2 vk vp vx) bt2 41 #[.int .i64 vk, .int .i64 vp, .int .u64 vx] ∧ Own eI 1 (put3 (w15.alloc (Obj.cells #[.int .i64 vk, .int .i64 vp, .int .u64 vx] 41)) bt2 vk vp vx) w8.heap.size 3 A5 c5 (got ++ [pg]) ∧ Two (fun i => (H1 i ∨ i = bt2) ∨ blk A5 = some i) (put3 (w15.alloc (Obj.cells #[.int .i64 vk, .int .i64 vp, .int .u64 vx] 41)) bt2 vk vp vx) ⟨gt', gf', gcb, updT T' x, sb'⟩ ⟨gt, gf, gca, tbl (loads l), sa⟩ ∧ Kp H1 w8 (put3 (w15.alloc (Obj.cells #[.int .i64 vk, .int .i64 vp, .int .u64 vx] 41)) bt2 vk vp vx)) := by
                    have hne : blk A5 ≠ some bt2 := fun e => by have := (hown16.lt _ e).1; omega
                    have hg : (w15.alloc (Obj.cells #[.int .i64 vk, .int .i64 vp, .int .u64 vx] 41)).grownBy (put3 (w15.alloc (Obj.cells #[.int .i64 vk, .int .i64 vp, .int .u64 vx] 41)) bt2 vk vp vx) (some bt2) := only_set (only_set (only_set (only_refl _ bt2) 0 _) 1 _) 2 _
                    refine ⟨((hb2.set_ 0 _).set_ 1 _).set_ 2 _, hown16.kept hg (.inr hne), ((ht16.out (a := ⟨bt2, 0, none⟩) (.inl (.inr rfl)) _).out (a := ⟨bt2, 1, none⟩) (.inl (.inr rfl)) _).out (a := ⟨bt2, 2, none⟩) (.inl (.inr rfl)) _, ?_⟩
                    have hne1 : ∀ i, H1 i → i ≠ bt2 := fun i hi => by have := h1l i hi; omega
                    exact kp_out (kp_out (kp_out hk16 (p := ⟨bt2, 0, none⟩) hne1 _) (p := ⟨bt2, 1, none⟩) hne1 _) (p := ⟨bt2, 2, none⟩) hne1 _
                  clear hb2 hown16 hk16 ht16
                  go_wp2_with fail
                  go_roundw
                  case rel => exact ⟨got.length + 1, got ++ [pg], A5, c5, vk, vp, vx, k + j, sb', updT T' x, by simp, by go_num, by rw [← HJJ.out], by rw [List.length_append]; rfl, HN.out, HPN.out⟩
                  case measure => simp [intOf]; omega
          · have HX : Hid (Blk wr bt2 41 #[.int .i64 tk, .int .i64 tp, .int .u64 tx] ∧ k = n ∧ sb = sa) := by
              have h1 := HP.out.done HT.out (.inl h5)
              rw [HRE.out] at h1
              simp only [Prod.mk.injEq, Tp.mk.injEq] at h1
              obtain ⟨⟨rfl, rfl, rfl⟩, rfl, rfl⟩ := h1
              exact ⟨HR.out.1, rfl, rfl⟩
            go_wp2_with fail
            go_meet
            case rel =>
              obtain ⟨h1, rfl, rfl⟩ := HX.out
              exact ⟨rfl, T', h1, HR.out.2.2.1.less (fun i hi => .inl (.inl hi)), HR.out.2.2.2⟩
      case rest =>
        obtain ⟨rfl, T', hbt2, htw, hkp⟩ := hcut
        obtain ⟨R, p, s⟩ := sa
        obtain ⟨r0, r1, r2, r3, r4, r5, r6, r7, rfl⟩ := rng_eight htw.mo.rng
        have hb : Blk wc gcb 36 #[.int .u64 r0, .int .u64 r1, .int .u64 r2, .int .u64 r3, .int .u64 r4, .int .u64 r5, .int .u64 r6, .int .u64 r7, .int .i64 p] := htw.mo.cpu
        have ha : Blk wc gca 36 #[.int .u64 r0, .int .u64 r1, .int .u64 r2, .int .u64 r3, .int .u64 r4, .int .u64 r5, .int .u64 r6, .int .u64 r7, .int .i64 p] := htw.swap.mo.cpu
        have hbt1 := hkp.blk HK8.out.2 HF1.out.2
        have u0 := hbt1.cell 0 (.int .i64 tk) rfl
        have u1 := hbt1.cell 1 (.int .i64 tp) rfl
        have u2 := hbt1.cell 2 (.int .u64 tx) rfl
        have v0 := hbt2.cell 0 (.int .i64 tk) rfl
        have v1 := hbt2.cell 1 (.int .i64 tp) rfl
        have v2 := hbt2.cell 2 (.int .u64 tx) rfl
        have cb0 := hb.cell 0 (.int .u64 r0) rfl
        have cb1 := hb.cell 1 (.int .u64 r1) rfl
        have cb2 := hb.cell 2 (.int .u64 r2) rfl
        have cb3 := hb.cell 3 (.int .u64 r3) rfl
        have cb4 := hb.cell 4 (.int .u64 r4) rfl
        have cb5 := hb.cell 5 (.int .u64 r5) rfl
        have cb6 := hb.cell 6 (.int .u64 r6) rfl
        have cb7 := hb.cell 7 (.int .u64 r7) rfl
        have cb8 := hb.cell 8 (.int .i64 p) rfl
        have ca0 := ha.cell 0 (.int .u64 r0) rfl
        have ca1 := ha.cell 1 (.int .u64 r1) rfl
        have ca2 := ha.cell 2 (.int .u64 r2) rfl
        have ca3 := ha.cell 3 (.int .u64 r3) rfl
        have ca4 := ha.cell 4 (.int .u64 r4) rfl
        have ca5 := ha.cell 5 (.int .u64 r5) rfl
        have ca6 := ha.cell 6 (.int .u64 r6) rfl
        have ca7 := ha.cell 7 (.int .u64 r7) rfl
        have ca8 := ha.cell 8 (.int .i64 p) rfl
        have htq := trap_neq tk tp tx
        have hcq := cpu_neq r0 r1 r2 r3 r4 r5 r6 r7 p
        have hk4 : Kp H0 w4 wc := HK8.out.1.trans (hkp.mono HF1.out.1)
        have HX := Lib.hid (And.intro htw hk4)
        have HFA := Lib.hid htw.swap.mo.fr
        have HFB := Lib.hid htw.mo.fr
        clear hb ha hbt1 hbt2 htw hkp hk4
        go_wp2_with fail
        go_quiet (fail)
        clear htq hcq u0 u1 u2 v0 v1 v2 ca0 cb0 ca1 cb1 ca2 cb2 ca3 cb3 ca4 cb4 ca5 cb5 ca6 cb6 ca7 cb7 ca8 cb8
        go_wp2_with fail
        go_loopw [23] (fun s23 wy => ∃ f : Nat, f ≤ 32 ∧ s23 = .int .i64 f ∧ Below wc.heap.size wc wy) (fun i _ => 32 - (intOf i).toNat)
        case atStart => exact ⟨0, by omega, rfl, bdrewN (Below.refl _ wc) nq⟩
        case round =>
          obtain ⟨f, hf, rfl, hBy⟩ := hrel
          have hp7 := (HX.out.2.blk HP7.out HF.out.2.1).keep hBy
          have hp8 := (HX.out.2.blk HP8.out HF.out.2.2).keep hBy
          have y7 := hp7.cell 2 (.pointer (some ⟨gf, 0, none⟩)) rfl
          have y8 := hp8.cell 2 (.pointer (some ⟨gf', 0, none⟩)) rfl
          by_cases hf32 : f < 32
          · have HBA := Lib.hid (fun W (hW : Keeps wr W) => bytes_mo s gf f W ((HFA.out.keep hBy).keep hW))
            have HBB := Lib.hid (fun W (hW : Keeps wr W) => bytes_mo s gf' f W ((HFB.out.keep hBy).keep hW))
            have f32i : (f : Int) < 32 := by omega
            generalize hSS : fS s f = SS at *
            replace hSS := Lib.hid hSS
            have HBY2 := Lib.hid hBy
            clear hp7 hp8 hBy
            go_upto_region 31 with (fail)
            have aft_y7 := kc_cell y7
            have aft_y8 := kc_cell y8
            refine wp_region_rely Keeps way_keeps [149, 154] (fun _ v w => BytesV SS v w) (fun _ _ _ _ _ h hr => h.keep hr) 158 (by kernel_rfl) (by kernel_rfl) (by rfl) ?_
            repeat (first | (refine rl_q (by rfl) (by rfl) (by rfl) (by rfl) (fun K hK => ?_); go_big_quiet_op; refine hK _ ?_; clear hK K) | (refine rl_skip (by rfl) (by rfl) ?_; (try simp only [Act.put, List.setIfInBounds_toArray, List.set_cons_zero, List.set_cons_succ])) | (refine rl_call (by rfl) (by rfl) (by rfl) (by rfl) (fun K hK => ?_); go_simp; (try simp only [RUp, true_and]); first | (apply Exists.intro; refine ⟨fun n => rfl, hK _ ?_⟩; clear hK K; (try simp only [Act.put, List.setIfInBounds_toArray, List.set_cons_zero, List.set_cons_succ]))) | (refine rl_n 149 [] (by rfl) (by rfl) (by rfl) (fun γ w hR hT => ?_) ?_; (go_simp; exact nup_f (Below.refl _ _) (HBA.out _ hR)); (try simp only [Act.put, List.setIfInBounds_toArray, List.set_cons_zero, List.set_cons_succ])) | (refine rl_n 154 [] (by rfl) (by rfl) (by rfl) (fun γ w hR hT => ?_) ?_; (go_simp; exact nup_f (Below.refl _ _) (HBB.out _ hR)); (try simp only [Act.put, List.setIfInBounds_toArray, List.set_cons_zero, List.set_cons_succ])) | (refine rl_u (.string SS) [149] (by rfl) (by rfl) (by simp) (by rfl) (fun γ w hR hT => ?_) ?_; ((have hc := hT 149 (by simp) w (Below.refl _ _)); simp only [putG, Act.put, List.setIfInBounds_toArray, List.set_cons_zero, List.set_cons_succ] at *; go_simp; exact nup_v (Below.refl _ _) rfl); (try simp only [Act.put, List.setIfInBounds_toArray, List.set_cons_zero, List.set_cons_succ])) | (refine rl_u (.string SS) [154] (by rfl) (by rfl) (by simp) (by rfl) (fun γ w hR hT => ?_) ?_; ((have hc := hT 154 (by simp) w (Below.refl _ _)); simp only [putG, Act.put, List.setIfInBounds_toArray, List.set_cons_zero, List.set_cons_succ] at *; go_simp; exact nup_v (Below.refl _ _) rfl); (try simp only [Act.put, List.setIfInBounds_toArray, List.set_cons_zero, List.set_cons_succ])))
            refine rl_end ?_
            intro γ w6b hb6 hT
            clear aft_y7 aft_y8
            simp only [putG, Act.put, List.setIfInBounds_toArray, List.set_cons_zero, List.set_cons_succ]
            have HB6 := Lib.hid (bstep HBY2.out (Nat.le_refl _) hb6)
            clear hb6 hT y7 y8 HBY2
            go_wp2_with fail
            go_roundw
            case rel => exact ⟨f + 1, by omega, by go_num, HB6.out⟩
            case measure => simp [intOf]; omega
          · obtain rfl : f = 32 := by omega
            have HKF : Hid (Kp H0 w4 wr) := HX.out.2.trans (Kp.of_below hBy (fun b hb => HX.out.1.lt b (HF1.out.1 b hb)))
            clear hBy hp7 hp8 y7 y8
            go_wp2_with fail
            refine (awake_any wr).mono ?_
            rintro e w9 ⟨rfl, hb9⟩
            have HFIN := Lib.hid (fin_below HB4.out HKF.out HF.out.1 hb9)
            clear hb9
            go_wp2_with fail
            go_ret
            exact ⟨rfl, HFIN.out⟩
end Go.Proofs.Ytpimflmmfnffeaa

/- CpuPages' contract, of a number as it comes. -/
namespace Go.Proofs.Ytpimflmmfnffeaa
open Go.RowKit Go.Lib
open Tlb (En eE)

theorem pages_int (all took envn : Nat) (ha : all ≤ 255) (ht : took ≤ 255) (he : envn ≤ 255) (A : Option Addr) (c : Nat) (l : List En) (C : Option Addr) (cc : Nat) (CL : List Int) (most : Int) (hm : 0 ≤ most ∧ most < 256) (w : World) (hs : Sl eE 4 w A l) (hl : l.length ≤ 9223372036854775807)
    (hcs : Sl eU 1 w C CL) (hc1 : ∀ v ∈ CL, 0 ≤ v ∧ v < 18446744073709551616) (hc2 : CL.length ≤ 9223372036854775807) :
    Calls Try.prog 4 #[.agg #[.int .u8 all, .int .u8 took, .slice A l.length c, .int .u8 envn], .slice C CL.length cc, .int .u8 most] w fun e w' => e = .returned (.bool true) ∧ Below w.heap.size w w' := by
  obtain ⟨m, rfl⟩ := Int.eq_ofNat_of_zero_le hm.1
  exact pages_any all took envn ha ht he A c l C cc CL m (by omega) w hs hl hcs hc1 hc2
end Go.Proofs.Ytpimflmmfnffeaa
