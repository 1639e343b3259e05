/- Texts laid as one: K8, K9, K9b. -/
import Derived.Test.YtpimflmmfnffeaaZ13
import Derived.Test.YtpimflmmfnffeaaZ8
import Derived.Test.YtpimflmmfnffeaaZ10
import Derived.Laws.BytesArg
import Derived.Laws.StructEq
import Derived.ChangeKeysEq
/- Walks: a memory: entry, Load, place. -/
namespace Go.Proofs.Ytpimflmmfnffeaa
open Go.RowKit Go.Lib
open Tlb (En Tb Tw ld Uni rightE eE eE_ok enV load_no load_yes)
open Fr (FrS Fm newF takeF new_yes take_any)

/-- translations in block gt, frames in block gf; no block of F is theirs -/
structure Pq (F : Nat → Prop) (w : World) (gt gf : Nat) (A : Option Addr) (c : Nat) (L : List En) (h m : Int) (s : FrS) : Prop where
  tb : Tb w gt A c L h m
  fm : Fm w gf s
  uni : Uni L
  len : L.length ≤ 16
  tf : gt ≠ gf
  af : Go.Proofs.Ytpimflmmfnffeaa.blk A ≠ some gf
  off : ∀ i, F i → i < w.heap.size ∧ i ≠ gt ∧ i ≠ gf ∧ Go.Proofs.Ytpimflmmfnffeaa.blk A ≠ some i
def Pl (F : Nat → Prop) (w : World) (gt gf : Nat) (L : List En) (s : FrS) : Prop := ∃ A c h m, Pq F w gt gf A c L h m s
section
variable {F : Nat → Prop} {w w' : World} {gt gf : Nat} {L : List En} {s : FrS}
theorem Pl.keep (q : Pl F w gt gf L s) (hb : Below w.heap.size w w') : Pl F w' gt gf L s := by
  obtain ⟨A, c, h, m, q⟩ := q
  exact ⟨A, c, h, m, q.tb.keep hb, q.fm.keep hb, q.uni, q.len, q.tf, q.af, fun i hi => ⟨Nat.lt_of_lt_of_le (q.off i hi).1 hb.size, (q.off i hi).2⟩⟩
theorem Pl.lt (q : Pl F w gt gf L s) : ∀ i, F i → i < w.heap.size := fun i hi => by
  obtain ⟨A, c, h, m, q⟩ := q
  exact (q.off i hi).1
theorem Pl.kp (q : Pl F w gt gf L s) (hb : Below w.heap.size w w') : Kp F w w' := Kp.of_below hb q.lt
theorem Pl.less {G : Nat → Prop} (q : Pl F w gt gf L s) (hG : ∀ i, G i → F i) : Pl G w gt gf L s := by
  obtain ⟨A, c, h, m, q⟩ := q
  exact ⟨A, c, h, m, q.tb, q.fm, q.uni, q.len, q.tf, q.af, fun i hi => q.off i (hG i hi)⟩
theorem Pl.box (q : Pl F w gt gf L s) (o : Obj) : Pl (fun i => F i ∨ i = w.heap.size) (w.alloc o) gt gf L s := by
  have k := q.keep (below1 w o)
  obtain ⟨A, c, h, m, q⟩ := q
  have k2 : Pq F (w.alloc o) gt gf A c L h m s := ⟨q.tb.keep (below1 w o), q.fm.keep (below1 w o), q.uni, q.len, q.tf, q.af, fun i hi => ⟨Nat.lt_of_lt_of_le (q.off i hi).1 (below1 w o).size, (q.off i hi).2⟩⟩
  refine ⟨A, c, h, m, k2.tb, k2.fm, k2.uni, k2.len, k2.tf, k2.af, fun i hi => ?_⟩
  rcases hi with hi | rfl
  · exact k2.off i hi
  · exact ⟨by simp, by have := q.tb.1.lt; omega, by have := q.fm.at_.lt; omega, fun e => by have := (q.tb.own_lt _ e).2; omega⟩
theorem Pl.drewN (q : Pl F w gt gf L s) (k : Nat) : Pl F (w.drewN k) gt gf L s := q.keep (bdrewN (Below.refl _ w) k)
/-- with a processor -/
theorem Pl.cpu {G : Nat → Prop} (q : Pl F w gt gf L s) {gc : Nat} {R : List Int} {p : Int} (hb : Blk w gc 36 (cA R p)) (hr : Rng R) (hc : F gc) (hG : ∀ i, G i → F i ∧ i ≠ gc) : Mo G w gt gf gc (tbl L) ⟨R, p, s⟩ := by
  obtain ⟨A, c, h, m, q⟩ := q
  obtain ⟨_, o1, o2, o3⟩ := q.off gc hc
  exact ⟨A, c, L, h, m, q.tb, q.fm, hb, hr, q.uni, q.len, rfl, q.tf, Ne.symm o1, Ne.symm o2, q.af, o3, fun i hi => by
    obtain ⟨h1, h2, h3, h4⟩ := q.off i (hG i hi).1
    exact ⟨h1, h2, h3, (hG i hi).2, h4⟩⟩
end
theorem Pl.out {F : Nat → Prop} {w : World} {gt gf : Nat} {L : List En} {s : FrS} (q : Pl F w gt gf L s) {p : Addr} (hp : F p.block) (v : Value) : Pl F (w.setCell p v) gt gf L s := by
  obtain ⟨A, c, h, m, q⟩ := q
  obtain ⟨_, o1, o2, o4⟩ := q.off _ hp
  have hg : w.grownBy (w.setCell p v) (some p.block) := ⟨rfl, rfl, rfl, by simp [World.setCell], fun k _ hne => Below.heap_setCell w p v k (fun e => hne (by rw [e]))⟩
  exact ⟨A, c, h, m, q.tb.only hg (Ne.symm o1) o4, ⟨q.fm.n0, q.fm.t, q.fm.b, q.fm.at_.grown hg (by simpa using Ne.symm o2)⟩, q.uni, q.len, q.tf, q.af, fun i hi => ⟨Nat.lt_of_lt_of_le (q.off i hi).1 hg.size, (q.off i hi).2⟩⟩
theorem below_out {a w : World} {B : Nat} (h : Below B a w) {p : Addr} (hp : B ≤ p.block) (v : Value) : Below B a (w.setCell p v) :=
  ⟨h.os, h.tape, h.output, by simpa [World.setCell] using h.size, fun k hk => (Below.heap_setCell w p v k (by omega)).trans (h.block k hk)⟩
def ldR (L : List En) (X : En) : List En := if rightE X then ld L X else L
def loads (l : List En) : List En := l.foldl ldR []
theorem loads_snoc (l : List En) (X : En) : loads (l ++ [X]) = ldR (loads l) X := by unfold loads; rw [List.foldl_append]; rfl
def takesF : Nat → FrS → FrS
  | 0, s => s
  | k + 1, s => takeF (takesF k s)
theorem entry_any (X : En) (w : World) : Calls Try.prog 12 #[enV X] w fun r w' => r = .returned (enV X) ∧ Below w.heap.size w w' := by
  unfold enV
  go_enter Try.func12, Try.ntmps12
  go_wp2
  exact bodyPost_ret (v := .agg #[.int .i64 X.env, .int .i64 X.page, .int .i64 X.frame, .bool X.write]) (by simp [results, Try.results12, go_sem]) rfl ⟨rfl, (below1 _ _).alloc (by simp) _⟩
def RetPl (F : Nat → Prop) (gt gf : Nat) (L : List En) (s : FrS) (w : World) (e : Ending) (w' : World) : Prop := (∃ v, e = .returned v) ∧ Pl F w' gt gf L s ∧ Kp F w w'
theorem tload (F : Nat → Prop) (gt gf : Nat) (L : List En) (s : FrS) (X : En) (w : World) (q : Pl F w gt gf L s) :
    Calls Try.prog 11 #[.pointer (some ⟨gt, 0, none⟩), enV X] w (RetPl F gt gf (ldR L X) s w) := by
  unfold ldR
  cases hX : rightE X
  · refine (load_no X gt w hX).mono ?_
    rintro e w' ⟨rfl, hb⟩
    exact ⟨⟨_, rfl⟩, q.keep hb, q.kp hb⟩
  · obtain ⟨A, c, h, m, q⟩ := q
    refine (load_yes X gt A c L h m w hX q.tb (by have := q.len; omega)).mono ?_
    rintro e w' ⟨y, b, A', c', rfl, ht, hw, hA⟩
    have hz := hw.size
    have k : ∀ i, i < w.heap.size → Go.Proofs.Ytpimflmmfnffeaa.blk A ≠ some i → Go.Proofs.Ytpimflmmfnffeaa.blk A' ≠ some i := fun i hi hne e => by
      rcases hA with hA | hA
      · exact hne (hA.symm.trans e)
      · have := hA i e; omega
    refine ⟨⟨_, rfl⟩, ⟨A', c', h, m, ht, ⟨q.fm.n0, q.fm.t, q.fm.b, hw.blk q.fm.at_ q.tf.symm (Ne.symm q.af)⟩, ld_uni q.uni X, ld_len q.len X, q.tf, k _ q.fm.at_.lt q.af, fun i hi => ?_⟩, ⟨hw.os, hw.tape, hw.output, hw.size, fun i hi => ?_⟩⟩
    · obtain ⟨h1, h2, h3, h4⟩ := q.off i hi
      exact ⟨by omega, h2, h3, k i h1 h4⟩
    · obtain ⟨h1, h2, h3, h4⟩ := q.off i hi
      exact hw.block i h1 h2 (Ne.symm h4)

def RetP (env : Int) (L : List En) (s : FrS) (w : World) (e : Ending) (w' : World) : Prop := ∃ gt gf, e = .returned (.agg #[.int .i64 env, .pointer (some ⟨gt, 0, none⟩), .pointer (some ⟨gf, 0, none⟩)]) ∧ Pl (fun i => i < w.heap.size) w' gt gf L s ∧ Below w.heap.size w w'
set_option maxRecDepth 100000 in
set_option maxHeartbeats 4000000 in
theorem place_any (all took envn : Nat) (ha : all ≤ 255) (ht : took ≤ 255) (he : envn ≤ 255) (A : Option Addr) (c : Nat) (l : List En) (ld : Bool) (w : World) (hs : Sl eE 4 w A l) (hl : l.length ≤ 9223372036854775807) :
    Calls Try.prog 6 #[.agg #[.int .u8 all, .int .u8 took, .slice A l.length c, .int .u8 envn], .bool ld] w (RetP ((envn % 8 : Nat) : Int) (if ld then loads (l.take 40) else []) (takesF (took % 33) (newF (1 + all % 32))) w) := by
  obtain ⟨a32, ha32⟩ : ∃ n, n = all % 32 := ⟨_, rfl⟩
  obtain ⟨t33, ht33⟩ : ∃ n, n = took % 33 := ⟨_, rfl⟩
  obtain ⟨e8, he8⟩ : ∃ n, n = envn % 8 := ⟨_, rfl⟩
  rw [← ha32, ← ht33, ← he8]
  obtain ⟨n, hn⟩ : ∃ n, n = 1 + a32 := ⟨_, rfl⟩
  rw [← hn]
  have HN := Lib.hid (fun W => new_yes n W (by omega) (by omega))
  have e1 : ((all : Int) % 32) = (a32 : Int) := by omega
  have e3 : ((took : Int) % 33) = (t33 : Int) := by omega
  have e4 : ((envn : Int) % 8) = (e8 : Int) := by omega
  have e2 : 1 + (a32 : Int) = (n : Int) := by omega
  have hb3 : t33 ≤ 32 := by omega
  have hn32 : n ≤ 32 := by omega
  have hb8 : e8 ≤ 7 := by omega
  obtain ⟨LF, hLF⟩ : ∃ LF, LF = (if ld then loads (l.take 40) else []) := ⟨_, rfl⟩
  rw [← hLF]
  replace hLF := Lib.hid hLF
  obtain ⟨sF, hsF⟩ : ∃ sF, sF = takesF t33 (newF n) := ⟨_, rfl⟩
  rw [← hsF]
  replace hsF := Lib.hid hsF
  clear ha32 ht33 he8 hn ha ht he
  have HB0 : Below w.heap.size w ((w.alloc (Obj.cells #[.int .u8 all, .int .u8 took, .slice A l.length c, .int .u8 envn] 24)).alloc (Obj.cells #[.int .i64 0, .pointer none, .pointer none] 30)) := (below1 w _).alloc (by simp) _
  have bm := (Blk.new w 24 #[.int .u8 all, .int .u8 took, .slice A l.length c, .int .u8 envn]).alloc (Obj.cells #[.int .i64 0, .pointer none, .pointer none] 30)
  have bp := Blk.new' (w.alloc (Obj.cells #[.int .u8 all, .int .u8 took, .slice A l.length c, .int .u8 envn] 24)) 30 #[.int .i64 0, .pointer none, .pointer none] (g := w.heap.size + 1) (by simp)
  go_enter Try.func6, Try.ntmps6
  go_wp2_with fail
  have hz1 : ((w.alloc (Obj.cells #[.int .u8 all, .int .u8 took, .slice A l.length c, .int .u8 envn] 24)).alloc (Obj.cells #[.int .i64 0, .pointer none, .pointer none] 30)).heap.size = w.heap.size + 2 := by simp
  generalize ((w.alloc (Obj.cells #[.int .u8 all, .int .u8 took, .slice A l.length c, .int .u8 envn] 24)).alloc (Obj.cells #[.int .i64 0, .pointer none, .pointer none] 30)) = w1 at *
  refine (HN.out w1).mono ?_
  rintro e w2 ⟨rfl, hfm, hb2⟩
  rw [hz1] at hfm
  rw [hz1] at hb2
  have hlt2 : w.heap.size + 2 < w2.heap.size := hfm.at_.lt
  replace bm := (hb2.block _ (by omega)).trans bm
  replace bp := (hb2.block _ (by omega)).trans bp
  have HB2 := Lib.hid (HB0.trans (hb2.mono (by omega)))
  have hm0 : Blk w2 w.heap.size 24 #[.int .u8 all, .int .u8 took, .slice A l.length c, .int .u8 envn] := bm
  have hp0 : Blk w2 (w.heap.size + 1) 30 #[.int .i64 0, .pointer none, .pointer none] := bp
  clear bm bp HB0 hb2 HN
  have HS := Lib.hid hs
  clear hs hl
  rw [hz1]
  have HF2 := Lib.hid hfm
  clear hfm hz1
  obtain ⟨gf, hgf⟩ : ∃ gf, gf = w.heap.size + 2 := ⟨_, rfl⟩
  rw [← hgf] at HF2 hlt2 ⊢
  have hgl : w.heap.size + 1 < gf := by omega
  replace hgf := Lib.hid hgf
  go_wp2_with fail
  go_loopw [7] (fun s7 wr => ∃ j : Nat, j ≤ t33 ∧ s7 = .int .i64 j ∧ Hid (Fm wr gf (takesF j (newF n)) ∧ w2.grownBy wr (some gf))) (fun i _ => t33 - (intOf i).toNat)
  case atStart => exact ⟨0, Nat.zero_le _, rfl, HF2.out, World.grownBy.refl _ _⟩
  case round =>
    obtain ⟨j, hj, rfl, HR⟩ := hrel
    have hmr := hm0.grown HR.out.2 (by simp; omega)
    have m1 := hmr.cell 1 (.int .u8 took) rfl
    by_cases hjt : j < t33
    · have HT := Lib.hid (take_any _ gf wr HR.out.1)
      go_wp2_with fail
      refine HT.out.mono ?_
      rintro e w3 ⟨rfl, hf3, hg3⟩
      have HN3 : Hid (Fm w3 gf (takesF (j + 1) (newF n)) ∧ w2.grownBy w3 (some gf)) := ⟨hf3, only_trans HR.out.2 hg3⟩
      clear hf3 hg3
      go_wp2_with fail
      go_roundw
      case rel => exact ⟨j + 1, by omega, by go_num, HN3.out⟩
      case measure => simp [intOf]; omega
    · obtain rfl : j = t33 := by omega
      rw [← hsF.out] at HR
      have hzr := HR.out.2.size
      have hPl0 : Pl (fun i => i < w.heap.size + 2) (wr.alloc (Obj.cells #[.slice none 0 0, .int .i64 0, .int .i64 0] 66)) wr.heap.size gf [] sF := by
        have ht : Tb (wr.alloc (Obj.cells #[.slice none 0 0, .int .i64 0, .int .i64 0] 66)) wr.heap.size none 0 [] 0 0 := ⟨Blk.new wr _ _, Own.nil _ _ _⟩
        refine ⟨none, 0, 0, 0, ht, HR.out.1.keep (below1 _ _), List.Pairwise.nil, Nat.zero_le _, by omega, by simp [blk], fun i hi => ⟨by simp; omega, by omega, by omega, by simp [blk]⟩⟩
      have hBl0 : Below (w.heap.size + 2) w2 (wr.alloc (Obj.cells #[.slice none 0 0, .int .i64 0, .int .i64 0] 66)) := ⟨HR.out.2.os, HR.out.2.tape, HR.out.2.output, Nat.le_trans HR.out.2.size (by simp), fun i hi => (Below.heap_alloc wr _ i (by omega)).trans (HR.out.2.block i (by omega) (by simp; omega))⟩
      have HP0 := Lib.hid (And.intro hPl0 hBl0)
      have hgtz : w.heap.size + 2 ≤ wr.heap.size := by omega
      clear hPl0 hBl0 HR hmr
      go_wp2_with fail
      clear m1 e3 e1
      generalize hgt : wr.heap.size = gt at *
      generalize wr.alloc (Obj.cells #[.slice none 0 0, .int .i64 0, .int .i64 0] 66) = w4 at *
      clear hgt hzr
      go_loopw [9] (fun s9 wx => ∃ i : Nat, i ≤ l.length ∧ i ≤ 40 ∧ s9 = .int .i64 i ∧ Hid (Pl (fun i => i < w.heap.size + 2) wx gt gf (loads (l.take i)) sF ∧ Below (w.heap.size + 2) w2 wx) ∧ Hid (ld = false → i = 0)) (fun i _ => 40 - (intOf i).toNat)
      case atStart => exact ⟨0, Nat.zero_le _, by omega, rfl, HP0.out, fun _ => rfl⟩
      case round =>
        obtain ⟨i, hi, hi40, rfl, HR, HI⟩ := hrel
        have hmr : Blk wr w.heap.size 24 #[.int .u8 all, .int .u8 took, .slice A l.length c, .int .u8 envn] := (HR.out.2.block _ (by omega)).trans hm0
        have hpr : Blk wr (w.heap.size + 1) 30 #[.int .i64 0, .pointer none, .pointer none] := (HR.out.2.block _ (by omega)).trans hp0
        have m2 := hmr.cell 2 (.slice A l.length c) rfl
        have m3 := hmr.cell 3 (.int .u8 envn) rfl
        have p0 := hpr.cell 0 (.int .i64 0) rfl
        have p1 := hpr.cell 1 (.pointer none) rfl
        have p2 := hpr.cell 2 (.pointer none) rfl
        have f0 := hpr.frozen 0
        have f1 := hpr.frozen 1
        have f2 := hpr.frozen 2
        clear hmr hpr
        cases ld with
        | false =>
          obtain rfl := HI.out rfl
          clear HI
          have HX : Hid (Pl (fun i => i < w.heap.size) (((wr.setCell ⟨w.heap.size + 1, 0, none⟩ (.int .i64 e8)).setCell ⟨w.heap.size + 1, 1, none⟩ (.pointer (some ⟨gt, 0, none⟩))).setCell ⟨w.heap.size + 1, 2, none⟩ (.pointer (some ⟨gf, 0, none⟩))) gt gf LF sF ∧ Below w.heap.size w (((wr.setCell ⟨w.heap.size + 1, 0, none⟩ (.int .i64 e8)).setCell ⟨w.heap.size + 1, 1, none⟩ (.pointer (some ⟨gt, 0, none⟩))).setCell ⟨w.heap.size + 1, 2, none⟩ (.pointer (some ⟨gf, 0, none⟩)))) := by
            have hq := (((HR.out.1.out (p := ⟨w.heap.size + 1, 0, none⟩) (show w.heap.size + 1 < w.heap.size + 2 by omega) (.int .i64 e8)).out (p := ⟨w.heap.size + 1, 1, none⟩) (show w.heap.size + 1 < w.heap.size + 2 by omega) (.pointer (some ⟨gt, 0, none⟩))).out (p := ⟨w.heap.size + 1, 2, none⟩) (show w.heap.size + 1 < w.heap.size + 2 by omega) (.pointer (some ⟨gf, 0, none⟩)))
            refine ⟨?_, (below_out (below_out (below_out (HB2.out.trans (HR.out.2.mono (by omega))) (p := ⟨w.heap.size + 1, 0, none⟩) (by simp) (.int .i64 e8)) (p := ⟨w.heap.size + 1, 1, none⟩) (by simp) (.pointer (some ⟨gt, 0, none⟩))) (p := ⟨w.heap.size + 1, 2, none⟩) (by simp) (.pointer (some ⟨gf, 0, none⟩)))⟩
            rw [hLF.out]
            simp only [Bool.false_eq_true, if_false]; rw [List.take_zero] at hq
            exact hq.less (fun i (hi : i < w.heap.size) => show i < w.heap.size + 2 by omega)
          go_wp2_with fail
          exact bodyPost_ret (v := .agg #[.int .i64 e8, .pointer (some ⟨gt, 0, none⟩), .pointer (some ⟨gf, 0, none⟩)]) (by simp [results, Try.results6, go_sem, *]) rfl ⟨gt, gf, rfl, HX.out.1, HX.out.2⟩
        | true =>
          clear HI
          by_cases hil : i < l.length
          · by_cases hi4 : i < 40
            · obtain ⟨b, off, rfl, y0, y1, y2, y3⟩ := (HS.out.keep (HB2.out.trans (HR.out.2.mono (by omega)))).en_at hil
              have HNX : Hid (loads (l.take (i + 1)) = ldR (loads (l.take i)) l[i]) := by
                unfold Hid
                rw [List.take_add_one, List.getElem?_eq_getElem hil]
                exact loads_snoc _ _
              have HTL := Lib.hid (fun W hW => tload (fun i => i < w.heap.size + 2) gt gf (loads (l.take i)) sF l[i] W hW)
              rw [← HNX.out] at HTL
              have HEN := Lib.hid (fun W => entry_any l[i] W)
              unfold enV at HTL HEN
              clear HNX p0 p1 p2 f0 f1 f2 m3
              generalize l[i] = X at *
              have i0 : (0 : Int) ≤ (i : Int) := by omega
              have i1 : (i : Int) < (l.length : Int) := by omega
              go_wp2_with fail
              refine (HEN.out wr).mono ?_
              rintro e w5 ⟨rfl, hb5⟩
              have hq5 := HR.out.1.keep hb5
              have HB5 : Hid (Below (w.heap.size + 2) w2 w5) := HR.out.2.trans (hb5.mono (by have := HR.out.2.size; omega))
              clear m2 y0 y1 y2 y3 hb5
              go_wp2_with fail
              refine (HTL.out w5 hq5).mono ?_
              rintro e w6 ⟨⟨v6, rfl⟩, hq6, hk6⟩
              have HN6 : Hid (Pl (fun i => i < w.heap.size + 2) w6 gt gf (loads (l.take (i + 1))) sF ∧ Below (w.heap.size + 2) w2 w6) := ⟨hq6, HB5.out.trans (hk6.low (fun b hb => hb))⟩
              clear hq5 hq6 hk6 HB5 HTL HEN HR
              go_wp2_with fail
              go_roundw
              case rel => exact ⟨i + 1, by omega, by omega, by go_num, HN6.out, fun h => by cases h⟩
              case measure => simp [intOf]; omega
            · obtain rfl : i = 40 := by omega
              have HX : Hid (Pl (fun i => i < w.heap.size) (((wr.setCell ⟨w.heap.size + 1, 0, none⟩ (.int .i64 e8)).setCell ⟨w.heap.size + 1, 1, none⟩ (.pointer (some ⟨gt, 0, none⟩))).setCell ⟨w.heap.size + 1, 2, none⟩ (.pointer (some ⟨gf, 0, none⟩))) gt gf LF sF ∧ Below w.heap.size w (((wr.setCell ⟨w.heap.size + 1, 0, none⟩ (.int .i64 e8)).setCell ⟨w.heap.size + 1, 1, none⟩ (.pointer (some ⟨gt, 0, none⟩))).setCell ⟨w.heap.size + 1, 2, none⟩ (.pointer (some ⟨gf, 0, none⟩)))) := by
                have hq := (((HR.out.1.out (p := ⟨w.heap.size + 1, 0, none⟩) (show w.heap.size + 1 < w.heap.size + 2 by omega) (.int .i64 e8)).out (p := ⟨w.heap.size + 1, 1, none⟩) (show w.heap.size + 1 < w.heap.size + 2 by omega) (.pointer (some ⟨gt, 0, none⟩))).out (p := ⟨w.heap.size + 1, 2, none⟩) (show w.heap.size + 1 < w.heap.size + 2 by omega) (.pointer (some ⟨gf, 0, none⟩)))
                refine ⟨?_, (below_out (below_out (below_out (HB2.out.trans (HR.out.2.mono (by omega))) (p := ⟨w.heap.size + 1, 0, none⟩) (by simp) (.int .i64 e8)) (p := ⟨w.heap.size + 1, 1, none⟩) (by simp) (.pointer (some ⟨gt, 0, none⟩))) (p := ⟨w.heap.size + 1, 2, none⟩) (by simp) (.pointer (some ⟨gf, 0, none⟩)))⟩
                rw [hLF.out]
                simp only [if_true]
                exact hq.less (fun i (hi : i < w.heap.size) => show i < w.heap.size + 2 by omega)
              go_wp2_with fail
              exact bodyPost_ret (v := .agg #[.int .i64 e8, .pointer (some ⟨gt, 0, none⟩), .pointer (some ⟨gf, 0, none⟩)]) (by simp [results, Try.results6, go_sem, *]) rfl ⟨gt, gf, rfl, HX.out.1, HX.out.2⟩
          · have hie : l.take i = l.take 40 := by rw [List.take_of_length_le (by omega), List.take_of_length_le (by omega)]
            replace hie := Lib.hid hie
            have HX : Hid (Pl (fun i => i < w.heap.size) (((wr.setCell ⟨w.heap.size + 1, 0, none⟩ (.int .i64 e8)).setCell ⟨w.heap.size + 1, 1, none⟩ (.pointer (some ⟨gt, 0, none⟩))).setCell ⟨w.heap.size + 1, 2, none⟩ (.pointer (some ⟨gf, 0, none⟩))) gt gf LF sF ∧ Below w.heap.size w (((wr.setCell ⟨w.heap.size + 1, 0, none⟩ (.int .i64 e8)).setCell ⟨w.heap.size + 1, 1, none⟩ (.pointer (some ⟨gt, 0, none⟩))).setCell ⟨w.heap.size + 1, 2, none⟩ (.pointer (some ⟨gf, 0, none⟩)))) := by
              have hq := (((HR.out.1.out (p := ⟨w.heap.size + 1, 0, none⟩) (show w.heap.size + 1 < w.heap.size + 2 by omega) (.int .i64 e8)).out (p := ⟨w.heap.size + 1, 1, none⟩) (show w.heap.size + 1 < w.heap.size + 2 by omega) (.pointer (some ⟨gt, 0, none⟩))).out (p := ⟨w.heap.size + 1, 2, none⟩) (show w.heap.size + 1 < w.heap.size + 2 by omega) (.pointer (some ⟨gf, 0, none⟩)))
              refine ⟨?_, (below_out (below_out (below_out (HB2.out.trans (HR.out.2.mono (by omega))) (p := ⟨w.heap.size + 1, 0, none⟩) (by simp) (.int .i64 e8)) (p := ⟨w.heap.size + 1, 1, none⟩) (by simp) (.pointer (some ⟨gt, 0, none⟩))) (p := ⟨w.heap.size + 1, 2, none⟩) (by simp) (.pointer (some ⟨gf, 0, none⟩)))⟩
              rw [hLF.out]
              simp only [if_true]; rw [hie.out] at hq
              exact hq.less (fun i (hi : i < w.heap.size) => show i < w.heap.size + 2 by omega)
            go_wp2_with fail
            exact bodyPost_ret (v := .agg #[.int .i64 e8, .pointer (some ⟨gt, 0, none⟩), .pointer (some ⟨gf, 0, none⟩)]) (by simp [results, Try.results6, go_sem, *]) rfl ⟨gt, gf, rfl, HX.out.1, HX.out.2⟩
end Go.Proofs.Ytpimflmmfnffeaa

/- Walks: the bytes of a frame as a text; a machine and what is new. -/
namespace Go.Proofs.Ytpimflmmfnffeaa
open Go.RowKit Go.Lib
open Tlb (En Tb eE)
open Fr (FrS Fm rowB rowB_len bytes_yes conv_row hasF)

def fS (s : FrS) (f : Nat) : ByteArray := if f < s.n then strOfNums (rowB s f) else ByteArray.empty
def BytesV (S : ByteArray) (v : Value) (w : World) : Prop := ∀ w', Keeps w w' → (convert 38 9 v).run Try.prog w' = .ok (.string S) w'
theorem BytesV.keep {S : ByteArray} {v : Value} {w w' : World} (h : BytesV S v w) (hz : Keeps w w') : BytesV S v w' := fun w2 h2 => h w2 (bstep hz (Nat.le_refl _) h2)
theorem bytes_mo (s : FrS) (g f : Nat) (w : World) (h : Fm w g s) : Calls Try.prog 7 #[.pointer (some ⟨g, 0, none⟩), .int .i64 f] w fun e w' => ∃ v, e = .returned v ∧ Keeps w w' ∧ BytesV (fS s f) v w' := by
  unfold fS
  by_cases hf : f < s.n
  · rw [if_pos hf]
    refine (bytes_yes s g f w h hf).mono ?_
    rintro e w' ⟨O, d, rfl, hs, hb⟩
    have hlen := rowB_len h.b (show f < 32 by have := h.n0; omega)
    refine ⟨_, rfl, hb, fun w2 h2 => ?_⟩
    obtain ⟨b, off, hA, _⟩ := hs (by omega)
    subst hA
    exact conv_row w2 b off d _ (hs.keep h2) _ rfl
  · rw [if_neg hf]
    have H := Lib.hid (Fr.has_any s g f w h)
    have hh : hasF s f = false := decide_eq_false (by omega)
    rw [hh] at H
    clear h hh
    go_enter Try.func7, Try.ntmps7
    go_wp2_with fail
    refine H.out.mono ?_
    rintro e w2 ⟨rfl, rfl⟩
    go_wp2_with fail
    go_ret
    exact ⟨_, rfl, Below.refl _ _, fun w2 _ => run_convert_bytes_nil w2 38 5 Try.underlying38 Try.underlying5 0 0 9 Try.underlying9⟩
/-- new blocks join -/
theorem Mo.join {F G : Nat → Prop} {w w' : World} {gt gf gc : Nat} {T : Int → Tt} {st : St} (q : Mo F w gt gf gc T st) (hb : Below w.heap.size w w') (hG : ∀ i, G i → F i ∨ (w.heap.size ≤ i ∧ i < w'.heap.size)) : Mo G w' gt gf gc T st := by
  have k := q.keep hb
  obtain ⟨A, c, L, h, m, q⟩ := q
  have k2 := q.keep hb
  refine ⟨A, c, L, h, m, k2.tb, k2.fm, k2.cp, k2.rg, k2.uni, k2.len, k2.tt, k2.tf, k2.tc, k2.fc, k2.af, k2.ac, fun i hi => ?_⟩
  rcases hG i hi with hi | ⟨h1, h2⟩
  · exact k2.off i hi
  · exact ⟨h2, by have := q.tb.1.lt; omega, by have := q.fm.at_.lt; omega, by have := q.cp.lt; omega, fun e => by have := (q.tb.own_lt _ e).2; omega⟩
def eS (x : ByteArray) : List Value := [.string x]
theorem eS_ok : EncOk eS 1 := ⟨fun _ => rfl, fun x u hu => by simp [eS] at hu; subst hu; rfl⟩
theorem info_st : (Try.prog.info? 9).map (fun i => (i.zero, i.size, i.bytes)) = some (some (.string ByteArray.empty), 1, 16) := by kernel_rfl
theorem elS : Elem Try.prog 37 9 1 16 := elem_mk Try.underlying37 info_st rfl (by omega)
def aheadL (s : FrS) (k : Nat) : List ByteArray := (List.range k).map (fS s)
theorem aheadL_len (s : FrS) (k : Nat) : (aheadL s k).length = k := by simp [aheadL]
theorem aheadL_succ (s : FrS) (k : Nat) : aheadL s (k + 1) = aheadL s k ++ [fS s k] := by simp [aheadL, List.range_succ]
theorem aheadL_at (s : FrS) {k j : Nat} (h : j < (aheadL s k).length) : (aheadL s k)[j] = fS s j := by simp [aheadL]
theorem rng_zero : Rng (List.replicate 8 0) := ⟨rfl, fun v hv => by rw [List.eq_of_mem_replicate hv]; decide⟩
/-- the eight registers -/
theorem rng_eight {R : List Int} (h : Rng R) : ∃ r0 r1 r2 r3 r4 r5 r6 r7, R = [r0, r1, r2, r3, r4, r5, r6, r7] := by
  obtain ⟨h, _⟩ := h
  match R, h with
  | [r0, r1, r2, r3, r4, r5, r6, r7], _ => exact ⟨r0, r1, r2, r3, r4, r5, r6, r7, rfl⟩
end Go.Proofs.Ytpimflmmfnffeaa

/- Laws: two processors alike are equal. -/
namespace Go.Proofs.Ytpimflmmfnffeaa
open Go.RowKit Go.Lib

theorem cells_u64 : Try.prog.cellsOf 33 = 1 := by kernel_rfl
theorem regs_eq (r0 r1 r2 r3 r4 r5 r6 r7 : Int) (W : World) : (Op.equalIn 9999 34 (.agg #[.int .u64 r0, .int .u64 r1, .int .u64 r2, .int .u64 r3, .int .u64 r4, .int .u64 r5, .int .u64 r6, .int .u64 r7]) (.agg #[.int .u64 r0, .int .u64 r1, .int .u64 r2, .int .u64 r3, .int .u64 r4, .int .u64 r5, .int .u64 r6, .int .u64 r7])).run Try.prog W = .ok true W := by
  obtain ⟨i, hi, _⟩ := info_parts info_u64
  rw [run_equalIn_array W 9998 _ _ Try.underlying34 hi, cells_u64]
  simp [Op.eqItems, List.range, List.range.loop, go_sem]
theorem cpu_neq (r0 r1 r2 r3 r4 r5 r6 r7 p : Int) (W : World) : (binOp .neq 36 (.agg #[.int .u64 r0, .int .u64 r1, .int .u64 r2, .int .u64 r3, .int .u64 r4, .int .u64 r5, .int .u64 r6, .int .u64 r7, .int .i64 p]) (.agg #[.int .u64 r0, .int .u64 r1, .int .u64 r2, .int .u64 r3, .int .u64 r4, .int .u64 r5, .int .u64 r6, .int .u64 r7, .int .i64 p])).run Try.prog W = .ok (.bool false) W := by
  rw [run_neq_struct]
  have h := regs_eq r0 r1 r2 r3 r4 r5 r6 r7
  simp [go_sem, h]
theorem trap_neq (k p x : Int) (W : World) : (binOp .neq 41 (.agg #[.int .i64 k, .int .i64 p, .int .u64 x]) (.agg #[.int .i64 k, .int .i64 p, .int .u64 x])).run Try.prog W = .ok (.bool false) W := by
  rw [run_neq_struct]
  simp [go_sem]
theorem fin_below {F : Nat → Prop} {w w4 wo w9 : World} (h4 : Below w.heap.size w w4) (hk : Kp F w4 wo) (hF : ∀ i, i < w.heap.size + 1 → F i) (h9 : Below wo.heap.size wo w9) : Below w.heap.size w w9 :=
  (h4.trans ((hk.low (B := w.heap.size) (fun b hb => hF b (by omega))))).trans (h9.mono (Nat.le_trans h4.size hk.size))
theorem cd_of {Fb : Nat → Prop} {w w' : World} {C : Option Addr} {CL : List Int} (h : Sl eU 1 w C CL) (hr : ∀ v ∈ CL, 0 ≤ v ∧ v < 18446744073709551616) (hl : CL.length ≤ 9223372036854775807) (hb : Below w.heap.size w w') (hF : ∀ i, i < w.heap.size → Fb i) : Cd Fb w' C CL :=
  ⟨h.keep hb, hr, hl, fun hp b e => by
    obtain ⟨b', off, hA, hc⟩ := h hp
    rw [hA] at e
    injection e with e
    subst e
    exact hF _ (World.block_lt_of_cell? w _ (hc 0 CL[0] 0 (.int .u64 CL[0]) (List.getElem?_eq_getElem hp) rfl))⟩
end Go.Proofs.Ytpimflmmfnffeaa
