/- Texts laid as one: K11, K12, K13, K13b, K13c. -/
import Derived.Test.YtpimflmmfnffeaaZ14
import Derived.Test.YtpimflmmfnffeaaZ3
import Derived.Test.YtpimflmmfnffeaaZ7
import Derived.Deep.DeepCutAuto
import Derived.Deep.CutBlock
/- Two machines apart; a load into a machine's translations; the last translation of a page. -/
namespace Go.Proofs.Ytpimflmmfnffeaa
open Go.RowKit Go.Lib
open Tlb (En Tb Tw hasK ld Uni rightE eE eE_ok enV load_no load_yes)
open Fr (FrS Fm)

theorem own_kp {α : Type} {enc : α → List Value} {sz : Nat} {F : Nat → Prop} {w w' : World} {base : Nat} {e : TypeId} {A : Option Addr} {c : Nat} {xs : List α} (h : Own enc sz w base e A c xs) (k : Kp F w w') (hF : ∀ b, blk A = some b → F b) : Own enc sz w' base e A c xs := by
  refine ⟨h.1, ?_⟩
  rcases h.2 with h1 | ⟨g, cap, cur, h1, h2, h3, h4⟩
  · exact .inl h1
  · refine .inr ⟨g, cap, cur, h1, h2, ?_, h4⟩
    injection h1 with a1
    exact (k.block g (hF g (by rw [a1]; rfl))).trans h3
/-- the blocks of a machine -/
def Fo (gt gf gc : Nat) (A : Option Addr) (i : Nat) : Prop := i = gt ∨ i = gf ∨ i = gc ∨ blk A = some i
structure Mch where
  gt : Nat
  gf : Nat
  gc : Nat
  T : Int → Tt
  st : St
def Two (G : Nat → Prop) (w : World) (p q : Mch) : Prop := ∃ A c L h m A' c' L' h' m', Mq (fun i => G i ∨ Fo q.gt q.gf q.gc A' i) w p.gt p.gf p.gc A c L h m p.T p.st ∧ Mq (fun i => G i ∨ Fo p.gt p.gf p.gc A i) w q.gt q.gf q.gc A' c' L' h' m' q.T q.st
section
variable {G : Nat → Prop} {w w' : World} {p q : Mch}
theorem Two.swap (h : Two G w p q) : Two G w q p := by
  obtain ⟨A, c, L, h1, m, A', c', L', h', m', hp, hq⟩ := h
  exact ⟨A', c', L', h', m', A, c, L, h1, m, hq, hp⟩
theorem Two.keep (h : Two G w p q) (hb : Below w.heap.size w w') : Two G w' p q := by
  obtain ⟨A, c, L, h1, m, A', c', L', h', m', hp, hq⟩ := h
  exact ⟨A, c, L, h1, m, A', c', L', h', m', hp.keep hb, hq.keep hb⟩
theorem Two.lt (h : Two G w p q) : ∀ i, G i → i < w.heap.size := fun i hi => by
  obtain ⟨A, c, L, h1, m, A', c', L', h', m', hp, hq⟩ := h
  exact (hp.off i (.inl hi)).1
theorem Two.kp (h : Two G w p q) (hb : Below w.heap.size w w') : Kp G w w' := Kp.of_below hb h.lt
theorem Two.less {H : Nat → Prop} (h : Two G w p q) (hH : ∀ i, H i → G i) : Two H w p q := by
  obtain ⟨A, c, L, h1, m, A', c', L', h', m', hp, hq⟩ := h
  exact ⟨A, c, L, h1, m, A', c', L', h', m', { hp with off := fun i hi => hp.off i (hi.imp (hH i) id) }, { hq with off := fun i hi => hq.off i (hi.imp (hH i) id) }⟩
theorem Two.join {H : Nat → Prop} (h : Two G w p q) (hb : Below w.heap.size w w') (hH : ∀ i, H i → G i ∨ (w.heap.size ≤ i ∧ i < w'.heap.size)) : Two H w' p q := by
  obtain ⟨A, c, L, h1, m, A', c', L', h', m', hp, hq⟩ := h
  have kp := hp.keep hb
  have kq := hq.keep hb
  refine ⟨A, c, L, h1, m, A', c', L', h', m', { kp with off := fun i hi => ?_ }, { kq with off := fun i hi => ?_ }⟩
  · rcases hi with hi | hi
    · rcases hH i hi with h2 | ⟨h2, h3⟩
      · exact kp.off i (.inl h2)
      · exact ⟨h3, by have := hp.tb.1.lt; omega, by have := hp.fm.at_.lt; omega, by have := hp.cp.lt; omega, fun e => by have := (hp.tb.own_lt _ e).2; omega⟩
    · exact kp.off i (.inr hi)
  · rcases hi with hi | hi
    · rcases hH i hi with h2 | ⟨h2, h3⟩
      · exact kq.off i (.inl h2)
      · exact ⟨h3, by have := hq.tb.1.lt; omega, by have := hq.fm.at_.lt; omega, by have := hq.cp.lt; omega, fun e => by have := (hq.tb.own_lt _ e).2; omega⟩
    · exact kq.off i (.inr hi)
theorem Two.mo (h : Two G w p q) : Mo G w p.gt p.gf p.gc p.T p.st := by
  obtain ⟨A, c, L, h1, m, A', c', L', h', m', hp, hq⟩ := h
  exact ⟨A, c, L, h1, m, { hp with off := fun i hi => hp.off i (.inl hi) }⟩
theorem Two.out (h : Two G w p q) {a : Addr} (ha : G a.block) (v : Value) : Two G (w.setCell a v) p q := by
  obtain ⟨A, c, L, h1, m, A', c', L', h', m', hp, hq⟩ := h
  obtain ⟨_, o1, o2, o3, o4⟩ := hp.off _ (.inl ha)
  obtain ⟨_, u1, u2, u3, u4⟩ := hq.off _ (.inl ha)
  have hg : w.grownBy (w.setCell a v) (some a.block) := ⟨rfl, rfl, rfl, by simp [World.setCell], fun k _ hne => Below.heap_setCell w a v k (fun e => hne (by rw [e]))⟩
  exact ⟨A, c, L, h1, m, A', c', L', h', m',
    ⟨hp.tb.only hg (Ne.symm o1) o4, ⟨hp.fm.n0, hp.fm.t, hp.fm.b, hp.fm.at_.grown hg (by simpa using Ne.symm o2)⟩, hp.cp.grown hg (by simpa using Ne.symm o3), hp.rg, hp.uni, hp.len, hp.tt, hp.tf, hp.tc, hp.fc, hp.af, hp.ac, fun i hi => ⟨Nat.lt_of_lt_of_le (hp.off i hi).1 hg.size, (hp.off i hi).2⟩⟩,
    ⟨hq.tb.only hg (Ne.symm u1) u4, ⟨hq.fm.n0, hq.fm.t, hq.fm.b, hq.fm.at_.grown hg (by simpa using Ne.symm u2)⟩, hq.cp.grown hg (by simpa using Ne.symm u3), hq.rg, hq.uni, hq.len, hq.tt, hq.tf, hq.tc, hq.fc, hq.af, hq.ac, fun i hi => ⟨Nat.lt_of_lt_of_le (hq.off i hi).1 hg.size, (hq.off i hi).2⟩⟩⟩
/-- what the first machine does, the second one left alone -/
theorem Two.left_ {f : FuncId} {args : Array Value} {R : Ending → Prop} {T' : Int → Tt} {st' : St} (h : Two G w p q)
    (step : ∀ F, (∀ i, G i → F i) → Mo F w p.gt p.gf p.gc p.T p.st → Calls Try.prog f args w fun e w' => R e ∧ Mo F w' p.gt p.gf p.gc T' st' ∧ Kp F w w') :
    Calls Try.prog f args w fun e w' => R e ∧ Two G w' ⟨p.gt, p.gf, p.gc, T', st'⟩ q ∧ Kp G w w' := by
  obtain ⟨A, c, L, h1, m, A', c', L', h', m', hp, hq⟩ := h
  refine (step _ (fun i hi => .inl hi) ⟨A, c, L, h1, m, hp⟩).mono ?_
  rintro e w' ⟨he, ⟨A2, c2, L2, h2, m2, hp2⟩, hk⟩
  refine ⟨he, ⟨A2, c2, L2, h2, m2, A', c', L', h', m', hp2, ?_⟩, hk.mono (fun i hi => .inl hi)⟩
  have kgt : (fun i => G i ∨ Fo q.gt q.gf q.gc A' i) q.gt := .inr (.inl rfl)
  have kgf : (fun i => G i ∨ Fo q.gt q.gf q.gc A' i) q.gf := .inr (.inr (.inl rfl))
  have kgc : (fun i => G i ∨ Fo q.gt q.gf q.gc A' i) q.gc := .inr (.inr (.inr (.inl rfl)))
  have kA : ∀ b, blk A' = some b → (fun i => G i ∨ Fo q.gt q.gf q.gc A' i) b := fun b hb => .inr (.inr (.inr (.inr hb)))
  refine ⟨⟨hk.blk hq.tb.1 kgt, own_kp hq.tb.2 hk kA⟩, ⟨hq.fm.n0, hq.fm.t, hq.fm.b, hk.blk hq.fm.at_ kgf⟩, hk.blk hq.cp kgc, hq.rg, hq.uni, hq.len, hq.tt, hq.tf, hq.tc, hq.fc, hq.af, hq.ac, fun i hi => ?_⟩
  obtain ⟨_, a1, a2, a3, a4⟩ := hp2.off _ kgt
  obtain ⟨_, b1, b2, b3, b4⟩ := hp2.off _ kgf
  obtain ⟨_, c1, c2, c3, c4⟩ := hp2.off _ kgc
  rcases hi with hi | rfl | rfl | rfl | hi
  · obtain ⟨h1, h2⟩ := hq.off i (.inl hi)
    exact ⟨Nat.lt_of_lt_of_le h1 hk.size, h2⟩
  · exact ⟨hp2.tb.1.lt, Ne.symm a1, Ne.symm b1, Ne.symm c1, fun e => (hp2.off _ (kA _ e)).2.1 rfl⟩
  · exact ⟨hp2.fm.at_.lt, Ne.symm a2, Ne.symm b2, Ne.symm c2, fun e => (hp2.off _ (kA _ e)).2.2.1 rfl⟩
  · exact ⟨hp2.cp.lt, Ne.symm a3, Ne.symm b3, Ne.symm c3, fun e => (hp2.off _ (kA _ e)).2.2.2.1 rfl⟩
  · exact ⟨(hp2.tb.own_lt _ hi).2, fun e => a4 (by rw [← e]; exact hi), fun e => b4 (by rw [← e]; exact hi), fun e => c4 (by rw [← e]; exact hi), fun e => (hp2.off _ (kA _ e)).2.2.2.2 hi⟩
end

/-! ## a load -/
def updT (T : Int → Tt) (X : En) : Int → Tt := fun a p => if a = X.env ∧ p = X.page then some (X.frame, X.write) else T a p
theorem tbl_ldR {L : List En} (u : Uni L) (X : En) (hX : rightE X = true) (h : L.length < 16) : tbl (ldR L X) = updT (tbl L) X := by
  unfold ldR
  rw [if_pos hX]
  funext a p
  exact tbl_ld u X h a p
theorem mload (F : Nat → Prop) (gt gf gc : Nat) (T : Int → Tt) (st : St) (X : En) (w : World) (q : Mo F w gt gf gc T st) (hX : rightE X = true) (hT : ∀ L, Uni L → tbl L = T → L.length < 16) :
    Calls Try.prog 11 #[.pointer (some ⟨gt, 0, none⟩), enV X] w fun e w' => (∃ v, e = .returned v) ∧ Mo F w' gt gf gc (updT T X) st ∧ Kp F w w' := by
  obtain ⟨A, c, L, h, m, q⟩ := q
  have hlen := hT L q.uni q.tt
  refine (load_yes X gt A c L h m w hX q.tb (by omega)).mono ?_
  rintro e w' ⟨y, b, A', c', rfl, ht, hw, hA⟩
  have hT2 : tbl (ld L X) = updT T X := by
    have := tbl_ldR q.uni X hX hlen
    unfold ldR at this
    rw [if_pos hX, q.tt] at this
    exact this
  have := q.tput (T' := updT T X) ht hw hA (ld_uni q.uni X) (ld_len q.len X) hT2
  exact ⟨⟨_, rfl⟩, this.1, this.2⟩

/-! ## the last translation of a page -/
def isL (a p : Int) (X : En) : Bool := hasK a p X && rightE X
def lastL (l : List En) (a p : Int) : Option En := (l.filter (isL a p)).getLast?
theorem loads_uni : ∀ (n : Nat) (l : List En), Uni (loads (l.take n)) ∧ (loads (l.take n)).length ≤ n
  | 0, l => by simp [loads, Uni]
  | n + 1, l => by
    have ih := loads_uni n l
    by_cases h : n < l.length
    · rw [List.take_add_one, List.getElem?_eq_getElem h]
      simp only [Option.toList_some]
      rw [loads_snoc]
      unfold ldR
      split
      · exact ⟨ld_uni ih.1 _, by have := ld_len1 (loads (l.take n)) l[n]; omega⟩
      · exact ⟨ih.1, by omega⟩
    · rw [List.take_of_length_le (by omega)]
      rw [List.take_of_length_le (by omega)] at ih
      exact ⟨ih.1, by omega⟩
theorem tbl_loads (a p : Int) : ∀ (n : Nat) (l : List En), n ≤ 16 → tbl (loads (l.take n)) a p = (lastL (l.take n) a p).map fun x => (x.frame, x.write)
  | 0, l, _ => by simp [loads, tbl, lastL]
  | n + 1, l, hn => by
    have ih := tbl_loads a p n l (by omega)
    by_cases h : n < l.length
    · rw [List.take_add_one, List.getElem?_eq_getElem h]
      simp only [Option.toList_some]
      rw [loads_snoc]
      obtain ⟨u, hl⟩ := loads_uni n l
      generalize l[n] = X
      unfold lastL at ih ⊢
      rw [List.filter_append]
      by_cases hX : rightE X = true
      · rw [tbl_ldR u X hX (by omega)]
        unfold updT
        by_cases hk : a = X.env ∧ p = X.page
        · rw [if_pos hk]
          have : isL a p X = true := by unfold isL hasK; simp [hk.1, hk.2, hX]
          rw [List.filter_cons, if_pos this, List.filter_nil, List.getLast?_concat]
          rfl
        · rw [if_neg hk]
          have : ¬ isL a p X = true := by
            intro h
            unfold isL hasK at h
            simp at h
            exact hk ⟨h.1.1.symm, h.1.2.symm⟩
          rw [List.filter_cons, if_neg this, List.filter_nil, List.append_nil]
          exact ih
      · have : ¬ isL a p X = true := by
          intro h
          unfold isL at h
          simp at h
          exact hX h.2
        rw [List.filter_cons, if_neg this, List.filter_nil, List.append_nil]
        unfold ldR
        rw [if_neg hX]
        exact ih
    · rw [List.take_of_length_le (by omega)]
      rw [List.take_of_length_le (by omega)] at ih
      exact ih
theorem lastL_mem {l : List En} {a p : Int} {X : En} (h : lastL l a p = some X) : X ∈ l ∧ (X.env = a ∧ X.page = p) ∧ rightE X = true := by
  unfold lastL at h
  have := List.mem_of_getLast? h
  rw [List.mem_filter] at this
  unfold isL hasK at this
  simp at this
  exact ⟨this.1, this.2.1, this.2.2⟩
/-- no more than there are -/
theorem nodup_le {α : Type} [DecidableEq α] : ∀ (l m : List α), l.Nodup → (∀ x ∈ l, x ∈ m) → l.length ≤ m.length
  | [], _, _, _ => Nat.zero_le _
  | x :: r, m, h, hs => by
    have hx : x ∈ m := hs x (List.mem_cons_self ..)
    rw [List.nodup_cons] at h
    have := nodup_le r (m.erase x) h.2 fun y hy => (List.mem_erase_of_ne (fun e => h.1 (by rw [← e]; exact hy))).2 (hs y (List.mem_cons_of_mem _ hy))
    rw [List.length_erase_of_mem hx] at this
    have : 0 < m.length := List.length_pos_of_mem hx
    simp
    omega
theorem tbl_small {L : List En} (u : Uni L) {T : Int → Tt} (hT : tbl L = T) (env : Int) (got : List Int) (h : ∀ a p, T a p ≠ none → a = env ∧ p ∈ got) : L.length ≤ got.length := by
  have hm : ∀ e ∈ L, e.env = env ∧ e.page ∈ got := fun e he => by
    refine h _ _ ?_
    rw [← hT, (tbl_iff u).2 ⟨e, he, ⟨rfl, rfl⟩, rfl⟩]
    intro h; cases h
  have hn : (L.map (·.page)).Nodup := by
    unfold List.Nodup
    rw [List.pairwise_map]
    exact List.Pairwise.imp_of_mem (fun {x y} hx hy hne e => hne ⟨(hm x hx).1.trans (hm y hy).1.symm, e⟩) u
  have := nodup_le (L.map (·.page)) got hn fun p hp => by
    obtain ⟨e, he, rfl⟩ := List.mem_map.1 hp
    exact (hm e he).2
  simpa using this
end Go.Proofs.Ytpimflmmfnffeaa

/- Walks: the last translation of a page; two memories side by side. -/
namespace Go.Proofs.Ytpimflmmfnffeaa
open Go.RowKit Go.Lib
open Tlb (En Tb Tw hasK rightE eE eE_ok enV rRight_any put4 put4_only put4_blk)
open Fr (FrS Fm newF)

def zE : En := ⟨0, 0, 0, false⟩
def x4 (o : Option En) : Array Value := match o with
  | some x => #[.int .i64 x.env, .int .i64 x.page, .int .i64 x.frame, .bool x.write]
  | none => #[.int .i64 0, .int .i64 0, .int .i64 0, .bool false]
def RetLa (o : Option En) (w : World) (e : Ending) (w' : World) : Prop := e = .returned (.tuple #[enV (o.getD zE), .bool o.isSome]) ∧ Below w.heap.size w w'
theorem lastL_snoc (l : List En) (X : En) (a p : Int) : lastL (l ++ [X]) a p = if isL a p X = true then some X else lastL l a p := by
  unfold lastL
  rw [List.filter_append, List.filter_cons]
  split
  · rw [List.filter_nil, List.getLast?_concat]
  · rw [List.filter_nil, List.append_nil]
set_option maxRecDepth 100000 in
set_option maxHeartbeats 4000000 in
theorem last_any (all took envn e8 : Nat) (he : e8 = envn % 8) (A : Option Addr) (c : Nat) (l : List En) (page : Int) (w : World) (hs : Sl eE 4 w A l) :
    Calls Try.prog 10 #[.agg #[.int .u8 all, .int .u8 took, .slice A l.length c, .int .u8 envn], .int .i64 page] w (RetLa (lastL (l.take 16) e8 page) w) := by
  have e4 : ((envn : Int) % 8) = (e8 : Int) := by omega
  have hb8 : e8 ≤ 7 := by omega
  have HS := Lib.hid hs
  clear he hs
  have hB : Below w.heap.size w (((w.alloc (Obj.cells #[.int .u8 all, .int .u8 took, .slice A l.length c, .int .u8 envn] 24)).alloc (Obj.cells #[.int .i64 0, .int .i64 0, .int .i64 0, .bool false] 48)).alloc (Obj.cells #[.int .i64 0, .int .i64 0, .int .i64 0, .bool false] 48)) := ((below1 w _).alloc (by simp) _).alloc (by simp; omega) _
  have bm := ((Blk.new w 24 #[.int .u8 all, .int .u8 took, .slice A l.length c, .int .u8 envn]).alloc (Obj.cells #[.int .i64 0, .int .i64 0, .int .i64 0, .bool false] 48)).alloc (Obj.cells #[.int .i64 0, .int .i64 0, .int .i64 0, .bool false] 48)
  have br := (Blk.new' (w.alloc (Obj.cells #[.int .u8 all, .int .u8 took, .slice A l.length c, .int .u8 envn] 24)) 48 #[.int .i64 0, .int .i64 0, .int .i64 0, .bool false] (g := w.heap.size + 1) (by simp)).alloc (Obj.cells #[.int .i64 0, .int .i64 0, .int .i64 0, .bool false] 48)
  have bo := Blk.new' ((w.alloc (Obj.cells #[.int .u8 all, .int .u8 took, .slice A l.length c, .int .u8 envn] 24)).alloc (Obj.cells #[.int .i64 0, .int .i64 0, .int .i64 0, .bool false] 48)) 48 #[.int .i64 0, .int .i64 0, .int .i64 0, .bool false] (g := w.heap.size + 2) (by simp)
  go_enter Try.func10, Try.ntmps10
  go_wp2_with fail
  generalize (((w.alloc (Obj.cells #[.int .u8 all, .int .u8 took, .slice A l.length c, .int .u8 envn] 24)).alloc (Obj.cells #[.int .i64 0, .int .i64 0, .int .i64 0, .bool false] 48)).alloc (Obj.cells #[.int .i64 0, .int .i64 0, .int .i64 0, .bool false] 48)) = w1 at *
  have HB := Lib.hid hB
  have HM := Lib.hid bm
  have HO := Lib.hid bo
  have HRB := Lib.hid br
  have hzw : w.heap.size + 2 < w1.heap.size := bo.lt
  clear hB bm bo br
  go_loopw [7, 8] (fun s7 s8 wr => ∃ i : Nat, i ≤ l.length ∧ i ≤ 16 ∧ s8 = .int .i64 i ∧ s7 = .bool (lastL (l.take i) e8 page).isSome ∧ Hid (Blk wr (w.heap.size + 2) 48 (x4 (lastL (l.take i) e8 page)) ∧ w1.grownBy wr (some (w.heap.size + 2)))) (fun _ i _ => 16 - (intOf i).toNat)
  case atStart => exact ⟨0, Nat.zero_le _, by omega, rfl, rfl, HO.out, only_refl w1 _⟩
  case round =>
    obtain ⟨i, hi, hi16, rfl, rfl, HR⟩ := hrel
    have hmr := HM.out.grown HR.out.2 (by simp)
    have m2 := hmr.cell 2 (.slice A l.length c) rfl
    have m3 := hmr.cell 3 (.int .u8 envn) rfl
    clear hmr
    by_cases hil : i < l.length
    · by_cases hi4 : i < 16
      · have hsl : Sl eE 4 wr A l := HS.out.keep (HB.out.grown HR.out.2 (by omega) (fun q hq => by injection hq with hq; omega))
        obtain ⟨b, off, rfl, y0, y1, y2, y3⟩ := hsl.en_at hil
        clear hsl
        have HLS : Hid (lastL (l.take (i + 1)) e8 page = if isL e8 page l[i] = true then some l[i] else lastL (l.take i) e8 page) := by
          unfold Hid
          rw [List.take_add_one, List.getElem?_eq_getElem hil]
          exact lastL_snoc _ _ _ _
        have HRT := Lib.hid (fun W => rRight_any l[i] W)
        generalize l[i] = x at *
        obtain ⟨xe, xp, xf, xw⟩ := x
        simp only at y0 y1 y2 y3 HRT
        have HNO : Hid (¬ isL e8 page ⟨xe, xp, xf, xw⟩ = true → lastL (l.take (i + 1)) e8 page = lastL (l.take i) e8 page) := fun h => by rw [HLS.out, if_neg h]
        have i0 : (0 : Int) ≤ (i : Int) := by omega
        have i16 : (i : Int) < 16 := by omega
        have i1 : (i : Int) < (l.length : Int) := by omega
        by_cases h1 : xe = e8
        · subst h1
          by_cases h2 : xp = page
          · subst h2
            cases h3 : rightE ⟨(e8 : Int), xp, xf, xw⟩
            · rw [h3] at HRT
              go_upto_region 5 with (fail)
              (have aft_m2 := Aft.cell m2; have aft_m3 := Aft.cell m3; have aft_y0 := Aft.cell y0; have aft_y1 := Aft.cell y1; have aft_y2 := Aft.cell y2; have aft_y3 := Aft.cell y3; refine wp_region_aft (by kernel_rfl) (by kernel_rfl) ?_; (repeat (go_big_quiet_step ((go_at_call 21; with_reducible exact aft_call (HRT.out _))))); refine wpQuiet_nil ?_; clear aft_m2 aft_m3 aft_y0 aft_y1 aft_y2 aft_y3; intro w5 hw2_; have hb5 := Aft.below hw2_; clear hw2_)
              have HN : Hid (Blk w5 (w.heap.size + 2) 48 (x4 (lastL (l.take (i + 1)) e8 xp)) ∧ w1.grownBy w5 (some (w.heap.size + 2)) ∧ (lastL (l.take (i + 1)) e8 xp).isSome = (lastL (l.take i) e8 xp).isSome) := by
                have hl : lastL (l.take (i + 1)) e8 xp = lastL (l.take i) e8 xp := HNO.out (by unfold isL; rw [h3]; simp)
                rw [hl]
                exact ⟨HR.out.1.keep hb5, only_below HR.out.2 hb5, rfl⟩
              clear hb5 m2 m3 y0 y1 y2 y3
              go_wp2_with fail
              go_roundw
              case rel => exact ⟨i + 1, by omega, by omega, by go_num, by rw [HN.out.2.2], HN.out.1, HN.out.2.1⟩
              case measure => simp [intOf]; omega
            · rw [h3] at HRT
              have HIL : Hid (lastL (l.take (i + 1)) e8 xp = some ⟨e8, xp, xf, xw⟩) := by
                unfold Hid
                rw [HLS.out, if_pos (by unfold isL hasK; simp [h3])]
              go_upto_region 5 with (fail)
              (have aft_m2 := Aft.cell m2; have aft_m3 := Aft.cell m3; have aft_y0 := Aft.cell y0; have aft_y1 := Aft.cell y1; have aft_y2 := Aft.cell y2; have aft_y3 := Aft.cell y3; refine wp_region_aft (by kernel_rfl) (by kernel_rfl) ?_; (repeat (go_big_quiet_step ((go_at_call 21; with_reducible exact aft_call (HRT.out _))))); refine wpQuiet_nil ?_; clear aft_m2 aft_m3 aft_y0 aft_y1 aft_y2 aft_y3; intro w5 hw2_; have hb5 := Aft.below hw2_; clear hw2_)
              have bo5 := HR.out.1.keep hb5
              have hg5 := only_below HR.out.2 hb5
              have z0 := kcell hb5 y0
              have z1 := kcell hb5 y1
              have z2 := kcell hb5 y2
              have z3 := kcell hb5 y3
              have n2 := kcell hb5 m2
              clear hb5 m2 m3 y0 y1 y2 y3
              have p0 := bo5.frozen 0
              have p1 := bo5.frozen 1
              have p2 := bo5.frozen 2
              have p3 := bo5.frozen 3
              obtain ⟨v0, v1, v2, v3, hx4⟩ : ∃ v0 v1 v2 v3, x4 (lastL (l.take i) e8 xp) = #[v0, v1, v2, v3] := by
                cases lastL (l.take i) e8 xp with
                | none => exact ⟨_, _, _, _, rfl⟩
                | some y => exact ⟨_, _, _, _, rfl⟩
              rw [hx4] at bo5
              have q0 := bo5.cell 0 v0 rfl
              have q1 := bo5.cell 1 v1 rfl
              have q2 := bo5.cell 2 v2 rfl
              have q3 := bo5.cell 3 v3 rfl
              have HN : Hid (Blk (put4 w5 (w.heap.size + 2) ⟨e8, xp, xf, xw⟩) (w.heap.size + 2) 48 (x4 (lastL (l.take (i + 1)) e8 xp)) ∧ w1.grownBy (put4 w5 (w.heap.size + 2) ⟨e8, xp, xf, xw⟩) (some (w.heap.size + 2)) ∧ (lastL (l.take (i + 1)) e8 xp).isSome = true) := by
                rw [HIL.out]
                exact ⟨put4_blk _ bo5, only_trans hg5 (put4_only _ _ _), rfl⟩
              clear bo5 hg5 hx4
              go_wp2_with fail
              go_roundw
              case rel => exact ⟨i + 1, by omega, by omega, by go_num, by rw [HN.out.2.2], HN.out.1, HN.out.2.1⟩
              case measure => simp [intOf]; omega
          · have HX : Hid (¬ xp = page) := h2
            have hxf : (xp == page) = false := by simp [h2]
            go_upto_region 5 with (fail)
            (have aft_m2 := Aft.cell m2; have aft_m3 := Aft.cell m3; have aft_y0 := Aft.cell y0; have aft_y1 := Aft.cell y1; have aft_y2 := Aft.cell y2; have aft_y3 := Aft.cell y3; refine wp_region_aft (by kernel_rfl) (by kernel_rfl) ?_; (repeat (go_big_quiet_step ((go_at_call 21; with_reducible exact aft_call (HRT.out _))))); refine wpQuiet_nil ?_; clear aft_m2 aft_m3 aft_y0 aft_y1 aft_y2 aft_y3; intro w5 hw2_; have hb5 := Aft.below hw2_; clear hw2_)
            have HN : Hid (Blk w5 (w.heap.size + 2) 48 (x4 (lastL (l.take (i + 1)) e8 page)) ∧ w1.grownBy w5 (some (w.heap.size + 2)) ∧ (lastL (l.take (i + 1)) e8 page).isSome = (lastL (l.take i) e8 page).isSome) := by
              have hl : lastL (l.take (i + 1)) e8 page = lastL (l.take i) e8 page := HNO.out (by unfold isL hasK; have := HX.out; simp [this])
              rw [hl]
              exact ⟨HR.out.1.keep hb5, only_below HR.out.2 hb5, rfl⟩
            clear hb5 m2 m3 y0 y1 y2 y3
            go_wp2_with fail
            go_roundw
            case rel => exact ⟨i + 1, by omega, by omega, by go_num, by rw [HN.out.2.2], HN.out.1, HN.out.2.1⟩
            case measure => simp [intOf]; omega
        · have HX : Hid (¬ xe = e8) := h1
          have hxf : (xe == (e8 : Int)) = false := by simp [h1]
          go_upto_region 5 with (fail)
          (have aft_m2 := Aft.cell m2; have aft_m3 := Aft.cell m3; have aft_y0 := Aft.cell y0; have aft_y1 := Aft.cell y1; have aft_y2 := Aft.cell y2; have aft_y3 := Aft.cell y3; refine wp_region_aft (by kernel_rfl) (by kernel_rfl) ?_; (repeat (go_big_quiet_step ((go_at_call 21; with_reducible exact aft_call (HRT.out _))))); refine wpQuiet_nil ?_; clear aft_m2 aft_m3 aft_y0 aft_y1 aft_y2 aft_y3; intro w5 hw2_; have hb5 := Aft.below hw2_; clear hw2_)
          have HN : Hid (Blk w5 (w.heap.size + 2) 48 (x4 (lastL (l.take (i + 1)) e8 page)) ∧ w1.grownBy w5 (some (w.heap.size + 2)) ∧ (lastL (l.take (i + 1)) e8 page).isSome = (lastL (l.take i) e8 page).isSome) := by
            have hl : lastL (l.take (i + 1)) e8 page = lastL (l.take i) e8 page := HNO.out (by unfold isL hasK; have := HX.out; simp [this])
            rw [hl]
            exact ⟨HR.out.1.keep hb5, only_below HR.out.2 hb5, rfl⟩
          clear hb5 m2 m3 y0 y1 y2 y3
          go_wp2_with fail
          go_roundw
          case rel => exact ⟨i + 1, by omega, by omega, by go_num, by rw [HN.out.2.2], HN.out.1, HN.out.2.1⟩
          case measure => simp [intOf]; omega
      · obtain rfl : i = 16 := by omega
        have HQ := True.intro
        have hbo := HR.out.1
        have hbr := HRB.out.grown HR.out.2 (by simp)
        have HBW : Hid (Below w.heap.size w wr) := HB.out.grown HR.out.2 (by omega) (fun q hq => by injection hq with hq; omega)
        have u0 := hbr.cell 0 (.int .i64 0) rfl
        have u1 := hbr.cell 1 (.int .i64 0) rfl
        have u2 := hbr.cell 2 (.int .i64 0) rfl
        have u3 := hbr.cell 3 (.bool false) rfl
        have f0 := hbr.frozen 0
        have f1 := hbr.frozen 1
        have f2 := hbr.frozen 2
        have f3 := hbr.frozen 3
        have HBR := Lib.hid hbr
        clear hbr HR
        cases hla : lastL (l.take 16) e8 page with
        | none =>
          rw [hla] at hbo
          have g0 := hbo.cell 0 (.int .i64 0) rfl
          have g1 := hbo.cell 1 (.int .i64 0) rfl
          have g2 := hbo.cell 2 (.int .i64 0) rfl
          have g3 := hbo.cell 3 (.bool false) rfl
          clear hbo
          go_wp2_with fail
          obtain ⟨d0, d1, d2, d3⟩ : _ ∧ _ ∧ _ ∧ _ := ⟨(put4_blk zE HBR.out).cell 0 (.int .i64 zE.env) rfl, (put4_blk zE HBR.out).cell 1 (.int .i64 zE.page) rfl, (put4_blk zE HBR.out).cell 2 (.int .i64 zE.frame) rfl, (put4_blk zE HBR.out).cell 3 (.bool zE.write) rfl⟩
          change bodyPost _ _ _ _ _ (put4 wr (w.heap.size + 1) zE)
          exact bodyPost_ret (v := .tuple #[.agg #[.int .i64 zE.env, .int .i64 zE.page, .int .i64 zE.frame, .bool zE.write], .bool false]) (by simp [results, Try.results10, go_sem, d0, d1, d2, d3, hla]) rfl ⟨by rw [hla]; rfl, below_only HBW.out (put4_only _ _ _) (by omega)⟩
        | some y =>
          rw [hla] at hbo
          have g0 := hbo.cell 0 (.int .i64 y.env) rfl
          have g1 := hbo.cell 1 (.int .i64 y.page) rfl
          have g2 := hbo.cell 2 (.int .i64 y.frame) rfl
          have g3 := hbo.cell 3 (.bool y.write) rfl
          clear hbo
          go_wp2_with fail
          obtain ⟨d0, d1, d2, d3⟩ : _ ∧ _ ∧ _ ∧ _ := ⟨(put4_blk y HBR.out).cell 0 (.int .i64 y.env) rfl, (put4_blk y HBR.out).cell 1 (.int .i64 y.page) rfl, (put4_blk y HBR.out).cell 2 (.int .i64 y.frame) rfl, (put4_blk y HBR.out).cell 3 (.bool y.write) rfl⟩
          change bodyPost _ _ _ _ _ (put4 wr (w.heap.size + 1) y)
          exact bodyPost_ret (v := .tuple #[.agg #[.int .i64 y.env, .int .i64 y.page, .int .i64 y.frame, .bool y.write], .bool true]) (by simp [results, Try.results10, go_sem, d0, d1, d2, d3, hla]) rfl ⟨by rw [hla]; rfl, below_only HBW.out (put4_only _ _ _) (by omega)⟩
    · have hte : lastL (l.take i) e8 page = lastL (l.take 16) e8 page := by rw [List.take_of_length_le (by omega), List.take_of_length_le (by omega)]
      rw [hte] at HR
      have hbo := HR.out.1
      have hbr := HRB.out.grown HR.out.2 (by simp)
      have HBW : Hid (Below w.heap.size w wr) := HB.out.grown HR.out.2 (by omega) (fun q hq => by injection hq with hq; omega)
      have u0 := hbr.cell 0 (.int .i64 0) rfl
      have u1 := hbr.cell 1 (.int .i64 0) rfl
      have u2 := hbr.cell 2 (.int .i64 0) rfl
      have u3 := hbr.cell 3 (.bool false) rfl
      have f0 := hbr.frozen 0
      have f1 := hbr.frozen 1
      have f2 := hbr.frozen 2
      have f3 := hbr.frozen 3
      have HBR := Lib.hid hbr
      clear hbr HR
      cases hla : lastL (l.take 16) e8 page with
      | none =>
        rw [hla] at hbo
        have g0 := hbo.cell 0 (.int .i64 0) rfl
        have g1 := hbo.cell 1 (.int .i64 0) rfl
        have g2 := hbo.cell 2 (.int .i64 0) rfl
        have g3 := hbo.cell 3 (.bool false) rfl
        clear hbo
        go_wp2_with fail
        obtain ⟨d0, d1, d2, d3⟩ : _ ∧ _ ∧ _ ∧ _ := ⟨(put4_blk zE HBR.out).cell 0 (.int .i64 zE.env) rfl, (put4_blk zE HBR.out).cell 1 (.int .i64 zE.page) rfl, (put4_blk zE HBR.out).cell 2 (.int .i64 zE.frame) rfl, (put4_blk zE HBR.out).cell 3 (.bool zE.write) rfl⟩
        change bodyPost _ _ _ _ _ (put4 wr (w.heap.size + 1) zE)
        exact bodyPost_ret (v := .tuple #[.agg #[.int .i64 zE.env, .int .i64 zE.page, .int .i64 zE.frame, .bool zE.write], .bool false]) (by simp [results, Try.results10, go_sem, d0, d1, d2, d3, hla, hte]) rfl ⟨by rw [hla]; rfl, below_only HBW.out (put4_only _ _ _) (by omega)⟩
      | some y =>
        rw [hla] at hbo
        have g0 := hbo.cell 0 (.int .i64 y.env) rfl
        have g1 := hbo.cell 1 (.int .i64 y.page) rfl
        have g2 := hbo.cell 2 (.int .i64 y.frame) rfl
        have g3 := hbo.cell 3 (.bool y.write) rfl
        clear hbo
        go_wp2_with fail
        obtain ⟨d0, d1, d2, d3⟩ : _ ∧ _ ∧ _ ∧ _ := ⟨(put4_blk y HBR.out).cell 0 (.int .i64 y.env) rfl, (put4_blk y HBR.out).cell 1 (.int .i64 y.page) rfl, (put4_blk y HBR.out).cell 2 (.int .i64 y.frame) rfl, (put4_blk y HBR.out).cell 3 (.bool y.write) rfl⟩
        change bodyPost _ _ _ _ _ (put4 wr (w.heap.size + 1) y)
        exact bodyPost_ret (v := .tuple #[.agg #[.int .i64 y.env, .int .i64 y.page, .int .i64 y.frame, .bool y.write], .bool true]) (by simp [results, Try.results10, go_sem, d0, d1, d2, d3, hla, hte]) rfl ⟨by rw [hla]; rfl, below_only HBW.out (put4_only _ _ _) (by omega)⟩
end Go.Proofs.Ytpimflmmfnffeaa

/- Two memories side by side, whatever order they are made in: what is so behind each operation. -/
namespace Go.Proofs.Ytpimflmmfnffeaa
open Go.RowKit Go.Lib
open Tlb (En Tb Tw)
open Fr (FrS Fm)

def pZ : Array Value := #[.int .i64 0, .pointer none, .pointer none]
def pA (e8 : Int) (gt gf : Nat) : Array Value := #[.int .i64 e8, .pointer (some ⟨gt, 0, none⟩), .pointer (some ⟨gf, 0, none⟩)]
def ptv (v : Value) (i : Nat) : Prop := v = .pointer (some ⟨i, 0, none⟩)
def Gg (B : Nat) (γ : Nat → Value) (i : Nat) : Prop := i < B ∨ ptv (γ 4) i ∨ ptv (γ 5) i
def Fp (gt gf : Nat) (A : Option Addr) (i : Nat) : Prop := i = gt ∨ i = gf ∨ blk A = some i
def TwoPl (G : Nat → Prop) (w : World) (gt gf : Nat) (L : List En) (gt' gf' : Nat) (L' : List En) (s : FrS) : Prop :=
  ∃ A c h m A' c' h' m', Pq (fun i => G i ∨ Fp gt' gf' A' i) w gt gf A c L h m s ∧ Pq (fun i => G i ∨ Fp gt gf A i) w gt' gf' A' c' L' h' m' s
theorem Pq.keep {F : Nat → Prop} {w w' : World} {gt gf : Nat} {A : Option Addr} {c : Nat} {L : List En} {h m : Int} {s : FrS} (q : Pq F w gt gf A c L h m s) (hb : Below w.heap.size w w') : Pq F w' gt gf A c L h m s :=
  ⟨q.tb.keep hb, q.fm.keep hb, q.uni, q.len, q.tf, q.af, fun i hi => ⟨Nat.lt_of_lt_of_le (q.off i hi).1 hb.size, (q.off i hi).2⟩⟩
section
variable {G H : Nat → Prop} {w w' : World} {gt gf gt' gf' : Nat} {L L' : List En} {s : FrS}
theorem TwoPl.join (q : TwoPl G w gt gf L gt' gf' L' s) (hb : Below w.heap.size w w') (hH : ∀ i, H i → G i ∨ (w.heap.size ≤ i ∧ i < w'.heap.size)) : TwoPl H w' gt gf L gt' gf' L' s := by
  obtain ⟨A, c, h, m, A', c', h', m', hp, hq⟩ := q
  have kp := hp.keep hb
  have kq := hq.keep hb
  refine ⟨A, c, h, m, A', c', h', m', { kp with off := fun i hi => ?_ }, { kq with off := fun i hi => ?_ }⟩
  · rcases hi with hi | hi
    · rcases hH i hi with h2 | ⟨h2, h3⟩
      · exact kp.off i (.inl h2)
      · exact ⟨h3, by have := hp.tb.1.lt; omega, by have := hp.fm.at_.lt; omega, fun e => by have := (hp.tb.own_lt _ e).2; omega⟩
    · exact kp.off i (.inr hi)
  · rcases hi with hi | hi
    · rcases hH i hi with h2 | ⟨h2, h3⟩
      · exact kq.off i (.inl h2)
      · exact ⟨h3, by have := hq.tb.1.lt; omega, by have := hq.fm.at_.lt; omega, fun e => by have := (hq.tb.own_lt _ e).2; omega⟩
    · exact kq.off i (.inr hi)
theorem TwoPl.out (q : TwoPl G w gt gf L gt' gf' L' s) {a : Addr} (ha : G a.block) (v : Value) : TwoPl G (w.setCell a v) gt gf L gt' gf' L' s := by
  obtain ⟨A, c, h, m, A', c', h', m', hp, hq⟩ := q
  obtain ⟨_, o1, o2, o4⟩ := hp.off _ (.inl ha)
  obtain ⟨_, u1, u2, u4⟩ := hq.off _ (.inl ha)
  have hg : w.grownBy (w.setCell a v) (some a.block) := ⟨rfl, rfl, rfl, by simp [World.setCell], fun k _ hne => Below.heap_setCell w a v k (fun e => hne (by rw [e]))⟩
  exact ⟨A, c, h, m, A', c', h', m',
    ⟨hp.tb.only hg (Ne.symm o1) o4, ⟨hp.fm.n0, hp.fm.t, hp.fm.b, hp.fm.at_.grown hg (by simpa using Ne.symm o2)⟩, hp.uni, hp.len, hp.tf, hp.af, fun i hi => ⟨Nat.lt_of_lt_of_le (hp.off i hi).1 hg.size, (hp.off i hi).2⟩⟩,
    ⟨hq.tb.only hg (Ne.symm u1) u4, ⟨hq.fm.n0, hq.fm.t, hq.fm.b, hq.fm.at_.grown hg (by simpa using Ne.symm u2)⟩, hq.uni, hq.len, hq.tf, hq.af, fun i hi => ⟨Nat.lt_of_lt_of_le (hq.off i hi).1 hg.size, (hq.off i hi).2⟩⟩⟩
theorem TwoPl.lt (q : TwoPl G w gt gf L gt' gf' L' s) : ∀ i, G i → i < w.heap.size := fun i hi => by
  obtain ⟨A, c, h, m, A', c', h', m', hp, hq⟩ := q
  exact (hp.off i (.inl hi)).1
/-- the second one behind the first -/
theorem TwoPl.make (p : Pl G w gt gf L s) (hb : Below w.heap.size w w') (q : Pl (fun i => i < w.heap.size) w' gt' gf' L' s) : TwoPl G w' gt gf L gt' gf' L' s := by
  obtain ⟨A, c, h, m, p⟩ := p
  obtain ⟨A', c', h', m', q⟩ := q
  have z := hb.size
  have kp := p.keep hb
  have a1 := p.tb.1.lt
  have a2 := p.fm.at_.lt
  have q1 : w.heap.size ≤ gt' := by
    rcases Nat.lt_or_ge gt' w.heap.size with h | h
    · exact absurd rfl (q.off gt' h).2.1
    · exact h
  have q2 : w.heap.size ≤ gf' := by
    rcases Nat.lt_or_ge gf' w.heap.size with h | h
    · exact absurd rfl (q.off gf' h).2.2.1
    · exact h
  have q3 : ∀ b, blk A' = some b → w.heap.size ≤ b := fun b hb2 => by
    rcases Nat.lt_or_ge b w.heap.size with h | h
    · exact absurd hb2 (q.off b h).2.2.2
    · exact h
  refine ⟨A, c, h, m, A', c', h', m', { kp with off := fun i hi => ?_ }, { q with off := fun i hi => ?_ }⟩
  · rcases hi with hi | rfl | rfl | hi
    · exact kp.off i hi
    · exact ⟨q.tb.1.lt, by omega, by omega, fun e => by have := (p.tb.own_lt _ e).2; omega⟩
    · exact ⟨q.fm.at_.lt, by omega, by omega, fun e => by have := (p.tb.own_lt _ e).2; omega⟩
    · have := q3 i hi
      exact ⟨(q.tb.own_lt _ hi).2, by omega, by omega, fun e => by have := (p.tb.own_lt _ e).2; omega⟩
  · rcases hi with hi | rfl | rfl | hi
    · exact q.off i (p.off i hi).1
    · exact q.off _ a1
    · exact q.off _ a2
    · exact q.off i (p.tb.own_lt _ hi).2
/-- with two processors -/
theorem TwoPl.cpus (q : TwoPl G w gt gf L gt' gf' L' s) {gc gc' : Nat} {R R' : List Int} {p p' : Int} (hb : Blk w gc 36 (cA R p)) (hb' : Blk w gc' 36 (cA R' p')) (hr : Rng R) (hr' : Rng R') (hne : gc ≠ gc') (hc : G gc) (hc' : G gc') (hH : ∀ i, H i → G i ∧ i ≠ gc ∧ i ≠ gc') :
    Two H w ⟨gt, gf, gc, tbl L, ⟨R, p, s⟩⟩ ⟨gt', gf', gc', tbl L', ⟨R', p', s⟩⟩ := by
  obtain ⟨A, c, h, m, A', c', h', m', hp, hq⟩ := q
  obtain ⟨_, o1, o2, o3⟩ := hp.off gc (.inl hc)
  obtain ⟨_, u1, u2, u3⟩ := hq.off gc' (.inl hc')
  obtain ⟨v0, v1, v2, v3⟩ := hp.off gc' (.inl hc')
  obtain ⟨x0, x1, x2, x3⟩ := hq.off gc (.inl hc)
  refine ⟨A, c, L, h, m, A', c', L', h', m', ⟨hp.tb, hp.fm, hb, hr, hp.uni, hp.len, rfl, hp.tf, Ne.symm o1, Ne.symm o2, hp.af, o3, fun i hi => ?_⟩, ⟨hq.tb, hq.fm, hb', hr', hq.uni, hq.len, rfl, hq.tf, Ne.symm u1, Ne.symm u2, hq.af, u3, fun i hi => ?_⟩⟩
  · rcases hi with hi | rfl | rfl | rfl | hi
    · obtain ⟨h1, h2, h3⟩ := hH i hi
      obtain ⟨a0, a1, a2, a3⟩ := hp.off i (.inl h1)
      exact ⟨a0, a1, a2, h2, a3⟩
    · obtain ⟨a0, a1, a2, a3⟩ := hp.off _ (.inr (.inl rfl))
      exact ⟨a0, a1, a2, Ne.symm x1, a3⟩
    · obtain ⟨a0, a1, a2, a3⟩ := hp.off _ (.inr (.inr (.inl rfl)))
      exact ⟨a0, a1, a2, Ne.symm x2, a3⟩
    · exact ⟨v0, v1, v2, Ne.symm hne, v3⟩
    · obtain ⟨a0, a1, a2, a3⟩ := hp.off _ (.inr (.inr (.inr hi)))
      exact ⟨a0, a1, a2, fun e => x3 (by simp only at e; rw [← e]; exact hi), a3⟩
  · rcases hi with hi | rfl | rfl | rfl | hi
    · obtain ⟨h1, h2, h3⟩ := hH i hi
      obtain ⟨a0, a1, a2, a3⟩ := hq.off i (.inl h1)
      exact ⟨a0, a1, a2, h3, a3⟩
    · obtain ⟨a0, a1, a2, a3⟩ := hq.off _ (.inr (.inl rfl))
      exact ⟨a0, a1, a2, Ne.symm v1, a3⟩
    · obtain ⟨a0, a1, a2, a3⟩ := hq.off _ (.inr (.inr (.inl rfl)))
      exact ⟨a0, a1, a2, Ne.symm v2, a3⟩
    · exact ⟨x0, x1, x2, hne, x3⟩
    · obtain ⟨a0, a1, a2, a3⟩ := hq.off _ (.inr (.inr (.inr hi)))
      exact ⟨a0, a1, a2, fun e => v3 (by simp only at e; rw [← e]; exact hi), a3⟩
end
structure JA (e8 : Int) (W : World) (M : Value) (LL : List En) (s : FrS) (L : Nat → Bool) (γ : Nat → Value) (w : World) : Prop where
  kb : Below W.heap.size W w
  l6 : L 6 = false
  l7 : L 7 = false
  o1 : L 1 = true → L 0 = true
  o3 : L 3 = true → L 1 = true ∧ L 2 = true
  m0 : L 0 = true → γ 0 = M
  m2 : L 2 = true → γ 2 = M
  u4 : L 4 = false → γ 4 = undef
  u5 : L 5 = false → γ 5 = undef
  b4 : L 4 = true → ∃ b, ptv (γ 4) b ∧ W.heap.size ≤ b ∧ Blk w b 30 pZ
  b5 : L 5 = true → ∃ b, ptv (γ 5) b ∧ W.heap.size ≤ b ∧ Blk w b 30 pZ
  ne : ∀ b, ptv (γ 4) b → ¬ ptv (γ 5) b
  p1 : L 1 = true → L 3 = false → ∃ gt gf, γ 1 = .agg (pA e8 gt gf) ∧ Pl (Gg W.heap.size γ) w gt gf LL s
  p3 : L 3 = true → ∃ gt gf gt' gf', γ 1 = .agg (pA e8 gt gf) ∧ γ 3 = .agg (pA e8 gt' gf') ∧ TwoPl (Gg W.heap.size γ) w gt gf LL gt' gf' [] s
structure JB (e8 : Int) (W : World) (LL : List En) (s : FrS) (L : Nat → Bool) (γ : Nat → Value) (w : World) (n7 : Bool) : Prop where
  kb : Below W.heap.size W w
  l : L 0 = true ∧ L 1 = true ∧ L 2 = true ∧ L 3 = true ∧ L 4 = true ∧ L 5 = true ∧ L 6 = true
  l7 : L 7 = n7
  all_ : ∃ b7 b8 gt gf gt' gf', ptv (γ 4) b7 ∧ ptv (γ 5) b8 ∧ W.heap.size ≤ b7 ∧ W.heap.size ≤ b8 ∧ b7 ≠ b8 ∧ γ 1 = .agg (pA e8 gt gf) ∧ γ 3 = .agg (pA e8 gt' gf') ∧ TwoPl (Gg W.heap.size γ) w gt gf LL gt' gf' [] s ∧ Blk w b7 30 (pA e8 gt gf) ∧ Blk w b8 30 (if n7 then pA e8 gt' gf' else pZ)
def JJ (e8 : Int) (W : World) (M : Value) (LL : List En) (s : FrS) (L : Nat → Bool) (γ : Nat → Value) (w : World) : Prop := JA e8 W M LL s L γ w ∨ JB e8 W LL s L γ w false ∨ JB e8 W LL s L γ w true
section
variable {e8 : Int} {W : World} {M : Value} {LL : List En} {s : FrS} {L : Nat → Bool} {γ : Nat → Value} {w w' : World}
theorem gg_lt (h : JA e8 W M LL s L γ w) : ∀ i, Gg W.heap.size γ i → i < w.heap.size := fun i hi => by
  rcases hi with hi | hi | hi
  · exact Nat.lt_of_lt_of_le hi h.kb.size
  · cases h4 : L 4 with
    | false => have := h.u4 h4; unfold ptv at hi; rw [hi] at this; cases this
    | true =>
      obtain ⟨b, hb, _, hk⟩ := h.b4 h4
      unfold ptv at hi hb
      rw [hi] at hb
      injection hb with hb; injection hb with hb; injection hb with hb
      subst hb
      exact hk.lt
  · cases h5 : L 5 with
    | false => have := h.u5 h5; unfold ptv at hi; rw [hi] at this; cases this
    | true =>
      obtain ⟨b, hb, _, hk⟩ := h.b5 h5
      unfold ptv at hi hb
      rw [hi] at hb
      injection hb with hb; injection hb with hb; injection hb with hb
      subst hb
      exact hk.lt
theorem JA.op0 (h : JA e8 W M LL s L γ w) : JA e8 W M LL s (updB L 0) (updV γ 0 M) w :=
  ⟨h.kb, h.l6, h.l7, fun _ => rfl, h.o3, fun _ => rfl, h.m2, h.u4, h.u5, h.b4, h.b5, h.ne, h.p1, h.p3⟩
theorem JA.op2 (h : JA e8 W M LL s L γ w) : JA e8 W M LL s (updB L 2) (updV γ 2 M) w :=
  ⟨h.kb, h.l6, h.l7, h.o1, fun h3 => ⟨(h.o3 h3).1, rfl⟩, h.m0, fun _ => rfl, h.u4, h.u5, h.b4, h.b5, h.ne, h.p1, h.p3⟩
theorem JA.op1 (h : JA e8 W M LL s L γ w) (h0 : L 0 = true) (h1 : L 1 = false) {gt gf : Nat} (hb : Below w.heap.size w w') (hp : Pl (fun i => i < w.heap.size) w' gt gf LL s) : JA e8 W M LL s (updB L 1) (updV γ 1 (.agg (pA e8 gt gf))) w' := by
  have h3 : L 3 = false := by
    cases h3 : L 3 with
    | false => rfl
    | true => rw [(h.o3 h3).1] at h1; cases h1
  exact ⟨h.kb.trans (hb.mono h.kb.size), h.l6, h.l7, fun _ => h0, fun h4 => (by rw [show updB L 1 3 = L 3 from rfl, h3] at h4; cases h4), h.m0, h.m2, h.u4, h.u5,
    fun h4 => (by obtain ⟨b, h5, h6, h7⟩ := h.b4 h4; exact ⟨b, h5, h6, h7.keep hb⟩), fun h4 => (by obtain ⟨b, h5, h6, h7⟩ := h.b5 h4; exact ⟨b, h5, h6, h7.keep hb⟩), h.ne,
    fun _ _ => ⟨gt, gf, rfl, hp.less (fun i hi => gg_lt h i hi)⟩, fun h4 => (by rw [show updB L 1 3 = L 3 from rfl, h3] at h4; cases h4)⟩
theorem JA.op3 (h : JA e8 W M LL s L γ w) (h1 : L 1 = true) (h2 : L 2 = true) (h3 : L 3 = false) {gt' gf' : Nat} (hb : Below w.heap.size w w') (hp : Pl (fun i => i < w.heap.size) w' gt' gf' [] s) : JA e8 W M LL s (updB L 3) (updV γ 3 (.agg (pA e8 gt' gf'))) w' := by
  obtain ⟨gt, gf, hv, hpl⟩ := h.p1 h1 h3
  exact ⟨h.kb.trans (hb.mono h.kb.size), h.l6, h.l7, h.o1, fun _ => ⟨h1, h2⟩, h.m0, h.m2, h.u4, h.u5,
    fun h4 => (by obtain ⟨b, h5, h6, h7⟩ := h.b4 h4; exact ⟨b, h5, h6, h7.keep hb⟩), fun h4 => (by obtain ⟨b, h5, h6, h7⟩ := h.b5 h4; exact ⟨b, h5, h6, h7.keep hb⟩), h.ne,
    fun _ h4 => (by cases (show (true : Bool) = false from h4)), fun _ => ⟨gt, gf, gt', gf', hv, rfl, TwoPl.make hpl hb hp⟩⟩
theorem ptr_inj {i b : Nat} (h : ptv (.pointer (some ⟨b, 0, none⟩)) i) : i = b := by
  unfold ptv at h
  injection h with h; injection h with h; injection h with h
  exact h.symm
theorem JA.op4 (h : JA e8 W M LL s L γ w) (h4 : L 4 = false) : JA e8 W M LL s (updB L 4) (updV γ 4 (.pointer (some ⟨w.heap.size, 0, none⟩))) (w.alloc (.cells pZ 30)) := by
  have hb := below1 w (Obj.cells pZ 30)
  have hG : ∀ i, Gg W.heap.size (updV γ 4 (.pointer (some ⟨w.heap.size, 0, none⟩))) i → Gg W.heap.size γ i ∨ (w.heap.size ≤ i ∧ i < (w.alloc (.cells pZ 30)).heap.size) := fun i hi => by
    rcases hi with hi | hi | hi
    · exact .inl (.inl hi)
    · have := ptr_inj hi
      subst this
      exact .inr ⟨Nat.le_refl _, by simp⟩
    · exact .inl (.inr (.inr hi))
  exact ⟨h.kb.trans (hb.mono h.kb.size), h.l6, h.l7, h.o1, h.o3, h.m0, h.m2, fun h5 => (by cases (show (true : Bool) = false from h5)), h.u5,
    fun _ => ⟨w.heap.size, rfl, h.kb.size, Blk.new w _ _⟩, fun h5 => (by obtain ⟨b, h5, h6, h7⟩ := h.b5 h5; exact ⟨b, h5, h6, h7.keep hb⟩),
    fun b hb2 hb3 => by
      have e := ptr_inj hb2
      subst e
      exact absurd (gg_lt h _ (.inr (.inr hb3))) (Nat.lt_irrefl _),
    fun h5 h6 => by
      obtain ⟨gt, gf, hv, hp⟩ := h.p1 h5 h6
      refine ⟨gt, gf, hv, (hp.box (Obj.cells pZ 30)).less fun i hi => ?_⟩
      rcases hG i hi with h7 | ⟨h7, h8⟩
      · exact .inl h7
      · exact .inr (by simp at h8; omega),
    fun h5 => by
      obtain ⟨gt, gf, gt', gf', hv, hv', hp⟩ := h.p3 h5
      exact ⟨gt, gf, gt', gf', hv, hv', hp.join hb hG⟩⟩
theorem JA.op5 (h : JA e8 W M LL s L γ w) (h4 : L 5 = false) : JA e8 W M LL s (updB L 5) (updV γ 5 (.pointer (some ⟨w.heap.size, 0, none⟩))) (w.alloc (.cells pZ 30)) := by
  have hb := below1 w (Obj.cells pZ 30)
  have hG : ∀ i, Gg W.heap.size (updV γ 5 (.pointer (some ⟨w.heap.size, 0, none⟩))) i → Gg W.heap.size γ i ∨ (w.heap.size ≤ i ∧ i < (w.alloc (.cells pZ 30)).heap.size) := fun i hi => by
    rcases hi with hi | hi | hi
    · exact .inl (.inl hi)
    · exact .inl (.inr (.inl hi))
    · have := ptr_inj hi
      subst this
      exact .inr ⟨Nat.le_refl _, by simp⟩
  exact ⟨h.kb.trans (hb.mono h.kb.size), h.l6, h.l7, h.o1, h.o3, h.m0, h.m2, h.u4, fun h5 => (by cases (show (true : Bool) = false from h5)),
    fun h5 => (by obtain ⟨b, h5, h6, h7⟩ := h.b4 h5; exact ⟨b, h5, h6, h7.keep hb⟩), fun _ => ⟨w.heap.size, rfl, h.kb.size, Blk.new w _ _⟩,
    fun b hb2 hb3 => by
      have e := ptr_inj hb3
      subst e
      exact absurd (gg_lt h _ (.inr (.inl hb2))) (Nat.lt_irrefl _),
    fun h5 h6 => by
      obtain ⟨gt, gf, hv, hp⟩ := h.p1 h5 h6
      refine ⟨gt, gf, hv, (hp.box (Obj.cells pZ 30)).less fun i hi => ?_⟩
      rcases hG i hi with h7 | ⟨h7, h8⟩
      · exact .inl h7
      · exact .inr (by simp at h8; omega),
    fun h5 => by
      obtain ⟨gt, gf, gt', gf', hv, hv', hp⟩ := h.p3 h5
      exact ⟨gt, gf, gt', gf', hv, hv', hp.join hb hG⟩⟩
/-- a place stored -/
def putP (w : World) (b : Nat) (e8 : Int) (gt gf : Nat) : World := ((w.setCell ⟨b, 0, none⟩ (.int .i64 e8)).setCell ⟨b, 1, none⟩ (.pointer (some ⟨gt, 0, none⟩))).setCell ⟨b, 2, none⟩ (.pointer (some ⟨gf, 0, none⟩))
theorem putP_below {w0 : World} {B b : Nat} (h : Below B w0 w) (hb : B ≤ b) (e8 : Int) (gt gf : Nat) : Below B w0 (putP w b e8 gt gf) := below_out (below_out (below_out h (p := ⟨b, 0, none⟩) hb _) (p := ⟨b, 1, none⟩) hb _) (p := ⟨b, 2, none⟩) hb _
theorem putP_blk {b gt gf : Nat} {t : TypeId} (h : Blk w b t pZ) (e8 : Int) : Blk (putP w b e8 gt gf) b t (pA e8 gt gf) := ((h.set_ 0 _).set_ 1 _).set_ 2 _
theorem putP_far {b b' gt gf : Nat} {t : TypeId} {cs : Array Value} (h : Blk w b' t cs) (hne : b' ≠ b) (e8 : Int) : Blk (putP w b e8 gt gf) b' t cs := ((h.far (p := ⟨b, 0, none⟩) hne _).far (p := ⟨b, 1, none⟩) hne _).far (p := ⟨b, 2, none⟩) hne _
theorem putP_two {G : Nat → Prop} {gt gf gt' gf' b x y : Nat} {L L' : List En} (h : TwoPl G w gt gf L gt' gf' L' s) (hb : G b) (e8 : Int) : TwoPl G (putP w b e8 x y) gt gf L gt' gf' L' s := ((h.out (a := ⟨b, 0, none⟩) hb _).out (a := ⟨b, 1, none⟩) hb _).out (a := ⟨b, 2, none⟩) hb _
theorem JA.op6 (h : JA e8 W M LL s L γ w) (h0 : L 4 = true) (h5 : L 5 = true) (h3 : L 3 = true) {b gt gf : Nat} (hb : ptv (γ 4) b) (hv : γ 1 = .agg (pA e8 gt gf)) : JB e8 W LL s (updB L 6) (updV γ 6 undef) (putP w b e8 gt gf) false := by
  obtain ⟨h1, h2⟩ := h.o3 h3
  obtain ⟨b7, h71, h72, h73⟩ := h.b4 h0
  obtain ⟨b8, h81, h82, h83⟩ := h.b5 h5
  obtain ⟨gt1, gf1, gt', gf', hv1, hv', hp⟩ := h.p3 h3
  have e : b = b7 := by unfold ptv at h71; rw [h71] at hb; exact (ptr_inj hb)
  subst e
  rw [hv] at hv1
  injection hv1 with hv1
  have e1 : gt = gt1 := by have := congrArg (fun x : Array Value => x[1]?) hv1; simp [pA] at this; exact this
  have e2 : gf = gf1 := by have := congrArg (fun x : Array Value => x[2]?) hv1; simp [pA] at this; exact this
  subst e1 e2
  have hne : b ≠ b8 := fun e => h.ne b h71 (by rw [e]; exact h81)
  exact ⟨putP_below h.kb h72 _ _ _, ⟨h.o1 h1, h1, h2, h3, h0, h5, rfl⟩, h.l7, b, b8, gt, gf, gt', gf', h71, h81, h72, h82, hne, hv, hv', putP_two hp (.inr (.inl h71)) _, putP_blk h73 _, putP_far h83 (Ne.symm hne) _⟩
theorem JB.op7 (h : JB e8 W LL s L γ w false) {b gt gf : Nat} (hb : ptv (γ 5) b) (hv : γ 3 = .agg (pA e8 gt gf)) : JB e8 W LL s (updB L 7) (updV γ 7 undef) (putP w b e8 gt gf) true := by
  obtain ⟨b7, b8, gt1, gf1, gt', gf', h1, h2, h3, h4, h5, h6, h7, h8, h9, h10⟩ := h.all_
  have e : b = b8 := by unfold ptv at h2; rw [h2] at hb; exact (ptr_inj hb)
  subst e
  rw [hv] at h7
  injection h7 with h7
  have e1 : gt = gt' := by have := congrArg (fun x : Array Value => x[1]?) h7; simp [pA] at this; exact this
  have e2 : gf = gf' := by have := congrArg (fun x : Array Value => x[2]?) h7; simp [pA] at this; exact this
  subst e1 e2
  exact ⟨putP_below h.kb h4 _ _ _, h.l, rfl, b7, b, gt1, gf1, gt, gf, h1, h2, h3, h4, h5, h6, hv, putP_two h8 (.inr (.inr h2)) _, putP_far h9 h5 _, putP_blk h10 _⟩
end
end Go.Proofs.Ytpimflmmfnffeaa

/- The region that makes two memories, whatever its order: by an invariant. -/
namespace Go.Proofs.Ytpimflmmfnffeaa
open Go.RowKit Go.Lib
open Tlb (En Tb Tw eE)
open Fr (FrS Fm)

theorem run_load_mem (ρ : Operand → Value) (o : Oper) (x : Operand) (g : Nat) (v0 v1 v2 v3 : Value) (w : World) (ho : o.op = .load 24 x) (hx : ρ x = .pointer (some ⟨g, 0, none⟩)) (hb : Blk w g 24 #[v0, v1, v2, v3]) (h1 : v0.oneCell' = true ∧ v1.oneCell' = true ∧ v2.oneCell' = true ∧ v3.oneCell' = true) : (execOp ρ o).run Try.prog w = .ok (.value (.agg #[v0, v1, v2, v3])) w := by
  have c0 := hb.cell 0 v0 rfl
  have c1 := hb.cell 1 v1 rfl
  have c2 := hb.cell 2 v2 rfl
  have c3 := hb.cell 3 v3 rfl
  simp only [execOp, ho, hx]
  go_simp
theorem run_call_place (ρ : Operand → Value) (o : Oper) (x y : Operand) (ty : Array TypeId) (v u : Value) (w : World) (ho : o.op = .call { callee := .value (.func 6), args := #[x, y], argTypes := ty }) (hx : ρ x = v) (hy : ρ y = u) (hf : ρ (.func 6) = .func (.func 6) #[] #[]) : (execOp ρ o).run Try.prog w = .ok (.enter 6 #[v, u]) w := by
  simp only [execOp, ho]
  go_simp
theorem run_alloc_place (ρ : Operand → Value) (o : Oper) (w : World) (ho : o.op = .alloc 30) : (execOp ρ o).run Try.prog w = .ok (.value (.pointer (some ⟨w.heap.size, 0, none⟩))) (w.alloc (.cells pZ 30)) := by
  simp only [execOp, ho]
  go_simp
  rfl
theorem run_store_place (ρ : Operand → Value) (o : Oper) (x y : Operand) (b gt gf : Nat) (e8 : Int) (w : World) (ho : o.op = .store 30 x y) (hx : ρ x = .pointer (some ⟨b, 0, none⟩)) (hy : ρ y = .agg (pA e8 gt gf)) (hb : Blk w b 30 pZ) : (execOp ρ o).run Try.prog w = .ok .skip (putP w b e8 gt gf) := by
  have c0 := hb.cell 0 (.int .i64 0) rfl
  have c1 := hb.cell 1 (.pointer none) rfl
  have c2 := hb.cell 2 (.pointer none) rfl
  have f0 := hb.frozen 0
  have f1 := hb.frozen 1
  have f2 := hb.frozen 2
  simp only [execOp, ho, hx, hy, pA, putP]
  go_simp
/-- an operation of a region, by what it is, where it puts what it yields, and what it waits for -/
def OpAt (l : List Oper) (k : Nat) (op : Op) (dst : Option Nat) (ws : List Nat) : Prop := ∃ o, l.toArray[k]? = some o ∧ o.op = op ∧ o.dst = dst ∧ o.guard = none ∧ (ws.all fun j => Region.waitsFor .any l.toArray k j) = true
theorem OpAt.at_ {l : List Oper} {k : Nat} {op : Op} {dst : Option Nat} {ws : List Nat} (h : OpAt l k op dst ws) {o : Oper} (ho : l.toArray[k]? = some o) {L : Nat → Bool} (hp : ∀ e ∈ o.after, Region.binds .any e = true → L e.on = true) : o.op = op ∧ o.dst = dst ∧ o.guard = none ∧ ∀ j ∈ ws, L j = true := by
  obtain ⟨o', h1, h2, h3, h4, h5⟩ := h
  rw [ho] at h1
  injection h1 with h1
  subst h1
  refine ⟨h2, h3, h4, fun j hj => ?_⟩
  have := List.all_eq_true.1 h5 j hj
  obtain ⟨o'', h6, e, he, hb, hon⟩ := Region.waitsFor_spec this
  rw [ho] at h6
  injection h6 with h6
  subst h6
  rw [← hon]
  exact hp e he hb
theorem put_none (a : Act) (v : Value) : a.put none v = a := rfl
def D5 : List (Nat × Nat) := [(0, 31), (1, 32), (2, 33), (3, 34), (4, 7), (5, 8)]
set_option maxHeartbeats 4000000 in
theorem region5 {id : Nat} {l : List Oper} {a : Act} {Q : Exit → Act → World → Prop} (W : World) (g : Nat) (v0 v1 v2 v3 : Value) (e8 : Int) (LL : List En) (s : FrS) (ty1 ty3 : Array TypeId)
    (hlen : l.length = 8) (hB : ((List.range l.toArray.size).all fun i => backB l.toArray i) = true) (hN : a.tmps.size = 158) (hun : frV a (fun _ => undef) D5 = a) (h3 : a.eval (.tmp 3) = .pointer (some ⟨g, 0, none⟩)) (hbm : Blk W g 24 #[v0, v1, v2, v3]) (hone : v0.oneCell' = true ∧ v1.oneCell' = true ∧ v2.oneCell' = true ∧ v3.oneCell' = true)
    (o0 : OpAt l 0 (.load 24 (.tmp 3)) (some 31) []) (o1 : OpAt l 1 (.call { callee := .value (.func 6), args := #[.tmp 31, .const (.bool true)], argTypes := ty1 }) (some 32) [0])
    (o2 : OpAt l 2 (.load 24 (.tmp 3)) (some 33) []) (o3 : OpAt l 3 (.call { callee := .value (.func 6), args := #[.tmp 33, .const (.bool false)], argTypes := ty3 }) (some 34) [1, 2])
    (o4 : OpAt l 4 (.alloc 30) (some 7) []) (o5 : OpAt l 5 (.alloc 30) (some 8) []) (o6 : OpAt l 6 (.store 30 (.tmp 7) (.tmp 32)) none [3, 4, 5]) (o7 : OpAt l 7 (.store 30 (.tmp 8) (.tmp 34)) none [6])
    (hT : ∀ w, Below W.heap.size W w → Calls Try.prog 6 #[.agg #[v0, v1, v2, v3], .bool true] w (RetP e8 LL s w)) (hF : ∀ w, Below W.heap.size W w → Calls Try.prog 6 #[.agg #[v0, v1, v2, v3], .bool false] w (RetP e8 [] s w))
    (hQ : ∀ (L : Nat → Bool) (γ : Nat → Value) (w : World), JB e8 W LL s L γ w true → Q .normal (frV a γ D5) w) : (Code.region id l.toArray true).wp Try.prog Q a W := by
  refine wp_region_inv D5 (JJ e8 W (.agg #[v0, v1, v2, v3]) LL s) (by kernel_rfl) hB hun ?_ ?_ ?_
  · rw [hlen]
    refine .inl ⟨(Below.refl _ _).drew, by simp, by simp, fun h => (by simp at h), fun h => (by simp at h), fun h => (by simp at h), fun h => (by simp at h), fun _ => rfl, fun _ => rfl, fun h => (by simp at h), fun h => (by simp at h), fun b h => (by cases h), fun h => (by simp at h), fun h => (by simp at h)⟩
  · intro i o L γ w hJ ho hL hpre
    have hi : i < 8 := by have := (Array.getElem?_eq_some_iff.1 ho).1; simp at this; omega
    have hup : ∀ (j d : Nat) (v : Value), (j, d) ∈ D5 → (frV a γ D5).put (some d) v = frV a (updV γ j v) D5 := fun j d v h => frV_upd D5 a γ j d v h (by decide) (by decide)
    have hnone : ∀ (j : Nat) (v : Value), j ∉ D5.map Prod.fst → frV a γ D5 = frV a (updV γ j v) D5 := fun j v h => by
      simp [D5] at h
      simp [frV, D5, updV]
      obtain ⟨h0, h1, h2, h3, h4, h5⟩ := h
      simp [Ne.symm h0, Ne.symm h1, Ne.symm h2, Ne.symm h3, Ne.symm h4, Ne.symm h5]
    rcases (by omega : i = 0 ∨ i = 1 ∨ i = 2 ∨ i = 3 ∨ i = 4 ∨ i = 5 ∨ i = 6 ∨ i = 7) with rfl | rfl | rfl | rfl | rfl | rfl | rfl | rfl
    · obtain ⟨q1, q2, q3, q4⟩ := o0.at_ ho hpre
      refine wpOp_inv ho q3 ?_
      rcases hJ with hA | hB | hB
      · have e3 : (frV a γ D5).eval (.tmp 3) = .pointer (some ⟨g, 0, none⟩) := (frV_old D5 a γ 3 (by decide)).trans h3
        have hg : g < W.heap.size := hbm.lt
        unfold Oper.wp
        rw [run_load_mem _ o _ g v0 v1 v2 v3 w q1 e3 ((hA.kb.block g hg).trans hbm) hone]
        unfold Oper.upon
        rw [q2]
        exact ⟨_, hup 0 31 _ (by decide), .inl hA.op0⟩
      · rw [hB.l.1] at hL; cases hL
      · rw [hB.l.1] at hL; cases hL
    · obtain ⟨q1, q2, q3, q4⟩ := o1.at_ ho hpre
      refine wpOp_inv ho q3 ?_
      have hL0 := q4 0 (by simp)
      rcases hJ with hA | hB | hB
      · have e3 : (frV a γ D5).eval (.tmp 31) = .agg #[v0, v1, v2, v3] := (frV_new D5 a γ 0 31 (by decide) (by decide) (by rw [hN]; decide)).trans (hA.m0 hL0)
        unfold Oper.wp
        rw [run_call_place _ o _ _ _ _ _ w q1 e3 rfl rfl]
        unfold Oper.upon
        refine (hT w hA.kb).mono ?_
        rintro e w' ⟨gt, gf, rfl, hp, hb⟩
        simp only
        rw [q2]
        exact ⟨_, hup 1 32 _ (by decide), .inl (hA.op1 hL0 hL hb hp)⟩
      · rw [hB.l.2.1] at hL; cases hL
      · rw [hB.l.2.1] at hL; cases hL
    · obtain ⟨q1, q2, q3, q4⟩ := o2.at_ ho hpre
      refine wpOp_inv ho q3 ?_
      rcases hJ with hA | hB | hB
      · have e3 : (frV a γ D5).eval (.tmp 3) = .pointer (some ⟨g, 0, none⟩) := (frV_old D5 a γ 3 (by decide)).trans h3
        have hg : g < W.heap.size := hbm.lt
        unfold Oper.wp
        rw [run_load_mem _ o _ g v0 v1 v2 v3 w q1 e3 ((hA.kb.block g hg).trans hbm) hone]
        unfold Oper.upon
        rw [q2]
        exact ⟨_, hup 2 33 _ (by decide), .inl hA.op2⟩
      · rw [hB.l.2.2.1] at hL; cases hL
      · rw [hB.l.2.2.1] at hL; cases hL
    · obtain ⟨q1, q2, q3, q4⟩ := o3.at_ ho hpre
      refine wpOp_inv ho q3 ?_
      have hL1 := q4 1 (by simp)
      have hL2 := q4 2 (by simp)
      rcases hJ with hA | hB | hB
      · have e3 : (frV a γ D5).eval (.tmp 33) = .agg #[v0, v1, v2, v3] := (frV_new D5 a γ 2 33 (by decide) (by decide) (by rw [hN]; decide)).trans (hA.m2 hL2)
        unfold Oper.wp
        rw [run_call_place _ o _ _ _ _ _ w q1 e3 rfl rfl]
        unfold Oper.upon
        refine (hF w hA.kb).mono ?_
        rintro e w' ⟨gt, gf, rfl, hp, hb⟩
        simp only
        rw [q2]
        exact ⟨_, hup 3 34 _ (by decide), .inl (hA.op3 hL1 hL2 hL hb hp)⟩
      · rw [hB.l.2.2.2.1] at hL; cases hL
      · rw [hB.l.2.2.2.1] at hL; cases hL
    · obtain ⟨q1, q2, q3, q4⟩ := o4.at_ ho hpre
      refine wpOp_inv ho q3 ?_
      rcases hJ with hA | hB | hB
      · unfold Oper.wp
        rw [run_alloc_place _ o w q1]
        unfold Oper.upon
        rw [q2]
        exact ⟨_, hup 4 7 _ (by decide), .inl (hA.op4 hL)⟩
      · rw [hB.l.2.2.2.2.1] at hL; cases hL
      · rw [hB.l.2.2.2.2.1] at hL; cases hL
    · obtain ⟨q1, q2, q3, q4⟩ := o5.at_ ho hpre
      refine wpOp_inv ho q3 ?_
      rcases hJ with hA | hB | hB
      · unfold Oper.wp
        rw [run_alloc_place _ o w q1]
        unfold Oper.upon
        rw [q2]
        exact ⟨_, hup 5 8 _ (by decide), .inl (hA.op5 hL)⟩
      · rw [hB.l.2.2.2.2.2.1] at hL; cases hL
      · rw [hB.l.2.2.2.2.2.1] at hL; cases hL
    · obtain ⟨q1, q2, q3, q4⟩ := o6.at_ ho hpre
      refine wpOp_inv ho q3 ?_
      have hL3 := q4 3 (by simp)
      have hL4 := q4 4 (by simp)
      have hL5 := q4 5 (by simp)
      rcases hJ with hA | hB | hB
      · obtain ⟨b, hb1, hb2, hb3⟩ := hA.b4 hL4
        obtain ⟨gt, gf, gt', gf', hv, hv', hp⟩ := hA.p3 hL3
        have e7 : (frV a γ D5).eval (.tmp 7) = .pointer (some ⟨b, 0, none⟩) := (frV_new D5 a γ 4 7 (by decide) (by decide) (by rw [hN]; decide)).trans hb1
        have e32 : (frV a γ D5).eval (.tmp 32) = .agg (pA e8 gt gf) := (frV_new D5 a γ 1 32 (by decide) (by decide) (by rw [hN]; decide)).trans hv
        unfold Oper.wp
        rw [run_store_place _ o _ _ b gt gf e8 w q1 e7 e32 hb3]
        unfold Oper.upon
        have HJ : JJ e8 W (.agg #[v0, v1, v2, v3]) LL s (updB L 6) (updV γ 6 undef) _ := .inr (.inl (hA.op6 hL4 hL5 hL3 hb1 hv))
        have HN := hnone 6 undef (by decide)
        rw [q2, put_none]
        generalize frV a γ D5 = a1 at *
        exact ⟨undef, HN, HJ⟩
      · rw [hB.l.2.2.2.2.2.2] at hL; cases hL
      · rw [hB.l.2.2.2.2.2.2] at hL; cases hL
    · obtain ⟨q1, q2, q3, q4⟩ := o7.at_ ho hpre
      refine wpOp_inv ho q3 ?_
      have hL6 := q4 6 (by simp)
      rcases hJ with hA | hB | hB
      · rw [hA.l6] at hL6; cases hL6
      · obtain ⟨b7, b8, gt, gf, gt', gf', g1, g2, g3, g4, g5, g6, g7, g8, g9, g10⟩ := hB.all_
        have e8' : (frV a γ D5).eval (.tmp 8) = .pointer (some ⟨b8, 0, none⟩) := (frV_new D5 a γ 5 8 (by decide) (by decide) (by rw [hN]; decide)).trans g2
        have e34 : (frV a γ D5).eval (.tmp 34) = .agg (pA e8 gt' gf') := (frV_new D5 a γ 3 34 (by decide) (by decide) (by rw [hN]; decide)).trans g7
        unfold Oper.wp
        rw [run_store_place _ o _ _ b8 gt' gf' e8 w q1 e8' e34 g10]
        unfold Oper.upon
        have HJ : JJ e8 W (.agg #[v0, v1, v2, v3]) LL s (updB L 7) (updV γ 7 undef) _ := .inr (.inr (hB.op7 g2 g7))
        have HN := hnone 7 undef (by decide)
        rw [q2, put_none]
        generalize frV a γ D5 = a1 at *
        exact ⟨undef, HN, HJ⟩
      · rw [hB.l7] at hL; cases hL
  · intro L γ w hJ hall
    rcases hJ with hA | hB | hB
    · have := hall 6 (by omega); rw [hA.l6] at this; cases this
    · have := hall 7 (by omega); rw [hB.l7] at this; cases this
    · exact hQ L γ w hB
end Go.Proofs.Ytpimflmmfnffeaa

/- Plain: the runs of CpuPages, page by page; a row that grows beside two machines. -/
namespace Go.Proofs.Ytpimflmmfnffeaa
open Go.RowKit Go.Lib
open Tlb (En Tb Tw hasK rightE Uni)
open Fr (FrS Fm)

theorem runM_shift (t : Tt) (C : List Int) : ∀ (k n : Nat) (m : St), runM t C k n m = ((runM t C k 0 m).1, n + (runM t C k 0 m).2.1, (runM t C k 0 m).2.2)
  | 0, n, m => rfl
  | k + 1, n, m => by
    unfold runM
    by_cases h0 : (stepM t C m).1.k = 0
    · simp only [if_pos h0]
      rw [runM_shift t C k (n + 1) (stepM t C m).2, runM_shift t C k (0 + 1) (stepM t C m).2]
      simp only [Prod.mk.injEq, true_and, and_true]
      omega
    · simp only [if_neg h0]
      split <;> simp
theorem frM_x {t : Tt} {ad : Int} {wr : Bool} {z : Int × Int} (h : frM t ad wr = .error z) (h0 : 0 ≤ ad ∧ ad < 18446744073709551616) : 0 ≤ z.2 ∧ z.2 < 18446744073709551616 := by
  unfold frM at h
  split at h
  · injection h with h; subst h; exact h0
  · split at h
    · injection h with h; subst h; exact h0
    · cases h
theorem stepM_x (t : Tt) (C : List Int) (m : St) (h : (stepM t C m).1.k = 5) : 0 ≤ (stepM t C m).1.x ∧ (stepM t C m).1.x < 18446744073709551616 := by
  revert h
  unfold stepM
  split
  · intro h; simp at h
  · split
    · intro h; simp at h
    · rename_i i _
      split
      · rename_i z hz
        intro h
        simp only at h ⊢
        unfold doM at hz
        simp only at hz
        by_cases h0 : i.op = 0
        · rw [if_pos h0] at hz; injection hz with hz; subst hz; simp at h
        rw [if_neg h0] at hz
        by_cases h1 : i.op = 1
        · rw [if_pos h1] at hz; cases hz
        rw [if_neg h1] at hz
        by_cases h12 : i.op = 12
        · rw [if_pos h12] at hz
          unfold ldM at hz
          split at hz
          · rename_i z' hz'
            injection hz with hz
            subst hz
            split at hz'
            · rename_i z2 hz2
              injection hz' with hz'
              subst hz'
              exact frM_x hz2 (wrap_rng _)
            · split at hz'
              · cases hz'
              · injection hz' with hz'; subst hz'; exact wrap_rng _
          · cases hz
        rw [if_neg h12] at hz
        by_cases h13 : i.op = 13
        · rw [if_pos h13] at hz
          unfold stM at hz
          split at hz
          · rename_i z' hz'
            injection hz with hz
            subst hz
            split at hz'
            · rename_i z2 hz2
              injection hz' with hz'
              subst hz'
              exact frM_x hz2 (wrap_rng _)
            · split at hz'
              · cases hz'
              · injection hz' with hz'; subst hz'; exact wrap_rng _
          · cases hz
        rw [if_neg h13] at hz
        by_cases h14 : i.op = 14
        · rw [if_pos h14] at hz; cases hz
        rw [if_neg h14] at hz
        by_cases h15 : i.op = 15
        · rw [if_pos h15] at hz; cases hz
        rw [if_neg h15] at hz
        by_cases h16 : i.op = 16
        · rw [if_pos h16] at hz; cases hz
        rw [if_neg h16] at hz
        by_cases h17 : i.op = 17
        · rw [if_pos h17] at hz; cases hz
        rw [if_neg h17] at hz
        by_cases h18 : i.op = 18
        · rw [if_pos h18] at hz
          split at hz
          · injection hz with hz; subst hz; simp at h
          · cases hz
        rw [if_neg h18] at hz
        split at hz
        · injection hz with hz; subst hz; simp at h
        · cases hz
      · rename_i q hq
        intro h
        have := doM_k hq
        simp only at h
        omega
theorem runM_x (t : Tt) (C : List Int) : ∀ (k n : Nat) (m : St), (runM t C k n m).1.k = 5 → 0 ≤ (runM t C k n m).1.x ∧ (runM t C k n m).1.x < 18446744073709551616
  | 0, n, m => fun h => by simp [runM] at h
  | k + 1, n, m => by
    unfold runM
    by_cases h0 : (stepM t C m).1.k = 0
    · simp only [if_pos h0]
      exact runM_x t C k (n + 1) _
    · simp only [if_neg h0]
      by_cases h1 : (stepM t C m).1.k = 1
      · simp only [if_pos h1]
        exact stepM_x t C m
      · simp only [if_neg h1]
        exact stepM_x t C m
structure PI (t : Tt) (CL : List Int) (most : Nat) (z : St) (l : List En) (e8 : Int) (got : List Int) (T' : Int → Tt) (u : Tp) (k : Nat) (sb : St) : Prop where
  nd : got.Nodup
  ls : ∀ p ∈ got, (lastL l e8 p).isSome = true
  tq : ∀ p, T' e8 p = if p ∈ got then t p else none
  ot : ∀ a p, T' a p ≠ none → a = e8 ∧ p ∈ got
  le : k ≤ most
  r1 : u.k ≠ 5 → runM t CL most 0 z = (u, k, sb)
  r5 : u.k = 5 → k < most ∧ runM t CL (most - k) k sb = runM t CL most 0 z ∧ (T' e8 (u.x / 16) = t (u.x / 16) → runM t CL most 0 z = (u, k, sb))
  xx : u.k = 5 → 0 ≤ u.x ∧ u.x < 18446744073709551616
section
variable {t : Tt} {CL : List Int} {most : Nat} {z : St} {l : List En} {e8 : Int} {got : List Int} {T' : Int → Tt} {u : Tp} {k : Nat} {sb : St}
theorem PI.start (h : runM (tbl [] e8) CL most 0 z = (u, k, sb)) : PI t CL most z l e8 [] (tbl []) u k sb := by
  have hsub : Sub (tbl [] e8) t := fun p => .inl rfl
  have hr := runM_sub hsub CL most 0 z
  have hle := runM_le (tbl [] e8) CL most 0 z
  have hx := runM_x (tbl [] e8) CL most 0 z
  rw [h] at hr hle hx
  refine ⟨List.nodup_nil, fun p hp => (by cases hp), fun p => (by simp [tbl]), fun a p hp => absurd rfl hp, by simp only at hle; omega, fun hk => (hr.1 hk), fun hk => ?_, hx⟩
  obtain ⟨h1, h2, h3⟩ := hr.2 hk
  simp only [Nat.zero_add] at h1 h2 h3
  exact ⟨h1, h2, h3⟩
theorem PI.len (h : PI t CL most z l e8 got T' u k sb) (hl : l.length ≤ 16) : got.length ≤ 16 := by
  have := nodup_le got (l.map (·.page)) h.nd fun p hp => by
    have h2 := h.ls p hp
    cases hX : lastL l e8 p with
    | none => rw [hX] at h2; cases h2
    | some X =>
      obtain ⟨h3, h4, _⟩ := lastL_mem hX
      exact List.mem_map.2 ⟨X, h3, h4.2⟩
  simp at this
  omega
/-- nothing more to load -/
theorem PI.done (h : PI t CL most z l e8 got T' u k sb) (ht : ∀ p, t p = (lastL l e8 p).map fun x => (x.frame, x.write)) (hd : u.k ≠ 5 ∨ lastL l e8 (u.x / 16) = none ∨ u.x / 16 ∈ got) : runM t CL most 0 z = (u, k, sb) := by
  by_cases h5 : u.k = 5
  · refine (h.r5 h5).2.2 ?_
    rw [h.tq]
    rcases hd with hd | hd | hd
    · exact absurd h5 hd
    · rw [ht, hd]
      simp
    · rw [if_pos hd]
  · exact h.r1 h5
theorem PI.step (h : PI t CL most z l e8 got T' u k sb) (ht : ∀ p, t p = (lastL l e8 p).map fun x => (x.frame, x.write)) (h5 : u.k = 5) {X : En} (hX : lastL l e8 (u.x / 16) = some X) (hg : u.x / 16 ∉ got) {v : Tp} {j : Nat} {sb' : St}
    (hr : runM (updT T' X e8) CL (most - k) 0 sb = (v, j, sb')) : PI t CL most z l e8 (got ++ [u.x / 16]) (updT T' X) v (k + j) sb' := by
  obtain ⟨hm, hk, hr8⟩ := lastL_mem hX
  have htq : ∀ p, updT T' X e8 p = if p ∈ got ++ [u.x / 16] then t p else none := fun p => by
    unfold updT
    rw [hk.1, hk.2]
    by_cases hp : p = u.x / 16
    · subst hp
      rw [if_pos ⟨rfl, rfl⟩, if_pos (by simp), ht, hX]
      rfl
    · rw [if_neg (fun e => hp e.2), h.tq]
      by_cases hp2 : p ∈ got
      · rw [if_pos hp2, if_pos (by simp [hp2])]
      · rw [if_neg hp2, if_neg (by simp [hp2, hp])]
  have hsub : Sub (updT T' X e8) t := fun p => by
    rw [htq]
    split
    · exact .inr rfl
    · exact .inl rfl
  obtain ⟨h1, h2, h3⟩ := h.r5 h5
  have hs := runM_sub hsub CL (most - k) k sb
  have hle := runM_le (updT T' X e8) CL (most - k) k sb
  have hx := runM_x (updT T' X e8) CL (most - k) k sb
  rw [runM_shift, hr] at hs hle hx
  simp only at hs hle hx
  rw [h2] at hs
  refine ⟨?_, fun p hp => ?_, htq, fun a p hp => ?_, by omega, fun hv => hs.1 hv, fun hv => ?_, hx⟩
  · rw [List.nodup_append]
    refine ⟨h.nd, by simp, fun a ha b hb e => ?_⟩
    simp at hb
    exact hg (by rw [← hb, ← e]; exact ha)
  · rcases List.mem_append.1 hp with hp | hp
    · exact h.ls p hp
    · simp at hp
      rw [hp, hX]
      rfl
  · unfold updT at hp
    by_cases hc : a = X.env ∧ p = X.page
    · exact ⟨hc.1.trans hk.1, by rw [hc.2, hk.2]; simp⟩
    · rw [if_neg hc] at hp
      obtain ⟨h4, h6⟩ := h.ot a p hp
      exact ⟨h4, List.mem_append.2 (.inl h6)⟩
  · obtain ⟨h4, h6, h7⟩ := hs.2 hv
    refine ⟨by omega, ?_, h7⟩
    rw [show most - (k + j) = k + (most - k) - (k + j) by omega]
    exact h6
end
/-- a row that grows, of the guarded ones -/
theorem Two.row {H : Nat → Prop} {w w' : World} {p q : Mch} {A A' : Option Addr} (h : Two (fun i => H i ∨ blk A = some i) w p q) (hg : w.grownBy w' (blk A)) (hA : ∀ i, blk A' = some i → blk A = some i ∨ (w.heap.size ≤ i ∧ i < w'.heap.size)) : Two (fun i => H i ∨ blk A' = some i) w' p q := by
  obtain ⟨B, c, L, h1, m, B', c', L', h', m', hp, hq⟩ := h
  have hne : ∀ i, i ≠ p.gt → True := fun _ _ => trivial
  have fp : ∀ i, i < w.heap.size → blk A ≠ some i → w'.heap[i]? = w.heap[i]? := fun i hi hx => hg.block i hi (Ne.symm hx)
  have op : ∀ b, blk A = some b → b ≠ p.gt ∧ b ≠ p.gf ∧ b ≠ p.gc ∧ blk B ≠ some b := fun b hb => (hp.off b (.inl (.inr hb))).2
  have oq : ∀ b, blk A = some b → b ≠ q.gt ∧ b ≠ q.gf ∧ b ≠ q.gc ∧ blk B' ≠ some b := fun b hb => (hq.off b (.inl (.inr hb))).2
  have k1 : Mq (fun i => (H i ∨ blk A = some i) ∨ Fo q.gt q.gf q.gc B' i) w' p.gt p.gf p.gc B c L h1 m p.T p.st := by
    refine ⟨⟨(fp _ hp.tb.1.lt (fun e => (op _ e).1 rfl)).trans hp.tb.1, hp.tb.2.kept hg ?_⟩, ⟨hp.fm.n0, hp.fm.t, hp.fm.b, (fp _ hp.fm.at_.lt (fun e => (op _ e).2.1 rfl)).trans hp.fm.at_⟩, (fp _ hp.cp.lt (fun e => (op _ e).2.2.1 rfl)).trans hp.cp, hp.rg, hp.uni, hp.len, hp.tt, hp.tf, hp.tc, hp.fc, hp.af, hp.ac, fun i hi => ⟨Nat.lt_of_lt_of_le (hp.off i hi).1 hg.size, (hp.off i hi).2⟩⟩
    cases hB : blk B with
    | none => exact .inl rfl
    | some b => exact .inr fun e => (op b e.symm).2.2.2 hB
  have k2 : Mq (fun i => (H i ∨ blk A = some i) ∨ Fo p.gt p.gf p.gc B i) w' q.gt q.gf q.gc B' c' L' h' m' q.T q.st := by
    refine ⟨⟨(fp _ hq.tb.1.lt (fun e => (oq _ e).1 rfl)).trans hq.tb.1, hq.tb.2.kept hg ?_⟩, ⟨hq.fm.n0, hq.fm.t, hq.fm.b, (fp _ hq.fm.at_.lt (fun e => (oq _ e).2.1 rfl)).trans hq.fm.at_⟩, (fp _ hq.cp.lt (fun e => (oq _ e).2.2.1 rfl)).trans hq.cp, hq.rg, hq.uni, hq.len, hq.tt, hq.tf, hq.tc, hq.fc, hq.af, hq.ac, fun i hi => ⟨Nat.lt_of_lt_of_le (hq.off i hi).1 hg.size, (hq.off i hi).2⟩⟩
    cases hB : blk B' with
    | none => exact .inl rfl
    | some b => exact .inr fun e => (oq b e.symm).2.2.2 hB
  refine ⟨B, c, L, h1, m, B', c', L', h', m', { k1 with off := fun i hi => ?_ }, { k2 with off := fun i hi => ?_ }⟩
  · rcases hi with (hi | hi) | hi
    · exact k1.off i (.inl (.inl hi))
    · rcases hA i hi with h2 | ⟨h2, h3⟩
      · exact k1.off i (.inl (.inr h2))
      · exact ⟨h3, by have := hp.tb.1.lt; omega, by have := hp.fm.at_.lt; omega, by have := hp.cp.lt; omega, fun e => by have := (hp.tb.own_lt _ e).2; omega⟩
    · exact k1.off i (.inr hi)
  · rcases hi with (hi | hi) | hi
    · exact k2.off i (.inl (.inl hi))
    · rcases hA i hi with h2 | ⟨h2, h3⟩
      · exact k2.off i (.inl (.inr h2))
      · exact ⟨h3, by have := hq.tb.1.lt; omega, by have := hq.fm.at_.lt; omega, by have := hq.cp.lt; omega, fun e => by have := (hq.tb.own_lt _ e).2; omega⟩
    · exact k2.off i (.inr hi)
end Go.Proofs.Ytpimflmmfnffeaa
