/- Texts laid as one: K1, K2, K3. -/
import Derived.Test.YtpimflmmfnffeaaZ7
import Derived.Test.YtpimflmmfnffeaaZ8
import Derived.Test.YtpimflmmfnffeaaZ9
import Derived.Test.YtpimflmmfnffeaaZ1
import Derived.Test.YtpimflmmfnffeaaZ10
/- Plain: translations as a table; what a processor does, with any table; code whose pages are loaded when it stops. -/
namespace Go.Proofs.Ytpimflmmfnffeaa
open Go.RowKit
open Tlb (En hasK hasK_iff fi goneL ld lk rightE Uni fi_none fi_some uni_erase uni_snoc uni_left)
open Fr (FrS byteE byteV writeF)

/-! ## the table of a list of translations -/
def tbl (L : List En) (a p : Int) : Option (Int × Bool) := (L.find? (hasK a p)).map fun x => (x.frame, x.write)
theorem tbl_none {L : List En} {a p : Int} (h : fi L a p = none) : tbl L a p = none := by
  unfold tbl
  rw [List.find?_eq_none.2 fun x hx hk => fi_none h x hx (hasK_iff.1 hk)]
  rfl
theorem tbl_some {L : List En} {a p : Int} {i : Nat} {x : En} (h : fi L a p = some i) (hx : L[i]? = some x) : tbl L a p = some (x.frame, x.write) := by
  obtain ⟨hi, hk, hj⟩ := fi_some h
  have e : L[i] = x := by rw [List.getElem?_eq_getElem hi] at hx; injection hx
  unfold tbl
  rw [List.find?_eq_some_iff_getElem.2 ⟨by rw [← e]; exact hasK_iff.2 hk, i, hi, e, fun j hj2 => ?_⟩]
  · rfl
  · have := hj j hj2
    cases hb : hasK a p L[j] with
    | false => rfl
    | true => exact absurd (hasK_iff.1 hb) this
theorem tbl_iff {L : List En} (u : Uni L) {a p : Int} {q : Int × Bool} : tbl L a p = some q ↔ ∃ e ∈ L, (e.env = a ∧ e.page = p) ∧ (e.frame, e.write) = q := by
  unfold tbl
  rw [Option.map_eq_some_iff]
  constructor
  · rintro ⟨e, he, rfl⟩
    exact ⟨e, List.mem_of_find?_eq_some he, hasK_iff.1 (by simpa using List.find?_some he), rfl⟩
  · rintro ⟨e, he, hk, rfl⟩
    obtain ⟨i, hi, rfl⟩ := List.getElem_of_mem he
    refine ⟨L[i], List.find?_eq_some_iff_getElem.2 ⟨hasK_iff.2 hk, i, hi, rfl, fun j hj => ?_⟩, rfl⟩
    cases hb : hasK a p L[j] with
    | false => rfl
    | true =>
      have h2 := hasK_iff.1 hb
      exact absurd ⟨h2.1.trans hk.1.symm, h2.2.trans hk.2.symm⟩ (List.pairwise_iff_getElem.1 u j i (by omega) hi hj)
theorem tbl_ext {L M : List En} (u : Uni L) (v : Uni M) {a p b q : Int} (h : ∀ r, (∃ e ∈ L, (e.env = a ∧ e.page = p) ∧ (e.frame, e.write) = r) ↔ (∃ e ∈ M, (e.env = b ∧ e.page = q) ∧ (e.frame, e.write) = r)) : tbl L a p = tbl M b q := by
  apply Option.ext
  intro r
  rw [tbl_iff u, tbl_iff v, h r]
theorem lk_uni {L : List En} (u : Uni L) (a p : Int) : Uni (lk L a p) := by
  unfold lk
  cases hf : fi L a p with
  | none => exact u
  | some i =>
    obtain ⟨hi, _, _⟩ := fi_some hf
    simp only [List.getElem?_eq_getElem hi, Option.toList_some]
    exact uni_snoc (uni_erase u i) (uni_left u hi)
theorem lk_len (L : List En) (a p : Int) : (lk L a p).length = L.length := by
  unfold lk
  cases hf : fi L a p with
  | none => rfl
  | some i =>
    obtain ⟨hi, _, _⟩ := fi_some hf
    simp only [List.getElem?_eq_getElem hi, Option.toList_some, List.length_append, List.length_eraseIdx, if_pos hi, List.length_cons, List.length_nil]
    omega
theorem mem_lk {L : List En} {i : Nat} (hi : i < L.length) {e : En} : e ∈ L.eraseIdx i ++ [L[i]] ↔ e ∈ L := by
  rw [List.mem_append, List.mem_singleton, List.mem_eraseIdx_iff_getElem]
  constructor
  · rintro (⟨j, hj, _, rfl⟩ | rfl)
    · exact List.getElem_mem _
    · exact List.getElem_mem _
  · intro he
    obtain ⟨j, hj, rfl⟩ := List.getElem_of_mem he
    by_cases hji : j = i
    · subst hji; exact .inr rfl
    · exact .inl ⟨j, hj, hji, rfl⟩
theorem tbl_lk {L : List En} (u : Uni L) (a p : Int) : tbl (lk L a p) = tbl L := by
  funext b q
  refine tbl_ext (lk_uni u a p) u fun r => ?_
  unfold lk
  cases hf : fi L a p with
  | none => exact Iff.rfl
  | some i =>
    obtain ⟨hi, _, _⟩ := fi_some hf
    simp only [List.getElem?_eq_getElem hi, Option.toList_some, mem_lk hi]
theorem gone_uni {L : List En} (u : Uni L) (X : En) : Uni (goneL L X) ∧ (∀ e ∈ goneL L X, ¬ (e.env = X.env ∧ e.page = X.page)) := by
  unfold goneL
  cases hf : fi L X.env X.page with
  | none =>
    simp only
    split
    · exact ⟨uni_erase u 0, fun e he => fi_none hf e (List.mem_of_mem_eraseIdx he)⟩
    · exact ⟨u, fi_none hf⟩
  | some i =>
    obtain ⟨hi, hk, _⟩ := fi_some hf
    have := uni_left u hi
    rw [hk.1, hk.2] at this
    exact ⟨uni_erase u i, this⟩
theorem ld_uni {L : List En} (u : Uni L) (X : En) : Uni (ld L X) := uni_snoc (gone_uni u X).1 (gone_uni u X).2
theorem ld_len {L : List En} (h : L.length ≤ 16) (X : En) : (ld L X).length ≤ 16 := by
  unfold ld goneL
  cases hf : fi L X.env X.page with
  | none =>
    simp only
    split
    · rw [List.length_append, List.length_eraseIdx]; split <;> simp <;> omega
    · simp; omega
  | some i =>
    obtain ⟨hi, hk, _⟩ := fi_some hf
    simp only [List.length_append, List.length_eraseIdx, if_pos hi, List.length_cons, List.length_nil]
    omega
theorem ld_len1 (L : List En) (X : En) : (ld L X).length ≤ L.length + 1 := by
  unfold ld goneL
  cases hf : fi L X.env X.page with
  | none =>
    simp only
    split
    · rw [List.length_append, List.length_eraseIdx]; split <;> simp
    · simp
  | some i =>
    obtain ⟨hi, hk, _⟩ := fi_some hf
    simp only [List.length_append, List.length_eraseIdx, if_pos hi, List.length_cons, List.length_nil]
    omega
/-- where there is room, a load changes the table at one page -/
theorem tbl_ld {L : List En} (u : Uni L) (X : En) (h : L.length < 16) (a p : Int) : tbl (ld L X) a p = if a = X.env ∧ p = X.page then some (X.frame, X.write) else tbl L a p := by
  have hu := ld_uni u X
  by_cases hk : a = X.env ∧ p = X.page
  · rw [if_pos hk]
    exact (tbl_iff hu).2 ⟨X, by unfold ld; simp, ⟨hk.1.symm, hk.2.symm⟩, rfl⟩
  · rw [if_neg hk]
    refine tbl_ext hu u fun r => ?_
    have hm : ∀ e : En, (e.env = a ∧ e.page = p) → (e ∈ ld L X ↔ e ∈ L) := fun e he => by
      unfold ld goneL
      have hne : e ≠ X := fun h => hk (by rw [← h]; exact ⟨he.1.symm, he.2.symm⟩)
      cases hf : fi L X.env X.page with
      | none =>
        simp only
        rw [if_neg (by omega), List.mem_append, List.mem_singleton]
        exact ⟨fun h => h.resolve_right hne, .inl⟩
      | some i =>
        obtain ⟨hi, hk2, _⟩ := fi_some hf
        simp only
        rw [List.mem_append, List.mem_singleton, List.mem_eraseIdx_iff_getElem]
        constructor
        · rintro (⟨j, hj, _, rfl⟩ | h)
          · exact List.getElem_mem _
          · exact absurd h hne
        · intro hm
          obtain ⟨j, hj, rfl⟩ := List.getElem_of_mem hm
          refine .inl ⟨j, hj, fun h => ?_, rfl⟩
          subst h
          exact hk ⟨he.1.symm.trans hk2.1, he.2.symm.trans hk2.2⟩
    constructor
    · rintro ⟨e, he, h1, h2⟩
      exact ⟨e, (hm e h1).1 he, h1, h2⟩
    · rintro ⟨e, he, h1, h2⟩
      exact ⟨e, (hm e h1).2 he, h1, h2⟩

/-! ## what a processor does -/
structure In where
  op : Nat
  a : Nat
  b : Nat
  c : Nat
  n : Nat
def decM (x : Nat) : Option In := if rightI ((x % 256 : Nat) : Int) ((x / 256 % 16 : Nat) : Int) ((x / 4096 % 16 : Nat) : Int) ((x / 65536 % 16 : Nat) : Int) ((x / 1048576 : Nat) : Int) = true then some ⟨x % 256, x / 256 % 16, x / 4096 % 16, x / 65536 % 16, x / 1048576⟩ else none
def InOk (i : In) : Prop := i.op ≤ 18 ∧ i.a ≤ 7 ∧ i.b ≤ 7 ∧ i.c ≤ 7 ∧ i.n ≤ 17592186044415
theorem decM_ok {x : Nat} {i : In} (h : decM x = some i) : InOk i := by
  unfold decM at h
  split at h
  · rename_i hr
    injection h with h
    subst h
    obtain ⟨h0, h1, h2, h3, h4⟩ := rightI_t hr
    exact ⟨(by omega : x % 256 ≤ 18), (by omega : x / 256 % 16 ≤ 7), (by omega : x / 4096 % 16 ≤ 7), (by omega : x / 65536 % 16 ≤ 7), (by omega : x / 1048576 ≤ 17592186044415)⟩
  · cases h
structure St where
  R : List Int
  pc : Int
  s : FrS
structure Tp where
  k : Int
  p : Int
  x : Int
def Rng (R : List Int) : Prop := R.length = 8 ∧ ∀ v ∈ R, 0 ≤ v ∧ v < 18446744073709551616
def rat (R : List Int) (i : Nat) : Int := (R[i]?).getD 0
/-- what three registers make -/
def rk (op : Nat) (b c : Int) : Int :=
  if op = 2 then IntKind.u64.wrap (b + c) else if op = 3 then IntKind.u64.wrap (b - c) else if op = 4 then IntKind.u64.wrap (b * c)
  else if op = 5 then b / c
  else if op = 6 then IntKind.u64.wrap (BitVec.ofInt 64 b &&& BitVec.ofInt 64 c).toNat
  else if op = 7 then IntKind.u64.wrap (BitVec.ofInt 64 b ||| BitVec.ofInt 64 c).toNat
  else if op = 8 then IntKind.u64.wrap (BitVec.ofInt 64 b ^^^ BitVec.ofInt 64 c).toNat
  else if op = 9 then IntKind.u64.wrap (b * 2 ^ (c % 64).toNat)
  else if op = 10 then b / 2 ^ (c % 64).toNat
  else if b < c then 1 else 0
abbrev Tt := Int → Option (Int × Bool)
def adr (b : Int) (n : Nat) : Int := IntKind.u64.wrap (b + n)
def frM (t : Tt) (ad : Int) (wr : Bool) : Except (Int × Int) Int := match t (ad / 16) with
  | none => .error (5, ad)
  | some q => if wr = true ∧ q.2 = false then .error (6, ad) else .ok q.1
def ldM (t : Tt) (s : FrS) (ad : Int) : Except (Int × Int) Int := match frM t ad false with
  | .error z => .error z
  | .ok f => if byteE s f (ad % 16) = 0 then .ok (IntKind.u64.wrap (byteV s f (ad % 16))) else .error (5, ad)
def stM (t : Tt) (s : FrS) (ad v : Int) : Except (Int × Int) FrS := match frM t ad true with
  | .error z => .error z
  | .ok f => if byteE s f (ad % 16) = 0 then .ok (writeF s f (ad % 16) (v % 256)) else .error (5, ad)
def doM (t : Tt) (i : In) (m : St) : Except (Int × Int) (St × Tp) :=
  let ra := rat m.R i.a
  let rb := rat m.R i.b
  let rc := rat m.R i.c
  if i.op = 0 then .error (2, 0)
  else if i.op = 1 then .ok (⟨m.R.set i.a i.n, m.pc + 1, m.s⟩, ⟨0, 0, 0⟩)
  else if i.op = 12 then match ldM t m.s (adr rb i.n) with
    | .error z => .error z
    | .ok v => .ok (⟨m.R.set i.a v, m.pc + 1, m.s⟩, ⟨0, 0, 0⟩)
  else if i.op = 13 then match stM t m.s (adr rb i.n) ra with
    | .error z => .error z
    | .ok s => .ok (⟨m.R, m.pc + 1, s⟩, ⟨0, 0, 0⟩)
  else if i.op = 14 then .ok (⟨m.R, i.n, m.s⟩, ⟨0, 0, 0⟩)
  else if i.op = 15 then .ok (⟨m.R, if ra = 0 then m.pc + 1 else i.n, m.s⟩, ⟨0, 0, 0⟩)
  else if i.op = 16 then .ok (⟨m.R, m.pc + 1, m.s⟩, ⟨1, m.pc, ra⟩)
  else if i.op = 17 then .ok (⟨m.R.set i.a (m.pc + 1), i.n, m.s⟩, ⟨0, 0, 0⟩)
  else if i.op = 18 then (if 17592186044415 < ra then .error (3, ra) else .ok (⟨m.R, ra, m.s⟩, ⟨0, 0, 0⟩))
  else if i.op = 5 ∧ rc = 0 then .error (4, 0)
  else .ok (⟨m.R.set i.a (rk i.op rb rc), m.pc + 1, m.s⟩, ⟨0, 0, 0⟩)
def stepM (t : Tt) (C : List Int) (m : St) : Tp × St :=
  if m.pc < 0 ∨ (C.length : Int) ≤ m.pc then (⟨3, m.pc, 0⟩, m)
  else match decM (rat C m.pc.toNat).toNat with
    | none => (⟨3, m.pc, rat C m.pc.toNat⟩, m)
    | some i => match doM t i m with
      | .error z => (⟨z.1, m.pc, z.2⟩, m)
      | .ok q => (q.2, q.1)
theorem doM_k {t : Tt} {i : In} {m : St} {q : St × Tp} (h : doM t i m = .ok q) : q.2.k ≤ 1 := by
  unfold doM at h
  simp only at h
  by_cases h0 : i.op = 0
  · rw [if_pos h0] at h
    cases h
  rw [if_neg h0] at h
  clear h0
  by_cases h0 : i.op = 1
  · rw [if_pos h0] at h
    injection h with h; subst h; simp
  rw [if_neg h0] at h
  clear h0
  by_cases h0 : i.op = 12
  · rw [if_pos h0] at h
    split at h
    · cases h
    · injection h with h; subst h; simp
  rw [if_neg h0] at h
  clear h0
  by_cases h0 : i.op = 13
  · rw [if_pos h0] at h
    split at h
    · cases h
    · injection h with h; subst h; simp
  rw [if_neg h0] at h
  clear h0
  by_cases h0 : i.op = 14
  · rw [if_pos h0] at h
    injection h with h; subst h; simp
  rw [if_neg h0] at h
  clear h0
  by_cases h0 : i.op = 15
  · rw [if_pos h0] at h
    injection h with h; subst h; simp
  rw [if_neg h0] at h
  clear h0
  by_cases h0 : i.op = 16
  · rw [if_pos h0] at h
    injection h with h; subst h; simp
  rw [if_neg h0] at h
  clear h0
  by_cases h0 : i.op = 17
  · rw [if_pos h0] at h
    injection h with h; subst h; simp
  rw [if_neg h0] at h
  clear h0
  by_cases h0 : i.op = 18
  · rw [if_pos h0] at h
    split at h
    · cases h
    · injection h with h; subst h; simp
  rw [if_neg h0] at h
  clear h0
  by_cases h0 : i.op = 5 ∧ rat m.R i.c = 0
  · rw [if_pos h0] at h
    cases h
  rw [if_neg h0] at h
  clear h0
  injection h with h; subst h; simp
/-- a trap that gives up leaves all as it was -/
theorem step_keeps (t : Tt) (C : List Int) (m : St) (h : 1 < (stepM t C m).1.k) : (stepM t C m).2 = m ∧ (stepM t C m).1.p = m.pc := by
  revert h
  unfold stepM
  split
  · exact fun _ => ⟨rfl, rfl⟩
  · split
    · exact fun _ => ⟨rfl, rfl⟩
    · split
      · exact fun _ => ⟨rfl, rfl⟩
      · rename_i q hq
        intro h
        have := doM_k hq
        simp only at h
        omega

/-! ## a table with less -/
def Sub (t' t : Tt) : Prop := ∀ p, t' p = none ∨ t' p = t p
theorem frM_sub {t' t : Tt} (h : Sub t' t) (ad : Int) (wr : Bool) : frM t' ad wr = frM t ad wr ∨ (frM t' ad wr = .error (5, ad) ∧ t' (ad / 16) = none ∧ t (ad / 16) ≠ none) := by
  unfold frM
  rcases h (ad / 16) with h0 | h0
  · rw [h0]
    cases h1 : t (ad / 16) with
    | none => exact .inl rfl
    | some q => exact .inr ⟨rfl, rfl, fun h => by cases h⟩
  · rw [h0]; exact .inl rfl
theorem doM_sub {t' t : Tt} (h : Sub t' t) (i : In) (m : St) : doM t' i m = doM t i m ∨ ∃ ad, doM t' i m = .error (5, ad) ∧ t' (ad / 16) = none ∧ t (ad / 16) ≠ none := by
  unfold doM ldM stM
  simp only
  by_cases h12 : i.op = 12
  · rw [h12]
    simp only [Nat.reduceEqDiff, if_false, if_true]
    rcases frM_sub h (adr (rat m.R i.b) i.n) false with h1 | ⟨h1, h2, h3⟩
    · rw [h1]; exact .inl rfl
    · rw [h1]; exact .inr ⟨_, rfl, h2, h3⟩
  · by_cases h13 : i.op = 13
    · rw [h13]
      simp only [Nat.reduceEqDiff, if_false, if_true]
      rcases frM_sub h (adr (rat m.R i.b) i.n) true with h1 | ⟨h1, h2, h3⟩
      · rw [h1]; exact .inl rfl
      · rw [h1]; exact .inr ⟨_, rfl, h2, h3⟩
    · left
      simp only [if_neg h12, if_neg h13]
theorem stepM_sub {t' t : Tt} (h : Sub t' t) (C : List Int) (m : St) : stepM t' C m = stepM t C m ∨ ∃ ad, stepM t' C m = (⟨5, m.pc, ad⟩, m) ∧ t' (ad / 16) = none ∧ t (ad / 16) ≠ none := by
  unfold stepM
  split
  · exact .inl rfl
  · split
    · exact .inl rfl
    · rename_i i _
      rcases doM_sub h i m with h1 | ⟨ad, h1, h2, h3⟩
      · rw [h1]; exact .inl rfl
      · rw [h1]; exact .inr ⟨ad, rfl, h2, h3⟩
def runM (t : Tt) (C : List Int) : Nat → Nat → St → Tp × Nat × St
  | 0, n, m => (⟨0, 0, 0⟩, n, m)
  | k + 1, n, m => if (stepM t C m).1.k = 0 then runM t C k (n + 1) (stepM t C m).2 else if (stepM t C m).1.k = 1 then ((stepM t C m).1, n + 1, (stepM t C m).2) else ((stepM t C m).1, n, (stepM t C m).2)
theorem runM_le (t : Tt) (C : List Int) : ∀ (k n : Nat) (m : St), n ≤ (runM t C k n m).2.1 ∧ (runM t C k n m).2.1 ≤ n + k
  | 0, n, m => ⟨Nat.le_refl _, Nat.le_refl _⟩
  | k + 1, n, m => by
    unfold runM
    split
    · have := runM_le t C k (n + 1) (stepM t C m).2
      omega
    · split <;> simp <;> omega
/-- what stopped at a page, and goes on with more of the table, comes to the same -/
theorem runM_sub {t' t : Tt} (h : Sub t' t) (C : List Int) : ∀ (k n : Nat) (m : St),
    ((runM t' C k n m).1.k ≠ 5 → runM t C k n m = runM t' C k n m) ∧
    ((runM t' C k n m).1.k = 5 → (runM t' C k n m).2.1 < n + k ∧ runM t C (n + k - (runM t' C k n m).2.1) (runM t' C k n m).2.1 (runM t' C k n m).2.2 = runM t C k n m ∧ (t' ((runM t' C k n m).1.x / 16) = t ((runM t' C k n m).1.x / 16) → runM t C k n m = runM t' C k n m))
  | 0, n, m => ⟨fun _ => rfl, fun h => by simp [runM] at h⟩
  | k + 1, n, m => by
    rcases stepM_sub h C m with h1 | ⟨ad, h1, h2, h3⟩
    · by_cases h0 : (stepM t C m).1.k = 0
      · have e1 : runM t' C (k + 1) n m = runM t' C k (n + 1) (stepM t C m).2 := by rw [runM, h1, if_pos h0]
        have e2 : runM t C (k + 1) n m = runM t C k (n + 1) (stepM t C m).2 := by rw [runM, if_pos h0]
        rw [e1, e2]
        have := runM_sub h C k (n + 1) (stepM t C m).2
        rw [show n + (k + 1) = n + 1 + k by omega]
        exact this
      · by_cases h01 : (stepM t C m).1.k = 1
        · have e1 : runM t' C (k + 1) n m = ((stepM t C m).1, n + 1, (stepM t C m).2) := by rw [runM, h1, if_neg h0, if_pos h01]
          have e2 : runM t C (k + 1) n m = ((stepM t C m).1, n + 1, (stepM t C m).2) := by rw [runM, if_neg h0, if_pos h01]
          rw [e1, e2]
          exact ⟨fun _ => rfl, fun h => by simp only at h; rw [h01] at h; cases h⟩
        · have e1 : runM t' C (k + 1) n m = ((stepM t C m).1, n, (stepM t C m).2) := by rw [runM, h1, if_neg h0, if_neg h01]
          have e2 : runM t C (k + 1) n m = ((stepM t C m).1, n, (stepM t C m).2) := by rw [runM, if_neg h0, if_neg h01]
          rw [e1]
          refine ⟨fun _ => e2, fun h5 => ⟨by simp only; omega, ?_, fun _ => e2⟩⟩
          simp only at h5 ⊢
          rw [show n + (k + 1) - n = k + 1 by omega, (step_keeps t C m (by rw [h5]; decide)).1]
    · have e1 : runM t' C (k + 1) n m = (⟨5, m.pc, ad⟩, n, m) := by rw [runM, h1]; simp
      rw [e1]
      refine ⟨fun h => absurd rfl h, fun _ => ⟨by simp only; omega, ?_, fun h4 => ?_⟩⟩
      · simp only
        rw [show n + (k + 1) - n = k + 1 by omega]
      · simp only at h4
        rw [h2] at h4
        exact absurd h4.symm h3
end Go.Proofs.Ytpimflmmfnffeaa

/- Walks: the machine in memory; the frame of an address; load; store. -/
namespace Go.Proofs.Ytpimflmmfnffeaa
open Go.RowKit Go.Lib
open Tlb (En Tb Tw fi fi_some ld lk Uni RetLk look_no look_cap look_yes)
open Fr (FrS Fm byteE byteV writeF read_any write_any RetF)

def cA (R : List Int) (p : Int) : Array Value := (R.map (Value.int .u64) ++ [Value.int .i64 p]).toArray
theorem cA_reg {R : List Int} {p : Int} {i : Nat} (hR : R.length = 8) (hi : i ≤ 7) : (cA R p)[i]? = some (.int .u64 (rat R i)) := by
  unfold cA rat
  rw [List.getElem?_toArray, List.getElem?_append_left (by simp; omega), List.getElem?_map, List.getElem?_eq_getElem (by omega)]
  rfl
theorem cA_pc {R : List Int} {p : Int} (hR : R.length = 8) : (cA R p)[8]? = some (.int .i64 p) := by
  unfold cA
  rw [List.getElem?_toArray, List.getElem?_append_right (by simp; omega)]
  simp [hR]
theorem cA_set {R : List Int} {p : Int} {i : Nat} (hR : R.length = 8) (hi : i ≤ 7) (v : Int) : (cA R p).setIfInBounds i (.int .u64 v) = cA (R.set i v) p := by
  unfold cA
  rw [List.setIfInBounds_toArray, List.set_append_left _ _ (by simp; omega), List.map_set]
theorem cA_go {R : List Int} {p : Int} (hR : R.length = 8) (q : Int) : (cA R p).setIfInBounds 8 (.int .i64 q) = cA R q := by
  unfold cA
  rw [List.setIfInBounds_toArray, List.set_append_right _ _ (by simp; omega)]
  simp [hR]
theorem rng_rat {R : List Int} (h : Rng R) (i : Nat) : 0 ≤ rat R i ∧ rat R i < 18446744073709551616 := by
  unfold rat
  cases hx : R[i]? with
  | none => simp
  | some v => exact h.2 v (List.mem_of_getElem? hx)
theorem rng_set {R : List Int} (h : Rng R) (i : Nat) {v : Int} (h0 : 0 ≤ v) (h1 : v < 18446744073709551616) : Rng (R.set i v) := by
  refine ⟨by simpa using h.1, fun u hu => ?_⟩
  rcases List.mem_or_eq_of_mem_set hu with hu | rfl
  · exact h.2 u hu
  · exact ⟨h0, h1⟩

/-- the processor in block gc, the translations in block gt, the frames in block gf; no block of F is theirs -/
structure Mq (F : Nat → Prop) (w : World) (gt gf gc : Nat) (A : Option Addr) (c : Nat) (L : List En) (h m : Int)  (T : Int → Tt) (st : St) : Prop where
  tb : Tb w gt A c L h m
  fm : Fm w gf st.s
  cp : Blk w gc 36 (cA st.R st.pc)
  rg : Rng st.R
  uni : Uni L
  len : L.length ≤ 16
  tt : tbl L = T
  tf : gt ≠ gf
  tc : gt ≠ gc
  fc : gf ≠ gc
  af : Go.Proofs.Ytpimflmmfnffeaa.blk A ≠ some gf
  ac : Go.Proofs.Ytpimflmmfnffeaa.blk A ≠ some gc
  off : ∀ i, F i → i < w.heap.size ∧ i ≠ gt ∧ i ≠ gf ∧ i ≠ gc ∧ Go.Proofs.Ytpimflmmfnffeaa.blk A ≠ some i
def Mo (F : Nat → Prop) (w : World) (gt gf gc : Nat) (T : Int → Tt) (st : St) : Prop := ∃ A c L h m, Mq F w gt gf gc A c L h m T st
section
variable {F : Nat → Prop} {w w' : World} {gt gf gc : Nat} {A : Option Addr} {c : Nat} {L : List En} {h m : Int} {T : Int → Tt} {st : St}
theorem Mq.keep (q : Mq F w gt gf gc A c L h m T st) (hb : Below w.heap.size w w') : Mq F w' gt gf gc A c L h m T st :=
  ⟨q.tb.keep hb, q.fm.keep hb, q.cp.keep hb, q.rg, q.uni, q.len, q.tt, q.tf, q.tc, q.fc, q.af, q.ac, fun i hi => ⟨Nat.lt_of_lt_of_le (q.off i hi).1 hb.size, (q.off i hi).2⟩⟩
theorem Mo.keep (q : Mo F w gt gf gc T st) (hb : Below w.heap.size w w') : Mo F w' gt gf gc T st := by
  obtain ⟨A, c, L, h, m, q⟩ := q
  exact ⟨A, c, L, h, m, q.keep hb⟩
theorem Mo.lt (q : Mo F w gt gf gc T st) : ∀ i, F i → i < w.heap.size := fun i hi => by
  obtain ⟨A, c, L, h, m, q⟩ := q
  exact (q.off i hi).1
theorem Mo.less {G : Nat → Prop} (q : Mo F w gt gf gc T st) (hG : ∀ i, G i → F i) : Mo G w gt gf gc T st := by
  obtain ⟨A, c, L, h, m, q⟩ := q
  exact ⟨A, c, L, h, m, q.tb, q.fm, q.cp, q.rg, q.uni, q.len, q.tt, q.tf, q.tc, q.fc, q.af, q.ac, fun i hi => q.off i (hG i hi)⟩
theorem Mo.box (q : Mo F w gt gf gc T st) (o : Obj) : Mo (fun i => F i ∨ i = w.heap.size) (w.alloc o) gt gf gc T st := by
  obtain ⟨A, c, L, h, m, q⟩ := q
  have k := q.keep (below1 w o)
  refine ⟨A, c, L, h, m, k.tb, k.fm, k.cp, k.rg, k.uni, k.len, k.tt, k.tf, k.tc, k.fc, k.af, k.ac, fun i hi => ?_⟩
  rcases hi with hi | rfl
  · exact k.off i hi
  · exact ⟨by simp, by have := q.tb.1.lt; omega, by have := q.fm.at_.lt; omega, by have := q.cp.lt; omega, fun e => by have := (q.tb.own_lt _ e).2; omega⟩
/-- a block that holds, none of the machine's, joins -/
theorem Mo.kp (q : Mo F w gt gf gc T st) (hb : Below w.heap.size w w') : Kp F w w' := Kp.of_below hb q.lt
theorem Mo.rng (q : Mo F w gt gf gc T st) : Rng st.R := by
  obtain ⟨A, c, L, h, m, q⟩ := q
  exact q.rg
theorem Mo.c8 (q : Mo F w gt gf gc T st) : w.cell? ⟨gc, 8, none⟩ = some (.int .i64 st.pc) := by
  obtain ⟨A, c, L, h, m, q⟩ := q
  exact q.cp.cell 8 _ (cA_pc q.rg.1)
theorem Mo.reg (q : Mo F w gt gf gc T st) {i : Nat} (hi : i ≤ 7) : w.cell? ⟨gc, i, none⟩ = some (.int .u64 (rat st.R i)) := by
  obtain ⟨A, c, L, h, m, q⟩ := q
  exact q.cp.cell i _ (cA_reg q.rg.1 hi)
theorem Mo.frozen (q : Mo F w gt gf gc T st) (i : Nat) : w.frozen? ⟨gc, i, none⟩ = false := by
  obtain ⟨A, c, L, h, m, q⟩ := q
  exact q.cp.frozen i
theorem Mo.fr (q : Mo F w gt gf gc T st) : Fm w gf st.s := by
  obtain ⟨A, c, L, h, m, q⟩ := q
  exact q.fm
theorem Mo.cpu (q : Mo F w gt gf gc T st) : Blk w gc 36 (cA st.R st.pc) := by
  obtain ⟨A, c, L, h, m, q⟩ := q
  exact q.cp
theorem Mo.drewN (q : Mo F w gt gf gc T st) (k : Nat) : Mo F (w.drewN k) gt gf gc T st := by
  obtain ⟨A, c, L, h, m, q⟩ := q
  exact ⟨A, c, L, h, m, q.keep (bdrewN (Below.refl _ w) k)⟩
theorem Mo.drew (q : Mo F w gt gf gc T st) : Mo F w.drew gt gf gc T st := q.drewN 1
/-- a store into a register, or the place -/
theorem Mo.cput (q : Mo F w gt gf gc T st) (i : Nat) (v : Value) {R' : List Int} {p' : Int} (hv : (cA st.R st.pc).setIfInBounds i v = cA R' p') (hr : Rng R') : Mo F (w.setCell ⟨gc, i, none⟩ v) gt gf gc T ⟨R', p', st.s⟩ ∧ Kp F w (w.setCell ⟨gc, i, none⟩ v) := by
  obtain ⟨A, c, L, h, m, q⟩ := q
  have hg := only_set (only_refl w gc) i v
  have hc := q.cp.set_ i v
  rw [hv] at hc
  refine ⟨⟨A, c, L, h, m, q.tb.only hg q.tc q.ac, ⟨q.fm.n0, q.fm.t, q.fm.b, q.fm.at_.grown hg (by simpa using q.fc)⟩, hc, hr, q.uni, q.len, q.tt, q.tf, q.tc, q.fc, q.af, q.ac, fun i hi => ⟨Nat.lt_of_lt_of_le (q.off i hi).1 hg.size, (q.off i hi).2⟩⟩, Kp.grown hg fun i hi => ⟨(q.off i hi).1, fun e => (q.off i hi).2.2.2.1 (by injection e)⟩⟩
theorem Mo.setR (q : Mo F w gt gf gc T st) {i : Nat} (hi : i ≤ 7) {v : Int} (h0 : 0 ≤ v) (h1 : v < 18446744073709551616) : Mo F (w.setCell ⟨gc, i, none⟩ (.int .u64 v)) gt gf gc T ⟨st.R.set i v, st.pc, st.s⟩ ∧ Kp F w (w.setCell ⟨gc, i, none⟩ (.int .u64 v)) :=
  q.cput i _ (cA_set q.rng.1 hi v) (rng_set q.rng i h0 h1)
theorem Mo.setP (q : Mo F w gt gf gc T st) (p : Int) : Mo F (w.setCell ⟨gc, 8, none⟩ (.int .i64 p)) gt gf gc T ⟨st.R, p, st.s⟩ ∧ Kp F w (w.setCell ⟨gc, 8, none⟩ (.int .i64 p)) :=
  q.cput 8 _ (cA_go q.rng.1 p) q.rng
/-- a write into a frame -/
theorem Mo.fput (q : Mo F w gt gf gc T st) {s' : FrS} (hf : Fm w' gf s') (hg : w.grownBy w' (some gf)) : Mo F w' gt gf gc T ⟨st.R, st.pc, s'⟩ ∧ Kp F w w' := by
  obtain ⟨A, c, L, h, m, q⟩ := q
  exact ⟨⟨A, c, L, h, m, q.tb.only hg q.tf q.af, hf, q.cp.grown hg (fun e => q.fc (by injection e with e; exact e.symm)), q.rg, q.uni, q.len, q.tt, q.tf, q.tc, q.fc, q.af, q.ac, fun i hi => ⟨Nat.lt_of_lt_of_le (q.off i hi).1 hg.size, (q.off i hi).2⟩⟩, Kp.grown hg fun i hi => ⟨(q.off i hi).1, fun e => (q.off i hi).2.2.1 (by injection e)⟩⟩
/-- a look, a load -/
theorem Mq.tput (q : Mq F w gt gf gc A c L h m T st) {A' : Option Addr} {c' : Nat} {L' : List En} {h' m' : Int} {T' : Int → Tt} (ht : Tb w' gt A' c' L' h' m') (hw : Tw w w' gt (Go.Proofs.Ytpimflmmfnffeaa.blk A)) (hA : Go.Proofs.Ytpimflmmfnffeaa.blk A' = Go.Proofs.Ytpimflmmfnffeaa.blk A ∨ ∀ q, Go.Proofs.Ytpimflmmfnffeaa.blk A' = some q → w.heap.size ≤ q)
    (hu : Uni L') (hl : L'.length ≤ 16) (hT : tbl L' = T') : Mo F w' gt gf gc T' st ∧ Kp F w w' := by
  have hz := hw.size
  have k : ∀ i, i < w.heap.size → Go.Proofs.Ytpimflmmfnffeaa.blk A ≠ some i → Go.Proofs.Ytpimflmmfnffeaa.blk A' ≠ some i := fun i hi hne e => by
    rcases hA with hA | hA
    · exact hne (hA.symm.trans e)
    · have := hA i e; omega
  refine ⟨⟨A', c', L', h', m', ht, ⟨q.fm.n0, q.fm.t, q.fm.b, hw.blk q.fm.at_ q.tf.symm (Ne.symm q.af)⟩, hw.blk q.cp q.tc.symm (Ne.symm q.ac), q.rg, hu, hl, hT, q.tf, q.tc, q.fc, k _ q.fm.at_.lt q.af, k _ q.cp.lt q.ac, fun i hi => ?_⟩, ⟨hw.os, hw.tape, hw.output, hw.size, fun i hi => ?_⟩⟩
  · obtain ⟨h1, h2, h3, h4, h5⟩ := q.off i hi
    exact ⟨by omega, h2, h3, h4, k i h1 h5⟩
  · obtain ⟨h1, h2, h3, h4, h5⟩ := q.off i hi
    exact hw.block i h1 h2 (Ne.symm h5)
end

/-- what a part of an instruction tells, or the trap that gives it up -/
def endE (p : Int) : Except (Int × Int) Value → Ending
  | .ok v => .returned v
  | .error z => .panicked [{ v := .iface 41 (.agg #[.int .i64 z.1, .int .i64 p, .int .u64 z.2]), recovered := false }]
def lookV (t : Tt) (p : Int) (wr : Bool) : Value := match t p with
  | none => .tuple #[.int .i64 0, .int .i64 29]
  | some q => if wr = true ∧ q.2 = false then .tuple #[.int .i64 0, .int .i64 23] else .tuple #[.int .i64 q.1, .int .i64 0]
theorem look_mo (F : Nat → Prop) (gt gf gc : Nat) (T : Int → Tt) (st : St) (env p : Int) (wr : Bool) (w : World) (q : Mo F w gt gf gc T st) :
    Calls Try.prog 45 #[.pointer (some ⟨gt, 0, none⟩), .int .i64 env, .int .i64 p, .bool wr] w fun e w' => e = .returned (lookV (T env) p wr) ∧ Mo F w' gt gf gc T st ∧ Kp F w w' := by
  obtain ⟨A, c, L, h, m, q⟩ := q
  have hlk := tbl_lk q.uni env p
  have hlu := lk_uni q.uni env p
  have hll := lk_len L env p
  unfold lk at hlk hlu hll
  have hl := q.len
  have htt := q.tt
  subst htt
  unfold lookV
  cases hf : fi L env p with
  | none =>
    rw [hf] at hlk hlu hll
    rw [tbl_none hf]
    refine (look_no env p wr gt A c L h m w q.tb (by omega) hf).mono ?_
    rintro e w' ⟨A', c', rfl, ht, hw, hA⟩
    have := q.tput ht hw hA q.uni q.len q.tt
    exact ⟨rfl, this.1, this.2⟩
  | some i =>
    obtain ⟨hi, _, _⟩ := fi_some hf
    have hx : L[i]? = some L[i] := List.getElem?_eq_getElem hi
    rw [tbl_some hf hx]
    rw [hf] at hlk hlu hll
    simp only [hx, Option.toList_some] at hlk hlu hll
    generalize L[i] = x at *
    by_cases hc : wr = true ∧ x.write = false
    · simp only [if_pos hc]
      obtain ⟨rfl, hc⟩ := hc
      refine (look_cap env p gt A c L h m i x w q.tb (by omega) hf hx hc).mono ?_
      rintro e w' ⟨A', c', rfl, ht, hw, hA⟩
      have := q.tput ht hw hA q.uni q.len q.tt
      exact ⟨rfl, this.1, this.2⟩
    · simp only [if_neg hc]
      refine (look_yes env p wr gt A c L h m i x w q.tb (by omega) hf hx (fun e => by cases hb : x.write with | true => rfl | false => exact absurd ⟨e, hb⟩ hc)).mono ?_
      rintro e w' ⟨A', c', rfl, ht, hw, hA⟩
      have := q.tput ht hw hA hlu (by rw [hll]; exact q.len) hlk
      exact ⟨rfl, this.1, this.2⟩
theorem give_mo (f : Nat) (k x p : Int) (gc : Nat) (w : World) (cf : w.cell? ⟨f, 0, none⟩ = some (.pointer (some ⟨gc, 0, none⟩))) (ca : w.cell? ⟨gc, 8, none⟩ = some (.int .i64 p)) : Calls Try.prog 26 #[.pointer (some ⟨f, 0, none⟩), .int .i64 k, .int .u64 x] w fun e w' => e = endE p (.error (k, x)) ∧ w = w' :=
  give_any f gc k x p w cf ca
/-- what is flown -/
structure Fg (w : World) (f gt gf gc : Nat) (C : Option Addr) (cl cc : Nat) (env : Int) : Prop where
  c0 : w.cell? ⟨f, 0, none⟩ = some (.pointer (some ⟨gc, 0, none⟩))
  c1 : w.cell? ⟨f, 1, none⟩ = some (.slice C cl cc)
  c2 : w.cell? ⟨f, 2, none⟩ = some (.int .i64 env)
  c3 : w.cell? ⟨f, 3, none⟩ = some (.pointer (some ⟨gt, 0, none⟩))
  c4 : w.cell? ⟨f, 4, none⟩ = some (.pointer (some ⟨gf, 0, none⟩))
theorem Fg.kp {F : Nat → Prop} {w w' : World} {f gt gf gc : Nat} {C : Option Addr} {cl cc : Nat} {env : Int} (h : Fg w f gt gf gc C cl cc env) (k : Kp F w w') (hf : F f) : Fg w' f gt gf gc C cl cc env :=
  ⟨k.cell h.c0 hf, k.cell h.c1 hf, k.cell h.c2 hf, k.cell h.c3 hf, k.cell h.c4 hf⟩
theorem Fg.keep {w w' : World} {f gt gf gc : Nat} {C : Option Addr} {cl cc : Nat} {env : Int} (h : Fg w f gt gf gc C cl cc env) (hb : Below w.heap.size w w') : Fg w' f gt gf gc C cl cc env :=
  ⟨kcell hb h.c0, kcell hb h.c1, kcell hb h.c2, kcell hb h.c3, kcell hb h.c4⟩
def RetM (F : Nat → Prop) (gt gf gc : Nat) (T : Int → Tt) (st : St) (r : Except (Int × Int) Value) (w : World) (e : Ending) (w' : World) : Prop := e = endE st.pc r ∧ Mo F w' gt gf gc T st ∧ Kp F w w'
def mapV (r : Except (Int × Int) Int) (k : IntKind) : Except (Int × Int) Value := match r with
  | .ok v => .ok (.int k v)
  | .error z => .error z

set_option maxHeartbeats 2000000 in
theorem frame_any (F : Nat → Prop) (f gt gf gc : Nat) (C : Option Addr) (cl cc : Nat) (env : Int) (T : Int → Tt) (st : St) (ad : Int) (wr : Bool) (w : World) (q : Mo F w gt gf gc T st) (hl : Fg w f gt gf gc C cl cc env) (hf : F f) (h0 : 0 ≤ ad) (h1 : ad < 18446744073709551616) :
    Calls Try.prog 37 #[.pointer (some ⟨f, 0, none⟩), .int .u64 ad, .bool wr] w (RetM F gt gf gc T st (mapV (frM (T env) ad wr) .i64) w) := by
  have HL := fun W (hW : Mo F W gt gf gc T st ∧ Kp F w W) => (look_mo F gt gf gc T st env (ad / 16) wr W hW.1).mono (fun e w' ⟨he, hq, hk⟩ => And.intro he (And.intro hq (hW.2.trans hk)))
  have HQ := Lib.hid q
  unfold frM
  have c2 := hl.c2
  have c3 := hl.c3
  have HE : Hid (Fg w f gt gf gc C cl cc env) := hl
  have HF : Hid (F f) := hf
  have w1 : IntKind.i64.wrap (ad / 16) = ad / 16 := by rw [IntKind.wrap_i64]; omega
  clear hl hf q
  cases ht : T env (ad / 16) with
  | none =>
    have hv : lookV (T env) (ad / 16) wr = .tuple #[.int .i64 0, .int .i64 29] := by unfold lookV; rw [ht]
    rw [hv] at HL
    have HV : Hid (∀ W, (Mo F W gt gf gc T st ∧ Kp F w W) → Calls Try.prog 45 #[.pointer (some ⟨gt, 0, none⟩), .int .i64 env, .int .i64 (ad / 16), .bool wr] W fun e w' => e = .returned (.tuple #[.int .i64 0, .int .i64 29]) ∧ (Mo F w' gt gf gc T st ∧ Kp F w w')) := HL
    clear HL hv
    simp only [mapV]
    go_enter Try.func37, Try.ntmps37
    go_wp2_with fail
    (have cls_0 := cls_cell (C := fun W => Mo F W gt gf gc T st ∧ Kp F w W) (fun W h => h.2.cell c2 HF.out); have cls_1 := cls_cell (C := fun W => Mo F W gt gf gc T st ∧ Kp F w W) (fun W h => h.2.cell c3 HF.out); haveI ncls_ : Nonempty (InC (fun W => Mo F W gt gf gc T st ∧ Kp F w W)) := ⟨⟨_, ⟨HQ.out.drew, (Kp.refl F w).drew⟩⟩⟩; refine wp_region_cls (fun W => Mo F W gt gf gc T st ∧ Kp F w W) (⟨HQ.out.drew, (Kp.refl F w).drew⟩) (by kernel_rfl) (by kernel_rfl) ?_; (repeat (go_big_quiet_step ((go_at_call 45; with_reducible exact cls_call HV.out)))); refine wpQuiet_nil ?_; clear ncls_; clear cls_0 cls_1; intro w2 hC_; have hC := cls_out hC_; clear hC_)
    obtain ⟨hq, hk⟩ := hC
    have HE2 := Lib.hid (HE.out.kp hk HF.out)
    clear c2 c3
    have c0 := HE2.out.c0
    have c8 := hq.c8
    go_wp2_with fail
    refine (give_mo f 5 ad st.pc gc w2 c0 c8).mono ?_
    rintro e w3 ⟨rfl, rfl⟩
    simp only [bodyPost, endE]
    exact ⟨trivial, rfl, hq, hk⟩
  | some x =>
    simp only
    by_cases hc : wr = true ∧ x.2 = false
    · rw [if_pos hc]
      have hv : lookV (T env) (ad / 16) wr = .tuple #[.int .i64 0, .int .i64 23] := by unfold lookV; rw [ht]; simp only; rw [if_pos hc]
      rw [hv] at HL
      have HV : Hid (∀ W, (Mo F W gt gf gc T st ∧ Kp F w W) → Calls Try.prog 45 #[.pointer (some ⟨gt, 0, none⟩), .int .i64 env, .int .i64 (ad / 16), .bool wr] W fun e w' => e = .returned (.tuple #[.int .i64 0, .int .i64 23]) ∧ (Mo F w' gt gf gc T st ∧ Kp F w w')) := HL
      clear HL hv
      clear hc
      simp only [mapV]
      go_enter Try.func37, Try.ntmps37
      go_wp2_with fail
      (have cls_0 := cls_cell (C := fun W => Mo F W gt gf gc T st ∧ Kp F w W) (fun W h => h.2.cell c2 HF.out); have cls_1 := cls_cell (C := fun W => Mo F W gt gf gc T st ∧ Kp F w W) (fun W h => h.2.cell c3 HF.out); haveI ncls_ : Nonempty (InC (fun W => Mo F W gt gf gc T st ∧ Kp F w W)) := ⟨⟨_, ⟨HQ.out.drew, (Kp.refl F w).drew⟩⟩⟩; refine wp_region_cls (fun W => Mo F W gt gf gc T st ∧ Kp F w W) (⟨HQ.out.drew, (Kp.refl F w).drew⟩) (by kernel_rfl) (by kernel_rfl) ?_; (repeat (go_big_quiet_step ((go_at_call 45; with_reducible exact cls_call HV.out)))); refine wpQuiet_nil ?_; clear ncls_; clear cls_0 cls_1; intro w2 hC_; have hC := cls_out hC_; clear hC_)
      obtain ⟨hq, hk⟩ := hC
      have HE2 := Lib.hid (HE.out.kp hk HF.out)
      clear c2 c3
      have c0 := HE2.out.c0
      have c8 := hq.c8
      go_wp2_with fail
      refine (give_mo f 6 ad st.pc gc w2 c0 c8).mono ?_
      rintro e w3 ⟨rfl, rfl⟩
      simp only [bodyPost, endE]
      exact ⟨trivial, rfl, hq, hk⟩
    · rw [if_neg hc]
      have hv : lookV (T env) (ad / 16) wr = .tuple #[.int .i64 x.1, .int .i64 0] := by unfold lookV; rw [ht]; simp only; rw [if_neg hc]
      rw [hv] at HL
      have HV : Hid (∀ W, (Mo F W gt gf gc T st ∧ Kp F w W) → Calls Try.prog 45 #[.pointer (some ⟨gt, 0, none⟩), .int .i64 env, .int .i64 (ad / 16), .bool wr] W fun e w' => e = .returned (.tuple #[.int .i64 x.1, .int .i64 0]) ∧ (Mo F w' gt gf gc T st ∧ Kp F w w')) := HL
      clear HL hv
      clear hc ht
      simp only [mapV]
      go_enter Try.func37, Try.ntmps37
      go_wp2_with fail
      (have cls_0 := cls_cell (C := fun W => Mo F W gt gf gc T st ∧ Kp F w W) (fun W h => h.2.cell c2 HF.out); have cls_1 := cls_cell (C := fun W => Mo F W gt gf gc T st ∧ Kp F w W) (fun W h => h.2.cell c3 HF.out); haveI ncls_ : Nonempty (InC (fun W => Mo F W gt gf gc T st ∧ Kp F w W)) := ⟨⟨_, ⟨HQ.out.drew, (Kp.refl F w).drew⟩⟩⟩; refine wp_region_cls (fun W => Mo F W gt gf gc T st ∧ Kp F w W) (⟨HQ.out.drew, (Kp.refl F w).drew⟩) (by kernel_rfl) (by kernel_rfl) ?_; (repeat (go_big_quiet_step ((go_at_call 45; with_reducible exact cls_call HV.out)))); refine wpQuiet_nil ?_; clear ncls_; clear cls_0 cls_1; intro w2 hC_; have hC := cls_out hC_; clear hC_)
      obtain ⟨hq, hk⟩ := hC
      clear c2 c3
      go_wp2_with fail
      go_ret
      exact ⟨rfl, hq, hk⟩
end Go.Proofs.Ytpimflmmfnffeaa

/- Walks: load, store, reckon; what each instruction does, in any machine. -/
namespace Go.Proofs.Ytpimflmmfnffeaa
open Go.RowKit Go.Lib
open Fr (FrS Fm byteE byteV writeF read_any write_any RetF)

def mapF (r : Except (Int × Int) FrS) : Except (Int × Int) Value := match r with
  | .ok _ => .ok (.tuple #[])
  | .error z => .error z
def stOf (st : St) (r : Except (Int × Int) FrS) : St := match r with
  | .ok s => ⟨st.R, st.pc, s⟩
  | .error _ => st
def RetS (F : Nat → Prop) (gt gf gc : Nat) (T : Int → Tt) (st : St) (r : Except (Int × Int) FrS) (w : World) (e : Ending) (w' : World) : Prop := e = endE st.pc (mapF r) ∧ Mo F w' gt gf gc T (stOf st r) ∧ Kp F w w'
theorem frM_ok {t : Tt} {ad : Int} {wr : Bool} {z : Int} (_ : frM t ad wr = .ok z) : True := trivial

set_option maxHeartbeats 2000000 in
theorem load_mo (F : Nat → Prop) (f gt gf gc : Nat) (C : Option Addr) (cl cc : Nat) (env : Int) (T : Int → Tt) (st : St) (ad : Int) (w : World) (q : Mo F w gt gf gc T st) (hl : Fg w f gt gf gc C cl cc env) (hf : F f) (h0 : 0 ≤ ad) (h1 : ad < 18446744073709551616) :
    Calls Try.prog 27 #[.pointer (some ⟨f, 0, none⟩), .int .u64 ad] w (RetM F gt gf gc T st (mapV (ldM (T env) st.s ad) .u64) w) := by
  have HL := Lib.hid (frame_any F f gt gf gc C cl cc env T st ad false w q hl hf h0 h1)
  have HE : Hid (Fg w f gt gf gc C cl cc env) := hl
  have HF : Hid (F f) := hf
  have w1 : IntKind.i64.wrap (ad % 16) = ad % 16 := by rw [IntKind.wrap_i64]; omega
  clear hl hf
  unfold ldM
  cases hfr : frM (T env) ad false with
  | error z =>
    rw [hfr] at HL
    simp only [mapV] at HL ⊢
    go_enter Try.func27, Try.ntmps27
    go_wp2_with fail
    refine HL.out.mono ?_
    rintro e w2 ⟨rfl, hq, hk⟩
    simp only [endE]
    go_wp2_with fail
    simp only [bodyPost, endE]
    exact ⟨trivial, rfl, hq, hk⟩
  | ok fr =>
    rw [hfr] at HL
    simp only [mapV] at HL
    simp only
    by_cases hb : byteE st.s fr (ad % 16) = 0
    · rw [if_pos hb]
      simp only [mapV]
      go_enter Try.func27, Try.ntmps27
      go_wp2_with fail
      refine HL.out.mono ?_
      rintro e w2 ⟨rfl, hq, hk⟩
      simp only [endE]
      have HE2 := Lib.hid (HE.out.kp hk HF.out)
      have c4 := HE2.out.c4
      have HR := Lib.hid (read_any st.s gf fr (ad % 16) w2 hq.fr)
      rw [hb] at HR
      go_wp2_with fail
      refine HR.out.mono ?_
      rintro e w3 ⟨rfl, rfl⟩
      go_wp2_with fail
      go_ret
      exact ⟨rfl, hq, hk⟩
    · rw [if_neg hb]
      simp only [mapV]
      go_enter Try.func27, Try.ntmps27
      go_wp2_with fail
      refine HL.out.mono ?_
      rintro e w2 ⟨rfl, hq, hk⟩
      simp only [endE]
      have HE2 := Lib.hid (HE.out.kp hk HF.out)
      have c4 := HE2.out.c4
      have c0 := HE2.out.c0
      have c8 := hq.c8
      have HR := Lib.hid (read_any st.s gf fr (ad % 16) w2 hq.fr)
      have hne : (byteE st.s fr (ad % 16) != 0) = true := by simp [hb]
      generalize byteE st.s fr (ad % 16) = z at *
      clear hb
      go_wp2_with fail
      refine HR.out.mono ?_
      rintro e w3 ⟨rfl, rfl⟩
      go_wp2_with fail
      refine (give_mo f 5 ad st.pc gc w2 c0 c8).mono ?_
      rintro e w3 ⟨rfl, rfl⟩
      simp only [bodyPost, endE]
      exact ⟨trivial, rfl, hq, hk⟩

set_option maxHeartbeats 2000000 in
theorem store_mo (F : Nat → Prop) (f gt gf gc : Nat) (C : Option Addr) (cl cc : Nat) (env : Int) (T : Int → Tt) (st : St) (ad v : Int) (w : World) (q : Mo F w gt gf gc T st) (hl : Fg w f gt gf gc C cl cc env) (hf : F f) (h0 : 0 ≤ ad) (h1 : ad < 18446744073709551616) (v0 : 0 ≤ v) (v1 : v < 18446744073709551616) :
    Calls Try.prog 28 #[.pointer (some ⟨f, 0, none⟩), .int .u64 ad, .int .u64 v] w (RetS F gt gf gc T st (stM (T env) st.s ad v) w) := by
  have HL := Lib.hid (frame_any F f gt gf gc C cl cc env T st ad true w q hl hf h0 h1)
  have HE : Hid (Fg w f gt gf gc C cl cc env) := hl
  have HF : Hid (F f) := hf
  have w1 : IntKind.i64.wrap (ad % 16) = ad % 16 := by rw [IntKind.wrap_i64]; omega
  clear hl hf
  unfold stM
  cases hfr : frM (T env) ad true with
  | error z =>
    rw [hfr] at HL
    simp only [mapV] at HL
    go_enter Try.func28, Try.ntmps28
    go_wp2_with fail
    refine HL.out.mono ?_
    rintro e w2 ⟨rfl, hq, hk⟩
    simp only [endE]
    go_wp2_with fail
    simp only [bodyPost, endE]
    exact ⟨trivial, rfl, hq, hk⟩
  | ok fr =>
    rw [hfr] at HL
    simp only [mapV] at HL
    simp only
    by_cases hb : byteE st.s fr (ad % 16) = 0
    · rw [if_pos hb]
      go_enter Try.func28, Try.ntmps28
      go_wp2_with fail
      refine HL.out.mono ?_
      rintro e w2 ⟨rfl, hq, hk⟩
      simp only [endE]
      have HE2 := Lib.hid (HE.out.kp hk HF.out)
      have c4 := HE2.out.c4
      have HR := Lib.hid (write_any st.s gf fr (ad % 16) (v % 256) w2 hq.fr)
      rw [hb] at HR
      go_wp2_with fail
      with_reducible refine HR.out.mono ?_
      rintro e w3 ⟨rfl, hfm, hgr⟩
      have HP := Lib.hid (hq.fput hfm hgr)
      go_wp2_with fail
      go_end0
      exact ⟨rfl, HP.out.1, hk.trans HP.out.2⟩
    · rw [if_neg hb]
      go_enter Try.func28, Try.ntmps28
      go_wp2_with fail
      refine HL.out.mono ?_
      rintro e w2 ⟨rfl, hq, hk⟩
      simp only [endE]
      have HE2 := Lib.hid (HE.out.kp hk HF.out)
      have c4 := HE2.out.c4
      have HR := Lib.hid (write_any st.s gf fr (ad % 16) (v % 256) w2 hq.fr)
      have hne : (byteE st.s fr (ad % 16) != 0) = true := by simp [hb]
      have hws : writeF st.s fr (ad % 16) (v % 256) = st.s := by unfold writeF; rw [if_neg hb]
      rw [hws] at HR
      generalize byteE st.s fr (ad % 16) = z at *
      clear hb hws
      go_wp2_with fail
      with_reducible refine HR.out.mono ?_
      rintro e w3 ⟨rfl, hfm, hgr⟩
      have hp := hq.fput hfm hgr
      have HE3 := Lib.hid (HE2.out.kp hp.2 HF.out)
      have c0 := HE3.out.c0
      have c8 := hp.1.c8
      have HP := Lib.hid hp
      clear hp hfm hgr c4
      go_wp2_with fail
      refine (give_mo f 5 ad st.pc gc w3 c0 c8).mono ?_
      rintro e w4 ⟨rfl, rfl⟩
      simp only [bodyPost, endE]
      exact ⟨trivial, rfl, HP.out.1, hk.trans HP.out.2⟩
set_option maxHeartbeats 1000000 in
theorem reckon_2 (f : Nat) (b c : Int) (w : World) (b0 : 0 ≤ b) (b1 : b < 18446744073709551616) (c0 : 0 ≤ c) (c1 : c < 18446744073709551616) : Calls Try.prog 29 #[.pointer (some ⟨f, 0, none⟩), .int .i64 2, .int .u64 b, .int .u64 c] w fun e w' => e = .returned (.int .u64 (rk 2 b c)) ∧ w = w' := by
  simp only [rk, Nat.reduceEqDiff, if_true, if_false]
  go_enter Try.func29, Try.ntmps29
  go_wp2_with fail
  go_ret
  exact ⟨rfl, rfl⟩
set_option maxHeartbeats 1000000 in
theorem reckon_3 (f : Nat) (b c : Int) (w : World) (b0 : 0 ≤ b) (b1 : b < 18446744073709551616) (c0 : 0 ≤ c) (c1 : c < 18446744073709551616) : Calls Try.prog 29 #[.pointer (some ⟨f, 0, none⟩), .int .i64 3, .int .u64 b, .int .u64 c] w fun e w' => e = .returned (.int .u64 (rk 3 b c)) ∧ w = w' := by
  simp only [rk, Nat.reduceEqDiff, if_true, if_false]
  go_enter Try.func29, Try.ntmps29
  go_wp2_with fail
  go_ret
  exact ⟨rfl, rfl⟩
set_option maxHeartbeats 1000000 in
theorem reckon_4 (f : Nat) (b c : Int) (w : World) (b0 : 0 ≤ b) (b1 : b < 18446744073709551616) (c0 : 0 ≤ c) (c1 : c < 18446744073709551616) : Calls Try.prog 29 #[.pointer (some ⟨f, 0, none⟩), .int .i64 4, .int .u64 b, .int .u64 c] w fun e w' => e = .returned (.int .u64 (rk 4 b c)) ∧ w = w' := by
  simp only [rk, Nat.reduceEqDiff, if_true, if_false]
  go_enter Try.func29, Try.ntmps29
  go_wp2_with fail
  go_ret
  exact ⟨rfl, rfl⟩
set_option maxHeartbeats 1000000 in
theorem reckon_5 (f : Nat) (b c : Int) (w : World) (b0 : 0 ≤ b) (b1 : b < 18446744073709551616) (c0 : 0 ≤ c) (c1 : c < 18446744073709551616) (hc : ¬ c = 0) : Calls Try.prog 29 #[.pointer (some ⟨f, 0, none⟩), .int .i64 5, .int .u64 b, .int .u64 c] w fun e w' => e = .returned (.int .u64 (rk 5 b c)) ∧ w = w' := by
  simp only [rk, Nat.reduceEqDiff, if_true, if_false]
  go_enter Try.func29, Try.ntmps29
  go_wp2_with fail
  go_ret
  exact ⟨rfl, rfl⟩
set_option maxHeartbeats 1000000 in
theorem reckon_6 (f : Nat) (b c : Int) (w : World) (b0 : 0 ≤ b) (b1 : b < 18446744073709551616) (c0 : 0 ≤ c) (c1 : c < 18446744073709551616) : Calls Try.prog 29 #[.pointer (some ⟨f, 0, none⟩), .int .i64 6, .int .u64 b, .int .u64 c] w fun e w' => e = .returned (.int .u64 (rk 6 b c)) ∧ w = w' := by
  simp only [rk, Nat.reduceEqDiff, if_true, if_false]
  go_enter Try.func29, Try.ntmps29
  go_wp2_with fail
  go_ret
  exact ⟨rfl, rfl⟩
set_option maxHeartbeats 1000000 in
theorem reckon_7 (f : Nat) (b c : Int) (w : World) (b0 : 0 ≤ b) (b1 : b < 18446744073709551616) (c0 : 0 ≤ c) (c1 : c < 18446744073709551616) : Calls Try.prog 29 #[.pointer (some ⟨f, 0, none⟩), .int .i64 7, .int .u64 b, .int .u64 c] w fun e w' => e = .returned (.int .u64 (rk 7 b c)) ∧ w = w' := by
  simp only [rk, Nat.reduceEqDiff, if_true, if_false]
  go_enter Try.func29, Try.ntmps29
  go_wp2_with fail
  go_ret
  exact ⟨rfl, rfl⟩
set_option maxHeartbeats 1000000 in
theorem reckon_8 (f : Nat) (b c : Int) (w : World) (b0 : 0 ≤ b) (b1 : b < 18446744073709551616) (c0 : 0 ≤ c) (c1 : c < 18446744073709551616) : Calls Try.prog 29 #[.pointer (some ⟨f, 0, none⟩), .int .i64 8, .int .u64 b, .int .u64 c] w fun e w' => e = .returned (.int .u64 (rk 8 b c)) ∧ w = w' := by
  simp only [rk, Nat.reduceEqDiff, if_true, if_false]
  go_enter Try.func29, Try.ntmps29
  go_wp2_with fail
  go_ret
  exact ⟨rfl, rfl⟩
set_option maxHeartbeats 1000000 in
theorem reckon_9 (f : Nat) (b c : Int) (w : World) (b0 : 0 ≤ b) (b1 : b < 18446744073709551616) (c0 : 0 ≤ c) (c1 : c < 18446744073709551616) : Calls Try.prog 29 #[.pointer (some ⟨f, 0, none⟩), .int .i64 9, .int .u64 b, .int .u64 c] w fun e w' => e = .returned (.int .u64 (rk 9 b c)) ∧ w = w' := by
  simp only [rk, Nat.reduceEqDiff, if_true, if_false]
  go_enter Try.func29, Try.ntmps29
  go_wp2_with fail
  go_ret
  exact ⟨rfl, rfl⟩
set_option maxHeartbeats 1000000 in
theorem reckon_10 (f : Nat) (b c : Int) (w : World) (b0 : 0 ≤ b) (b1 : b < 18446744073709551616) (c0 : 0 ≤ c) (c1 : c < 18446744073709551616) : Calls Try.prog 29 #[.pointer (some ⟨f, 0, none⟩), .int .i64 10, .int .u64 b, .int .u64 c] w fun e w' => e = .returned (.int .u64 (rk 10 b c)) ∧ w = w' := by
  simp only [rk, Nat.reduceEqDiff, if_true, if_false]
  go_enter Try.func29, Try.ntmps29
  go_wp2_with fail
  go_ret
  exact ⟨rfl, rfl⟩
set_option maxHeartbeats 1000000 in
theorem reckon_11 (f : Nat) (b c : Int) (w : World) (b0 : 0 ≤ b) (b1 : b < 18446744073709551616) (c0 : 0 ≤ c) (c1 : c < 18446744073709551616) : Calls Try.prog 29 #[.pointer (some ⟨f, 0, none⟩), .int .i64 11, .int .u64 b, .int .u64 c] w fun e w' => e = .returned (.int .u64 (rk 11 b c)) ∧ w = w' := by
  simp only [rk, Nat.reduceEqDiff, if_true, if_false]
  go_enter Try.func29, Try.ntmps29
  go_wp2_with fail
  all_goals go_ret
  all_goals exact ⟨rfl, rfl⟩
end Go.Proofs.Ytpimflmmfnffeaa
