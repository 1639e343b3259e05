/- The calls of both sides, at every environment. -/
import Derived.Test.YtciijdajdmcllaaU7
namespace Go.Proofs.Ytciijdajdmcllaa
open Go.RowKit Go.Lib

def inE (env : Int) : Bool := decide (0 ≤ env ∧ env ≤ 7)
def takeC (C : List Ct) (env : Int) : Up × Int × List Ct := if inE env then (match C[env.toNat]? with
    | some ⟨x :: L, l⟩ => (x, 0, C.set env.toNat ⟨L, l⟩)
    | _ => (⟨0, 0, 0⟩, 6, C)) else (⟨0, 0, 0⟩, 1, C)
def putA (C : List Ct) (env : Int) (u : Up) : Int × List Ct := if inE env && okK u.kind then (match C[env.toNat]? with
    | some r => (putE r u, C.set env.toNat (putC r u))
    | none => (1, C)) else (1, C)
theorem inE_t {env : Int} (h : inE env = true) : ∃ i : Nat, env = i ∧ i < 8 := by
  have h2 : 0 ≤ env ∧ env ≤ 7 := of_decide_eq_true h
  obtain ⟨i, rfl⟩ := Int.eq_ofNat_of_zero_le h2.1
  exact ⟨i, rfl, by omega⟩
theorem inE_f {env : Int} (h : inE env = false) : env < 0 ∨ 7 < env := by
  have h2 : ¬ (0 ≤ env ∧ env ≤ 7) := of_decide_eq_false h
  omega
theorem fit_take {n : Nat} {C : List Ct} (h : Fit n C) (env : Int) : Fit (n + 1) (takeC C env).2.2 := by
  unfold takeC
  split
  · split
    · rename_i x L l hx
      obtain ⟨hi, e⟩ := List.getElem?_eq_some_iff.1 hx
      have := h.at_ hi
      rw [e] at this
      exact h.set_ _ (by have := this.1; simp at this ⊢; omega) this.2.1 (by have := this.2.2; simp at this ⊢; omega)
    · exact h.more
  · exact h.more
theorem fit_putA {n : Nat} {C : List Ct} (h : Fit n C) (env : Int) (u : Up) : Fit (n + 1) (putA C env u).2 := by
  unfold putA
  split
  · split
    · rename_i r hx
      obtain ⟨hi, e⟩ := List.getElem?_eq_some_iff.1 hx
      rw [← e]
      exact h.put _ hi u
    · exact h.more
  · exact h.more

theorem ptake_all (F : Nat → Prop) (g n : Nat) (env : Int) (C : List Ct) (w : World) (h : Rf F w g C) (hf : Fit n C) :
    Calls Try.prog 8 #[.pointer (some ⟨g, 0, none⟩), .int .i64 env] w (RetTF F g (takeC C env).2.2 (takeC C env).1 (takeC C env).2.1 w) := by
  unfold takeC
  cases he : inE env
  · refine (take_env g env (inE_f he) w).mono ?_
    rintro e w' ⟨rfl, hb⟩
    exact ⟨rfl, h.keep hb, Kp.of_below hb h.lt⟩
  · obtain ⟨i, rfl, hi⟩ := inE_t he
    obtain ⟨R, hR, rfl, hF⟩ := h
    have hiR : i < R.length := by rw [hR.len]; exact hi
    simp only [if_true, Int.toNat_natCast, List.getElem?_map, List.getElem?_eq_getElem hiR, Option.map_some]
    have hx := hf.at_ (i := i) (by simpa using hiR)
    rw [List.getElem_map] at hx
    cases hr : R[i] with
    | mk A c L l =>
      rw [hr] at hx
      cases L with
      | nil =>
        refine (take_nil g i hi R w hR hiR (by rw [hr])).mono ?_
        rintro e w' ⟨rfl, hb⟩
        have hRf : Rf F w g (R.map ctOf) := ⟨R, hR, rfl, hF⟩
        exact ⟨rfl, hRf.keep hb, Kp.of_below hb (fun b hb => (hF b hb).1)⟩
      | cons x L =>
        have hl : L.length ≤ 8 := by have := hx.1; simp [ctOf] at this; omega
        exact take_someF F g i hi R w hR hiR A c x L l hr hl hF
theorem pput_all (F : Nat → Prop) (g n : Nat) (env : Int) (u : Up) (C : List Ct) (w : World) (h : Rf F w g C) (hf : Fit n C) (hn : n ≤ 1000) :
    Calls Try.prog 6 #[.pointer (some ⟨g, 0, none⟩), .int .i64 env, .agg #[.int .i64 u.kind, .int .i64 u.a, .int .u64 u.b]] w (RetPF F g (putA C env u).2 (putA C env u).1 w) := by
  unfold putA
  cases he : inE env
  · refine (put_env g env (inE_f he) u w).mono ?_
    rintro e w' ⟨rfl, hb⟩
    exact ⟨rfl, h.keep hb, Kp.of_below hb h.lt⟩
  · obtain ⟨i, rfl, hi⟩ := inE_t he
    cases hu : okK u.kind
    · refine (put_kind g i hi u hu w).mono ?_
      rintro e w' ⟨rfl, hb⟩
      exact ⟨rfl, h.keep hb, Kp.of_below hb h.lt⟩
    · obtain ⟨R, hR, rfl, hF⟩ := h
      have hiR : i < R.length := by rw [hR.len]; exact hi
      simp only [Bool.and_self, if_true, Int.toNat_natCast, List.getElem?_map, List.getElem?_eq_getElem hiR, Option.map_some]
      have hx := hf.at_ (i := i) (by simpa using hiR)
      rw [List.getElem_map] at hx
      exact put_rowF F g i hi u hu R w hR hiR R[i].A R[i].c R[i].L R[i].lost rfl hx.1 hx.2.1 (by have := hx.2.2; simp [ctOf] at this; omega) hF
theorem rtake_all (n : Nat) (A : Option Addr) (c : Nat) (R : List RwS) (env : Int) (w : World) (hQ : Qs w A c R) :
    Calls Try.prog 10 #[.slice A 8 c, .int .i64 env] w (RetQT A R (takeC (R.map ctOf) env).2.2 (takeC (R.map ctOf) env).1 (takeC (R.map ctOf) env).2.1 w) := by
  unfold takeC
  cases he : inE env
  · exact rtake_env A c R env w hQ (inE_f he)
  · obtain ⟨i, rfl, hi⟩ := inE_t he
    have hiR : i < R.length := by rw [hQ.len]; exact hi
    simp only [if_true, Int.toNat_natCast, List.getElem?_map, List.getElem?_eq_getElem hiR, Option.map_some]
    cases hr : R[i] with
    | mk A2 c2 L l =>
      cases L with
      | nil => exact rtake_nil A c R i w hQ hi hiR (by rw [hr])
      | cons x L => exact rtake_some A c R i w hQ hi hiR A2 c2 x L l hr
theorem rput_all (n : Nat) (A : Option Addr) (c : Nat) (R : List RwS) (env : Int) (u : Up) (w : World) (hQ : Qs w A c R) (hf : Fit n (R.map ctOf)) (hn : n ≤ 1000) :
    Calls Try.prog 12 #[.slice A 8 c, .int .i64 env, .agg #[.int .i64 u.kind, .int .i64 u.a, .int .u64 u.b]] w (RetQP A R (putA (R.map ctOf) env u).2 (putA (R.map ctOf) env u).1 w) := by
  unfold putA
  cases he : inE env
  · exact rput_env A c R env u w hQ (inE_f he)
  · obtain ⟨i, rfl, hi⟩ := inE_t he
    cases hu : okK u.kind
    · exact rput_kind A c R i u w hQ hi hu
    · have hiR : i < R.length := by rw [hQ.len]; exact hi
      simp only [Bool.and_self, if_true, Int.toNat_natCast, List.getElem?_map, List.getElem?_eq_getElem hiR, Option.map_some]
      have hx := hf.at_ (i := i) (by simpa using hiR)
      rw [List.getElem_map] at hx
      exact rput_row A c R i u w hQ hi hu hiR R[i].A R[i].c R[i].L R[i].lost rfl hx.1 hx.2.1 (by have := hx.2.2; simp [ctOf] at this; omega)
end Go.Proofs.Ytciijdajdmcllaa
