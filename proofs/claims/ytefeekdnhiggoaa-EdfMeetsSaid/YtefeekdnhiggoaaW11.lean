/- Walks: Load, and the document's Over. -/
import Derived.Test.YtefeekdnhiggoaaW10
namespace Go.Proofs.Ytefeekdnhiggoaa
open Go.RowKit

set_option maxHeartbeats 1000000 in
theorem load_any (A : Option Addr) (js : List Job) (c : Nat) (f t : Int) (w : World) (hs : Sl eJ 3 w A js) (hr : rightJ js = true) :
    Calls Try.prog 21 #[.slice A js.length c, .int .i64 f, .int .i64 t] w fun e w' => e = .returned (.int .i64 (loadTo js f t js.length)) ∧ Below w.heap.size w w' := by
  have hp := right_parts hr
  have hok := Lib.hid hp.2
  have hl := hp.1
  clear hp
  go_enter Try.func21, Try.ntmps21
  go_wp2_with (go_at_call 10; refine (right_any _ _ _ _ hs (by omega)).mono ?_; rintro e w2 ⟨rfl, hB⟩; rw [hr])
  go_loopw [7, 15] (fun n i wr => ∃ (k : Nat) (y : Int), k ≤ js.length ∧ i = .int .i64 k ∧ n = .int .i64 y ∧ Hid (y = loadTo js f t k) ∧ 0 ≤ y ∧ y ≤ 1024 * (k : Int) ∧ Below w.heap.size w wr) (fun _ i _ => js.length - (intOf i).toNat)
  case atStart => exact ⟨0, 0, Nat.zero_le _, rfl, rfl, rfl, by omega, by omega, hB⟩
  case round =>
    clear hB
    obtain ⟨k, y, hk, rfl, rfl, HY, y0, y1, hB⟩ := hrel
    by_cases hlt : k < js.length
    · obtain ⟨b, off, rfl, c0, c1, c2⟩ := (hs.keep hB).job_at hlt
      have hj := okJ_t (hok.out js[k] (List.getElem_mem hlt))
      have HS := Lib.hid (load_succ js f t k hlt)
      obtain ⟨j0, j1, j2, j3, j4⟩ := hj
      by_cases h1 : f ≤ js[k].come
      · by_cases h2 : js[k].dead ≤ t
        · have HN : Hid (y + js[k].cost = loadTo js f t (k + 1)) := by unfold Hid; rw [HS.out, ← HY.out]; unfold inJ; rw [if_pos ⟨h1, h2⟩]
          go_wp2
          go_roundw
          case rel => exact ⟨k + 1, y + js[k].cost, by omega, by go_num, by go_num, HN.out, by omega, by omega, hB.alloc hB.size _⟩
          case measure => simp [intOf]; omega
        · have HN : Hid (y = loadTo js f t (k + 1)) := by unfold Hid; rw [HS.out, ← HY.out]; unfold inJ; rw [if_neg (by omega)]; omega
          go_wp2
          go_roundw
          case rel => exact ⟨k + 1, y, by omega, by go_num, by go_num, HN.out, by omega, by omega, hB.alloc hB.size _⟩
          case measure => simp [intOf]; omega
      · have HN : Hid (y = loadTo js f t (k + 1)) := by unfold Hid; rw [HS.out, ← HY.out]; unfold inJ; rw [if_neg (by omega)]; omega
        go_wp2
        go_roundw
        case rel => exact ⟨k + 1, y, by omega, by go_num, by go_num, HN.out, by omega, by omega, hB.alloc hB.size _⟩
        case measure => simp [intOf]; omega
    · obtain rfl : k = js.length := by omega
      go_wp2
      go_ret
      exact ⟨ret_int HY.out, hB⟩

set_option maxHeartbeats 1000000 in
theorem load_no (A : Option Addr) (js : List Job) (c : Nat) (f t : Int) (w : World) (hs : Sl eJ 3 w A js) (hl : js.length ≤ 40) (hr : rightJ js = false) :
    Calls Try.prog 21 #[.slice A js.length c, .int .i64 f, .int .i64 t] w fun e w' => e = .returned (.int .i64 0) ∧ Below w.heap.size w w' := by
  go_enter Try.func21, Try.ntmps21
  go_wp2_with (go_at_call 10; refine (right_any _ _ _ _ hs (by omega)).mono ?_; rintro e w2 ⟨rfl, hB⟩; rw [hr])
  go_ret
  exact ⟨rfl, hB⟩
set_option maxHeartbeats 1000000 in
theorem over_no (A : Option Addr) (js : List Job) (c : Nat) (w : World) (hs : Sl eJ 3 w A js) (hl : js.length ≤ 40) (hr : rightJ js = false) :
    Calls Try.prog 19 #[.slice A js.length c] w fun e w' => e = .returned (.tuple #[.int .i64 0, .int .i64 0, .bool false]) ∧ Below w.heap.size w w' := by
  go_enter Try.func19, Try.ntmps19
  go_wp2_with (go_at_call 10; refine (right_any _ _ _ _ hs (by omega)).mono ?_; rintro e w2 ⟨rfl, hB⟩; rw [hr])
  go_ret3
  exact ⟨rfl, hB⟩

set_option maxHeartbeats 1000000 in
theorem refLoad_any (A : Option Addr) (js : List Job) (c : Nat) (f t : Int) (w : World) (hs : Sl eJ 3 w A js) (hr : rightJ js = true) :
    Calls Try.prog 23 #[.slice A js.length c, .int .i64 f, .int .i64 t] w fun e w' => e = .returned (.int .i64 (loadTo js f t js.length)) ∧ w = w' := by
  have hp := right_parts hr
  have hok := Lib.hid hp.2
  have hl := hp.1
  clear hp hr
  go_enter Try.func23, Try.ntmps23
  go_wp2
  go_loopw [7, 8] (fun n i wr => ∃ (k : Nat) (y : Int), k ≤ js.length ∧ i = .int .i64 k ∧ n = .int .i64 y ∧ Hid (y = loadTo js f t k) ∧ 0 ≤ y ∧ y ≤ 1024 * (k : Int) ∧ w = wr) (fun _ i _ => js.length - (intOf i).toNat)
  case atStart => exact ⟨0, 0, Nat.zero_le _, rfl, rfl, rfl, by omega, by omega, rfl⟩
  case round =>
    obtain ⟨k, y, hk, rfl, rfl, HY, y0, y1, rfl⟩ := hrel
    by_cases hlt : k < js.length
    · obtain ⟨b, off, rfl, c0, c1, c2⟩ := hs.job_at hlt
      have hj := okJ_t (hok.out js[k] (List.getElem_mem hlt))
      have HS := Lib.hid (load_succ js f t k hlt)
      obtain ⟨j0, j1, j2, j3, j4⟩ := hj
      by_cases h1 : f ≤ js[k].come
      · by_cases h2 : js[k].dead ≤ t
        · have HN : Hid (y + js[k].cost = loadTo js f t (k + 1)) := by unfold Hid; rw [HS.out, ← HY.out]; unfold inJ; rw [if_pos ⟨h1, h2⟩]
          go_wp2
          go_roundw
          case rel => exact ⟨k + 1, y + js[k].cost, by omega, by go_num, by go_num, HN.out, by omega, by omega, trivial⟩
          case measure => simp [intOf]; omega
        · have HN : Hid (y = loadTo js f t (k + 1)) := by unfold Hid; rw [HS.out, ← HY.out]; unfold inJ; rw [if_neg (by omega)]; omega
          go_wp2
          go_roundw
          case rel => exact ⟨k + 1, y, by omega, by go_num, by go_num, HN.out, by omega, by omega, trivial⟩
          case measure => simp [intOf]; omega
      · have HN : Hid (y = loadTo js f t (k + 1)) := by unfold Hid; rw [HS.out, ← HY.out]; unfold inJ; rw [if_neg (by omega)]; omega
        go_wp2
        go_roundw
        case rel => exact ⟨k + 1, y, by omega, by go_num, by go_num, HN.out, by omega, by omega, trivial⟩
        case measure => simp [intOf]; omega
    · obtain rfl : k = js.length := by omega
      go_wp2
      go_ret
      exact ⟨ret_int HY.out, rfl⟩

theorem least_of (P : Nat → Prop) : ∀ n, P n → ∃ m, m ≤ n ∧ P m ∧ ∀ k, k < m → ¬ P k := by
  intro n
  induction n using Nat.strongRecOn with
  | _ n ih =>
    intro hn
    by_cases h : ∃ k, k < n ∧ P k
    · obtain ⟨k, hk, hp⟩ := h
      obtain ⟨m, h1, h2, h3⟩ := ih k hk hp
      exact ⟨m, by omega, h2, h3⟩
    · exact ⟨n, Nat.le_refl _, hn, fun k hk hp => h ⟨k, hk, hp⟩⟩

/-- of the first m jobs' deadlines, the least that ends a stretch from f with too much -/
def BestTo (l : List Job) (T f m : Nat) (y : Int) : Prop :=
  (y = -1 ∧ ∀ (q : Nat) (h : q < l.length) (d : Nat), q < m → l[q].dead = d → f < d → ¬ overP l f d) ∨
  (∃ t : Nat, y = t ∧ f < t ∧ t ≤ T ∧ overP l f t ∧ ∀ (q : Nat) (h : q < l.length) (d : Nat), q < m → l[q].dead = d → f < d → overP l f d → t ≤ d)
theorem best_all {l : List Job} (hok : ∀ j ∈ l, okJ j = true) {T f : Nat} {y : Int} (h : BestTo l T f l.length y) : (y = -1 ∧ ∀ t : Nat, f < t → ¬ overP l f t) ∨ (∃ t : Nat, y = t ∧ f < t ∧ t ≤ T ∧ overP l f t ∧ ∀ t' : Nat, f < t' → t' < t → ¬ overP l f t') := by
  have key : ∀ t : Nat, f < t → overP l f t → ∃ (q : Nat) (h : q < l.length) (d : Nat), l[q].dead = d ∧ f < d ∧ d ≤ t ∧ overP l f d := fun t hft ho => by
    obtain ⟨m, h1, h2, h3⟩ := least_of (fun t => f < t ∧ overP l f t) t ⟨hft, ho⟩
    obtain ⟨q, hq, hd⟩ := over_dead l hok f m h2.1 h2.2 (fun t' h4 h5 h6 => h3 t' h5 ⟨h4, h6⟩)
    exact ⟨q, hq, m, hd, h2.1, h1, h2.2⟩
  rcases h with ⟨rfl, h⟩ | ⟨t, rfl, h1, h2, h3, h4⟩
  · refine .inl ⟨rfl, fun t hft ho => ?_⟩
    obtain ⟨q, hq, d, hd, hfd, _, hod⟩ := key t hft ho
    exact h q hq d hq hd hfd hod
  · refine .inr ⟨t, rfl, h1, h2, h3, fun t' hft' hlt ho => ?_⟩
    obtain ⟨q, hq, d, hd, hfd, hdt, hod⟩ := key t' hft' ho
    have := h4 q hq d hq hd hfd hod
    omega
theorem best_keep {l : List Job} {T f m : Nat} {y : Int} (h : BestTo l T f m y) (hm : m < l.length) (hno : ∀ d : Nat, l[m].dead = d → f < d → overP l f d → 0 ≤ y ∧ y ≤ d) : BestTo l T f (m + 1) y := by
  rcases h with ⟨rfl, h⟩ | ⟨t, rfl, h1, h2, h3, h4⟩
  · refine .inl ⟨rfl, fun q hq d hqm hd hfd ho => ?_⟩
    by_cases he : q = m
    · subst he; have := hno d hd hfd ho; omega
    · exact h q hq d (by omega) hd hfd ho
  · refine .inr ⟨t, rfl, h1, h2, h3, fun q hq d hqm hd hfd ho => ?_⟩
    by_cases he : q = m
    · subst he; have := hno d hd hfd ho; omega
    · exact h4 q hq d (by omega) hd hfd ho
theorem best_new {l : List Job} {T f m : Nat} {y : Int} (h : BestTo l T f m y) (hm : m < l.length) (D : Nat) (hD : l[m].dead = D) (hfD : f < D) (hDT : D ≤ T) (ho : overP l f D) (hlt : y < 0 ∨ (D : Int) < y) : BestTo l T f (m + 1) D := by
  refine .inr ⟨D, rfl, hfD, hDT, ho, fun q hq d hqm hd hfd hod => ?_⟩
  by_cases he : q = m
  · subst he; omega
  · rcases h with ⟨rfl, h⟩ | ⟨t, rfl, h1, h2, h3, h4⟩
    · exact absurd hod (h q hq d (by omega) hd hfd)
    · have := h4 q hq d (by omega) hd hfd hod
      omega
theorem best_bd {l : List Job} {T f m : Nat} {y : Int} (h : BestTo l T f m y) : -1 ≤ y ∧ y ≤ T := by
  rcases h with ⟨rfl, h⟩ | ⟨t, rfl, h1, h2, h3, h4⟩ <;> omega

set_option maxRecDepth 100000 in
set_option maxHeartbeats 4000000 in
theorem refOver_any (A : Option Addr) (js : List Job) (c : Nat) (T : Nat) (w : World) (hs : Sl eJ 3 w A js) (hr : rightJ js = true) (hT : endJ js = (T : Int)) (hT2 : T ≤ 1024) :
    Calls Try.prog 22 #[.slice A js.length c] w fun e w' => (∃ a b ok, e = .returned (.tuple #[.int .i64 a, .int .i64 b, .bool ok]) ∧ FirstOver js T a b ok) ∧ w = w' := by
  have hp := right_parts hr
  have hok := Lib.hid hp.2
  have hl := hp.1
  have hge := Lib.hid (end_ge js)
  have hLD := Lib.hid (fun f t W h => refLoad_any A js c f t W h hr)
  clear hp
  go_enter Try.func22, Try.ntmps22
  go_wp2_with (go_at_call 13; refine (refEnd_any _ _ _ _ hs (by omega)).mono ?_; rintro e w2 ⟨rfl, rfl⟩; rw [hT])
  go_loopw [6] (fun i wr => ∃ k : Nat, k ≤ T ∧ i = .int .i64 k ∧ Hid (∀ f' t' : Nat, f' < k → f' < t' → t' ≤ T → ¬ overP js f' t') ∧ w = wr) (fun i _ => T - (intOf i).toNat)
  case atStart => exact ⟨0, Nat.zero_le _, rfl, fun f' t' h => by omega, rfl⟩
  case round =>
    obtain ⟨k, hk, rfl, HF, rfl⟩ := hrel
    by_cases hlt : k < T
    · go_wp2
      go_loopw [7, 8] (fun bs i wi => ∃ (m : Nat) (y : Int), m ≤ js.length ∧ i = .int .i64 m ∧ bs = .int .i64 y ∧ Hid (BestTo js T k m y) ∧ w = wi) (fun _ i _ => js.length - (intOf i).toNat)
      case atStart => exact ⟨0, -1, Nat.zero_le _, rfl, rfl, .inl ⟨rfl, fun q h d hq => by omega⟩, rfl⟩
      case round =>
        obtain ⟨m, y, hm, rfl, rfl, HY, rfl⟩ := hrel
        have hyb := best_bd HY.out
        obtain ⟨y0, y1⟩ := hyb
        by_cases hmlt : m < js.length
        · obtain ⟨b, off, rfl, c0, c1, c2⟩ := hs.job_at hmlt
          have hj := okJ_t (hok.out js[m] (List.getElem_mem hmlt))
          obtain ⟨D, hD⟩ := Int.eq_ofNat_of_zero_le (show 0 ≤ js[m].dead by omega)
          have hDT : D ≤ T := by have := hge.out js[m] (List.getElem_mem hmlt); omega
          rw [hD] at c1
          have HD := Lib.hid hD
          clear hj hD
          by_cases h1 : k < D
          · have HO : Hid (overP js k D ↔ (D : Int) - k < loadTo js k D js.length) := Iff.rfl
            have hlb := load_bd js hok.out k D js.length (Nat.le_refl _)
            have hld := Lib.hid (hLD.out k D w hs)
            generalize loadTo js k D js.length = L at *
            obtain ⟨l0, l1⟩ := hlb
            by_cases h2 : (D : Int) - k < L
            · by_cases h3 : y < 0 ∨ (D : Int) < y
              · have HN : Hid (BestTo js T k (m + 1) D) := best_new HY.out hmlt D HD.out h1 hDT (HO.out.2 h2) h3
                by_cases h4 : y < 0
                · clear h3
                  go_wp2_with (go_at_call 23; refine (hld.out).mono ?_; rintro e w3 ⟨rfl, rfl⟩)
                  go_roundw
                  case rel => exact ⟨m + 1, D, by omega, by go_num, by go_num, HN.out, trivial⟩
                  case measure => simp [intOf]; omega
                · have h5 : (D : Int) < y := by omega
                  clear h3
                  go_wp2_with (go_at_call 23; refine (hld.out).mono ?_; rintro e w3 ⟨rfl, rfl⟩)
                  go_roundw
                  case rel => exact ⟨m + 1, D, by omega, by go_num, by go_num, HN.out, trivial⟩
                  case measure => simp [intOf]; omega
              · have HN : Hid (BestTo js T k (m + 1) y) := best_keep HY.out hmlt (fun d hd _ _ => by have := HD.out; omega)
                obtain ⟨h4, h5⟩ : ¬ y < 0 ∧ ¬ (D : Int) < y := by omega
                clear h3
                go_wp2_with (go_at_call 23; refine (hld.out).mono ?_; rintro e w3 ⟨rfl, rfl⟩)
                go_roundw
                case rel => exact ⟨m + 1, y, by omega, by go_num, by go_num, HN.out, trivial⟩
                case measure => simp [intOf]; omega
            · have HN : Hid (BestTo js T k (m + 1) y) := best_keep HY.out hmlt (fun d hd _ ho => by
                have h9 := HD.out
                obtain rfl : d = D := by omega
                exact absurd (HO.out.1 ho) h2)
              go_wp2_with (go_at_call 23; refine (hld.out).mono ?_; rintro e w3 ⟨rfl, rfl⟩)
              go_roundw
              case rel => exact ⟨m + 1, y, by omega, by go_num, by go_num, HN.out, trivial⟩
              case measure => simp [intOf]; omega
          · have HN : Hid (BestTo js T k (m + 1) y) := best_keep HY.out hmlt (fun d hd hfd _ => by have := HD.out; omega)
            go_wp2
            go_roundw
            case rel => exact ⟨m + 1, y, by omega, by go_num, by go_num, HN.out, trivial⟩
            case measure => simp [intOf]; omega
        · obtain rfl : m = js.length := by omega
          have HA := Lib.hid (best_all hok.out HY.out)
          by_cases hy : 0 ≤ y
          · have HR : Hid (FirstOver js T k y true) := by
              rcases HA.out with ⟨h1, _⟩ | ⟨t, h1, h2, h3, h4, h5⟩
              · omega
              · exact .inr ⟨rfl, k, t, rfl, h1, h2, h3, h4, HF.out, h5⟩
            go_wp2
            go_ret3
            exact ⟨⟨k, y, true, rfl, HR.out⟩, rfl⟩
          · have HF2 : Hid (∀ f' t' : Nat, f' < k + 1 → f' < t' → t' ≤ T → ¬ overP js f' t') := fun f' t' h1 h2 h3 => by
              by_cases he : f' = k
              · subst he
                rcases HA.out with ⟨_, h4⟩ | ⟨t, h4, _⟩
                · exact h4 t' h2
                · omega
              · exact HF.out f' t' (by omega) h2 h3
            go_wp2
            go_roundw
            case rel => exact ⟨k + 1, by omega, by go_num, HF2.out, trivial⟩
            case measure => simp [intOf]; omega
    · obtain rfl : k = T := by omega
      go_wp2
      go_ret3
      exact ⟨⟨0, 0, false, rfl, .inl ⟨rfl, rfl, rfl, fun f t h1 h2 => HF.out f t (by omega) h1 h2⟩⟩, rfl⟩
end Go.Proofs.Ytefeekdnhiggoaa
