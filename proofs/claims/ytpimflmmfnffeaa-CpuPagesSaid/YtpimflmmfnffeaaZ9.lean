/- Texts laid as one: W1, M1, W2, W3. -/
import Derived.Test.YtpimflmmfnffeaaZ6
import Derived.Test.YtpimflmmfnffeaaZ1
import Derived.Test.YtpimflmmfnffeaaZ5
import Derived.Test.YtpimflmmfnffeaaZ3
/- Walks: which instructions may be. -/
namespace Go.Proofs.Ytpimflmmfnffeaa
open Go.RowKit

/-- has instruction op the part i (A, B, C, N)? -/
def hasI (op : Int) (i : Nat) : Bool :=
  match i with
  | 0 => !(op == 0 || op == 14)
  | 1 => !(op == 0 || op == 14 || op == 16 || op == 18 || op == 1 || op == 15 || op == 17)
  | 2 => !(op == 0 || op == 14 || op == 16 || op == 18 || op == 1 || op == 15 || op == 17 || op == 12 || op == 13)
  | _ => op == 14 || op == 1 || op == 15 || op == 17 || op == 12 || op == 13
def regOk (n : Int) (had : Bool) : Bool := if had then decide (0 ≤ n ∧ n ≤ 7) else n == 0
def mostK : Int := 17592186044415
def numOk (n : Int) (had : Bool) : Bool := if had then decide (n ≤ mostK) else n == 0
def rightI (op a b c n : Int) : Bool := decide (0 ≤ op ∧ op ≤ 18) && regOk a (hasI op 0) && regOk b (hasI op 1) && regOk c (hasI op 2) && numOk n (hasI op 3)

theorem register_any (n : Int) (had : Bool) (w : World) : Calls Try.prog 42 #[.int .i64 n, .bool had] w fun e w' => e = .returned (.bool (regOk n had)) ∧ w = w' := by
  cases had
  · go_enter Try.func42, Try.ntmps42
    go_wp2
    go_ret
    exact ⟨rfl, rfl⟩
  · go_enter Try.func42, Try.ntmps42
    go_wp2
    all_goals go_ret
    all_goals refine ⟨ret_bool ?_, rfl⟩
    all_goals unfold regOk
    all_goals simp
    all_goals omega
theorem has_any (op : Int) (w : World) (h0 : 0 ≤ op) (h1 : op ≤ 18) : Calls Try.prog 41 #[.int .i64 op] w fun e w' => e = .returned (.tuple #[.bool (hasI op 0), .bool (hasI op 1), .bool (hasI op 2), .bool (hasI op 3)]) ∧ w = w' := by
  obtain ⟨n, rfl⟩ := Int.eq_ofNat_of_zero_le h0
  have hn : n ≤ 18 := by omega
  clear h0 h1
  rcases (show n = 0 ∨ n = 1 ∨ n = 2 ∨ n = 3 ∨ n = 4 ∨ n = 5 ∨ n = 6 ∨ n = 7 ∨ n = 8 ∨ n = 9 ∨ n = 10 ∨ n = 11 ∨ n = 12 ∨ n = 13 ∨ n = 14 ∨ n = 15 ∨ n = 16 ∨ n = 17 ∨ n = 18 by omega) with rfl | rfl | rfl | rfl | rfl | rfl | rfl | rfl | rfl | rfl | rfl | rfl | rfl | rfl | rfl | rfl | rfl | rfl | rfl
  all_goals
    clear hn
    go_enter Try.func41, Try.ntmps41
    go_wp2
    exact bodyPost_ret (v := .tuple #[.bool _, .bool _, .bool _, .bool _]) (by simp [results, Try.results41, go_sem]; exact ⟨rfl, rfl, rfl, rfl⟩) rfl ⟨rfl, rfl⟩

set_option maxHeartbeats 2000000 in
theorem right_inst (op a b c n : Int) (w : World) (hn : 0 ≤ n) : Calls Try.prog 34 #[.agg #[.int .i64 op, .int .i64 a, .int .i64 b, .int .i64 c, .int .u64 n]] w fun e w' => e = .returned (.bool (rightI op a b c n)) ∧ Below w.heap.size w w' := by
  by_cases h0 : 0 ≤ op ∧ op ≤ 18
  · obtain ⟨h0, h1⟩ := h0
    have hh := Lib.hid (fun W => has_any op W h0 h1)
    have hr : rightI op a b c n = (regOk a (hasI op 0) && regOk b (hasI op 1) && regOk c (hasI op 2) && numOk n (hasI op 3)) := by unfold rightI; simp [h0, h1]
    rw [hr]
    clear hr
    have e0 := Lib.hid (fun W => register_any a (hasI op 0) W)
    have e1 := Lib.hid (fun W => register_any b (hasI op 1) W)
    have e2 := Lib.hid (fun W => register_any c (hasI op 2) W)
    generalize regOk a (hasI op 0) = q0 at *
    generalize regOk b (hasI op 1) = q1 at *
    generalize regOk c (hasI op 2) = q2 at *
    generalize hasI op 0 = p0 at *
    generalize hasI op 1 = p1 at *
    generalize hasI op 2 = p2 at *
    cases p3 : hasI op 3
    · rw [p3] at hh
      clear p3
      by_cases hz : n = 0
      · subst hz
        have HN : Hid (numOk 0 false = true) := rfl
        cases q0 <;> cases q1 <;> cases q2
        all_goals
          go_enter Try.func34, Try.ntmps34
          go_wp2_with (first | (go_at_call 41; (with_reducible refine (hh.out _).mono ?_); rintro e w2 ⟨rfl, rfl⟩) | (go_at_call 42; (first | (with_reducible refine (e0.out _).mono ?_) | (with_reducible refine (e1.out _).mono ?_) | (with_reducible refine (e2.out _).mono ?_)); rintro e w2 ⟨rfl, rfl⟩))
          go_ret
          exact ⟨by rw [HN.out]; first | (simp; done) | (simp; omega), below1 _ _⟩
      · have hb : (n != 0) = true := by simp [hz]
        have HN : Hid (numOk n false = false) := by unfold Hid numOk; simp [hz]
        clear hz
        go_enter Try.func34, Try.ntmps34
        go_wp2_with (first | (go_at_call 41; (with_reducible refine (hh.out _).mono ?_); rintro e w2 ⟨rfl, rfl⟩))
        go_ret
        exact ⟨by rw [HN.out]; first | (simp; done) | (simp; omega), below1 _ _⟩
    · rw [p3] at hh
      clear p3
      by_cases hz : n ≤ 17592186044415
      · have HN : Hid (numOk n true = true) := by unfold Hid numOk mostK; simp [hz]
        cases q0 <;> cases q1 <;> cases q2
        all_goals
          go_enter Try.func34, Try.ntmps34
          go_wp2_with (first | (go_at_call 41; (with_reducible refine (hh.out _).mono ?_); rintro e w2 ⟨rfl, rfl⟩) | (go_at_call 42; (first | (with_reducible refine (e0.out _).mono ?_) | (with_reducible refine (e1.out _).mono ?_) | (with_reducible refine (e2.out _).mono ?_)); rintro e w2 ⟨rfl, rfl⟩))
          go_ret
          exact ⟨by rw [HN.out]; first | (simp; done) | (simp; omega), below1 _ _⟩
      · have HN : Hid (numOk n true = false) := by
          unfold Hid numOk mostK
          exact decide_eq_false hz
        cases q0 <;> cases q1 <;> cases q2
        all_goals
          go_enter Try.func34, Try.ntmps34
          go_wp2_with (first | (go_at_call 41; (with_reducible refine (hh.out _).mono ?_); rintro e w2 ⟨rfl, rfl⟩) | (go_at_call 42; (first | (with_reducible refine (e0.out _).mono ?_) | (with_reducible refine (e1.out _).mono ?_) | (with_reducible refine (e2.out _).mono ?_)); rintro e w2 ⟨rfl, rfl⟩))
          go_ret
          exact ⟨by rw [HN.out]; first | (simp; done) | (simp; omega), below1 _ _⟩
  · have hr : rightI op a b c n = false := by unfold rightI; simp [h0]
    rw [hr]
    clear hr
    by_cases h1 : op < 0
    · go_enter Try.func34, Try.ntmps34
      go_wp2
      go_ret
      exact ⟨rfl, below1 _ _⟩
    · have h2 : 18 < op := by omega
      clear h0
      go_enter Try.func34, Try.ntmps34
      go_wp2
      go_ret
      exact ⟨rfl, below1 _ _⟩
end Go.Proofs.Ytpimflmmfnffeaa

/- Plain: the word of an instruction, and its parts. -/
namespace Go.Proofs.Ytpimflmmfnffeaa
open Go.RowKit

def partsL : List Fl := [⟨0, 8⟩, ⟨8, 4⟩, ⟨12, 4⟩, ⟨16, 4⟩, ⟨20, 44⟩]
def wordI (op a b c n : Int) : Int := op + 256 * a + 4096 * b + 65536 * c + 1048576 * n
theorem join_parts (op a b c n : Nat) (h0 : op ≤ 255) (h1 : a ≤ 15) (h2 : b ≤ 15) (h3 : c ≤ 15) (h4 : n ≤ 17592186044415) :
    joinV partsL [(op : Int), (a : Int), (b : Int), (c : Int), (n : Int)] = .tuple #[.int .u64 (wordI op a b c n), .int .i64 0] := by
  have hj : joinB partsL [(op : Int), (a : Int), (b : Int), (c : Int), (n : Int)] partsL.length = true := by
    simp [partsL, joinB, badAt, bad, rightF, rightB, mostI, apartB]
    refine ⟨⟨⟨⟨?_, ?_⟩, ?_⟩, ?_⟩, ?_⟩
    all_goals exact decide_eq_false (by omega)
  unfold joinV
  rw [hj]
  simp only [if_true]
  have : ((wordN partsL [(op : Int), (a : Int), (b : Int), (c : Int), (n : Int)] partsL.length : Nat) : Int) = wordI op a b c n := by
    simp [partsL, wordN, Fld.putN, wordI]
    omega
  rw [this]
theorem get_parts (x : Nat) (hx : x < 18446744073709551616) : partsL.map (getF · (x : Int)) = [((x % 256 : Nat) : Int), ((x / 256 % 16 : Nat) : Int), ((x / 4096 % 16 : Nat) : Int), ((x / 65536 % 16 : Nat) : Int), ((x / 1048576 : Nat) : Int)] := by
  have e : x / 1048576 % 17592186044416 = x / 1048576 := by omega
  simp [partsL, getF, rightF, rightB, Fld.getN]
  omega
theorem word_parts (x : Nat) : wordI ((x % 256 : Nat) : Int) ((x / 256 % 16 : Nat) : Int) ((x / 4096 % 16 : Nat) : Int) ((x / 65536 % 16 : Nat) : Int) ((x / 1048576 : Nat) : Int) = (x : Int) := by
  unfold wordI
  omega
theorem reg_ok {n : Int} {had : Bool} (h : regOk n had = true) : 0 ≤ n ∧ n ≤ 7 := by
  unfold regOk at h
  cases had
  · simp at h; omega
  · simp at h; omega
theorem num_ok {n : Int} {had : Bool} (h : numOk n had = true) : n ≤ 17592186044415 := by
  unfold numOk mostK at h
  cases had
  · simp at h; omega
  · simp at h; omega
theorem rightI_t {op a b c n : Int} (h : rightI op a b c n = true) : (0 ≤ op ∧ op ≤ 18) ∧ (0 ≤ a ∧ a ≤ 7) ∧ (0 ≤ b ∧ b ≤ 7) ∧ (0 ≤ c ∧ c ≤ 7) ∧ n ≤ 17592186044415 := by
  unfold rightI at h
  simp only [Bool.and_eq_true, decide_eq_true_eq] at h
  obtain ⟨⟨⟨⟨h0, h1⟩, h2⟩, h3⟩, h4⟩ := h
  exact ⟨h0, reg_ok h1, reg_ok h2, reg_ok h3, num_ok h4⟩
end Go.Proofs.Ytpimflmmfnffeaa

/- Walks: the fields of an instruction's word; Word. -/
namespace Go.Proofs.Ytpimflmmfnffeaa
open Go.RowKit

/-- a new block reads as a list -/
theorem Sl.lit {α : Type} {enc : α → List Value} {sz : Nat} (he : EncOk enc sz) (w : World) (xs : List α) (cs : Array Value) (hcs : cs.toList = xs.flatMap enc) (t : TypeId) : Sl enc sz (w.alloc (.cells cs t)) (some ⟨w.heap.size, 0, none⟩) xs := fun _ => by
  refine ⟨w.heap.size, 0, rfl, fun i x j u hx hu => ?_⟩
  have hj : j < sz := by rw [← he.len x]; exact (List.getElem?_eq_some_iff.1 hu).1
  have h1 := cell_of_row (w.alloc (.cells cs t)) w.heap.size (i * sz + j) cs t (0, 0) (heap_alloc_new w _)
  rw [Nat.zero_add, h1, ← Array.getElem?_toList, hcs, flat_at he.len xs i x j hx hj, hu]
def partsA : Array Value := #[.int .i64 0, .int .i64 8, .int .i64 8, .int .i64 4, .int .i64 12, .int .i64 4, .int .i64 16, .int .i64 4, .int .i64 20, .int .i64 44]
theorem parts_any (w : World) : Calls Try.prog 36 #[] w fun e w' => e = .returned (.slice (some ⟨w.heap.size, 0, none⟩) 5 5) ∧ w' = w.alloc (.cells partsA 108) := by
  go_enter Try.func36, Try.ntmps36
  go_wp2
  go_ret
  exact ⟨rfl, rfl⟩
/-- the slices that Word makes: the fields (slot 7), the numbers (slot 22) -/
def WordS (L : List Int) (d : Nat) (v : Value) (w : World) : Prop := ∃ G, v = .slice (some ⟨G, 0, none⟩) 5 5 ∧ if d = 7 then Sl eF 2 w (some ⟨G, 0, none⟩) partsL else Sl eU 1 w (some ⟨G, 0, none⟩) L
theorem WordS.keep {L : List Int} {d : Nat} {v : Value} {w w' : World} (h : WordS L d v w) (hz : Keeps w w') : WordS L d v w' := by
  obtain ⟨G, e, h⟩ := h
  refine ⟨G, e, ?_⟩
  split at h
  · rename_i hd; rw [if_pos hd]; exact h.keep hz
  · rename_i hd; rw [if_neg hd]; exact h.keep hz
theorem wordS_parts (L : List Int) (w : World) : WordS L 7 (.slice (some ⟨w.heap.size, 0, none⟩) 5 5) (w.alloc (.cells partsA 108)) := ⟨_, rfl, by rw [if_pos rfl]; exact Sl.lit eF_ok w partsL _ rfl _⟩
theorem wordS_nums (L : List Int) (w : World) (cs : Array Value) (hcs : cs.toList = L.flatMap eU) (hl : L.length = 5) : WordS L 22 (.slice (some ⟨w.heap.size, 0, none⟩) 5 5) (w.alloc (.cells cs 33)) := ⟨_, rfl, by rw [if_neg (by decide)]; exact Sl.lit eU_ok w L _ hcs _⟩
theorem wordS_7 {L : List Int} {v : Value} {w : World} (h : WordS L 7 v w) : ∃ G, v = .slice (some ⟨G, 0, none⟩) 5 5 ∧ Sl eF 2 w (some ⟨G, 0, none⟩) partsL := by
  obtain ⟨G, e, h⟩ := h
  rw [if_pos rfl] at h
  exact ⟨G, e, h⟩
theorem wordS_22 {L : List Int} {v : Value} {w : World} (h : WordS L 22 v w) : ∃ G, v = .slice (some ⟨G, 0, none⟩) 5 5 ∧ Sl eU 1 w (some ⟨G, 0, none⟩) L := by
  obtain ⟨G, e, h⟩ := h
  rw [if_neg (by decide)] at h
  exact ⟨G, e, h⟩
theorem word_no (op a b c n : Int) (w : World) (hn : 0 ≤ n) (h : rightI op a b c n = false) : Calls Try.prog 25 #[.agg #[.int .i64 op, .int .i64 a, .int .i64 b, .int .i64 c, .int .u64 n]] w fun e w' => e = .returned (.tuple #[.int .u64 0, .int .i64 1]) ∧ Below w.heap.size w w' := by
  have hR := Lib.hid (fun W => right_inst op a b c n W hn)
  rw [h] at hR
  go_enter Try.func25, Try.ntmps25
  go_wp2_with (go_at_call 34; (with_reducible refine (hR.out _).mono ?_); rintro e w2 ⟨rfl, hb⟩)
  go_ret2
  exact ⟨rfl, bstep (below1 _ _) (Nat.le_refl _) hb⟩
set_option maxRecDepth 100000 in
set_option maxHeartbeats 4000000 in
theorem word_yes (op a b c n : Nat) (w : World) (h : rightI op a b c n = true) : Calls Try.prog 25 #[.agg #[.int .i64 op, .int .i64 a, .int .i64 b, .int .i64 c, .int .u64 n]] w fun e w' => e = .returned (.tuple #[.int .u64 (wordI op a b c n), .int .i64 0]) ∧ Below w.heap.size w w' := by
  have hR := Lib.hid (fun W => right_inst op a b c n W (by omega))
  rw [h] at hR
  have hq := rightI_t h
  have HJ : Hid (∀ (W : World) (G1 G2 : Nat), Sl eF 2 W (some ⟨G1, 0, none⟩) partsL → Sl eU 1 W (some ⟨G2, 0, none⟩) [(op : Int), (a : Int), (b : Int), (c : Int), (n : Int)] → Calls Try.prog 35 #[.slice (some ⟨G1, 0, none⟩) 5 5, .slice (some ⟨G2, 0, none⟩) 5 5] W fun e w' => e = .returned (.tuple #[.int .u64 (wordI op a b c n), .int .i64 0]) ∧ Below W.heap.size W w') := fun W G1 G2 h1 h2 => by
    rw [← join_parts op a b c n (by omega) (by omega) (by omega) (by omega) (by omega)]
    exact join_any _ _ partsL [(op : Int), (a : Int), (b : Int), (c : Int), (n : Int)] 5 5 _ h1 h2 rfl (by decide) (by simp)
  have u0 : IntKind.u64.wrap (op : Int) = op := by rw [IntKind.wrap_u64]; omega
  have u1 : IntKind.u64.wrap (a : Int) = a := by rw [IntKind.wrap_u64]; omega
  have u2 : IntKind.u64.wrap (b : Int) = b := by rw [IntKind.wrap_u64]; omega
  have u3 : IntKind.u64.wrap (c : Int) = c := by rw [IntKind.wrap_u64]; omega
  have hB := below1 w (Obj.cells #[.int .i64 op, .int .i64 a, .int .i64 b, .int .i64 c, .int .u64 n] 59)
  have bk := Blk.new w 59 #[.int .i64 op, .int .i64 a, .int .i64 b, .int .i64 c, .int .u64 n]
  clear h hq
  go_enter Try.func25, Try.ntmps25
  go_wp2_with (go_at_call 34; (with_reducible refine (hR.out _).mono ?_); rintro e w2 ⟨rfl, hb⟩)
  replace bk := bk.keep hb
  replace hB := bstep hB (by simp) hb
  clear hb
  have c0 := bk.cell 0 (.int .i64 op) rfl
  have c1 := bk.cell 1 (.int .i64 a) rfl
  have c2 := bk.cell 2 (.int .i64 b) rfl
  have c3 := bk.cell 3 (.int .i64 c) rfl
  have c4 := bk.cell 4 (.int .u64 n) rfl
  obtain ⟨bx, hbx⟩ : ∃ k, k = w.heap.size := ⟨_, rfl⟩
  rw [← hbx] at bk hB c0 c1 c2 c3 c4 ⊢
  replace hbx : Hid (bx = w.heap.size) := hbx
  have aft_c0 := cw_cell c0
  have aft_c1 := cw_cell c1
  have aft_c2 := cw_cell c2
  have aft_c3 := cw_cell c3
  have aft_c4 := cw_cell c4
  refine wp_region_grand (Keeps _) (fun _ => Keeps) [7, 22] (WordS [(op : Int), (a : Int), (b : Int), (c : Int), (n : Int)]) [] [] 26 (keeps_drew _) (fun _ _ _ h hz => keeps_trans h hz) (fun _ d hd _ v w w' _ h hz => WordS.keep h hz) (by kernel_rfl) (by kernel_rfl) (by rfl) ?_
  repeat (first | (refine gr_row (by rfl) ?_; (try simp only [Act.put, List.setIfInBounds_toArray, List.set_cons_zero, List.set_cons_succ])) | (refine gr_free (by rfl) (by rfl) (by rfl) (by rfl) (by rfl) (fun K hK => ?_); go_big_quiet_op; refine hK _ ?_; clear hK K) | (refine gr_q (by rfl) (by rfl) (by rfl) (by rfl) (by rfl) (by rfl) (fun K hK => ?_); go_big_quiet_op; refine hK _ ?_; clear hK K) | (refine gr_no (by rfl) (by rfl) (by rfl) ?_; (try simp only [Act.put, List.setIfInBounds_toArray, List.set_cons_zero, List.set_cons_succ])) | (refine gr_call (by rfl) (by rfl) (by rfl) (by rfl) (by rfl) (fun K hK => ?_); go_simp; (try simp only [RUp, true_and]); first | (apply Exists.intro; refine ⟨fun n => rfl, hK _ ?_⟩; clear hK K; (try simp only [Act.put, List.setIfInBounds_toArray, List.set_cons_zero, List.set_cons_succ]))) | (refine gr_n 7 [] (by rfl) (by rfl) (by rfl) (by rfl) (fun γ w hC hT => ?_) ?_; ((try simp only [putG]); go_simp; exact gup_f ((parts_any w).mono fun e w'' hw => ⟨_, hw.1, by rw [hw.2]; exact below1 w _, by rw [hw.2]; exact wordS_parts _ w⟩)); (try simp only [Act.put, List.setIfInBounds_toArray, List.set_cons_zero, List.set_cons_succ])) | (refine gr_n 22 [] (by rfl) (by rfl) (by rfl) (by rfl) (fun γ w hC hT => ?_) ?_; (simp only [putG]; go_simp; exact gup_v (below1 w _) (wordS_nums _ w _ rfl rfl)); (try simp only [Act.put, List.setIfInBounds_toArray, List.set_cons_zero, List.set_cons_succ])) | (refine gr_u (.tuple #[.int .u64 (wordI op a b c n), .int .i64 0]) [7, 22] (by rfl) (by rfl) (by rfl) (by simp) (by rfl) (fun γ w hC hT => ?_) ?_; (obtain ⟨G1, e1, h1⟩ := wordS_7 (hT 7 (by simp)); obtain ⟨G2, e2, h2⟩ := wordS_22 (hT 22 (by simp)); simp only [putG, Act.put, List.setIfInBounds_toArray, List.set_cons_zero, List.set_cons_succ, e1, e2]; go_simp; exact gup_f ((HJ.out _ G1 G2 h1 h2).mono fun e w'' hw => ⟨_, hw.1, hw.2, rfl⟩)); (try simp only [Act.put, List.setIfInBounds_toArray, List.set_cons_zero, List.set_cons_succ])))
  refine gr_end ?_
  intro γ w5 hb5 hT
  clear aft_c0 aft_c1 aft_c2 aft_c3 aft_c4
  simp only [putG, Act.put, List.setIfInBounds_toArray, List.set_cons_zero, List.set_cons_succ]
  refine only_end ?_
  go_wp2_with fail
  go_ret2
  have hbx := hbx.out
  exact ⟨rfl, hbx ▸ bstep hB (by have := bk.lt; omega) hb5⟩
end Go.Proofs.Ytpimflmmfnffeaa

/- Walks: the instruction of a word. -/
namespace Go.Proofs.Ytpimflmmfnffeaa
open Go.RowKit

theorem blk_set5 {w : World} {g : Nat} {t : TypeId} {a b c d e : Value} (h : Blk w g t #[a, b, c, d, e]) (v0 v1 v2 v3 v4 : Value) :
    Blk (((((w.setCell ⟨g, 0, none⟩ (v0)).setCell ⟨g, 1, none⟩ (v1)).setCell ⟨g, 2, none⟩ (v2)).setCell ⟨g, 3, none⟩ (v3)).setCell ⟨g, 4, none⟩ (v4)) g t #[v0, v1, v2, v3, v4] := by
  have := ((((h.set_ 0 v0).set_ 1 v1).set_ 2 v2).set_ 3 v3).set_ 4 v4
  simpa using this
theorem only_set5 (w : World) (g : Nat) (v0 v1 v2 v3 v4 : Value) : w.grownBy (((((w.setCell ⟨g, 0, none⟩ (v0)).setCell ⟨g, 1, none⟩ (v1)).setCell ⟨g, 2, none⟩ (v2)).setCell ⟨g, 3, none⟩ (v3)).setCell ⟨g, 4, none⟩ (v4)) (some g) :=
  only_set (only_set (only_set (only_set (only_set (only_refl w g) 0 v0) 1 v1) 2 v2) 3 v3) 4 v4

set_option maxRecDepth 100000 in
set_option maxHeartbeats 4000000 in
theorem decode_num (x n0 n1 n2 n3 n4 : Nat) (w : World) (hx : x < 18446744073709551616) (hP : partsL.map (getF · (x : Int)) = [(n0 : Int), (n1 : Int), (n2 : Int), (n3 : Int), (n4 : Int)]) (hs : n0 < 1000000000 ∧ n1 < 1000000000 ∧ n2 < 1000000000 ∧ n3 < 1000000000) (q : Bool) (hq : rightI n0 n1 n2 n3 n4 = q) :
    Calls Try.prog 30 #[.int .u64 x] w fun e w' => e = .returned (if q then .tuple #[.agg #[.int .i64 n0, .int .i64 n1, .int .i64 n2, .int .i64 n3, .int .u64 n4], .int .i64 0] else .tuple #[.agg #[.int .i64 0, .int .i64 0, .int .i64 0, .int .i64 0, .int .u64 0], .int .i64 21]) ∧ Below w.heap.size w w' := by
  have u0 : IntKind.i64.wrap (n0 : Int) = n0 := by rw [IntKind.wrap_i64]; omega
  have u1 : IntKind.i64.wrap (n1 : Int) = n1 := by rw [IntKind.wrap_i64]; omega
  have u2 : IntKind.i64.wrap (n2 : Int) = n2 := by rw [IntKind.wrap_i64]; omega
  have u3 : IntKind.i64.wrap (n3 : Int) = n3 := by rw [IntKind.wrap_i64]; omega
  have HR := Lib.hid (fun W => right_inst n0 n1 n2 n3 n4 W (by omega))
  rw [hq] at HR
  have HS : Hid (∀ (W : World) (A : Option Addr), Sl eF 2 W A partsL → Calls Try.prog 40 #[.slice A 5 5, .int .u64 (x : Int)] W (RetSl eU 1 33 [(n0 : Int), (n1 : Int), (n2 : Int), (n3 : Int), (n4 : Int)] W)) := fun W A h => by rw [← hP]; exact split_any A partsL x 5 W h (by decide) (by omega) (by omega)
  clear hP
  have hB := below1 w (Obj.cells #[.int .i64 0, .int .i64 0, .int .i64 0, .int .i64 0, .int .u64 0] 59)
  have bk := Blk.new w 59 #[.int .i64 0, .int .i64 0, .int .i64 0, .int .i64 0, .int .u64 0]
  go_enter Try.func30, Try.ntmps30
  go_wp2_with fail
  refine (parts_any _).mono ?_
  rintro e w1 ⟨rfl, rfl⟩
  have hsl := Sl.lit eF_ok (w.alloc (Obj.cells #[.int .i64 0, .int .i64 0, .int .i64 0, .int .i64 0, .int .u64 0] 59)) partsL partsA rfl 108
  generalize w.alloc (Obj.cells #[.int .i64 0, .int .i64 0, .int .i64 0, .int .i64 0, .int .u64 0] 59) = wa at *
  replace hB := hB.alloc hB.size (Obj.cells partsA 108)
  replace bk := bk.alloc (Obj.cells partsA 108)
  go_wp2_with fail
  refine (HS.out _ _ hsl).mono ?_
  rintro e w2 ⟨A, k, rfl, own, hb⟩
  replace bk := bk.keep hb
  replace hB := bstep hB (by simp) hb
  clear hb hsl
  rcases own.shape with ⟨_, hnil, _⟩ | ⟨g, rfl⟩
  · cases hnil
  have hsl := own.sl eU_ok
  have hlg := own.lt g rfl
  have c0 := hsl.u_c (i := 0) (by simp)
  have c1 := hsl.u_c (i := 1) (by simp)
  have c2 := hsl.u_c (i := 2) (by simp)
  have c3 := hsl.u_c (i := 3) (by simp)
  have c4 := hsl.u_c (i := 4) (by simp)
  simp only [List.getElem_cons_zero, List.getElem_cons_succ, Nat.zero_add] at c0 c1 c2 c3 c4
  clear hsl own
  go_wp2_with fail
  have aft_c0 := Aft.cell c0
  have aft_c1 := Aft.cell c1
  have aft_c2 := Aft.cell c2
  have aft_c3 := Aft.cell c3
  have aft_c4 := Aft.cell c4
  refine wp_region_soft [5] (fun _ => ⟨59, fun g => .pointer (some ⟨g, 0, none⟩), #[.int .i64 0, .int .i64 0, .int .i64 0, .int .i64 0, .int .u64 0], #[.int .i64 n0, .int .i64 n1, .int .i64 n2, .int .i64 n3, .int .u64 n4]⟩) 34 (by kernel_rfl) (by kernel_rfl) (by rfl) ?_
  repeat (first | (refine sh_q (by rfl) (by rfl) (by rfl) (fun K hK => ?_); go_big_quiet_op; refine hK _ ?_; clear hK K) | (refine sh_skip (by rfl) (by rfl) ?_; (try simp only [Act.put, List.setIfInBounds_toArray, List.set_cons_zero, List.set_cons_succ])) | (refine sh_call (by rfl) (by rfl) (by rfl) (fun K hK => ?_); go_simp; (try simp only [CUp, true_and]); first | (apply Exists.intro; refine ⟨fun n => rfl, hK _ ?_⟩; clear hK K; (try simp only [Act.put, List.setIfInBounds_toArray, List.set_cons_zero, List.set_cons_succ]))) | (refine sh_m 5 (by rfl) (fun n => by go_simp) ?_; (try simp only [Act.put, List.setIfInBounds_toArray, List.set_cons_zero, List.set_cons_succ])) | (refine sh_s 5 (by rfl) (fun g w hb => ⟨(((((w.setCell ⟨g, 0, none⟩ (.int .i64 n0)).setCell ⟨g, 1, none⟩ (.int .i64 n1)).setCell ⟨g, 2, none⟩ (.int .i64 n2)).setCell ⟨g, 3, none⟩ (.int .i64 n3)).setCell ⟨g, 4, none⟩ (.int .u64 n4)), by (have b0 := hb.cell 0 (.int .i64 0) rfl; have f0 := hb.frozen 0; have b1 := hb.cell 1 (.int .i64 0) rfl; have f1 := hb.frozen 1; have b2 := hb.cell 2 (.int .i64 0) rfl; have f2 := hb.frozen 2; have b3 := hb.cell 3 (.int .i64 0) rfl; have f3 := hb.frozen 3; have b4 := hb.cell 4 (.int .u64 0) rfl; have f4 := hb.frozen 4; go_simp), by (have hb2 := (((((hb.set_ 0 (.int .i64 n0)).set_ 1 (.int .i64 n1)).set_ 2 (.int .i64 n2)).set_ 3 (.int .i64 n3)).set_ 4 (.int .u64 n4)); simpa using hb2), only_set (only_set (only_set (only_set (only_set (only_refl w g) 0 (.int .i64 n0)) 1 (.int .i64 n1)) 2 (.int .i64 n2)) 3 (.int .i64 n3)) 4 (.int .u64 n4)⟩) ?_; (try simp only [Act.put, List.setIfInBounds_toArray, List.set_cons_zero, List.set_cons_succ])))
  refine sh_end ?_
  intro γ w3 hb3 hmem hinj
  have hm5 := hmem 5 (by simp)
  clear hmem hinj aft_c0 aft_c1 aft_c2 aft_c3 aft_c4
  simp only [putM, Act.put, List.setIfInBounds_toArray, List.set_cons_zero, List.set_cons_succ]
  generalize γ 5 = g5 at *
  clear γ

  obtain ⟨hl5, bk5⟩ := hm5
  replace bk := bk.keep hb3
  replace hB := bstep hB (by simp) hb3
  have y0 := bk5.cell 0 (.int .i64 n0) rfl
  have y1 := bk5.cell 1 (.int .i64 n1) rfl
  have y2 := bk5.cell 2 (.int .i64 n2) rfl
  have y3 := bk5.cell 3 (.int .i64 n3) rfl
  have y4 := bk5.cell 4 (.int .u64 n4) rfl
  clear hb3
  go_wp2_with fail
  refine (HR.out _).mono ?_
  rintro e w4 ⟨rfl, hb⟩
  replace bk := bk.keep hb
  replace bk5 := bk5.keep hb
  replace hB := bstep hB (by simp) hb
  clear hb y0 y1 y2 y3 y4
  have hlt := bk.lt
  have y0 := bk5.cell 0 (.int .i64 n0) rfl
  have y1 := bk5.cell 1 (.int .i64 n1) rfl
  have y2 := bk5.cell 2 (.int .i64 n2) rfl
  have y3 := bk5.cell 3 (.int .i64 n3) rfl
  have y4 := bk5.cell 4 (.int .u64 n4) rfl
  have z0 := bk.cell 0 (.int .i64 0) rfl
  have z1 := bk.cell 1 (.int .i64 0) rfl
  have z2 := bk.cell 2 (.int .i64 0) rfl
  have z3 := bk.cell 3 (.int .i64 0) rfl
  have z4 := bk.cell 4 (.int .u64 0) rfl
  have f0 := bk.frozen 0
  have f1 := bk.frozen 1
  have f2 := bk.frozen 2
  have f3 := bk.frozen 3
  have f4 := bk.frozen 4
  cases q
  · go_wp2
    have hX := hB.grown (only_set5 w4 w.heap.size (.int .i64 0) (.int .i64 0) (.int .i64 0) (.int .i64 0) (.int .u64 0)) hB.size (fun k hk => by injection hk with hk; omega)
    exact bodyPost_ret (v := .tuple #[.agg #[.int .i64 0, .int .i64 0, .int .i64 0, .int .i64 0, .int .u64 0], .int .i64 21]) (by simp [results, Try.results30, go_sem, *]) rfl ⟨rfl, hX⟩
  · go_wp2
    have hX := hB.grown (only_set5 w4 w.heap.size (.int .i64 n0) (.int .i64 n1) (.int .i64 n2) (.int .i64 n3) (.int .u64 n4)) hB.size (fun k hk => by injection hk with hk; omega)
    exact bodyPost_ret (v := .tuple #[.agg #[.int .i64 n0, .int .i64 n1, .int .i64 n2, .int .i64 n3, .int .u64 n4], .int .i64 0]) (by simp [results, Try.results30, go_sem, *]) rfl ⟨rfl, hX⟩
end Go.Proofs.Ytpimflmmfnffeaa
