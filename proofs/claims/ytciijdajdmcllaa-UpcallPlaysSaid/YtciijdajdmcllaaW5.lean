/- Walks: Of, and the chapter's example. -/
import Derived.Test.YtciijdajdmcllaaW4
namespace Go.Proofs.Ytciijdajdmcllaa
open Go.RowKit Go.Lib

def RetCl (L : List Up) (w : World) (e : Ending) (w' : World) : Prop := ∃ (O : Option Addr) (d : Nat), e = .returned (.slice O L.length d) ∧ Sl eP 3 w' O L ∧ Below w.heap.size w w'
set_option maxHeartbeats 1000000 in
theorem clone_any (A : Option Addr) (L : List Up) (c : Nat) (base : Nat) (w : World) (ho : Own eP 3 w base 38 A c L) (hl : L.length ≤ 1000) :
    Calls Try.prog 21 #[.slice A L.length c] w (RetCl L w) := by
  rcases ho.shape with ⟨rfl, rfl, rfl⟩ | ⟨q, rfl⟩
  · simp only [List.length_nil]
    have hq := fun w => Lib.run_eql_slice_nil (P := Try.prog) w 25 38 none 0 0 0 0 Try.underlying25
    go_enter Try.func21, Try.ntmps21
    go_wp2
    go_ret
    exact ⟨none, 0, rfl, Sl.nil _ _, Below.refl _ _⟩
  · have hs := ho.sl eP_ok
    have hq : q < w.heap.size := (ho.lt q rfl).2
    clear ho
    have hqq := fun w => Lib.run_eql_slice_nil (P := Try.prog) w 25 38 (some ⟨q, 0, none⟩) L.length c 0 0 Try.underlying25
    go_enter Try.func21, Try.ntmps21
    go_wp2_with (at_builtin; refine wpList_append_sl _ rfl _ _ rfl elP eP_ok (Own.empty w 38 (base := w.heap.size) (Nat.le_refl _)) (n := 0) rfl rfl (m := L.length) rfl (ys := L) rfl (hs.alloc _) (by simp only [maxLen]; omega) (by omega) (by simp) _ rfl L.length (by simp) ?_; intro A1 e1 w1 own1 hg1 at1; simp only [List.nil_append] at own1)
    go_ret
    exact ⟨A1, e1, rfl, own1.sl eP_ok, (below1 _ _).grown hg1 (by simp) (fun k hk => by simp [blk] at hk; omega)⟩

def RetOf (L : List Up) (lost : Int) (w : World) (e : Ending) (w' : World) : Prop := ∃ (O : Option Addr) (d : Nat), e = .returned (.tuple #[.slice O L.length d, .int .i64 lost]) ∧ Sl eP 3 w' O L ∧ Below w.heap.size w w'
set_option maxRecDepth 100000 in
set_option maxHeartbeats 2000000 in
theorem ofs_row (g i : Nat) (hi : i < 8) (R : List RwS) (w : World) (hR : Rws w g R) (hiR : i < R.length) (hl8 : R[i].L.length ≤ 8) :
    Calls Try.prog 14 #[.pointer (some ⟨g, 0, none⟩), .int .i64 i] w (RetOf R[i].L R[i].lost w) := by
  have H := Lib.hid (fun W => of_yes g i hi W)
  have c0 := (hR.cells hiR).1
  have c1 := (hR.cells hiR).2
  have HC := Lib.hid (clone_any _ _ _ _ w.drew (hR.own i hiR).drew (by omega))
  generalize R[i] = r at *
  clear hR hiR hi
  go_enter Try.func14, Try.ntmps14
  go_wp2_with fail
  refine (H.out _).mono ?_
  rintro e w2 ⟨rfl, rfl⟩
  go_wp2_with fail
  go_region_with ((go_at_call 21; refine HC.out.mono ?_; rintro e w4 ⟨O, d, rfl, hsl, hb⟩; (have c14 := kcell (W := w.drew) hb c1)))
  all_goals
    go_wp2_with fail
    go_ret2
    exact ⟨O, d, rfl, hsl, bstep (Below.drew (Below.refl _ _)) (Nat.le_refl _) hb⟩

theorem put_rs (g i : Nat) (hi : i < 8) (u : Up) (hu : okK u.kind = true) (C : List Ct) (w : World) (h : Rs w g C) (hiC : i < C.length) (hl8 : C[i].L.length ≤ 8) (h0 : 0 ≤ C[i].lost) (h1 : C[i].lost ≤ 100000) :
    Calls Try.prog 6 #[.pointer (some ⟨g, 0, none⟩), .int .i64 i, .agg #[.int .i64 u.kind, .int .i64 u.a, .int .u64 u.b]] w (RetPut g (C.set i (putC C[i] u)) (putE C[i] u) w) := by
  obtain ⟨R, hR, rfl⟩ := h
  have hiR : i < R.length := by simpa using hiC
  rw [List.getElem_map] at *
  exact put_row g i hi u hu R w hR hiR R[i].A R[i].c R[i].L R[i].lost rfl hl8 h0 h1
theorem ofs_rs (g i : Nat) (hi : i < 8) (C : List Ct) (w : World) (h : Rs w g C) (hiC : i < C.length) (hl8 : C[i].L.length ≤ 8) :
    Calls Try.prog 14 #[.pointer (some ⟨g, 0, none⟩), .int .i64 i] w (RetOf C[i].L C[i].lost w) := by
  obtain ⟨R, hR, rfl⟩ := h
  have hiR : i < R.length := by simpa using hiC
  rw [List.getElem_map] at *
  exact ofs_row g i hi R w hR hiR hl8
def newC : List Ct := List.replicate 8 ⟨[], 0⟩
theorem Rs.new (w : World) {g : Nat} (hg : w.heap.size = g) : Rs (w.alloc (Obj.cells #[.slice none 0 0, .int .i64 0, .slice none 0 0, .int .i64 0, .slice none 0 0, .int .i64 0, .slice none 0 0, .int .i64 0, .slice none 0 0, .int .i64 0, .slice none 0 0, .int .i64 0, .slice none 0 0, .int .i64 0, .slice none 0 0, .int .i64 0] 30)) g newC := by
  refine ⟨List.replicate 8 ⟨none, 0, [], 0⟩, ⟨rfl, Blk.new' w _ _ hg, fun i hi => ?_, fun i j hi hj _ => ?_⟩, rfl⟩
  · rw [List.getElem_replicate]; exact Own.nil _ _ _
  · rw [List.getElem_replicate]; exact .inl rfl
theorem fit_new : Fit 0 newC := ⟨rfl, fun r hr => by rw [List.eq_of_mem_replicate hr]; exact ⟨by simp, by simp, by simp⟩⟩

set_option maxRecDepth 100000 in
set_option maxHeartbeats 2000000 in
theorem awake_any (w : World) : Calls Try.prog 5 #[] w fun e w' => e = .returned (.bool true) ∧ Below w.heap.size w w' := by
  have p1 := Lib.hid (fun W (hW : Rs W w.heap.size newC) => put_rs w.heap.size 1 (by omega) ⟨3, 0, 0⟩ (by decide) newC W hW (by decide) (by decide) (by decide) (by decide))
  have p2 := Lib.hid (fun W (hW : Rs W w.heap.size (newC.set 1 ⟨[⟨3, 0, 0⟩], 0⟩)) => put_rs w.heap.size 1 (by omega) ⟨2, 2, 0⟩ (by decide) _ W hW (by decide) (by decide) (by decide) (by decide))
  have p3 := Lib.hid (fun W (hW : Rs W w.heap.size (newC.set 1 ⟨[⟨3, 0, 0⟩, ⟨2, 2, 0⟩], 0⟩)) => put_rs w.heap.size 1 (by omega) ⟨3, 0, 5⟩ (by decide) _ W hW (by decide) (by decide) (by decide) (by decide))
  have hE : putE ⟨[⟨3, 0, 0⟩, ⟨2, 2, 0⟩], 0⟩ ⟨3, 0, 5⟩ = 0 := rfl
  have p4 := Lib.hid (fun W (hW : Rs W w.heap.size (newC.set 1 ⟨[⟨3, 0, 5⟩, ⟨2, 2, 0⟩], 0⟩)) => ofs_rs w.heap.size 1 (by omega) _ W hW (by decide) (by decide))
  go_enter Try.func5, Try.ntmps5
  go_wp2_with fail
  refine (p1.out _ (Rs.new w rfl)).mono ?_
  rintro e w1 ⟨rfl, h1, b1⟩
  have hB : Below w.heap.size w w1 := (below1 _ _).trans b1
  clear b1
  go_wp2_with fail
  refine (p2.out _ h1).mono ?_
  rintro e w2 ⟨rfl, h2, b2⟩
  replace hB := hB.trans b2
  clear b2 h1
  go_wp2_with fail
  refine (p3.out _ h2).mono ?_
  rintro e w3 ⟨rfl, h3, b3⟩
  replace hB := hB.trans b3
  clear b3 h2
  go_wp2_with fail
  refine (p4.out _ h3).mono ?_
  rintro e w4 ⟨O, d, rfl, hs, b4⟩
  replace hB := bstep hB (Nat.le_refl _) b4
  obtain ⟨b, off, rfl, y0, y1, y2⟩ := Sl.up_at (xs := [⟨3, 0, 5⟩, ⟨2, 2, 0⟩]) (i := 0) hs (by simp)
  have y2' : w4.cell? ⟨b, off + 2, none⟩ = some (.int .u64 5) := by simpa [Nat.add_assoc] using y2
  go_wp2_with fail
  go_ret
  exact ⟨rfl, hB⟩
end Go.Proofs.Ytciijdajdmcllaa
