/- Walk: the statement BoxNobody. -/
import Derived.Test.YtldpplfkimdaaaaW5
namespace Go.Proofs.Ytldpplfkimdaaaa
open Go.RowKit Go.Conc

theorem NoB.none_ (w : World) : NoB w none := .inl rfl
theorem NoB.new' (w : World) {g : Nat} (h : w.heap.size = g) : NoB (w.alloc (Obj.cells #[.chan none, .int .i64 0, .bool false] 70)) (some ⟨g, 0, none⟩) := .inr ⟨_, rfl, Blk.new' w _ _ h⟩
theorem NoB.new (w : World) : NoB (w.alloc (Obj.cells #[.chan none, .int .i64 0, .bool false] 70)) (some ⟨w.heap.size, 0, none⟩) := .inr ⟨_, rfl, Blk.new w _ _⟩

set_option maxRecDepth 100000 in
set_option maxHeartbeats 1000000 in
theorem nobody_any (port u : Int) (w : World) : Calls Try.prog 6 #[.int .i64 port, .int .u64 u] w fun e w' => e = .returned (.bool true) ∧ Below w.heap.size w w' := by
  go_enter Try.func6, Try.ntmps6
  go_wp2_with fail
  refine (awake_any _).mono ?_
  rintro e w1 ⟨rfl, hB⟩
  go_wp2_with fail
  refine (new_yes 3 _ (by omega) (by omega)).mono ?_
  rintro e w2 ⟨rfl, hx, hb⟩
  have hg := hB.size
  replace hB := bstep hB (Nat.le_refl _) hb
  clear hb
  generalize w1.heap.size = g at *
  go_wp2_with fail
  refine (put_open ⟨[], 3, false⟩ ⟨0, u⟩ g _ hx rfl (by simp)).mono ?_
  rintro e w3 ⟨rfl, hx', hc⟩
  replace hB := below_ch hB hg hc
  replace hx := hx'
  clear hx' hc
  go_wp2_with fail
  refine (len_no none _ (NoB.none_ _)).mono ?_
  rintro e w4 ⟨rfl, rfl⟩
  go_wp2_with fail
  refine (len_no _ _ (NoB.new w3)).mono ?_
  rintro e w5 ⟨rfl, rfl⟩
  replace hx := hx.alloc (Obj.cells #[.chan none, .int .i64 0, .bool false] 70)
  replace hB := hB.alloc hB.size (Obj.cells #[.chan none, .int .i64 0, .bool false] 70)
  generalize w3.alloc (Obj.cells #[.chan none, .int .i64 0, .bool false] 70) = w5 at *
  go_wp2_with fail
  refine (take_nobody none _ (NoB.none_ _)).mono ?_
  rintro e w6 ⟨rfl, hb⟩
  replace hx := (hx.keep hb).alloc (Obj.cells #[.int .i64 0, .int .u64 0] 32)
  replace hB := bstep hB (Nat.le_refl _) hb
  replace hB := hB.alloc hB.size (Obj.cells #[.int .i64 0, .int .u64 0] 32)
  clear hb
  go_wp2_with fail
  have zw7 : (w6.alloc (Obj.cells #[.int .i64 0, .int .u64 0] 32)).heap.size = w6.heap.size + 1 := by simp
  generalize w6.alloc (Obj.cells #[.int .i64 0, .int .u64 0] 32) = w7 at *
  refine (take_nobody _ _ (NoB.new' w7 zw7)).mono ?_
  rintro e w8 ⟨rfl, hb⟩
  replace hx := ((hx.alloc (Obj.cells #[.chan none, .int .i64 0, .bool false] 70)).keep hb).alloc (Obj.cells #[.int .i64 0, .int .u64 0] 32)
  replace hB := bstep (hB.alloc hB.size (Obj.cells #[.chan none, .int .i64 0, .bool false] 70)) (Nat.le_refl _) hb
  replace hB := hB.alloc hB.size (Obj.cells #[.int .i64 0, .int .u64 0] 32)
  clear hb
  go_wp2_with fail
  have zw9 : (w8.alloc (Obj.cells #[.int .i64 0, .int .u64 0] 32)).heap.size = w8.heap.size + 1 := by simp
  generalize w8.alloc (Obj.cells #[.int .i64 0, .int .u64 0] 32) = w9 at *
  refine (htake_nil _).mono ?_
  rintro e w10 ⟨rfl, hb⟩
  replace hx := (hx.keep hb).alloc (Obj.cells #[.int .i64 0, .int .u64 0] 32)
  replace hB := bstep hB (Nat.le_refl _) hb
  replace hB := hB.alloc hB.size (Obj.cells #[.int .i64 0, .int .u64 0] 32)
  clear hb
  go_wp2_with fail
  have zw11 : (w10.alloc (Obj.cells #[.int .i64 0, .int .u64 0] 32)).heap.size = w10.heap.size + 1 := by simp
  generalize w10.alloc (Obj.cells #[.int .i64 0, .int .u64 0] 32) = w11 at *
  refine (htake_empty _ _ (Blk.new' w11 72 #[.slice none 0 0] zw11)).mono ?_
  rintro e w12 ⟨rfl, hb⟩
  replace hx := ((hx.alloc (Obj.cells #[.slice none 0 0] 72)).keep hb).alloc (Obj.cells #[.int .i64 0, .int .u64 0] 32)
  replace hB := bstep (hB.alloc hB.size (Obj.cells #[.slice none 0 0] 72)) (Nat.le_refl _) hb
  replace hB := hB.alloc hB.size (Obj.cells #[.int .i64 0, .int .u64 0] 32)
  clear hb
  go_wp2_with fail
  have zw13 : (w12.alloc (Obj.cells #[.int .i64 0, .int .u64 0] 32)).heap.size = w12.heap.size + 1 := by simp
  generalize w12.alloc (Obj.cells #[.int .i64 0, .int .u64 0] 32) = w13 at *
  refine (hdrain_nil _).mono ?_
  rintro e w14 ⟨rfl, hb⟩
  replace hx := hx.keep hb
  replace hB := bstep hB (Nat.le_refl _) hb
  clear hb
  go_wp2_with fail
  refine (pass_from_no none _ _ (NoB.none_ _)).mono ?_
  rintro e w15 ⟨rfl, rfl⟩
  go_wp2_with fail
  refine (pass_to_no _ g none _ hx (NoB.none_ _)).mono ?_
  rintro e w15 ⟨rfl, rfl⟩
  go_wp2_with fail
  replace hx := hx.alloc (Obj.cells #[.chan none, .int .i64 0, .bool false] 70)
  replace hB := hB.alloc hB.size (Obj.cells #[.chan none, .int .i64 0, .bool false] 70)
  refine (pass_to_no _ g _ _ hx (NoB.new w14)).mono ?_
  rintro e w15 ⟨rfl, rfl⟩
  go_wp2_with fail
  refine (pass_self _ g _ hx).mono ?_
  rintro e w15 ⟨rfl, rfl⟩
  clear hx
  generalize w14.alloc (Obj.cells #[.chan none, .int .i64 0, .bool false] 70) = w15 at *
  go_wp2_with fail
  refine (put_nobody none 0 0 _ (NoB.none_ _)).mono ?_
  rintro e w16 ⟨rfl, hb⟩
  replace hB := bstep hB (Nat.le_refl _) hb
  clear hb
  go_wp2_with fail
  refine (put_nobody _ 0 0 _ (NoB.new w16)).mono ?_
  rintro e w17 ⟨rfl, hb⟩
  replace hB := bstep (hB.alloc hB.size (Obj.cells #[.chan none, .int .i64 0, .bool false] 70)) (Nat.le_refl _) hb
  clear hb
  go_wp2_with fail
  refine (shut_nobody none _ (NoB.none_ _)).mono ?_
  rintro e w18 ⟨rfl, rfl⟩
  go_wp2_with fail
  refine (hput_nil port 0 0 _).mono ?_
  rintro e w18 ⟨rfl, hb⟩
  replace hB := bstep hB (Nat.le_refl _) hb
  clear hb
  go_wp2_with fail
  refine (hput_empty port 0 0 _ _ (Blk.new w18 72 #[.slice none 0 0])).mono ?_
  rintro e w19 ⟨rfl, hb⟩
  replace hB := bstep (hB.alloc hB.size (Obj.cells #[.slice none 0 0] 72)) (Nat.le_refl _) hb
  clear hb
  go_wp2_with fail
  refine (hbox_nil port _).mono ?_
  rintro e w20 ⟨rfl, rfl⟩
  go_wp2_with fail
  refine (awake_any _).mono ?_
  rintro e w21 ⟨rfl, hb⟩
  replace hB := bstep hB (Nat.le_refl _) hb
  clear hb
  go_wp2_with fail
  go_ret
  exact ⟨rfl, hB⟩
end Go.Proofs.Ytldpplfkimdaaaa
