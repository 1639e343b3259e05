/- A select of one case with a default, in one goroutine, inside a walk: a body in parts, one of which begins with the select. -/
import Derived.Test.YtldpplfkimdaaaaBlk
import Derived.Conc.LoneSelect
import Derived.Conc.LoneSelectN
namespace Go.Proofs.Ytldpplfkimdaaaa
open Go.RowKit Go.Conc

/-- a walk in the frame of an ordinary call -/
def wpN (P : Program) (c : Code) (Q : Exit → Act → World → Prop) (a : Act) (w : World) : Prop :=
  ∀ (b : Frame) (k : List Item) (cs : List Frame), b.kind = .normal → ∃ e a' w', Q e a' w' ∧ Arrives P (lone (b.at a (.code c :: k)) cs w) b k cs e a' w'

section
variable {P : Program} {Q : Exit → Act → World → Prop} {a : Act} {w : World}

theorem calls_of_wpN {f : FuncId} {fn : Func} {c : Code} {args : Array Value} {R : Ending → World → Prop} (hf : P.funcs[f]? = some fn) (hb : fn.body = some c)
    (h : wpN P c (bodyPost P fn R) { tmps := args ++ Array.replicate (fn.ntmps - args.size) undef, defers := [] } w) : Calls P f args w R := by
  intro cs
  let b : Frame := { (default : Frame) with fn := f, kind := .normal }
  have henter : Frame.enter P f args .normal = b.at { tmps := args ++ Array.replicate (fn.ntmps - args.size) undef, defers := [] } [.code c] := by
    simp [Frame.enter, Frame.at, hf, hb, b]
  obtain ⟨e, a', w', hq, harr⟩ := h b [] cs rfl
  rw [← henter] at harr
  cases e with
  | normal =>
    obtain ⟨hd, v, hr, hR⟩ := hq
    exact ⟨.returned v, w', _, hR, Steps.trans harr (.one step_end), rfl, rfl, hd, rfl, fn, hf, hr⟩
  | ret =>
    obtain ⟨hd, v, hr, hR⟩ := hq
    obtain ⟨todo, hs⟩ := harr
    exact ⟨.returned v, w', _, hR, hs, rfl, rfl, hd, rfl, fn, hf, hr⟩
  | panic chain =>
    obtain ⟨hd, hR⟩ := hq
    obtain ⟨todo, hs⟩ := harr
    exact ⟨.panicked chain, w', _, hR, hs, rfl, rfl, hd, fn, hf⟩
  | exit id => exact hq.elim
  | goto l => exact hq.elim
  | outgrown => exact ⟨.outgrown, w', b, hq, harr.resolve_left (by simp [b]), rfl, trivial⟩

theorem wpN_of_wp {c : Code} (h : c.wp P Q a w) : wpN P c Q a w := fun b k cs _ => h b k cs
theorem wpN_seqN {x y : Code} (h : wpN P x (Exit.then (wpN P y Q) Q) a w) : wpN P (Code.seq x y) Q a w := by
  intro b k cs hk
  obtain ⟨e, a₁, w₁, hq, harr⟩ := h b (.code y :: k) cs hk
  cases e with
  | normal =>
    obtain ⟨e₂, a₂, w₂, hq₂, harr₂⟩ := hq b k cs hk
    exact ⟨e₂, a₂, w₂, hq₂, .of_steps (.head step_seq harr) harr₂⟩
  | exit id => exact ⟨_, a₁, w₁, hq, .of_steps (.one step_seq) (.pass (x := .code y) rfl (fun _ _ => .inl (by simp)) harr)⟩
  | goto l => exact ⟨_, a₁, w₁, hq, .of_steps (.one step_seq) (.pass (x := .code y) rfl (fun _ _ => .inl (by simp)) harr)⟩
  | ret => exact ⟨_, a₁, w₁, hq, .of_steps (.one step_seq) (.pass (x := .code y) rfl (fun _ _ => .inl (by simp)) harr)⟩
  | panic chain => exact ⟨_, a₁, w₁, hq, .of_steps (.one step_seq) (.pass (x := .code y) rfl (fun _ _ => .inl (by simp)) harr)⟩
  | outgrown => exact ⟨_, a₁, w₁, hq, .of_steps (.one step_seq) (.pass (x := .code y) rfl (fun _ _ => .inl (by simp)) harr)⟩
/-- the first part by the ordinary walk -/
theorem wpN_seq {x y : Code} (h : ∀ K : Act → World → Prop, (∀ a w, wpN P y Q a w → K a w) → x.wp P (Exit.then K Q) a w) : wpN P (Code.seq x y) Q a w :=
  wpN_seqN (wpN_of_wp (h _ fun _ _ h => h))
/-- the second part by the ordinary walk -/
theorem wpN_seq' {x y : Code} (h : wpN P x (Exit.then (y.wp P Q) Q) a w) : wpN P (Code.seq x y) Q a w := by
  refine wpN_seqN fun b k cs hk => ?_
  obtain ⟨e, a₁, w₁, hq, harr⟩ := h b k cs hk
  refine ⟨e, a₁, w₁, ?_, harr⟩
  cases e with
  | normal => exact wpN_of_wp hq
  | _ => exact hq

/-- a region whose first operation is a step of the machine's -/
theorem wpN_first {id : Nat} {o : Oper} {rest : List Oper} {v : Value} {w' : World}
    (hstep : ∀ (b : Frame) (k : List Item) (cs : List Frame), b.kind ≠ .early → step P (lone (b.at a (.inRegion (o :: rest).toArray (0 :: List.range' 1 rest.length) :: k)) cs w) = .next (lone ((b.at a (.inRegion (o :: rest).toArray (0 :: List.range' 1 rest.length) :: k)).finish v) cs w'))
    (h : wpList P (o :: rest).toArray Q rest (a.put o.dst v) w') : wpN P (.region id (o :: rest).toArray false) Q a w := by
  intro b k cs hk
  rw [← wpOps_eq_wpList (ops := (o :: rest).toArray) rest 1 (fun j => by simp [Nat.add_comm 1 j])] at h
  obtain ⟨e, a', w'', hq, harr⟩ := wp_ops _ _ _ h b k cs
  refine ⟨e, a', w'', hq, .of_steps (.head (step_region (P := P) (ops := (o :: rest).toArray)) ?_) harr⟩
  have h1 := hstep b k cs (by rw [hk]; simp)
  rw [Frame.finish_at] at h1
  have hr : List.range (o :: rest).toArray.size = 0 :: List.range' 1 rest.length := by
    rw [List.range_eq_range']; simp [List.range'_succ]
  rw [hr]
  exact .one (by simpa using h1)

variable {id : Nat} {o : Oper} {rest : List Oper} {c cap s r : Nat} {buf : Array Value} {z v : Value} {closed : Bool}
/-- a send with room -/
theorem sel_send_room (hg : o.guard = none) (hr : (execOp a.eval o).run P w = .ok (.comm #[scase c v z] false .select) w) (hc : w.heap[c]? = some (.chan cap buf false s r false)) (hroom : buf.size < cap)
    (h : wpList P (o :: rest).toArray Q rest (a.put o.dst (.tuple #[goInt 0, .bool false])) (w.setChan c cap (buf.push v) false (s + 1) r false)) : wpN P (.region id (o :: rest).toArray false) Q a w :=
  wpN_first (fun b k cs hk => step_lone_select_send_room (stepG_comm (o := o) (by simp) (by simp [Region.wanted, hg]) hk hr) hc hroom) h
/-- a send without room: the default -/
theorem sel_send_full (hg : o.guard = none) (hr : (execOp a.eval o).run P w = .ok (.comm #[scase c v z] false .select) w) (hc : w.heap[c]? = some (.chan cap buf false s r false)) (hfull : cap ≤ buf.size)
    (h : wpList P (o :: rest).toArray Q rest (a.put o.dst (.tuple #[goInt (-1), .bool false])) w) : wpN P (.region id (o :: rest).toArray false) Q a w :=
  wpN_first (fun b k cs hk => step_lone_select_send_full (stepG_comm (o := o) (by simp) (by simp [Region.wanted, hg]) hk hr) hc hfull) h
/-- a receive from what waits -/
theorem sel_recv_buf (hg : o.guard = none) (hr : (execOp a.eval o).run P w = .ok (.comm #[rcase c z] false .select) w) (hc : w.heap[c]? = some (.chan cap buf closed s r false)) (hsome : 0 < buf.size)
    (h : wpList P (o :: rest).toArray Q rest (a.put o.dst (.tuple #[goInt 0, .bool true, buf.getD 0 undef])) (w.setChan c cap (buf.extract 1 buf.size) closed s (r + 1) false)) : wpN P (.region id (o :: rest).toArray false) Q a w :=
  wpN_first (fun b k cs hk => step_lone_select_recv_buf (stepG_comm (o := o) (by simp) (by simp [Region.wanted, hg]) hk hr) hc hsome) h
/-- a receive from a channel that is closed and empty -/
theorem sel_recv_shut (hg : o.guard = none) (hr : (execOp a.eval o).run P w = .ok (.comm #[rcase c z] false .select) w) (hc : w.heap[c]? = some (.chan cap #[] true s r false))
    (h : wpList P (o :: rest).toArray Q rest (a.put o.dst (.tuple #[goInt 0, .bool false, z])) w) : wpN P (.region id (o :: rest).toArray false) Q a w :=
  wpN_first (fun b k cs hk => step_lone_select_recv_shut (stepG_comm (o := o) (by simp) (by simp [Region.wanted, hg]) hk hr) hc) h
/-- a receive from a channel that is open and empty: the default -/
theorem sel_recv_none (hg : o.guard = none) (hr : (execOp a.eval o).run P w = .ok (.comm #[rcase c z] false .select) w) (hc : w.heap[c]? = some (.chan cap #[] false s r false))
    (h : wpList P (o :: rest).toArray Q rest (a.put o.dst (.tuple #[goInt (-1), .bool false, z])) w) : wpN P (.region id (o :: rest).toArray false) Q a w :=
  wpN_first (fun b k cs hk => step_lone_select_default (stepG_comm (o := o) (by simp) (by simp [Region.wanted, hg]) hk hr) hc) h
end
end Go.Proofs.Ytldpplfkimdaaaa
