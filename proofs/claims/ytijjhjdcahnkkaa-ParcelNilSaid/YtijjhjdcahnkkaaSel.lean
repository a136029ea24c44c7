/-
  A select of one case with a default, at the head of a region, as a law of the walk; the channel is one that the goroutine alone has.
-/
import Derived.Conc.LoneSelect
import Derived.WalkKit
namespace Go.Proofs.Ytijjhjdcahnkkaa.Sel
open Go.RowKit Go.Conc

section
variable {P : Program} {Q : Exit → Act → World → Prop} {a : Act} {w w1 w2 : World} {o : Oper} {l : List Oper} {id : Nat} {cases : Array CommCase} {c cap s r : Nat} {buf : Array Value} {z v : Value}

theorem stepG_comm_any {b : Frame} {k : List Item} {cs : List Frame} {ops : Array Oper} {i : Nat} {rest : List Nat} {blocking : Bool} {shape : CommShape}
    (ho : ops[i]? = some o) (hw : Region.wanted o (yielded ops a.tmps) = true) (hr : (execOp a.eval o).run P w = .ok (.comm cases blocking shape) w1) :
    ∃ es, stepG P true (G (b.at a (.inRegion ops (i :: rest) :: k)) cs) w = .comm (G (b.at a (.inRegion ops (i :: rest) :: k)) cs) cases blocking shape w1 es := by
  rw [stepG_oper ho hw]
  by_cases hk : (b.kind == CallKind.early) = true
  · exact ⟨_, by simp only [stepG.apply, Frame.at, hk, Sem.runT_eq, hr, if_true, GStep.after]; rfl⟩
  · have hk' : (b.kind == CallKind.early) = false := by simpa using hk
    exact ⟨_, by simp only [stepG.apply, Frame.at, hk', Sem.runT_eq, hr, Bool.false_eq_true, if_false, GStep.after]; rfl⟩

theorem wp_region_head {a' : Act} (hs : ∀ (b : Frame) (k : List Item) (cs : List Frame), step P (lone (b.at a (.inRegion (o :: l).toArray (0 :: List.range' 1 l.length) :: k)) cs w) = .next (lone (b.at a' (.inRegion (o :: l).toArray (List.range' 1 l.length) :: k)) cs w2))
    (h : wpList P (o :: l).toArray Q l a' w2) : (Code.region id (o :: l).toArray false).wp P Q a w := by
  intro b k cs
  rw [← wpOps_eq_wpList l 1 (fun j => by simp [Nat.add_comm 1 j])] at h
  obtain ⟨e, a'', w'', q, arr⟩ := wp_ops _ a' w2 h b k cs
  refine ⟨e, a'', w'', q, .of_steps (.one step_region) (.of_steps (.one ?_) arr)⟩
  have := hs b k cs
  rw [← this]
  congr 4
  simp [List.range_eq_range', List.range'_succ]

/-- The channel is empty: the default. -/
theorem wp_select_none (hg : o.guard = none) (hr : (execOp a.eval o).run P w = .ok (.comm #[rcase c z] false .select) w1) (hc : w1.heap[c]? = some (.chan cap #[] false s r false))
    (h : wpList P (o :: l).toArray Q l (a.put o.dst (.tuple #[goInt (-1), .bool false, z])) w1) : (Code.region id (o :: l).toArray false).wp P Q a w := by
  refine wp_region_head (fun b k cs => ?_) h
  obtain ⟨es, he⟩ := stepG_comm_any (b := b) (k := k) (cs := cs) (ops := (o :: l).toArray) (i := 0) (rest := List.range' 1 l.length) (w := w) rfl (by simp [Region.wanted, hg]) hr
  rw [lone_eq_solo, step_lone_select_default he hc, Frame.finish_at]
  rfl

/-- The channel holds something: it is taken. -/
theorem wp_select_some (hg : o.guard = none) (hr : (execOp a.eval o).run P w = .ok (.comm #[rcase c z] false .select) w1) (hc : w1.heap[c]? = some (.chan cap buf false s r false)) (hb : 0 < buf.size)
    (h : wpList P (o :: l).toArray Q l (a.put o.dst (.tuple #[goInt 0, .bool true, buf.getD 0 undef])) (w1.setChan c cap (buf.extract 1 buf.size) false s (r + 1) false)) : (Code.region id (o :: l).toArray false).wp P Q a w := by
  refine wp_region_head (fun b k cs => ?_) h
  obtain ⟨es, he⟩ := stepG_comm_any (b := b) (k := k) (cs := cs) (ops := (o :: l).toArray) (i := 0) (rest := List.range' 1 l.length) (w := w) rfl (by simp [Region.wanted, hg]) hr
  rw [lone_eq_solo, step_lone_select_recv_buf he hc hb, Frame.finish_at]
  rfl

/-- The channel has room: it is sent. -/
theorem wp_select_room (hg : o.guard = none) (hr : (execOp a.eval o).run P w = .ok (.comm #[scase c v z] false .select) w1) (hc : w1.heap[c]? = some (.chan cap buf false s r false)) (hb : buf.size < cap)
    (h : wpList P (o :: l).toArray Q l (a.put o.dst (.tuple #[goInt 0, .bool false])) (w1.setChan c cap (buf.push v) false (s + 1) r false)) : (Code.region id (o :: l).toArray false).wp P Q a w := by
  refine wp_region_head (fun b k cs => ?_) h
  obtain ⟨es, he⟩ := stepG_comm_any (b := b) (k := k) (cs := cs) (ops := (o :: l).toArray) (i := 0) (rest := List.range' 1 l.length) (w := w) rfl (by simp [Region.wanted, hg]) hr
  rw [lone_eq_solo, step_lone_select_send_room he hc hb, Frame.finish_at]
  rfl

/-- The channel is full: the default. -/
theorem wp_select_full (hg : o.guard = none) (hr : (execOp a.eval o).run P w = .ok (.comm #[scase c v z] false .select) w1) (hc : w1.heap[c]? = some (.chan cap buf false s r false)) (hb : cap ≤ buf.size)
    (h : wpList P (o :: l).toArray Q l (a.put o.dst (.tuple #[goInt (-1), .bool false])) w1) : (Code.region id (o :: l).toArray false).wp P Q a w := by
  refine wp_region_head (fun b k cs => ?_) h
  obtain ⟨es, he⟩ := stepG_comm_any (b := b) (k := k) (cs := cs) (ops := (o :: l).toArray) (i := 0) (rest := List.range' 1 l.length) (w := w) rfl (by simp [Region.wanted, hg]) hr
  rw [lone_eq_solo, step_lone_select_send_full he hc hb, Frame.finish_at]
  rfl
end
#print axioms wp_select_full
end Go.Proofs.Ytijjhjdcahnkkaa.Sel
