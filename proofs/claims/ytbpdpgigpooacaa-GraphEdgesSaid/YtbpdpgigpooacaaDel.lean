/-
  slices.DeleteFunc(r, func(k int) bool { return k == i }) at this program, of a row of ints of one's own.
-/
import Derived.Test.YtbpdpgigpooacaaLayD
import Derived.Lib.SliceRun
import Derived.Lib.SlKeysI
import Derived.Test.YtbpdpgigpooacaaPDx0
namespace Go.Proofs.Ytbpdpgigpooacaa.PD
open Go.RowKit Go.Shelf Go.Sort Go.Lib Go.Proofs.YtbpdpgigpooacaaW.PrintWords

theorem Del.gives (i x : Int) (B : Nat) (W : World) (hc : W.cell? ⟨B, 0, none⟩ = some (.int .i64 i)) :
    FnGives Try.prog 25 #[.pointer (some ⟨B, 0, none⟩)] #[.int .i64 x] (.bool (x == i)) W := by
  show Calls Try.prog 25 #[.int .i64 x, .pointer (some ⟨B, 0, none⟩)] W _
  go_enter Try.func25, Try.ntmps25
  go_wp2
  all_goals (go_ret; exact ⟨rfl, 0, rfl⟩)

theorem Del.pred (i : Int) (B : Nat) (w : World) (hB : B < w.heap.size) (hcell : w.cell? ⟨B, 0, none⟩ = some (.int .i64 i)) :
    PredAt Try.prog 25 #[.pointer (some ⟨B, 0, none⟩)] (Value.int .i64) (fun x => x == i) w :=
  fun W x hb => Del.gives i x B W ((hb.cell (p := ⟨B, 0, none⟩) hB).trans hcell)

theorem Del.over (i : Int) (B blk off size : Nat) (w : World) (hB : B < w.heap.size) (hne : B ≠ blk) (hcell : w.cell? ⟨B, 0, none⟩ = some (.int .i64 i)) :
    PredOver Try.prog 25 #[.pointer (some ⟨B, 0, none⟩)] (Value.int .i64) (fun x => x == i) blk off size w :=
  fun n os dk x _ => Del.gives i x B _ (by
    unfold sortWorld
    rw [cell?_grow _ _ _ (by show B < (putRow _ _ _ _ _).heap.size; rw [size_putRow]; exact hB), cell?_putRow_other _ _ blk off _ _ (Or.inl hne)]
    exact hcell)

theorem Del.index_nil (f : Value) (w : World) : Calls Try.prog 43 #[.slice none 0 0, f] w fun e w' => e = .returned (.int .i64 (-1)) ∧ w' = w := by
  go_enter Try.func43, Try.ntmps43
  go_wp2
  apply wp_loop_once
  go_wp2
  go_ret
  exact ⟨rfl, rfl⟩

theorem Del.nil (f : Value) (w : World) : Calls Try.prog 24 #[.slice none 0 0, f] w fun e w' => e = .returned (.slice none 0 0) ∧ w' = w := by
  go_enter Try.func24, Try.ntmps24
  go_wp2_with (go_at_call 43; refine (Del.index_nil _ _).mono ?_; rintro e w1 ⟨rfl, rfl⟩)
  go_ret
  exact ⟨rfl, rfl⟩

set_option maxHeartbeats 1000000 in
/-- The row without i; its block alone has been written. -/
theorem Del.calls (i : Int) (B base : Nat) (v : Value) (l : List Int) (w : World) (h : Kd.R (Kd.int .i64) 3 w base (fun _ => True) v l) (hB : B < w.heap.size) (hne : some B ≠ v.ownBlock) (hcell : w.cell? ⟨B, 0, none⟩ = some (.int .i64 i)) :
    Calls Try.prog 24 #[v, .func (.func 25) #[] #[.pointer (some ⟨B, 0, none⟩)]] w fun e w' => ∃ v', e = .returned v' ∧ Kd.R (Kd.int .i64) 3 w' base (fun _ => True) v' (l.filter (fun x => !(x == i))) ∧ v'.ownBlock = v.ownBlock ∧ w.grownBy w' v.ownBlock := by
  have ho := Kd.own_of_R h
  rcases ho.2 with ⟨rfl, hz⟩ | ⟨g, cap, cur, rfl, hbase, hgb, r1, r2, r3, r4⟩
  · have hl : l = [] := List.eq_nil_of_length_eq_zero hz
    subst hl
    refine (Del.nil _ _).mono ?_
    rintro e w' ⟨rfl, rfl⟩
    exact ⟨_, rfl, h, rfl, ⟨rfl, rfl, rfl, Nat.le_refl _, fun _ _ _ => rfl⟩⟩
  · have hBg : B ≠ g := fun e => hne (by rw [e]; rfl)
    have r4' : cur.toList.take l.length = l.map encZ := by
      have := r4
      rw [Nat.mul_one] at this
      exact this
    have hH : Holds (Value.int .i64) w g 0 l.toArray := holds_of_block_i hgb r4'
    have hsz : l.length ≤ 9223372036854775807 := by simp [maxLen] at r2; omega
    have eg : ∀ args w, (callFunc 25 args).run Try.prog w = .ok (.enter 25 args) w := enters_of Try.func25 (by kernel_rfl) rfl
    have hcon := AnyE.slices_DeleteFunc Try.delA (Value.int .i64) (fun _ => rfl) (fun x => x == i) 25 #[.pointer (some ⟨B, 0, none⟩)] eg 0 Try.zeroValue3 g 0 cap l.toArray w
      (Del.pred i B w hB hcell) (Del.over i B g 0 _ w hB hBg hcell) hH hsz r1
    change Calls Try.prog 24 _ _ _ at hcon
    refine hcon.mono ?_
    rintro e w' ⟨rfl, q, rfl⟩
    have hle : (l.filter (fun x => !(x == i))).length ≤ l.length := List.length_filter_le _ _
    have hl2 : ((l.filter (fun x => !(x == i))) ++ List.replicate (l.length - (l.filter (fun x => !(x == i))).length) (0 : Int)).length = l.length := by
      rw [List.length_append, List.length_replicate]; omega
    have hrow := ownsRow_sorted_i (os := #[]) (n := q) (ss := l) hl2 hbase hgb r1 r2 r3
    rw [grow_empty] at hrow
    have hrow2 := own_take hrow hle
    have hgr := grownBy_sorted_i (w := w) (g := g) (n := q) (os := #[]) ((l.filter (fun x => !(x == i))) ++ List.replicate (l.length - (l.filter (fun x => !(x == i))).length) (0 : Int)).toArray
    rw [grow_empty] at hgr
    refine ⟨_, rfl, ?_, rfl, hgr⟩
    have e2 : (((l.filter (fun x => !(x == i))) ++ List.replicate (l.length - (l.filter (fun x => !(x == i))).length) (0 : Int)).map encZ).take ((l.filter (fun x => !(x == i))).length * 1) = encs (Value.int .i64) (l.filter (fun x => !(x == i))) := by
      rw [Nat.mul_one, List.map_append, List.take_append_of_le_length (by simp), List.take_of_length_le (by simp)]
      rfl
    rw [e2] at hrow2
    exact Kd.R_of_own (h1 := fun _ => rfl) hrow2 (fun _ _ => trivial)
end Go.Proofs.Ytbpdpgigpooacaa.PD
