/-
  What a nil parser answers to each call, and with it the law on a nil parser, in its two ways: the list too long, and not.
-/
import Derived.Test.YtijjhjdcahnkkaaAwake
import Derived.Deep.WholeRow
namespace Go.Proofs.Ytijjhjdcahnkkaa.Nil
open Go.RowKit

set_option maxRecDepth 100000 in
theorem feed_nil (v : Value) (w : World) : Calls Try.prog 11 #[.pointer none, v] w fun e w' => e = .returned (.tuple #[.int .i64 0, .int .i64 1]) ∧ w = w' := by
  go_enter Try.func11, Try.ntmps11
  go_wp2
  go_ret2
  exact ⟨rfl, rfl⟩

theorem ready_nil (w : World) : Calls Try.prog 12 #[.pointer none] w fun e w' => e = .returned (.bool false) ∧ w = w' := by
  go_enter Try.func12, Try.ntmps12
  go_wp2
  go_ret
  exact ⟨rfl, rfl⟩

theorem done_nil (w : World) : Calls Try.prog 17 #[.pointer none] w fun e w' => e = .returned (.bool false) ∧ w = w' := by
  go_enter Try.func17, Try.ntmps17
  go_wp2
  go_ret
  exact ⟨rfl, rfl⟩

theorem held_nil (w : World) : Calls Try.prog 22 #[.pointer none] w fun e w' => e = .returned (.int .i64 0) ∧ w = w' := by
  go_enter Try.func22, Try.ntmps22
  go_wp2
  go_ret
  exact ⟨rfl, rfl⟩

theorem skip_nil (v : Value) (w : World) : Calls Try.prog 10 #[.pointer none, v] w fun e w' => e = .returned (.int .i64 1) ∧ w = w' := by
  go_enter Try.func10, Try.ntmps10
  go_wp2
  go_ret
  exact ⟨rfl, rfl⟩

theorem next_nil (w : World) : Calls Try.prog 13 #[.pointer none] w fun e w' => e = .returned (.tuple #[]) ∧ w = w' := by
  go_enter Try.func13, Try.ntmps13
  go_wp2
  refine bodyPost_ret (results_none rfl _ _ _) rfl ?_
  exact ⟨rfl, rfl⟩

theorem chunk_nil (w : World) : Calls Try.prog 16 #[.pointer none] w fun e w' => e = .returned (.agg #[.int .i64 0, .slice none 0 0, .slice none 0 0]) ∧ Below w.heap.size w w' := by
  go_enter Try.func16, Try.ntmps16
  go_wp2
  refine bodyPost_ret (v := .agg #[.int .i64 0, .slice none 0 0, .slice none 0 0]) (by simp [results, Try.results16, go_sem]) rfl ⟨rfl, ?_⟩
  exact (Below.refl _ _).alloc (Nat.le_refl _) _

theorem z29_size : (Try.prog.info? 29).map (·.size) = some Try.zeroCells29.size := by kernel_rfl
theorem z29_one : Try.zeroCells29.all (·.oneCell') = true := by kernel_rfl

set_option maxRecDepth 100000 in
theorem header_nil (w : World) : Calls Try.prog 21 #[.pointer none] w fun e w' => e = .returned (.tuple #[.agg Try.zeroCells29, .slice none 0 0, .slice none 0 0]) ∧ Below w.heap.size w w' := by
  have hst := run_storeCells_new (P := Try.prog) w 29 Try.zeroCells29 Try.zeroCells29 z29_size rfl z29_one
  go_enter Try.func21, Try.ntmps21
  go_wp2
  have hlv := run_loadVar_row (P := Try.prog) (w.alloc (.cells Try.zeroCells29 29)) w.heap.size 29 29 Try.zeroCells29 (0, 0) _ (heap_alloc_new w _) Try.underlying29 rfl z29_size
  refine bodyPost_ret (v := .tuple #[.agg Try.zeroCells29, .slice none 0 0, .slice none 0 0]) ?_ rfl ⟨rfl, ?_⟩
  · simp only [results, Try.results21]
    simp [Result.andThen, asAddr, hlv]
  · exact (Below.refl _ _).alloc (Nat.le_refl _) _

set_option maxRecDepth 100000 in
set_option maxHeartbeats 1000000 in
theorem same_zero (w : World) : Calls Try.prog 15 #[.agg #[.int .i64 0, .slice none 0 0, .slice none 0 0], .agg #[.int .i64 0, .slice none 0 0, .slice none 0 0]] w fun e w' => e = .returned (.bool true) ∧ Below w.heap.size w w' := by
  have hcv := fun (W : World) (l c : Nat) => run_convert_bytes_nil (P := Try.prog) W 22 5 Try.underlying22 Try.underlying5 l c 9 Try.underlying9
  go_enter Try.func15, Try.ntmps15
  go_wp2
  apply wp_loop_once
  go_wp2
  go_ret
  exact ⟨rfl, ((Below.refl _ _).alloc (Nat.le_refl _) _).alloc (by simp) _⟩

theorem great (A : Option Addr) (n c : Nat) (k : Int) (w : World) (hn : 500 < n) : Calls Try.prog 5 #[.slice A n c, .int .i64 k] w fun e w' => e = .returned (.bool true) ∧ Below w.heap.size w w' := by
  have h1 : decide ((500 : Int) < (n : Int)) = true := decide_eq_true (by omega)
  go_enter Try.func5, Try.ntmps5
  go_wp2_with (fail)
  refine (Awake.awake_calls _).mono ?_
  rintro e w1 ⟨rfl, hB⟩
  go_wp2_with (fail)
  go_ret
  exact ⟨rfl, hB⟩

set_option maxRecDepth 100000 in
set_option maxHeartbeats 1000000 in
theorem small (A : Option Addr) (n c : Nat) (k : Int) (w : World) (hn : n ≤ 500) : Calls Try.prog 5 #[.slice A n c, .int .i64 k] w fun e w' => e = .returned (.bool true) ∧ Below w.heap.size w w' := by
  have h1 : decide ((500 : Int) < (n : Int)) = false := decide_eq_false (by omega)
  go_enter Try.func5, Try.ntmps5
  go_wp2_with (fail)
  refine (feed_nil _ _).mono ?_
  rintro e w1 ⟨rfl, rfl⟩
  go_wp2_with (fail)
  refine (next_nil _).mono ?_
  rintro e w1 ⟨rfl, rfl⟩
  go_wp2_with (fail)
  refine (header_nil _).mono ?_
  rintro e w1 ⟨rfl, hB1⟩
  have hst := run_storeCells_new (P := Try.prog) w1 29 Try.zeroCells29 Try.zeroCells29 z29_size rfl z29_one
  have HB1 := Lib.hid hB1
  clear hB1
  go_wp2_with (fail)
  clear hst
  refine (chunk_nil _).mono ?_
  rintro e w2 ⟨rfl, hB2⟩
  have HB2 := Lib.hid (((HB1.out).alloc HB1.out.size (.cells Try.zeroCells29 29)).trans (hB2.mono (by have := HB1.out.size; simp; omega)))
  clear hB2
  go_wp2_with (fail)
  refine (ready_nil _).mono ?_
  rintro e w3 ⟨rfl, rfl⟩
  go_wp2_with (fail)
  refine (done_nil _).mono ?_
  rintro e w3 ⟨rfl, rfl⟩
  go_wp2_with (fail)
  refine (held_nil _).mono ?_
  rintro e w3 ⟨rfl, rfl⟩
  go_wp2_with (fail)
  refine (skip_nil _ _).mono ?_
  rintro e w3 ⟨rfl, rfl⟩
  go_wp2_with (fail)
  refine (same_zero _).mono ?_
  rintro e w3 ⟨rfl, hB3⟩
  have HB3 := Lib.hid ((HB2.out.alloc HB2.out.size (.cells #[.int .i64 0, .slice none 0 0, .slice none 0 0] 46)).trans (hB3.mono (by have := HB2.out.size; simp; omega)))
  clear hB3
  go_wp2_with (fail)
  refine (Awake.awake_calls _).mono ?_
  rintro e w4 ⟨rfl, hB4⟩
  have HB4 := Lib.hid (HB3.out.trans (hB4.mono HB3.out.size))
  clear hB4
  go_wp2_with (fail)
  go_ret
  exact ⟨rfl, HB4.out⟩
end Go.Proofs.Ytijjhjdcahnkkaa.Nil
