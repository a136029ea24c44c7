/-
  The document's example as the program answers it: a new parser that is fed four bytes which are no mark tells so; the function that asks it returns true, and nothing that was there before is turned.
-/
import Derived.Test.YtijjhjdcahnkkaaProg
import Derived.Test.YtijjhjdcahnkkaaSel
import Derived.Conc.SmallLaws
import Derived.WalkKit
import Derived.WalkSpells
import Derived.WalkLawsBesides
import Derived.Deep.QuietTactic
import Derived.BigQuiet
import Derived.KernelRfl
import Derived.Outline
import Derived.Deep.CutBlock
import Derived.Deep.DeepCutAuto
import Derived.Deep.DeepFit
import Derived.Deep.DeepMust
import Derived.Lib.Hide
import Derived.Lib.SlBytesConst
import Derived.Lib.SmallJoins
import Derived.Deep.RegionLaw
import Derived.Lib.BufferMore
import Derived.Laws.EntriesVeiled
namespace Go.Proofs.Ytijjhjdcahnkkaa.Awake
open Go.RowKit Go.Conc Go.Proofs.Ytijjhjdcahnkkaa.Sel

theorem info5 : (Try.prog.info? 5).map (fun i => (i.zero, i.size, i.bytes)) = some (some (.int .u8 0), 1, 1) := by kernel_rfl

/-- A new list with room. -/
theorem mkroom (n : Nat) (hn : n ≤ 100000000) (W : World) : (Instr.makeSlice 22 (.int .i64 0) (.int .i64 (n : Int))).run Try.prog W = .ok (.slice (some ⟨W.heap.size, 0, none⟩) 0 n) (W.alloc (.cells (madeCells #[.int .u8 0] n) 5)) := by
  obtain ⟨i, hi, hz⟩ := Option.map_eq_some_iff.1 info5
  simp only [Prod.mk.injEq] at hz
  obtain ⟨h0, h1, h2⟩ := hz
  have := run_make (P := Try.prog) W 22 5 i (.int .u8 0) Try.underlying22 hi h0 .i64 .i64 0 (n : Int) (Int.le_refl _) (by omega) (by rw [h2]; omega) (by omega)
  rw [this, h1]
  simp [Value.cells]

set_option maxRecDepth 100000 in
theorem take_empty (p c s r n : Nat) (w : World) (hf : w.cell? ⟨p, 115, none⟩ = some (.chan (some c))) (hc : w.heap[c]? = some (.chan 1 #[] false s r false)) (hn : n ≤ 100000000) :
    Calls Try.prog 35 #[.pointer (some ⟨p, 0, none⟩), .int .i64 n] w fun e w' => e = .returned (.slice (some ⟨w.heap.size, 0, none⟩) 0 n) ∧ w' = w.alloc (.cells (madeCells #[.int .u8 0] n) 5) := by
  have hmk := mkroom n hn
  have HC := Lib.hid hc
  clear hc
  go_enter Try.func35, Try.ntmps35
  go_upto_region 2 with (fail)
  refine wp_select_none (c := c) (z := .slice none 0 0) rfl ?hr HC.out ?_
  case hr => simp [go_sem, execOp, rcase, Act.eval]
  go_wp2
  go_ret
  exact ⟨rfl, rfl⟩

set_option maxRecDepth 100000 in
theorem give_room (p c s r : Nat) (v : Value) (w : World) (hf : w.cell? ⟨p, 115, none⟩ = some (.chan (some c))) (hc : w.heap[c]? = some (.chan 1 #[] false s r false)) :
    Calls Try.prog 37 #[.pointer (some ⟨p, 0, none⟩), v] w fun e w' => e = .returned (.tuple #[]) ∧ w' = w.setChan c 1 #[v] false (s + 1) r false := by
  have HC := Lib.hid hc
  clear hc
  go_enter Try.func37, Try.ntmps37
  go_upto_region 2 with (fail)
  refine wp_select_room (c := c) (v := v) (z := .slice none 0 0) rfl ?hr HC.out (by simp) ?_
  case hr => simp [go_sem, execOp, scase, Act.eval]
  go_wp2
  go_end0
  exact ⟨rfl, rfl⟩

set_option maxRecDepth 100000 in
theorem marked_bad (v : Value) (b cap : Nat) (xs : List Int) (w : World) (hcell : ∀ i, i < xs.length → w.cell? ⟨b, 0 + i, none⟩ = some (.int .u8 (xs.getD i 0))) (hne : ((strOfNums xs).toList == [68, 82, 71, 72]) = false) :
    Calls Try.prog 33 #[v, .slice (some ⟨b, 0, none⟩) xs.length cap] w fun e w' => e = .returned (.tuple #[.nilFunc, .int .i64 0, .int .i64 3]) ∧ w = w' := by
  have hcv := run_convert_bytes_arg (P := Try.prog) w 22 5 Try.underlying22 Try.underlying5 b 0 xs.length cap xs rfl hcell 9 Try.underlying9
  clear hcell
  go_enter Try.func33, Try.ntmps33
  go_wp2
  all_goals go_ret3
  all_goals exact ⟨rfl, rfl⟩

theorem below_drewN {B : Nat} {w W : World} (h : Below B w W) (n : Nat) : Below B w (W.drewN n) := ⟨h.os, h.tape, h.output, h.size, h.block⟩
theorem cell?_setChan {w : World} {a : Addr} {c cap : Nat} {buf : Array Value} {cl : Bool} {s r : Nat} {tm : Bool} (h : a.block ≠ c) : (w.setChan c cap buf cl s r tm).cell? a = w.cell? a := by
  simp only [World.cell?, World.setChan]
  rw [Array.getElem?_setIfInBounds_ne (Ne.symm h)]
theorem frozen?_setChan {w : World} {a : Addr} {c cap : Nat} {buf : Array Value} {cl : Bool} {s r : Nat} {tm : Bool} (h : a.block ≠ c) : (w.setChan c cap buf cl s r tm).frozen? a = w.frozen? a := by
  simp only [World.frozen?, World.setChan]
  rw [Array.getElem?_setIfInBounds_ne (Ne.symm h)]

attribute [local go_sem] cell?_setChan frozen?_setChan size_madeCells World.setCells

set_option maxRecDepth 100000 in
theorem does_bad (p c s r b cap : Nat) (k : Bool) (xs : List Int) (w : World) (hbuf : w.cell? ⟨p, 111, none⟩ = some (.slice (some ⟨b, 0, none⟩) xs.length cap)) (hpart : w.cell? ⟨p, 113, none⟩ = some (.func (.func 33) #[] #[]))
    (hkeep : w.cell? ⟨p, 116, none⟩ = some (.bool k)) (v1 v2 : Value) (hneed : w.cell? ⟨p, 112, none⟩ = some v1) (he : w.cell? ⟨p, 117, none⟩ = some v2)
    (hfz : ∀ i, w.frozen? ⟨p, i, none⟩ = false) (hpb : p ≠ b) (hpc : p ≠ c)
    (hfree : w.cell? ⟨p, 115, none⟩ = some (.chan (some c))) (hc : w.heap[c]? = some (.chan 1 #[] false s r false))
    (hcell : ∀ i, i < xs.length → w.cell? ⟨b, 0 + i, none⟩ = some (.int .u8 (xs.getD i 0))) (hne : ((strOfNums xs).toList == [68, 82, 71, 72]) = false) :
    Calls Try.prog 36 #[.pointer (some ⟨p, 0, none⟩)] w fun e w' => e = .returned (.tuple #[]) ∧ w'.cell? ⟨p, 117, none⟩ = some (.int .i64 3) ∧ (∀ B, B ≤ p → B ≤ c → Below B w w') := by
  have HC := Lib.hid hc
  have HCL := Lib.hid hcell
  clear hc hcell
  have hf1 := hfz 111
  have hf2 := hfz 116
  have hf3 := hfz 113
  have hf4 := hfz 112
  have hf5 := hfz 117
  clear hfz
  have hcp : ¬ c = p := fun h => hpc h.symm
  have hbp : ¬ b = p := fun h => hpb h.symm
  go_enter Try.func36, Try.ntmps36
  go_wp2_with (fail)
  refine (marked_bad _ b cap xs _ ?_ hne).mono ?_
  · intro i hi
    rw [World.cell?_setCell_other, World.cell?_setCell_other]
    · exact HCL.out i hi
    · simp
    · simp
  rintro e w1 ⟨rfl, rfl⟩
  go_wp2_with (fail)
  refine (give_room p c s r _ _ ?_ ?_).mono ?_
  · go_simp
  · simp only [World.setCell, Array.getElem?_modify]
    rw [if_neg hpc, if_neg hpc]
    exact HC.out
  rintro e w1 ⟨rfl, rfl⟩
  go_wp2_with (fail)
  go_end0
  refine ⟨rfl, ?_, ?_⟩
  · go_simp
  · intro B h1 h2
    exact ((((below_setChan (((Below.refl _ _).setCell h1 _).setCell h1 _) h2 _ _ _ _ _ _).setCell h1 _).setCell h1 _).setCell h1 _)

set_option maxRecDepth 100000 in
set_option maxHeartbeats 1000000 in
theorem feed_bad (p c s r b : Nat) (x0 x1 x2 x3 : Int) (w : World) (hne : ((strOfNums [x0, x1, x2, x3]).toList == [68, 82, 71, 72]) = false)
    (hb0 : w.cell? ⟨b, 0, none⟩ = some (.int .u8 x0)) (hb1 : w.cell? ⟨b, 1, none⟩ = some (.int .u8 x1)) (hb2 : w.cell? ⟨b, 2, none⟩ = some (.int .u8 x2)) (hb3 : w.cell? ⟨b, 3, none⟩ = some (.int .u8 x3))
    (hwhole : w.cell? ⟨p, 110, none⟩ = some (.bool false)) (hbuf : w.cell? ⟨p, 111, none⟩ = some (.slice none 0 0)) (hneed : w.cell? ⟨p, 112, none⟩ = some (.int .i64 4)) (hpart : w.cell? ⟨p, 113, none⟩ = some (.func (.func 33) #[] #[]))
    (hkeep : w.cell? ⟨p, 116, none⟩ = some (.bool false)) (he : w.cell? ⟨p, 117, none⟩ = some (.int .i64 0)) (hbegan : w.cell? ⟨p, 118, none⟩ = some (.bool false)) (hended : w.cell? ⟨p, 119, none⟩ = some (.bool false))
    (hfz : ∀ i, w.frozen? ⟨p, i, none⟩ = false) (hpb : p ≠ b) (hpc : p ≠ c)
    (hfree : w.cell? ⟨p, 115, none⟩ = some (.chan (some c))) (hc : w.heap[c]? = some (.chan 1 #[] false s r false)) :
    Calls Try.prog 11 #[.pointer (some ⟨p, 0, none⟩), .slice (some ⟨b, 0, none⟩) 4 4] w fun e w' => e = .returned (.tuple #[.int .i64 0, .int .i64 3]) ∧ (∀ B, B ≤ p → B ≤ c → B ≤ w.heap.size → Below B w w') := by
  have HC := Lib.hid hc
  clear hc
  have hpl := World.block_lt_of_cell? w _ hbuf
  have hbl := World.block_lt_of_cell? w _ hb0
  simp only at hpl hbl
  have hfb := hfz 111
  have hfa := hfz 118
  have hfe := hfz 117
  have HF := Lib.hid hfz
  clear hfz
  have hcp : ¬ c = p := fun h => hpc h.symm
  have hbp : ¬ b = p := fun h => hpb h.symm
  have hnil := fun (W : World) (n c : Nat) => Lib.run_eql_slice_nil_nil (P := Try.prog) W n c Try.underlying22
  go_enter Try.func11, Try.ntmps11
  go_wp2_with (fail)
  apply wp_loop_once
  go_wp2_with (fail)
  refine (take_empty p c s r 4 _ (by go_simp) HC.out (by omega)).mono ?_
  rintro e w1 ⟨rfl, rfl⟩
  go_wp2_with (fail)
  go_quiet (fail)
  go_wp2_with (fail)
  obtain ⟨i0, hi, hz⟩ := Option.map_eq_some_iff.1 info5
  simp only [Prod.mk.injEq] at hz
  have HI := Lib.hid hi
  have HZ := Lib.hid hz.2.1
  clear hi hz
  have hnb : ¬ w.heap.size = b := by omega
  have hbn : ¬ b = w.heap.size := by omega
  have hnp : ¬ w.heap.size = p := by omega
  have hpn : ¬ p = w.heap.size := by omega
  have hw4 : IntKind.i64.wrap 4 = 4 := by decide
  go_region_law (refine step_append_room rfl (.tmp 87) (.tmp 93) 22 rfl 5 i0 1 Try.underlying22 HI.out HZ.out w.heap.size 0 0 4 rfl ⟨b, 0, none⟩ 4 4 [.int .u8 x0, .int .u8 x1, .int .u8 x2, .int .u8 x3] rfl rfl ?hcc ?h11 (by decide) ?hsp ?_; (case hcc => (intro j u hu; rcases j with _ | _ | _ | _ | j <;> simp at hu <;> subst hu <;> (simp only [Addr.add]; go_simp))); (case h11 => simp [Value.oneCell']); (case hsp => (intro j hj; rcases j with _ | _ | _ | _ | j <;> first | (simp at hj; omega) | (refine ⟨?_, ?_⟩ <;> go_simp))))
  go_wp2_with (fail)
  go_quiet (fail)
  go_wp2_with (fail)
  have hrow : ∀ (X : World), (∀ i, i < 4 → X.cell? ⟨w.heap.size, i, none⟩ = #[Value.int .u8 x0, .int .u8 x1, .int .u8 x2, .int .u8 x3][i]?) → ∀ i, i < [x0, x1, x2, x3].length → X.cell? ⟨w.heap.size, 0 + i, none⟩ = some (.int .u8 ([x0, x1, x2, x3].getD i 0)) := by
    intro X hX i hi
    simp only [List.length_cons, List.length_nil] at hi
    rw [Nat.zero_add, hX i (by omega)]
    rcases i with _ | _ | _ | _ | i <;> first | rfl | omega
  refine (does_bad p c s r w.heap.size 4 false [x0, x1, x2, x3] _ ?_ ?_ ?_ (.int .i64 4) (.int .i64 0) ?_ ?_ ?_ (by omega) hpc ?_ ?_ (hrow _ ?_) hne).mono ?_
  · go_simp
  · go_simp
  · go_simp
  · go_simp
  · go_simp
  · intro i
    have := HF.out i
    go_simp
  · go_simp
  · have hcl : c < w.heap.size := (Array.getElem?_eq_some_iff.1 HC.out).1
    simp only [World.setCell, World.heap_drewN, Array.getElem?_modify]
    rw [if_neg hpc, if_neg hpc, if_neg (by omega), if_neg (by omega), if_neg (by omega), if_neg (by omega)]
    rw [heap_alloc_old]
    rotate_left
    · simpa using hcl
    simp only [Array.getElem?_modify]
    rw [if_neg hpc]
    exact HC.out
  · intro i hi
    rcases i with _ | _ | _ | _ | i <;> first | omega | go_simp
  rintro e w1 ⟨rfl, he1, hB1⟩
  go_wp2_with (fail)
  go_quiet (fail)
  go_wp2_with (fail)
  go_ret2
  refine ⟨rfl, ?_⟩
  intro B h1 h2 h3
  have hb := hB1 B h1 h2
  refine below_drewN ?_ _
  refine Below.trans ?_ hb
  repeat first
    | with_reducible exact Below.refl _ _
    | with_reducible refine below_drewN ?_ _
    | with_reducible refine Below.setCell ?_ (by first | exact h1 | exact h3) _
    | with_reducible refine Below.alloc ?_ (by simpa using h3) _

theorem mk1 (w : World) : (Instr.makeChan 70 (.int .i64 1)).run Try.prog w = .ok (.chan (some w.heap.size)) (w.alloc (.chan 1 #[] false 0 0 false)) := by
  obtain ⟨i, hi, hb⟩ : ∃ i, Try.prog.info? 22 = some i ∧ i.bytes = 24 := by
    have h : (Try.prog.info? 22).map (·.bytes) = some 24 := by kernel_rfl
    simpa using h
  simpa using run_makeChan (P := Try.prog) (w := w) Try.underlying70 hi .i64 1 (by omega) (by rw [hb]; omega)

/-- The cells of a new parser whose list is c. -/
noncomputable def newCells (c : Nat) : Array Value := ((Try.zeroCells74.setIfInBounds 115 (.chan (some c))).setIfInBounds 113 (.func (.func 33) #[] #[])).setIfInBounds 112 (.int .i64 4)

set_option maxRecDepth 100000 in
theorem new_calls (w : World) :
    Calls Try.prog 9 #[] w fun e w' => e = .returned (.pointer (some ⟨w.heap.size + 1, 0, none⟩)) ∧ w' = (w.alloc (.chan 1 #[] false 0 0 false)).alloc (.cells (newCells w.heap.size) 74) := by
  have hmc := mk1
  go_enter Try.func9, Try.ntmps9
  go_wp2
  go_ret
  exact ⟨rfl, rfl⟩

set_option maxRecDepth 100000 in
theorem newCells_at (c : Nat) : (newCells c)[110]? = some (.bool false) ∧ (newCells c)[111]? = some (.slice none 0 0) ∧ (newCells c)[112]? = some (.int .i64 4) ∧ (newCells c)[113]? = some (.func (.func 33) #[] #[]) ∧ (newCells c)[115]? = some (.chan (some c)) ∧ (newCells c)[116]? = some (.bool false) ∧ (newCells c)[117]? = some (.int .i64 0) ∧ (newCells c)[118]? = some (.bool false) ∧ (newCells c)[119]? = some (.bool false) := by
  refine ⟨?_, ?_, ?_, ?_, ?_, ?_, ?_, ?_, ?_⟩ <;> kernel_rfl

set_option maxRecDepth 100000 in
set_option maxHeartbeats 1000000 in
theorem awake_calls (w : World) : Calls Try.prog 7 #[] w fun e w' => e = .returned (.bool true) ∧ Below w.heap.size w w' := by
  have hcv := fun (C : Array Value) => Joins.run_convert_bytes_const_at (P := Try.prog) ((w.alloc (.chan 1 #[] false 0 0 false)).alloc (.cells (newCells w.heap.size) 74)) 22 5 C 4 4 (w.heap.size + 1 + 1) (by simp) Try.underlying22 Try.underlying5
  go_enter Try.func7, Try.ntmps7
  go_wp2_with (fail)
  refine (new_calls _).mono ?_
  rintro e w1 ⟨rfl, rfl⟩
  go_wp2_with (fail)
  clear hcv
  obtain ⟨n0, n1, n2, n3, n4, n5, n6, n7, n8⟩ := newCells_at w.heap.size
  have hne : ((strOfNums [68, 82, 71, 88]).toList == [68, 82, 71, 72]) = false := by kernel_rfl
  refine (feed_bad (w.heap.size + 1) w.heap.size 0 0 (w.heap.size + 1 + 1) 68 82 71 88 _ hne ?_ ?_ ?_ ?_ ?_ ?_ ?_ ?_ ?_ ?_ ?_ ?_ ?_ (by omega) (by omega) ?_ ?_).mono ?_
  · rw [Joins.cell_alloc_mark_at _ _ _ _ _ _ (by simp)]; rfl
  · rw [Joins.cell_alloc_mark_at _ _ _ _ _ _ (by simp)]; rfl
  · rw [Joins.cell_alloc_mark_at _ _ _ _ _ _ (by simp)]; rfl
  · rw [Joins.cell_alloc_mark_at _ _ _ _ _ _ (by simp)]; rfl
  · go_simp
  · go_simp
  · go_simp
  · go_simp
  · go_simp
  · go_simp
  · go_simp
  · go_simp
  · intro i
    go_simp
  · go_simp
  · rw [heap_alloc_old, heap_alloc_old]
    · exact heap_alloc_new w _
    · simp
    · simp; omega
  rintro e w1 ⟨rfl, hB⟩
  have HB := Lib.hid (hB w.heap.size (by omega) (Nat.le_refl _) (by simp; omega))
  clear hB n0 n1 n2 n3 n4 n5 n6 n7 n8
  go_wp2
  go_ret
  refine ⟨rfl, Below.trans ?_ HB.out⟩
  exact (((Below.refl _ _).alloc (Nat.le_refl _) _).alloc (by simp) _).alloc (by simp; omega) _
#print axioms awake_calls
end Go.Proofs.Ytijjhjdcahnkkaa.Awake
