-- Written by a program of this session out of the translation; Lean checks it.
import Derived.Test.YtbpdpgigpooacaaPDx0
import Derived.Test.YtbpdpgigpooacaaPDx4
namespace Go.Proofs.Ytbpdpgigpooacaa.PD
open Go.RowKit Go.Proofs.YtbpdpgigpooacaaW.PrintWords Go.Proofs.YtbpdpgigpooacaaW.PrintLast Go.Proofs.YtbpdpgigpooacaaW.PrintMore
attribute [local go_sem] max2_int min2_int max_two min_two max_three min_three max_four min_four   -- for this text's walks alone
set_option linter.unusedVariables false
set_option linter.unusedSimpArgs false

/-! ### drogherref16_Eval: function 20 -/
mutual
def drogherref16_Eval.l0 : Nat → List (S52) → List Int → Int → List Int → Int → Int → Int → Option (List Int × Int)
  | 0, _, _, _, _, _, _, _ => none
  | k + 1, x0, x1, x2, x8, x9, x18, x19 => if x19 < x18 then (if 0 ≤ x19 then (if x19 < (x0.length : Int) then ((drogherref16_Right.f k ((rd_T52 x0 x19).f0) ((rd_T52 x0 x19).f1) ((rd_T52 x0 x19).f2) ((rd_T52 x0 x19).f3)).bind fun t268 => (if t268 = true then (if x9 ≤ x2 then (drogherref16_Eval.l0 k x0 x1 x2 x8 (wrap64 (x9 + ((rd_T52 x0 x19).f2))) x18 (wrap64 (x19 + 1))) else (drogherref16_Eval.l0 k x0 x1 x2 x8 x9 x18 (wrap64 (x19 + 1)))) else (some (x8, 3)))) else (none)) else (none)) else (if x9 = x2 then (drogherref16_Eval.l1 k x0 x1 x8 (([] : List Int)) (x0.length : Int) 0) else (some (x8, 13)))
def drogherref16_Eval.l1 : Nat → List (S52) → List Int → List Int → List Int → Int → Int → Option (List Int × Int)
  | 0, _, _, _, _, _, _ => none
  | k + 1, x0, x1, x8, x11, x46, x47 => if x47 < x46 then (if 0 ≤ x47 then (if x47 < (x0.length : Int) then (if ((rd_T52 x0 x47).f0) = 1 then (if x11.length + ((rd_T52 x0 x47).f3).length < 140737488355328 then (drogherref16_Eval.l1 k x0 x1 x8 (x11 ++ ((rd_T52 x0 x47).f3)) x46 (wrap64 (x47 + 1))) else (none)) else (if ((rd_T52 x0 x47).f1) > (x1.length : Int) then (drogherref16_Eval.j2 k x0 x1 x8 x11 x46 x47 true ((rd_T52 x0 x47).f0) ((rd_T52 x0 x47).f1) ((rd_T52 x0 x47).f2) ((rd_T52 x0 x47).f3)) else (drogherref16_Eval.j2 k x0 x1 x8 x11 x46 x47 (decide (((rd_T52 x0 x47).f2) > (wrap64 ((x1.length : Int) - ((rd_T52 x0 x47).f1))))) ((rd_T52 x0 x47).f0) ((rd_T52 x0 x47).f1) ((rd_T52 x0 x47).f2) ((rd_T52 x0 x47).f3)))) else (none)) else (none)) else (some (x11, 0))
def drogherref16_Eval.j2 : Nat → List (S52) → List Int → List Int → List Int → Int → Int → Bool → Int → Int → Int → List Int → Option (List Int × Int)
  | 0, _, _, _, _, _, _, _, _, _, _, _ => none
  | k + 1, x0, x1, x8, x11, x46, x47, x75, x275000, x275001, x275002, x275003 => if x75 = true then (some (x8, 5)) else (drogherref16_Eval.l2 k x0 x1 x8 x11 0 x46 x47 x275000 x275001 x275002 x275003)
def drogherref16_Eval.l2 : Nat → List (S52) → List Int → List Int → List Int → Int → Int → Int → Int → Int → Int → List Int → Option (List Int × Int)
  | 0, _, _, _, _, _, _, _, _, _, _, _ => none
  | k + 1, x0, x1, x8, x11, x14, x46, x47, x275000, x275001, x275002, x275003 => if x14 < x275002 then (if 0 ≤ (wrap64 (x275001 + x14)) then (if (wrap64 (x275001 + x14)) < (x1.length : Int) then (if x275000 = 3 then (if 0 ≤ x14 then (if x14 < (x275003.length : Int) then (if x11.length < 140737488355328 then (drogherref16_Eval.l2 k x0 x1 x8 (x11 ++ [((rd x1 (wrap64 (x275001 + x14))) + (rd x275003 x14)) % 256]) (wrap64 (x14 + 1)) x46 x47 x275000 x275001 x275002 x275003) else (none)) else (none)) else (none)) else (if x11.length < 140737488355328 then (drogherref16_Eval.l2 k x0 x1 x8 (x11 ++ [rd x1 (wrap64 (x275001 + x14))]) (wrap64 (x14 + 1)) x46 x47 x275000 x275001 x275002 x275003) else (none))) else (none)) else (none)) else (drogherref16_Eval.l1 k x0 x1 x8 x11 x46 (wrap64 (x47 + 1)))
end
def drogherref16_Eval.f (k : Nat) (l0 : List (S52)) (l1 : List Int) (a2 : Int) : Option (List Int × Int) := drogherref16_Eval.l0 k l0 l1 a2 (([] : List Int)) 0 (l0.length : Int) 0
theorem drogherref16_Eval.mono_l : ∀ k, (∀ y0 y1 y2 y3 y4 y5 y6, LeO (drogherref16_Eval.l0 k y0 y1 y2 y3 y4 y5 y6) (drogherref16_Eval.l0 (k + 1) y0 y1 y2 y3 y4 y5 y6)) ∧ (∀ y0 y1 y2 y3 y4 y5, LeO (drogherref16_Eval.l1 k y0 y1 y2 y3 y4 y5) (drogherref16_Eval.l1 (k + 1) y0 y1 y2 y3 y4 y5)) ∧ (∀ y0 y1 y2 y3 y4 y5 y6 y7 y8 y9 y10, LeO (drogherref16_Eval.j2 k y0 y1 y2 y3 y4 y5 y6 y7 y8 y9 y10) (drogherref16_Eval.j2 (k + 1) y0 y1 y2 y3 y4 y5 y6 y7 y8 y9 y10)) ∧ (∀ y0 y1 y2 y3 y4 y5 y6 y7 y8 y9 y10, LeO (drogherref16_Eval.l2 k y0 y1 y2 y3 y4 y5 y6 y7 y8 y9 y10) (drogherref16_Eval.l2 (k + 1) y0 y1 y2 y3 y4 y5 y6 y7 y8 y9 y10))
  | 0 => ⟨fun _ _ _ _ _ _ _ r h => by simp [drogherref16_Eval.l0] at h, fun _ _ _ _ _ _ r h => by simp [drogherref16_Eval.l1] at h, fun _ _ _ _ _ _ _ _ _ _ _ r h => by simp [drogherref16_Eval.j2] at h, fun _ _ _ _ _ _ _ _ _ _ _ r h => by simp [drogherref16_Eval.l2] at h⟩
  | k + 1 => by
    obtain ⟨ih0, ih1, ih2, ih3⟩ := drogherref16_Eval.mono_l k
    refine ⟨?_, ?_, ?_, ?_⟩
    · intro y0 y1 y2 y3 y4 y5 y6
      unfold drogherref16_Eval.l0
      repeat' first
      | (with_reducible exact ih0 _ _ _ _ _ _ _)
      | (with_reducible exact ih1 _ _ _ _ _ _)
      | (with_reducible exact ih2 _ _ _ _ _ _ _ _ _ _ _)
      | (with_reducible exact ih3 _ _ _ _ _ _ _ _ _ _ _)
      | (with_reducible exact drogherref16_Right.mono _ _ _ _ _)
      | (with_reducible exact LeO.refl _)
      | (with_reducible exact LeO.none _)
      | (with_reducible refine LeO.ite ?_ ?_)
      | (with_reducible refine LeO.bind ?_ (fun _ => ?_))
      | exact ih0 _ _ _ _ _ _ _
      | exact ih1 _ _ _ _ _ _
      | exact ih2 _ _ _ _ _ _ _ _ _ _ _
      | exact ih3 _ _ _ _ _ _ _ _ _ _ _
      | exact drogherref16_Right.mono _ _ _ _ _
      | exact LeO.none _
      | refine LeO.ite ?_ ?_
      | refine LeO.bind ?_ (fun _ => ?_)
    · intro y0 y1 y2 y3 y4 y5
      unfold drogherref16_Eval.l1
      repeat' first
      | (with_reducible exact ih0 _ _ _ _ _ _ _)
      | (with_reducible exact ih1 _ _ _ _ _ _)
      | (with_reducible exact ih2 _ _ _ _ _ _ _ _ _ _ _)
      | (with_reducible exact ih3 _ _ _ _ _ _ _ _ _ _ _)
      | (with_reducible exact drogherref16_Right.mono _ _ _ _ _)
      | (with_reducible exact LeO.refl _)
      | (with_reducible exact LeO.none _)
      | (with_reducible refine LeO.ite ?_ ?_)
      | (with_reducible refine LeO.bind ?_ (fun _ => ?_))
      | exact ih0 _ _ _ _ _ _ _
      | exact ih1 _ _ _ _ _ _
      | exact ih2 _ _ _ _ _ _ _ _ _ _ _
      | exact ih3 _ _ _ _ _ _ _ _ _ _ _
      | exact drogherref16_Right.mono _ _ _ _ _
      | exact LeO.none _
      | refine LeO.ite ?_ ?_
      | refine LeO.bind ?_ (fun _ => ?_)
    · intro y0 y1 y2 y3 y4 y5 y6 y7 y8 y9 y10
      unfold drogherref16_Eval.j2
      repeat' first
      | (with_reducible exact ih0 _ _ _ _ _ _ _)
      | (with_reducible exact ih1 _ _ _ _ _ _)
      | (with_reducible exact ih2 _ _ _ _ _ _ _ _ _ _ _)
      | (with_reducible exact ih3 _ _ _ _ _ _ _ _ _ _ _)
      | (with_reducible exact drogherref16_Right.mono _ _ _ _ _)
      | (with_reducible exact LeO.refl _)
      | (with_reducible exact LeO.none _)
      | (with_reducible refine LeO.ite ?_ ?_)
      | (with_reducible refine LeO.bind ?_ (fun _ => ?_))
      | exact ih0 _ _ _ _ _ _ _
      | exact ih1 _ _ _ _ _ _
      | exact ih2 _ _ _ _ _ _ _ _ _ _ _
      | exact ih3 _ _ _ _ _ _ _ _ _ _ _
      | exact drogherref16_Right.mono _ _ _ _ _
      | exact LeO.none _
      | refine LeO.ite ?_ ?_
      | refine LeO.bind ?_ (fun _ => ?_)
    · intro y0 y1 y2 y3 y4 y5 y6 y7 y8 y9 y10
      unfold drogherref16_Eval.l2
      repeat' first
      | (with_reducible exact ih0 _ _ _ _ _ _ _)
      | (with_reducible exact ih1 _ _ _ _ _ _)
      | (with_reducible exact ih2 _ _ _ _ _ _ _ _ _ _ _)
      | (with_reducible exact ih3 _ _ _ _ _ _ _ _ _ _ _)
      | (with_reducible exact drogherref16_Right.mono _ _ _ _ _)
      | (with_reducible exact LeO.refl _)
      | (with_reducible exact LeO.none _)
      | (with_reducible refine LeO.ite ?_ ?_)
      | (with_reducible refine LeO.bind ?_ (fun _ => ?_))
      | exact ih0 _ _ _ _ _ _ _
      | exact ih1 _ _ _ _ _ _
      | exact ih2 _ _ _ _ _ _ _ _ _ _ _
      | exact ih3 _ _ _ _ _ _ _ _ _ _ _
      | exact drogherref16_Right.mono _ _ _ _ _
      | exact LeO.none _
      | refine LeO.ite ?_ ?_
      | refine LeO.bind ?_ (fun _ => ?_)
theorem drogherref16_Eval.mono : ∀ a0 a1 a2 k, LeO (drogherref16_Eval.f k a0 a1 a2) (drogherref16_Eval.f (k + 1) a0 a1 a2) := by
  intro a0 a1 a2 k
  obtain ⟨ih0, ih1, ih2, ih3⟩ := drogherref16_Eval.mono_l k
  unfold drogherref16_Eval.f
  repeat' first
      | (with_reducible exact ih0 _ _ _ _ _ _ _)
      | (with_reducible exact ih1 _ _ _ _ _ _)
      | (with_reducible exact ih2 _ _ _ _ _ _ _ _ _ _ _)
      | (with_reducible exact ih3 _ _ _ _ _ _ _ _ _ _ _)
      | (with_reducible exact drogherref16_Right.mono _ _ _ _ _)
      | (with_reducible exact LeO.refl _)
      | (with_reducible exact LeO.none _)
      | (with_reducible refine LeO.ite ?_ ?_)
      | (with_reducible refine LeO.bind ?_ (fun _ => ?_))
      | exact ih0 _ _ _ _ _ _ _
      | exact ih1 _ _ _ _ _ _
      | exact ih2 _ _ _ _ _ _ _ _ _ _ _
      | exact ih3 _ _ _ _ _ _ _ _ _ _ _
      | exact drogherref16_Right.mono _ _ _ _ _
      | exact LeO.none _
      | refine LeO.ite ?_ ?_
      | refine LeO.bind ?_ (fun _ => ?_)
set_option maxHeartbeats 8000000 in
set_option maxRecDepth 100000 in
theorem drogherref16_Eval.calls (k : Nat) (A0 : Option Addr) (c0 : Nat) (l0 : List (S52)) (A1 : Option Addr) (c1 : Nat) (l1 : List Int) (a2 : Int) (r1 : List Int) (r2 : Int) (w : World) (hr0 : Kd.C k52 w A0 l0.length l0) (hc0 : l0.length ≤ c0) (hr1 : Kd.C (Kd.int .u8) w A1 l1.length l1) (hc1 : l1.length ≤ c1) (h : drogherref16_Eval.f k l0 l1 a2 = some (r1, r2)) :
    Calls Try.prog 20 #[.slice A0 l0.length c0, .slice A1 l1.length c1, .int .i64 a2] w fun e w' => ∃ v0_ : Value, e = .returned (.tuple #[v0_, .int .i64 r2]) ∧ Kd.R (Kd.int .u8) 5 w' w.heap.size (fun _ => True) v0_ r1 ∧ Below w.heap.size w w' := by
  have hu52 := Try.underlying52
  have HR0 := Aside0.mk hr0
  have HC0 := Aside0.mk hc0
  clear hr0 hc0
  have HR1 := Aside0.mk hr1
  have HC1 := Aside0.mk hc1
  clear hr1 hc1
  have HB := Aside0.mk (Below.refl w.heap.size w)
  have H : (drogherref16_Eval.l0 k l0 l1 a2 (([] : List Int)) 0 (l0.length : Int) 0) = some (r1, r2) := h
  clear h
  obtain ⟨y264, hy264⟩ : ∃ y_ : List Int, y_ = (([] : List Int)) := ⟨_, rfl⟩
  replace H : (drogherref16_Eval.l0 k l0 l1 a2 y264 0 (l0.length : Int) 0) = some (r1, r2) := by first | (rw [hy264]; with_reducible exact H) | (have H2_ := (Option.bind_some _ _).symm.trans H; rw [hy264]; with_reducible exact H2_) | (have H2_ := (Option.bind_some _ _).symm.trans H; with_reducible exact H2_) | with_reducible exact H | (rw [hy264]; exact H) | exact H
  have Ny264 := Aside0.mk hy264
  clear hy264
  have H' := Aside0.mk H
  clear H
  go_enter Try.func20, Try.ntmps20
  go_wp2_with (first | ((with_reducible refine gate_dst (N := 16) rfl ?_); (try (refine gate_guard (by rfl) ?_; dsimp only)); refine Kd.R_lit (Kd.int .u8) _ 5 ?hg (N := 16) ?hd (xs := ([] : List Int)) (inner := []) (ok := fun _ => True) (okp := fun _ => True) ?hr ?hp (fun _ hk => hk) trivial (Below.refl _ _) (Nat.le_refl _) (by simp) ?_; (case hd => rfl); (case hg => rfl); (case hr => first | (go_simp; done) | (go_simp; rfl)); (case hp => exact (Reps.none _ _)); intro v265 w4 ho5 hb hg_ hnew_; clear hg_ hnew_; (first | rw [← Ny264.out] at ho5 | (simp only [Int.reduceToNat] at ho5; rw [← Ny264.out] at ho5)); have n0_ := Aside0.mk (Kd.R_lower ho5 (below_size (by repeat (first | (with_reducible first | exact HB.out | apply below_alloc | apply pw_below_drewN | apply below_drew1) | exact HB.out)))); have n1_ := Aside0.mk (below_step (by repeat (first | (with_reducible first | exact HB.out | apply below_alloc | apply pw_below_drewN | apply below_drew1) | exact HB.out)) hb); clear HB; have HO266 := n0_; have HB := n1_; clear n0_ n1_; clear hb ho5))
  go_loopg [9, 19] k (fun kq v9 v19 w' => ∃ (x9_1 : Int) (x19_1 : Int), v9 = .int .i64 x9_1 ∧ v19 = .int .i64 x19_1 ∧ Aside0 (drogherref16_Eval.l0 kq l0 l1 a2 y264 x9_1 (l0.length : Int) x19_1 = some (r1, r2)) ∧ Aside0 (kq ≤ k) ∧ Aside0 (Kd.R (Kd.int .u8) 5 w' w.heap.size (fun _ => True) v265 y264) ∧ Aside0 (Below w.heap.size w w'))
  case atStart => exact ⟨(0), (0), (by first | rfl | (simp; done) | (simp [*]; done)), (by first | rfl | (simp; done) | (simp [*]; done)), H', ⟨Nat.le_refl _⟩, ⟨by (with_reducible repeat (first | apply Kd.R_alloc | apply Kd.R_drewN | apply Kd.R_drew)); exact HO266.out⟩, ⟨by repeat (first | (with_reducible first | exact HB.out | apply below_alloc | apply pw_below_drewN | apply below_drew1) | exact HB.out)⟩⟩
  case round =>
    clear H'
    try clear c1
    try clear c2
    try clear p2
    obtain ⟨x9_1, x19_1, rfl, rfl, HA, HK1, HO_8, HB⟩ := hrel
    cases gk with
    | zero => exact absurd HA.out (by simp [drogherref16_Eval.l0])
    | succ k1 =>
      have H := HA.out
      clear HA
      simp only [drogherref16_Eval.l0] at H
      by_cases c6 : x19_1 < (l0.length : Int)
      · rw [if_pos c6] at H
        have c6b0 : decide (x19_1 < (l0.length : Int)) = true := decide_eq_true c6
        clear c6
        by_cases c7 : 0 ≤ x19_1
        · rw [if_pos c7] at H
          have c7b0 : decide (0 ≤ x19_1) = true := decide_eq_true c7
          clear c7
          by_cases c8 : x19_1 < (l0.length : Int)
          · rw [if_pos c8] at H
            have c8b0 : decide (x19_1 < (l0.length : Int)) = true := decide_eq_true c8
            clear c8
            replace H := Option.bind_eq_some_iff.mp H
            obtain ⟨t268, A90, H⟩ := H
            replace H : (if t268 = true then (if x9_1 ≤ a2 then (drogherref16_Eval.l0 k1 l0 l1 a2 y264 (wrap64 (x9_1 + ((rd_T52 l0 x19_1).f2))) (l0.length : Int) (wrap64 (x19_1 + 1))) else (drogherref16_Eval.l0 k1 l0 l1 a2 y264 x9_1 (l0.length : Int) (wrap64 (x19_1 + 1)))) else (some (y264, 3))) = some (r1, r2) := H
            have A9 := Aside0.mk A90
            clear A90
            by_cases c10 : t268 = true
            · subst c10
              have H1 : (if x9_1 ≤ a2 then (drogherref16_Eval.l0 k1 l0 l1 a2 y264 (wrap64 (x9_1 + ((rd_T52 l0 x19_1).f2))) (l0.length : Int) (wrap64 (x19_1 + 1))) else (drogherref16_Eval.l0 k1 l0 l1 a2 y264 x9_1 (l0.length : Int) (wrap64 (x19_1 + 1)))) = some (r1, r2) := by rw [if_pos rfl] at H; exact H
              clear H
              have H := H1
              clear H1
              by_cases c11 : x9_1 ≤ a2
              · rw [if_pos c11] at H
                have c11b0 : decide (x9_1 ≤ a2) = true := decide_eq_true c11
                clear c11
                have H' := Aside0.mk H
                clear H
                have p267 : 0 ≤ (x19_1 : Int) := of_decide_eq_true (by first | (with_reducible assumption) | assumption)
                have q267 : x19_1 < (l0.length : Int) := of_decide_eq_true (by first | (with_reducible assumption) | assumption)
                obtain ⟨ad267, A267_3, c267_3, e267, hx267_0, hx267_1, hx267_2, hx267_3, hl267_3, hi267_3⟩ := at_T52 HR0.out x19_1 p267 q267
                cases e267
                replace hx267_0 := (HB.out.cell (World.block_lt_of_cell? w _ hx267_0)).trans hx267_0
                replace hx267_1 := (HB.out.cell (World.block_lt_of_cell? w _ hx267_1)).trans hx267_1
                replace hx267_2 := (HB.out.cell (World.block_lt_of_cell? w _ hx267_2)).trans hx267_2
                replace hx267_3 := (HB.out.cell (World.block_lt_of_cell? w _ hx267_3)).trans hx267_3
                have HR267_3 := Aside0.mk hi267_3
                have HC267_3 := Aside0.mk hl267_3
                clear hi267_3 hl267_3
                replace p267 := eq_true p267
                replace q267 := eq_true q267
                go_wp2_with (first | ((with_reducible refine gate_callee (f := 39) rfl ?_); refine goesL_ (some 26) rfl rfl Try.func39 (by kernel_rfl) rfl #[.agg #[.int .u8 ((rd_T52 l0 x19_1).f0), .int .i64 ((rd_T52 l0 x19_1).f1), .int .i64 ((rd_T52 l0 x19_1).f2), .slice A267_3 ((rd_T52 l0 x19_1).f3).length c267_3]] rfl (by (try simp only [List.map_toArray, List.map_cons, List.map_nil]); first | done | rfl | (simp only [List.length_drop, List.length_take]; rfl)) ?_; (with_reducible refine (drogherref16_Right.calls k1 ((rd_T52 l0 x19_1).f0) ((rd_T52 l0 x19_1).f1) ((rd_T52 l0 x19_1).f2) _ _ ((rd_T52 l0 x19_1).f3) true _ ?side1 ?side2 A9.out).mono ?_); (case side1 => repeat (first | exact (Kd.C_below HR267_3.out HB.out) | (with_reducible refine Kd.C_alloc ?_ _) | (with_reducible refine Kd.C_drewN ?_ _) | (with_reducible refine Kd.C_drew ?_))); (case side2 => exact HC267_3.out); rintro e w12 ⟨rfl, hb⟩; refine ⟨_, rfl, ?_⟩; have n0_ := Aside0.mk (Kd.R_below (by (with_reducible repeat (first | apply Kd.R_alloc | apply Kd.R_drewN | apply Kd.R_drew)); exact HO_8.out) hb); have n1_ := Aside0.mk (below_step (by repeat (first | (with_reducible first | exact HB.out | apply below_alloc | apply pw_below_drewN | apply below_drew1) | exact HB.out)) hb); clear HO_8; clear HB; have HO_8 := n0_; have HB := n1_; clear n0_ n1_; (try clear hb); (try clear hb2); (try clear hk); (try clear hi); have p269 : 0 ≤ (x19_1 : Int) := of_decide_eq_true (by first | (with_reducible assumption) | assumption); have q269 : x19_1 < (l0.length : Int) := of_decide_eq_true (by first | (with_reducible assumption) | assumption); obtain ⟨ad269, A269_3, c269_3, e269, hx269_0, hx269_1, hx269_2, hx269_3, hl269_3, hi269_3⟩ := at_T52 HR0.out x19_1 p269 q269; obtain rfl : ad267 = ad269 := (by injection e269); replace hx269_0 := (HB.out.cell (World.block_lt_of_cell? w _ hx269_0)).trans hx269_0; replace hx269_1 := (HB.out.cell (World.block_lt_of_cell? w _ hx269_1)).trans hx269_1; replace hx269_2 := (HB.out.cell (World.block_lt_of_cell? w _ hx269_2)).trans hx269_2; replace hx269_3 := (HB.out.cell (World.block_lt_of_cell? w _ hx269_3)).trans hx269_3; have HR269_3 := Aside0.mk hi269_3; have HC269_3 := Aside0.mk hl269_3; clear hi269_3 hl269_3; replace p269 := eq_true p269; replace q269 := eq_true q269))
                go_roundg k1
                case measure => have := HK1.out; omega
                case rel => exact ⟨(wrap64 (x9_1 + ((rd_T52 l0 x19_1).f2))), (wrap64 (x19_1 + 1)), (by first | rfl | (simp; done) | (simp [*]; done)), (by first | rfl | (simp; done) | (simp [*]; done)), H', ⟨by have := HK1.out; omega⟩, ⟨by (with_reducible repeat (first | apply Kd.R_alloc | apply Kd.R_drewN | apply Kd.R_drew)); exact HO_8.out⟩, ⟨by repeat (first | (with_reducible first | exact HB.out | apply below_alloc | apply pw_below_drewN | apply below_drew1) | exact HB.out)⟩⟩
              · rw [if_neg c11] at H
                have c11b0 : decide (x9_1 ≤ a2) = false := decide_eq_false c11
                clear c11
                have H' := Aside0.mk H
                clear H
                have p267 : 0 ≤ (x19_1 : Int) := of_decide_eq_true (by first | (with_reducible assumption) | assumption)
                have q267 : x19_1 < (l0.length : Int) := of_decide_eq_true (by first | (with_reducible assumption) | assumption)
                obtain ⟨ad267, A267_3, c267_3, e267, hx267_0, hx267_1, hx267_2, hx267_3, hl267_3, hi267_3⟩ := at_T52 HR0.out x19_1 p267 q267
                cases e267
                replace hx267_0 := (HB.out.cell (World.block_lt_of_cell? w _ hx267_0)).trans hx267_0
                replace hx267_1 := (HB.out.cell (World.block_lt_of_cell? w _ hx267_1)).trans hx267_1
                replace hx267_2 := (HB.out.cell (World.block_lt_of_cell? w _ hx267_2)).trans hx267_2
                replace hx267_3 := (HB.out.cell (World.block_lt_of_cell? w _ hx267_3)).trans hx267_3
                have HR267_3 := Aside0.mk hi267_3
                have HC267_3 := Aside0.mk hl267_3
                clear hi267_3 hl267_3
                replace p267 := eq_true p267
                replace q267 := eq_true q267
                go_wp2_with (first | ((with_reducible refine gate_callee (f := 39) rfl ?_); refine goesL_ (some 26) rfl rfl Try.func39 (by kernel_rfl) rfl #[.agg #[.int .u8 ((rd_T52 l0 x19_1).f0), .int .i64 ((rd_T52 l0 x19_1).f1), .int .i64 ((rd_T52 l0 x19_1).f2), .slice A267_3 ((rd_T52 l0 x19_1).f3).length c267_3]] rfl (by (try simp only [List.map_toArray, List.map_cons, List.map_nil]); first | done | rfl | (simp only [List.length_drop, List.length_take]; rfl)) ?_; (with_reducible refine (drogherref16_Right.calls k1 ((rd_T52 l0 x19_1).f0) ((rd_T52 l0 x19_1).f1) ((rd_T52 l0 x19_1).f2) _ _ ((rd_T52 l0 x19_1).f3) true _ ?side1 ?side2 A9.out).mono ?_); (case side1 => repeat (first | exact (Kd.C_below HR267_3.out HB.out) | (with_reducible refine Kd.C_alloc ?_ _) | (with_reducible refine Kd.C_drewN ?_ _) | (with_reducible refine Kd.C_drew ?_))); (case side2 => exact HC267_3.out); rintro e w13 ⟨rfl, hb⟩; refine ⟨_, rfl, ?_⟩; have n0_ := Aside0.mk (Kd.R_below (by (with_reducible repeat (first | apply Kd.R_alloc | apply Kd.R_drewN | apply Kd.R_drew)); exact HO_8.out) hb); have n1_ := Aside0.mk (below_step (by repeat (first | (with_reducible first | exact HB.out | apply below_alloc | apply pw_below_drewN | apply below_drew1) | exact HB.out)) hb); clear HO_8; clear HB; have HO_8 := n0_; have HB := n1_; clear n0_ n1_; (try clear hb); (try clear hb2); (try clear hk); (try clear hi)))
                go_roundg k1
                case measure => have := HK1.out; omega
                case rel => exact ⟨(x9_1), (wrap64 (x19_1 + 1)), (by first | rfl | (simp; done) | (simp [*]; done)), (by first | rfl | (simp; done) | (simp [*]; done)), H', ⟨by have := HK1.out; omega⟩, ⟨by (with_reducible repeat (first | apply Kd.R_alloc | apply Kd.R_drewN | apply Kd.R_drew)); exact HO_8.out⟩, ⟨by repeat (first | (with_reducible first | exact HB.out | apply below_alloc | apply pw_below_drewN | apply below_drew1) | exact HB.out)⟩⟩
            · replace c10 := Bool.eq_false_iff.mpr c10
              subst c10
              have H1 : (some (y264, 3)) = some (r1, r2) := by rw [if_neg (show ¬ (false = true) by decide)] at H; exact H
              clear H
              have H := H1
              clear H1
              simp only [Option.some.injEq, Prod.mk.injEq] at H
              obtain ⟨rfl, rfl⟩ := H
              have p267 : 0 ≤ (x19_1 : Int) := of_decide_eq_true (by first | (with_reducible assumption) | assumption)
              have q267 : x19_1 < (l0.length : Int) := of_decide_eq_true (by first | (with_reducible assumption) | assumption)
              obtain ⟨ad267, A267_3, c267_3, e267, hx267_0, hx267_1, hx267_2, hx267_3, hl267_3, hi267_3⟩ := at_T52 HR0.out x19_1 p267 q267
              cases e267
              replace hx267_0 := (HB.out.cell (World.block_lt_of_cell? w _ hx267_0)).trans hx267_0
              replace hx267_1 := (HB.out.cell (World.block_lt_of_cell? w _ hx267_1)).trans hx267_1
              replace hx267_2 := (HB.out.cell (World.block_lt_of_cell? w _ hx267_2)).trans hx267_2
              replace hx267_3 := (HB.out.cell (World.block_lt_of_cell? w _ hx267_3)).trans hx267_3
              have HR267_3 := Aside0.mk hi267_3
              have HC267_3 := Aside0.mk hl267_3
              clear hi267_3 hl267_3
              replace p267 := eq_true p267
              replace q267 := eq_true q267
              go_wp2_with (first | ((with_reducible refine gate_callee (f := 39) rfl ?_); refine goesL_ (some 26) rfl rfl Try.func39 (by kernel_rfl) rfl #[.agg #[.int .u8 ((rd_T52 l0 x19_1).f0), .int .i64 ((rd_T52 l0 x19_1).f1), .int .i64 ((rd_T52 l0 x19_1).f2), .slice A267_3 ((rd_T52 l0 x19_1).f3).length c267_3]] rfl (by (try simp only [List.map_toArray, List.map_cons, List.map_nil]); first | done | rfl | (simp only [List.length_drop, List.length_take]; rfl)) ?_; (with_reducible refine (drogherref16_Right.calls k1 ((rd_T52 l0 x19_1).f0) ((rd_T52 l0 x19_1).f1) ((rd_T52 l0 x19_1).f2) _ _ ((rd_T52 l0 x19_1).f3) false _ ?side1 ?side2 A9.out).mono ?_); (case side1 => repeat (first | exact (Kd.C_below HR267_3.out HB.out) | (with_reducible refine Kd.C_alloc ?_ _) | (with_reducible refine Kd.C_drewN ?_ _) | (with_reducible refine Kd.C_drew ?_))); (case side2 => exact HC267_3.out); rintro e w14 ⟨rfl, hb⟩; refine ⟨_, rfl, ?_⟩; have n0_ := Aside0.mk (Kd.R_below (by (with_reducible repeat (first | apply Kd.R_alloc | apply Kd.R_drewN | apply Kd.R_drew)); exact HO_8.out) hb); have n1_ := Aside0.mk (below_step (by repeat (first | (with_reducible first | exact HB.out | apply below_alloc | apply pw_below_drewN | apply below_drew1) | exact HB.out)) hb); clear HO_8; clear HB; have HO_8 := n0_; have HB := n1_; clear n0_ n1_; (try clear hb); (try clear hb2); (try clear hk); (try clear hi)))
              go_ret2
              exact ⟨_, by first | rfl | (simp [errW_none, errW_some] <;> rfl) | (simp [*, errW_none, errW_some] <;> rfl), by (with_reducible repeat (first | apply Kd.R_alloc | apply Kd.R_drewN | apply Kd.R_drew)); exact HO_8.out, by repeat (first | (with_reducible first | exact HB.out | apply below_alloc | apply pw_below_drewN | apply below_drew1) | exact HB.out)⟩
          · rw [if_neg c8] at H
            exact absurd H (by simp)
        · rw [if_neg c7] at H
          exact absurd H (by simp)
      · rw [if_neg c6] at H
        have c6b0 : decide (x19_1 < (l0.length : Int)) = false := decide_eq_false c6
        clear c6
        by_cases c15 : x9_1 = a2
        · rw [if_pos c15] at H
          have c15b0 : (x9_1 == a2) = true := beq_iff_eq.mpr c15
          have c15b1 : (x9_1 != a2) = false := bne_eq_false_iff_eq.mpr c15
          clear c15
          obtain ⟨y270, hy270⟩ : ∃ y_ : List Int, y_ = (([] : List Int)) := ⟨_, rfl⟩
          replace H : (drogherref16_Eval.l1 k1 l0 l1 y264 y270 (l0.length : Int) 0) = some (r1, r2) := by first | (rw [hy270]; with_reducible exact H) | (have H2_ := (Option.bind_some _ _).symm.trans H; rw [hy270]; with_reducible exact H2_) | (have H2_ := (Option.bind_some _ _).symm.trans H; with_reducible exact H2_) | with_reducible exact H | (rw [hy270]; exact H) | exact H
          have Ny270 := Aside0.mk hy270
          clear hy270
          have H' := Aside0.mk H
          clear H
          go_wp2_with (first | ((with_reducible refine gate_dst (N := 44) rfl ?_); (try (refine gate_guard (by rfl) ?_; dsimp only)); refine Kd.R_lit (Kd.int .u8) _ 5 ?hg (N := 44) ?hd (xs := ([] : List Int)) (inner := []) (ok := fun _ => True) (okp := fun _ => True) ?hr ?hp (fun _ hk => hk) trivial (Below.refl _ _) (Nat.le_refl _) (by simp) ?_; (case hd => rfl); (case hg => rfl); (case hr => first | (go_simp; done) | (go_simp; rfl)); (case hp => exact (Reps.none _ _)); intro v271 w16 ho17 hb hg_ hnew_; clear hg_ hnew_; (first | rw [← Ny270.out] at ho17 | (simp only [Int.reduceToNat] at ho17; rw [← Ny270.out] at ho17)); have n0_ := Aside0.mk (Kd.R_elder' (by (with_reducible repeat (first | apply Kd.R_alloc | apply Kd.R_drewN | apply Kd.R_drew)); exact HO_8.out) (Kd.R_base ho17) hb); have n1_ := Aside0.mk (Kd.R_lower (Kd.R_new' ho17 (Kd.R_lt (by (with_reducible repeat (first | apply Kd.R_alloc | apply Kd.R_drewN | apply Kd.R_drew)); exact HO_8.out))) (below_size (by repeat (first | (with_reducible first | exact HB.out | apply below_alloc | apply pw_below_drewN | apply below_drew1) | exact HB.out)))); have n2_ := Aside0.mk (below_step (by repeat (first | (with_reducible first | exact HB.out | apply below_alloc | apply pw_below_drewN | apply below_drew1) | exact HB.out)) hb); clear HO_8; clear HB; have HO_8 := n0_; have HO272 := n1_; have HB := n2_; clear n0_ n1_ n2_; clear hb ho17))
          go_loopg [11, 47] k1 (fun kq v11 v47 w' => ∃ (x11_2 : List Int) (x47_2 : Int), v47 = .int .i64 x47_2 ∧ Aside0 (drogherref16_Eval.l1 kq l0 l1 y264 x11_2 (l0.length : Int) x47_2 = some (r1, r2)) ∧ Aside0 (kq ≤ k1) ∧ Aside0 (Kd.R (Kd.int .u8) 5 w' w.heap.size (fun k_ => some k_ ≠ (v11 : Value).ownBlock) v265 y264) ∧ Aside0 (Kd.R (Kd.int .u8) 5 w' w.heap.size (fun k_ => some k_ ≠ (v265 : Value).ownBlock) v11 x11_2) ∧ Aside0 (Below w.heap.size w w'))
          case atStart => exact ⟨(y270), (0), (by first | rfl | (simp; done) | (simp [*]; done)), H', ⟨Nat.le_refl _⟩, ⟨by (with_reducible repeat (first | apply Kd.R_alloc | apply Kd.R_drewN | apply Kd.R_drew)); exact Kd.R_mono HO_8.out (fun _ hk => hk.2)⟩, ⟨by (with_reducible repeat (first | apply Kd.R_alloc | apply Kd.R_drewN | apply Kd.R_drew)); exact Kd.R_mono HO272.out (fun _ hk => hk.2)⟩, ⟨by repeat (first | (with_reducible first | exact HB.out | apply below_alloc | apply pw_below_drewN | apply below_drew1) | exact HB.out)⟩⟩
          case round =>
            clear H'
            try clear c1
            try clear c2
            try clear p2
            try clear q2
            try clear hx2
            try clear c3
            try clear c6
            try clear c6b0
            try clear p6
            try clear c7
            try clear c7b0
            try clear c8
            try clear c8b0
            try clear c10
            try clear c11
            try clear c11b0
            try clear c15
            try clear c15b0
            try clear c15b1
            try clear hx267_0
            try clear hx267_1
            try clear hx267_2
            try clear hx267_3
            try clear hx269_0
            try clear hx269_1
            try clear hx269_2
            try clear hx269_3
            try clear p2
            try clear p267
            try clear p269
            try clear q267
            try clear q269
            obtain ⟨x11_2, x47_2, rfl, HA, HK2, HO_8, HO_11, HB⟩ := hrel
            cases gk with
            | zero => exact absurd HA.out (by simp [drogherref16_Eval.l1])
            | succ k2 =>
              have H := HA.out
              clear HA
              simp only [drogherref16_Eval.l1] at H
              by_cases c18 : x47_2 < (l0.length : Int)
              · rw [if_pos c18] at H
                have c18b0 : decide (x47_2 < (l0.length : Int)) = true := decide_eq_true c18
                clear c18
                by_cases c19 : 0 ≤ x47_2
                · rw [if_pos c19] at H
                  have c19b0 : decide (0 ≤ x47_2) = true := decide_eq_true c19
                  clear c19
                  by_cases c20 : x47_2 < (l0.length : Int)
                  · rw [if_pos c20] at H
                    have c20b0 : decide (x47_2 < (l0.length : Int)) = true := decide_eq_true c20
                    clear c20
                    by_cases c21 : ((rd_T52 l0 x47_2).f0) = 1
                    · rw [if_pos c21] at H
                      have c21b0 : (((rd_T52 l0 x47_2).f0) == 1) = true := beq_iff_eq.mpr c21
                      have c21b1 : (((rd_T52 l0 x47_2).f0) != 1) = false := bne_eq_false_iff_eq.mpr c21
                      clear c21
                      by_cases c22 : x11_2.length + ((rd_T52 l0 x47_2).f3).length < 140737488355328
                      · rw [if_pos c22] at H
                        have LMc22 := Aside0.mk c22
                        clear c22
                        obtain ⟨y275, hy275⟩ : ∃ y_ : List Int, y_ = (x11_2 ++ ((rd_T52 l0 x47_2).f3)) := ⟨_, rfl⟩
                        replace H : (drogherref16_Eval.l1 k2 l0 l1 y264 y275 (l0.length : Int) (wrap64 (x47_2 + 1))) = some (r1, r2) := by first | (rw [hy275]; with_reducible exact H) | (have H2_ := (Option.bind_some _ _).symm.trans H; rw [hy275]; with_reducible exact H2_) | (have H2_ := (Option.bind_some _ _).symm.trans H; with_reducible exact H2_) | with_reducible exact H | (rw [hy275]; exact H) | exact H
                        have Ny275 := Aside0.mk hy275
                        clear hy275
                        have H' := Aside0.mk H
                        clear H
                        have p273 : 0 ≤ (x47_2 : Int) := of_decide_eq_true (by first | (with_reducible assumption) | assumption)
                        have q273 : x47_2 < (l0.length : Int) := of_decide_eq_true (by first | (with_reducible assumption) | assumption)
                        obtain ⟨ad273, A273_3, c273_3, e273, hx273_0, hx273_1, hx273_2, hx273_3, hl273_3, hi273_3⟩ := at_T52 HR0.out x47_2 p273 q273
                        cases e273
                        replace hx273_0 := (HB.out.cell (World.block_lt_of_cell? w _ hx273_0)).trans hx273_0
                        replace hx273_1 := (HB.out.cell (World.block_lt_of_cell? w _ hx273_1)).trans hx273_1
                        replace hx273_2 := (HB.out.cell (World.block_lt_of_cell? w _ hx273_2)).trans hx273_2
                        replace hx273_3 := (HB.out.cell (World.block_lt_of_cell? w _ hx273_3)).trans hx273_3
                        have HR273_3 := Aside0.mk hi273_3
                        have HC273_3 := Aside0.mk hl273_3
                        clear hi273_3 hl273_3
                        replace p273 := eq_true p273
                        replace q273 := eq_true q273
                        go_wp2_with (first | ((with_reducible refine gate_dst (N := 13) rfl ?_); (try (refine gate_guard (by rfl) ?_; dsimp only)); refine box_event ?hg (N := 13) ?hd (cs := #[.int .u8 0, .int .i64 0, .int .i64 0, .slice none 0 0]) (t := 52) ?hr ?_; (case hd => rfl); (case hg => rfl); (case hr => first | (go_simp; done) | (go_simp; rfl)); intro gb274 hg w23 hbox hb; have n0_ := Aside0.mk (Kd.R_below (by (with_reducible repeat (first | apply Kd.R_alloc | apply Kd.R_drewN | apply Kd.R_drew)); exact HO_8.out) hb); have n1_ := Aside0.mk (Kd.R_below (by (with_reducible repeat (first | apply Kd.R_alloc | apply Kd.R_drewN | apply Kd.R_drew)); exact HO_11.out) hb); have n2_ := Aside0.mk (below_step (by repeat (first | (with_reducible first | exact HB.out | apply below_alloc | apply pw_below_drewN | apply below_drew1) | exact HB.out)) hb); have n3_ := Aside0.mk (hbox); have n4_ := Aside0.mk ((by rw [hg]; exact (below_size (by repeat (first | (with_reducible first | exact HB.out | apply below_alloc | apply pw_below_drewN | apply below_drew1) | exact HB.out))) : w.heap.size ≤ gb274)); have n5_ := Aside0.mk ((by rw [hg]; exact (below_size (by repeat (first | (with_reducible first | exact HB.out | apply below_alloc | apply pw_below_drewN | apply below_drew1) | exact HB.out))) : w.heap.size ≤ gb274)); clear HO_8; clear HO_11; clear HB; have HO_8 := n0_; have HO_11 := n1_; have HB := n2_; have BK274 := n3_; have GW274 := n4_; have GE274 := n5_; clear n0_ n1_ n2_ n3_ n4_ n5_; clear hb hbox hg; have hcz24_0 : w23.cell? ⟨gb274, 0, none⟩ = some (.int .u8 0) := (blk_cell BK274.out 0).trans rfl; have hcz24_1 : w23.cell? ⟨gb274, 1, none⟩ = some (.int .i64 0) := (blk_cell BK274.out 1).trans rfl; have hcz24_2 : w23.cell? ⟨gb274, 2, none⟩ = some (.int .i64 0) := (blk_cell BK274.out 2).trans rfl; have hcz24_3 : w23.cell? ⟨gb274, 3, none⟩ = some (.slice none 0 0) := (blk_cell BK274.out 3).trans rfl; have hfz24_0 := blk_frozen BK274.out 0; have hfz24_1 := blk_frozen BK274.out 1; have hfz24_2 := blk_frozen BK274.out 2; have hfz24_3 := blk_frozen BK274.out 3) | ((with_reducible refine gate_builtin (b := .append) (xs := #[.tmp 57, .tmp 59]) rfl ?_); (try (refine gate_guard (by rfl) ?_; dsimp only)); at_builtin; refine Kd.R_append_rows (Kd.int .u8) (w0 := w) w.heap.size rfl (.tmp 57) (.tmp 59) 39 5 (.int .u8 0) 1 rfl Try.underlying39 info5 rfl (by decide) (by omega) u11 x11_2 ((rd_T52 l0 x47_2).f3) _ _ _ (fun k_ => some k_ ≠ (v265 : Value).ownBlock) (fun _ => False) rfl rfl ?aO ?aR (fun _ _ h => h) (fun _ h => h.elim) ?aF ?aB ?aS ?aL ?_; (case aR => exact Kd.C_below HR273_3.out (by repeat (first | (with_reducible first | exact HB.out | apply below_alloc | apply pw_below_drewN | apply below_drew1 | refine below_set ?_ GE274.out) | exact HB.out))); (case aB => exact (by repeat (first | (with_reducible first | exact HB.out | apply below_alloc | apply pw_below_drewN | apply below_drew1 | refine below_set ?_ GE274.out) | exact HB.out))); (case aF => exact (fun k_ hk => Kd.fresh' (Kd.R_lt (by (with_reducible repeat (first | apply Kd.R_alloc | apply Kd.R_drewN | apply Kd.R_drew)); exact (Kd.R_mono (Kd.R_far (p := ⟨gb274, 3, none⟩) (Kd.R_far (p := ⟨gb274, 2, none⟩) (Kd.R_far (p := ⟨gb274, 1, none⟩) (Kd.R_far (p := ⟨gb274, 0, none⟩) (Kd.R_types HO_8.out BK274.out (by decide)) (fun _ hk => hk.2) (.int .u8 ((rd_T52 l0 x47_2).f0))) (fun _ hk => hk.2) (.int .i64 ((rd_T52 l0 x47_2).f1))) (fun _ hk => hk.2) (.int .i64 ((rd_T52 l0 x47_2).f2))) (fun _ hk => hk.2) (.slice A273_3 ((rd_T52 l0 x47_2).f3).length c273_3)) (fun _ h_ => h_.1)))) k_ hk)); (case aO => exact (by (with_reducible repeat (first | apply Kd.R_alloc | apply Kd.R_drewN | apply Kd.R_drew)); exact Kd.R_mono (Kd.R_far (p := ⟨gb274, 3, none⟩) (Kd.R_far (p := ⟨gb274, 2, none⟩) (Kd.R_far (p := ⟨gb274, 1, none⟩) (Kd.R_far (p := ⟨gb274, 0, none⟩) (Kd.R_types HO_11.out BK274.out (by decide)) (fun _ hk => hk.2) (.int .u8 ((rd_T52 l0 x47_2).f0))) (fun _ hk => hk.2) (.int .i64 ((rd_T52 l0 x47_2).f1))) (fun _ hk => hk.2) (.int .i64 ((rd_T52 l0 x47_2).f2))) (fun _ hk => hk.2) (.slice A273_3 ((rd_T52 l0 x47_2).f3).length c273_3)) (fun _ hk => hk.1))); (case aS => exact (below_size (by repeat (first | (with_reducible first | exact HB.out | apply below_alloc | apply pw_below_drewN | apply below_drew1 | refine below_set ?_ GE274.out) | exact HB.out)))); (case aL => have := LMc22.out; omega); intro v276 w25 ho hb hg hat; rw [← Ny275.out] at ho; have n0_ := Aside0.mk (Kd.R_after (ok := (fun _ => True)) (by (with_reducible repeat (first | apply Kd.R_alloc | apply Kd.R_drewN | apply Kd.R_drew)); exact Kd.R_mono (Kd.R_far (p := ⟨gb274, 3, none⟩) (Kd.R_far (p := ⟨gb274, 2, none⟩) (Kd.R_far (p := ⟨gb274, 1, none⟩) (Kd.R_far (p := ⟨gb274, 0, none⟩) (Kd.R_types HO_8.out BK274.out (by decide)) (fun _ hk => hk.2) (.int .u8 ((rd_T52 l0 x47_2).f0))) (fun _ hk => hk.2) (.int .i64 ((rd_T52 l0 x47_2).f1))) (fun _ hk => hk.2) (.int .i64 ((rd_T52 l0 x47_2).f2))) (fun _ hk => hk.2) (.slice A273_3 ((rd_T52 l0 x47_2).f3).length c273_3)) (fun _ hk => ⟨trivial, hk.1⟩)) hg hat); have n1_ := Aside0.mk (blk_grown (g := gb274) (o := .cells #[.int .u8 ((rd_T52 l0 x47_2).f0), .int .i64 ((rd_T52 l0 x47_2).f1), .int .i64 ((rd_T52 l0 x47_2).f2), .slice A273_3 ((rd_T52 l0 x47_2).f3).length c273_3] 52 (0, 0)) (by (with_reducible repeat (first | refine blk_drewN ?_ _ | refine blk_drew ?_ | refine blk_alloc ?_ _)); refine blk_put (cs := #[.int .u8 ((rd_T52 l0 x47_2).f0), .int .i64 ((rd_T52 l0 x47_2).f1), .int .i64 ((rd_T52 l0 x47_2).f2), .slice none 0 0]) ?_ 3 _ rfl; (with_reducible repeat (first | refine blk_drewN ?_ _ | refine blk_drew ?_ | refine blk_alloc ?_ _)); refine blk_put (cs := #[.int .u8 ((rd_T52 l0 x47_2).f0), .int .i64 ((rd_T52 l0 x47_2).f1), .int .i64 0, .slice none 0 0]) ?_ 2 _ rfl; (with_reducible repeat (first | refine blk_drewN ?_ _ | refine blk_drew ?_ | refine blk_alloc ?_ _)); refine blk_put (cs := #[.int .u8 ((rd_T52 l0 x47_2).f0), .int .i64 0, .int .i64 0, .slice none 0 0]) ?_ 1 _ rfl; (with_reducible repeat (first | refine blk_drewN ?_ _ | refine blk_drew ?_ | refine blk_alloc ?_ _)); refine blk_put (cs := #[.int .u8 0, .int .i64 0, .int .i64 0, .slice none 0 0]) ?_ 0 _ rfl; (with_reducible repeat (first | refine blk_drewN ?_ _ | refine blk_drew ?_ | refine blk_alloc ?_ _)); exact BK274.out) hg (Kd.R_ne HO_11.out BK274.out (by decide))); have n2_ := Aside0.mk (hb); have n3_ := Aside0.mk (ho); clear HO_8; clear BK274; clear HB; clear HO_11; have HO_8 := n0_; have BK274 := n1_; have HB := n2_; have HO277 := n3_; clear n0_ n1_ n2_ n3_; clear ho hb hg hat))
                        go_roundg k2
                        case measure => have := HK1.out; have := HK2.out; omega
                        case rel => exact ⟨(y275), (wrap64 (x47_2 + 1)), (by first | rfl | (simp; done) | (simp [*]; done)), H', ⟨by have := HK1.out; have := HK2.out; omega⟩, ⟨by (with_reducible repeat (first | apply Kd.R_alloc | apply Kd.R_drewN | apply Kd.R_drew)); exact Kd.R_mono HO_8.out (fun _ hk => hk.2)⟩, ⟨by (with_reducible repeat (first | apply Kd.R_alloc | apply Kd.R_drewN | apply Kd.R_drew)); exact HO277.out⟩, ⟨by repeat (first | (with_reducible first | exact HB.out | apply below_alloc | apply pw_below_drewN | apply below_drew1 | refine below_set ?_ GE274.out) | exact HB.out)⟩⟩
                      · rw [if_neg c22] at H
                        exact absurd H (by simp)
                    · rw [if_neg c21] at H
                      have c21b0 : (((rd_T52 l0 x47_2).f0) == 1) = false := beq_eq_false_iff_ne.mpr c21
                      have c21b1 : (((rd_T52 l0 x47_2).f0) != 1) = true := bne_iff_ne.mpr c21
                      have HC26 := Aside0.mk H
                      clear H
                      have p273 : 0 ≤ (x47_2 : Int) := of_decide_eq_true (by first | (with_reducible assumption) | assumption)
                      have q273 : x47_2 < (l0.length : Int) := of_decide_eq_true (by first | (with_reducible assumption) | assumption)
                      obtain ⟨ad273, A273_3, c273_3, e273, hx273_0, hx273_1, hx273_2, hx273_3, hl273_3, hi273_3⟩ := at_T52 HR0.out x47_2 p273 q273
                      cases e273
                      replace hx273_0 := (HB.out.cell (World.block_lt_of_cell? w _ hx273_0)).trans hx273_0
                      replace hx273_1 := (HB.out.cell (World.block_lt_of_cell? w _ hx273_1)).trans hx273_1
                      replace hx273_2 := (HB.out.cell (World.block_lt_of_cell? w _ hx273_2)).trans hx273_2
                      replace hx273_3 := (HB.out.cell (World.block_lt_of_cell? w _ hx273_3)).trans hx273_3
                      have HR273_3 := Aside0.mk hi273_3
                      have HC273_3 := Aside0.mk hl273_3
                      clear hi273_3 hl273_3
                      replace p273 := eq_true p273
                      replace q273 := eq_true q273
                      go_upto_region 20 with (first | ((with_reducible refine gate_dst (N := 13) rfl ?_); (try (refine gate_guard (by rfl) ?_; dsimp only)); refine box_event ?hg (N := 13) ?hd (cs := #[.int .u8 0, .int .i64 0, .int .i64 0, .slice none 0 0]) (t := 52) ?hr ?_; (case hd => rfl); (case hg => rfl); (case hr => first | (go_simp; done) | (go_simp; rfl)); intro gb274 hg w27 hbox hb; have n0_ := Aside0.mk (Kd.R_below (by (with_reducible repeat (first | apply Kd.R_alloc | apply Kd.R_drewN | apply Kd.R_drew)); exact HO_8.out) hb); have n1_ := Aside0.mk (Kd.R_below (by (with_reducible repeat (first | apply Kd.R_alloc | apply Kd.R_drewN | apply Kd.R_drew)); exact HO_11.out) hb); have n2_ := Aside0.mk (below_step (by repeat (first | (with_reducible first | exact HB.out | apply below_alloc | apply pw_below_drewN | apply below_drew1) | exact HB.out)) hb); have n3_ := Aside0.mk (hbox); have n4_ := Aside0.mk ((by rw [hg]; exact (below_size (by repeat (first | (with_reducible first | exact HB.out | apply below_alloc | apply pw_below_drewN | apply below_drew1) | exact HB.out))) : w.heap.size ≤ gb274)); have n5_ := Aside0.mk ((by rw [hg]; exact (below_size (by repeat (first | (with_reducible first | exact HB.out | apply below_alloc | apply pw_below_drewN | apply below_drew1) | exact HB.out))) : w.heap.size ≤ gb274)); clear HO_8; clear HO_11; clear HB; have HO_8 := n0_; have HO_11 := n1_; have HB := n2_; have BK274 := n3_; have GW274 := n4_; have GE274 := n5_; clear n0_ n1_ n2_ n3_ n4_ n5_; clear hb hbox hg; have hcz28_0 : w27.cell? ⟨gb274, 0, none⟩ = some (.int .u8 0) := (blk_cell BK274.out 0).trans rfl; have hcz28_1 : w27.cell? ⟨gb274, 1, none⟩ = some (.int .i64 0) := (blk_cell BK274.out 1).trans rfl; have hcz28_2 : w27.cell? ⟨gb274, 2, none⟩ = some (.int .i64 0) := (blk_cell BK274.out 2).trans rfl; have hcz28_3 : w27.cell? ⟨gb274, 3, none⟩ = some (.slice none 0 0) := (blk_cell BK274.out 3).trans rfl; have hfz28_0 := blk_frozen BK274.out 0; have hfz28_1 := blk_frozen BK274.out 1; have hfz28_2 := blk_frozen BK274.out 2; have hfz28_3 := blk_frozen BK274.out 3))
                      (try simp only [Act.put, List.setIfInBounds_toArray, List.set_cons_zero, List.set_cons_succ])
                      go_cut [75] (fun v75 wc => ∃ (kq : Nat) (x75_25 : Bool), v75 = .bool x75_25 ∧ Aside0 (drogherref16_Eval.j2 kq l0 l1 y264 x11_2 (l0.length : Int) x47_2 x75_25 ((rd_T52 l0 x47_2).f0) ((rd_T52 l0 x47_2).f1) ((rd_T52 l0 x47_2).f2) ((rd_T52 l0 x47_2).f3) = some (r1, r2)) ∧ Aside0 (kq ≤ k2) ∧ Aside0 (Kd.R (Kd.int .u8) 5 wc w.heap.size (fun k_ => some k_ ≠ (u11 : Value).ownBlock) v265 y264) ∧ Aside0 (Kd.R (Kd.int .u8) 5 wc w.heap.size (fun k_ => some k_ ≠ (v265 : Value).ownBlock) u11 x11_2) ∧ Aside0 (wc.heap[gb274]? = some (.cells #[.int .u8 ((rd_T52 l0 x47_2).f0), .int .i64 ((rd_T52 l0 x47_2).f1), .int .i64 ((rd_T52 l0 x47_2).f2), (.slice A273_3 ((rd_T52 l0 x47_2).f3).length c273_3)] 52 (0, 0))) ∧ Aside0 (Below w.heap.size w wc))
                      case first =>
                        have H := HC26.out
                        clear HC26
                        by_cases c29 : ((rd_T52 l0 x47_2).f1) > (l1.length : Int)
                        · rw [if_pos c29] at H
                          have c29b0 : decide ((l1.length : Int) < ((rd_T52 l0 x47_2).f1)) = true := decide_eq_true c29
                          clear c29
                          (first | rw [c29b0] | (simp only [i64_w, i32_w]; rw [c29b0]) | skip)
                          have H' := Aside0.mk H
                          clear H
                          have hcz30_0 : w27.cell? ⟨gb274, 0, none⟩ = some (.int .u8 0) := (blk_cell BK274.out 0).trans rfl
                          have hcz30_1 : w27.cell? ⟨gb274, 1, none⟩ = some (.int .i64 0) := (blk_cell BK274.out 1).trans rfl
                          have hcz30_2 : w27.cell? ⟨gb274, 2, none⟩ = some (.int .i64 0) := (blk_cell BK274.out 2).trans rfl
                          have hcz30_3 : w27.cell? ⟨gb274, 3, none⟩ = some (.slice none 0 0) := (blk_cell BK274.out 3).trans rfl
                          have hfz30_0 := blk_frozen BK274.out 0
                          have hfz30_1 := blk_frozen BK274.out 1
                          have hfz30_2 := blk_frozen BK274.out 2
                          have hfz30_3 := blk_frozen BK274.out 3
                          go_wp2
                          go_meet
                          case rel => exact ⟨_, (true), (by first | rfl | (simp; done) | (simp [*]; done)), H', ⟨by have := HK1.out; have := HK2.out; first | omega | exact Nat.le_refl _⟩, ⟨by (with_reducible repeat (first | apply Kd.R_alloc | apply Kd.R_drewN | apply Kd.R_drew)); exact Kd.R_mono (Kd.R_far (p := ⟨gb274, 3, none⟩) (Kd.R_far (p := ⟨gb274, 2, none⟩) (Kd.R_far (p := ⟨gb274, 1, none⟩) (Kd.R_far (p := ⟨gb274, 0, none⟩) (Kd.R_types HO_8.out BK274.out (by decide)) (fun _ hk => hk.2) (.int .u8 ((rd_T52 l0 x47_2).f0))) (fun _ hk => hk.2) (.int .i64 ((rd_T52 l0 x47_2).f1))) (fun _ hk => hk.2) (.int .i64 ((rd_T52 l0 x47_2).f2))) (fun _ hk => hk.2) (.slice A273_3 ((rd_T52 l0 x47_2).f3).length c273_3)) (fun _ hk => hk.1)⟩, ⟨by (with_reducible repeat (first | apply Kd.R_alloc | apply Kd.R_drewN | apply Kd.R_drew)); exact Kd.R_mono (Kd.R_far (p := ⟨gb274, 3, none⟩) (Kd.R_far (p := ⟨gb274, 2, none⟩) (Kd.R_far (p := ⟨gb274, 1, none⟩) (Kd.R_far (p := ⟨gb274, 0, none⟩) (Kd.R_types HO_11.out BK274.out (by decide)) (fun _ hk => hk.2) (.int .u8 ((rd_T52 l0 x47_2).f0))) (fun _ hk => hk.2) (.int .i64 ((rd_T52 l0 x47_2).f1))) (fun _ hk => hk.2) (.int .i64 ((rd_T52 l0 x47_2).f2))) (fun _ hk => hk.2) (.slice A273_3 ((rd_T52 l0 x47_2).f3).length c273_3)) (fun _ hk => hk.1)⟩, ⟨by (with_reducible repeat (first | refine blk_drewN ?_ _ | refine blk_drew ?_ | refine blk_alloc ?_ _)); refine blk_put (cs := #[.int .u8 ((rd_T52 l0 x47_2).f0), .int .i64 ((rd_T52 l0 x47_2).f1), .int .i64 ((rd_T52 l0 x47_2).f2), .slice none 0 0]) ?_ 3 _ rfl; (with_reducible repeat (first | refine blk_drewN ?_ _ | refine blk_drew ?_ | refine blk_alloc ?_ _)); refine blk_put (cs := #[.int .u8 ((rd_T52 l0 x47_2).f0), .int .i64 ((rd_T52 l0 x47_2).f1), .int .i64 0, .slice none 0 0]) ?_ 2 _ rfl; (with_reducible repeat (first | refine blk_drewN ?_ _ | refine blk_drew ?_ | refine blk_alloc ?_ _)); refine blk_put (cs := #[.int .u8 ((rd_T52 l0 x47_2).f0), .int .i64 0, .int .i64 0, .slice none 0 0]) ?_ 1 _ rfl; (with_reducible repeat (first | refine blk_drewN ?_ _ | refine blk_drew ?_ | refine blk_alloc ?_ _)); refine blk_put (cs := #[.int .u8 0, .int .i64 0, .int .i64 0, .slice none 0 0]) ?_ 0 _ rfl; (with_reducible repeat (first | refine blk_drewN ?_ _ | refine blk_drew ?_ | refine blk_alloc ?_ _)); exact BK274.out⟩, ⟨by repeat (first | (with_reducible first | exact HB.out | apply below_alloc | apply pw_below_drewN | apply below_drew1 | refine below_set ?_ GE274.out) | exact HB.out)⟩⟩
                        · rw [if_neg c29] at H
                          have c29b0 : decide ((l1.length : Int) < ((rd_T52 l0 x47_2).f1)) = false := decide_eq_false c29
                          clear c29
                          (first | rw [c29b0] | (simp only [i64_w, i32_w]; rw [c29b0]) | skip)
                          have H' := Aside0.mk H
                          clear H
                          have hcz31_0 : w27.cell? ⟨gb274, 0, none⟩ = some (.int .u8 0) := (blk_cell BK274.out 0).trans rfl
                          have hcz31_1 : w27.cell? ⟨gb274, 1, none⟩ = some (.int .i64 0) := (blk_cell BK274.out 1).trans rfl
                          have hcz31_2 : w27.cell? ⟨gb274, 2, none⟩ = some (.int .i64 0) := (blk_cell BK274.out 2).trans rfl
                          have hcz31_3 : w27.cell? ⟨gb274, 3, none⟩ = some (.slice none 0 0) := (blk_cell BK274.out 3).trans rfl
                          have hfz31_0 := blk_frozen BK274.out 0
                          have hfz31_1 := blk_frozen BK274.out 1
                          have hfz31_2 := blk_frozen BK274.out 2
                          have hfz31_3 := blk_frozen BK274.out 3
                          go_wp2
                          go_meet
                          case rel => exact ⟨_, (decide (((rd_T52 l0 x47_2).f2) > (wrap64 ((l1.length : Int) - ((rd_T52 l0 x47_2).f1))))), (by first | rfl | (simp; done) | (simp [*]; done)), H', ⟨by have := HK1.out; have := HK2.out; first | omega | exact Nat.le_refl _⟩, ⟨by (with_reducible repeat (first | apply Kd.R_alloc | apply Kd.R_drewN | apply Kd.R_drew)); exact Kd.R_mono (Kd.R_far (p := ⟨gb274, 3, none⟩) (Kd.R_far (p := ⟨gb274, 2, none⟩) (Kd.R_far (p := ⟨gb274, 1, none⟩) (Kd.R_far (p := ⟨gb274, 0, none⟩) (Kd.R_types HO_8.out BK274.out (by decide)) (fun _ hk => hk.2) (.int .u8 ((rd_T52 l0 x47_2).f0))) (fun _ hk => hk.2) (.int .i64 ((rd_T52 l0 x47_2).f1))) (fun _ hk => hk.2) (.int .i64 ((rd_T52 l0 x47_2).f2))) (fun _ hk => hk.2) (.slice A273_3 ((rd_T52 l0 x47_2).f3).length c273_3)) (fun _ hk => hk.1)⟩, ⟨by (with_reducible repeat (first | apply Kd.R_alloc | apply Kd.R_drewN | apply Kd.R_drew)); exact Kd.R_mono (Kd.R_far (p := ⟨gb274, 3, none⟩) (Kd.R_far (p := ⟨gb274, 2, none⟩) (Kd.R_far (p := ⟨gb274, 1, none⟩) (Kd.R_far (p := ⟨gb274, 0, none⟩) (Kd.R_types HO_11.out BK274.out (by decide)) (fun _ hk => hk.2) (.int .u8 ((rd_T52 l0 x47_2).f0))) (fun _ hk => hk.2) (.int .i64 ((rd_T52 l0 x47_2).f1))) (fun _ hk => hk.2) (.int .i64 ((rd_T52 l0 x47_2).f2))) (fun _ hk => hk.2) (.slice A273_3 ((rd_T52 l0 x47_2).f3).length c273_3)) (fun _ hk => hk.1)⟩, ⟨by (with_reducible repeat (first | refine blk_drewN ?_ _ | refine blk_drew ?_ | refine blk_alloc ?_ _)); refine blk_put (cs := #[.int .u8 ((rd_T52 l0 x47_2).f0), .int .i64 ((rd_T52 l0 x47_2).f1), .int .i64 ((rd_T52 l0 x47_2).f2), .slice none 0 0]) ?_ 3 _ rfl; (with_reducible repeat (first | refine blk_drewN ?_ _ | refine blk_drew ?_ | refine blk_alloc ?_ _)); refine blk_put (cs := #[.int .u8 ((rd_T52 l0 x47_2).f0), .int .i64 ((rd_T52 l0 x47_2).f1), .int .i64 0, .slice none 0 0]) ?_ 2 _ rfl; (with_reducible repeat (first | refine blk_drewN ?_ _ | refine blk_drew ?_ | refine blk_alloc ?_ _)); refine blk_put (cs := #[.int .u8 ((rd_T52 l0 x47_2).f0), .int .i64 0, .int .i64 0, .slice none 0 0]) ?_ 1 _ rfl; (with_reducible repeat (first | refine blk_drewN ?_ _ | refine blk_drew ?_ | refine blk_alloc ?_ _)); refine blk_put (cs := #[.int .u8 0, .int .i64 0, .int .i64 0, .slice none 0 0]) ?_ 0 _ rfl; (with_reducible repeat (first | refine blk_drewN ?_ _ | refine blk_drew ?_ | refine blk_alloc ?_ _)); exact BK274.out⟩, ⟨by repeat (first | (with_reducible first | exact HB.out | apply below_alloc | apply pw_below_drewN | apply below_drew1 | refine below_set ?_ GE274.out) | exact HB.out)⟩⟩
                      case rest =>
                        clear HC26
                        try clear c1
                        try clear c2
                        try clear p2
                        try clear q2
                        try clear hx2
                        try clear c3
                        try clear c6
                        try clear c6b0
                        try clear p6
                        try clear c7
                        try clear c7b0
                        try clear c8
                        try clear c8b0
                        try clear c10
                        try clear c11
                        try clear c11b0
                        try clear c15
                        try clear c15b0
                        try clear c15b1
                        try clear c18
                        try clear c18b0
                        try clear c19
                        try clear c19b0
                        try clear c20
                        try clear c20b0
                        try clear c21
                        try clear c21b0
                        try clear c21b1
                        try clear c22
                        try clear c26
                        try clear p26
                        try clear q26
                        try clear hx26
                        try clear c27
                        try clear p27
                        try clear q27
                        try clear hx27
                        try clear c29
                        try clear c29b0
                        try clear hcz24_0
                        try clear hcz24_1
                        try clear hcz24_2
                        try clear hcz24_3
                        try clear hcz28_0
                        try clear hcz28_1
                        try clear hcz28_2
                        try clear hcz28_3
                        try clear hcz30_0
                        try clear hcz30_1
                        try clear hcz30_2
                        try clear hcz30_3
                        try clear hcz31_0
                        try clear hcz31_1
                        try clear hcz31_2
                        try clear hcz31_3
                        try clear hfz24_0
                        try clear hfz24_1
                        try clear hfz24_2
                        try clear hfz24_3
                        try clear hfz28_0
                        try clear hfz28_1
                        try clear hfz28_2
                        try clear hfz28_3
                        try clear hfz30_0
                        try clear hfz30_1
                        try clear hfz30_2
                        try clear hfz30_3
                        try clear hfz31_0
                        try clear hfz31_1
                        try clear hfz31_2
                        try clear hfz31_3
                        try clear hx267_0
                        try clear hx267_1
                        try clear hx267_2
                        try clear hx267_3
                        try clear hx269_0
                        try clear hx269_1
                        try clear hx269_2
                        try clear hx269_3
                        try clear hx273_0
                        try clear hx273_1
                        try clear hx273_2
                        try clear hx273_3
                        try clear p2
                        try clear p267
                        try clear p269
                        try clear p273
                        try clear p6
                        try clear q2
                        try clear q267
                        try clear q269
                        try clear q273
                        obtain ⟨kq, x75_25, rfl, HA, HJ25, HO_8, HO_11, BK274, HB⟩ := hcut
                        cases kq with
                        | zero => exact absurd HA.out (by simp [drogherref16_Eval.j2])
                        | succ kj25 =>
                          have H := HA.out
                          clear HA
                          simp only [drogherref16_Eval.j2] at H
                          by_cases c32 : x75_25 = true
                          · subst c32
                            have H1 : (some (y264, 5)) = some (r1, r2) := by rw [if_pos rfl] at H; exact H
                            clear H
                            have H := H1
                            clear H1
                            simp only [Option.some.injEq, Prod.mk.injEq] at H
                            obtain ⟨rfl, rfl⟩ := H
                            go_wp2
                            go_ret2
                            exact ⟨_, by first | rfl | (simp [errW_none, errW_some] <;> rfl) | (simp [*, errW_none, errW_some] <;> rfl), by (with_reducible repeat (first | apply Kd.R_alloc | apply Kd.R_drewN | apply Kd.R_drew)); exact Kd.R_mono HO_8.out (fun _ hk => trivial), by repeat (first | (with_reducible first | exact HB.out | apply below_alloc | apply pw_below_drewN | apply below_drew1 | refine below_set ?_ GE274.out) | exact HB.out)⟩
                          · replace c32 := Bool.eq_false_iff.mpr c32
                            subst c32
                            have H1 : (drogherref16_Eval.l2 kj25 l0 l1 y264 x11_2 0 (l0.length : Int) x47_2 ((rd_T52 l0 x47_2).f0) ((rd_T52 l0 x47_2).f1) ((rd_T52 l0 x47_2).f2) ((rd_T52 l0 x47_2).f3)) = some (r1, r2) := by rw [if_neg (show ¬ (false = true) by decide)] at H; exact H
                            clear H
                            have H := H1
                            clear H1
                            have H' := Aside0.mk H
                            clear H
                            go_wp2
                            go_loopg [11, 14] kj25 (fun kq v11 v14 w' => ∃ (x11_4 : List Int) (x14_4 : Int), v14 = .int .i64 x14_4 ∧ Aside0 (drogherref16_Eval.l2 kq l0 l1 y264 x11_4 x14_4 (l0.length : Int) x47_2 ((rd_T52 l0 x47_2).f0) ((rd_T52 l0 x47_2).f1) ((rd_T52 l0 x47_2).f2) ((rd_T52 l0 x47_2).f3) = some (r1, r2)) ∧ Aside0 (kq ≤ kj25) ∧ Aside0 (Kd.R (Kd.int .u8) 5 w' w.heap.size (fun k_ => some k_ ≠ (v11 : Value).ownBlock) v265 y264) ∧ Aside0 (Kd.R (Kd.int .u8) 5 w' w.heap.size (fun k_ => some k_ ≠ (v265 : Value).ownBlock) v11 x11_4) ∧ Aside0 (w'.heap[gb274]? = some (.cells #[.int .u8 ((rd_T52 l0 x47_2).f0), .int .i64 ((rd_T52 l0 x47_2).f1), .int .i64 ((rd_T52 l0 x47_2).f2), (.slice A273_3 ((rd_T52 l0 x47_2).f3).length c273_3)] 52 (0, 0))) ∧ Aside0 (Below w.heap.size w w'))
                            case atStart => exact ⟨(x11_2), (0), (by first | rfl | (simp; done) | (simp [*]; done)), H', ⟨Nat.le_refl _⟩, ⟨by (with_reducible repeat (first | apply Kd.R_alloc | apply Kd.R_drewN | apply Kd.R_drew)); exact HO_8.out⟩, ⟨by (with_reducible repeat (first | apply Kd.R_alloc | apply Kd.R_drewN | apply Kd.R_drew)); exact HO_11.out⟩, ⟨by (with_reducible repeat (first | refine blk_drewN ?_ _ | refine blk_drew ?_ | refine blk_alloc ?_ _)); exact BK274.out⟩, ⟨by repeat (first | (with_reducible first | exact HB.out | apply below_alloc | apply pw_below_drewN | apply below_drew1 | refine below_set ?_ GE274.out) | exact HB.out)⟩⟩
                            case round =>
                              clear H'
                              try clear c1
                              try clear c2
                              try clear p2
                              try clear q2
                              try clear hx2
                              try clear c3
                              try clear c6
                              try clear c6b0
                              try clear p6
                              try clear c7
                              try clear c7b0
                              try clear c8
                              try clear c8b0
                              try clear c10
                              try clear c11
                              try clear c11b0
                              try clear c15
                              try clear c15b0
                              try clear c15b1
                              try clear c18
                              try clear c18b0
                              try clear c19
                              try clear c19b0
                              try clear c20
                              try clear c20b0
                              try clear c21
                              try clear c21b0
                              try clear c21b1
                              try clear c22
                              try clear c26
                              try clear p26
                              try clear q26
                              try clear hx26
                              try clear c27
                              try clear p27
                              try clear q27
                              try clear hx27
                              try clear c29
                              try clear c29b0
                              try clear c32
                              try clear hcz24_0
                              try clear hcz24_1
                              try clear hcz24_2
                              try clear hcz24_3
                              try clear hcz28_0
                              try clear hcz28_1
                              try clear hcz28_2
                              try clear hcz28_3
                              try clear hcz30_0
                              try clear hcz30_1
                              try clear hcz30_2
                              try clear hcz30_3
                              try clear hcz31_0
                              try clear hcz31_1
                              try clear hcz31_2
                              try clear hcz31_3
                              try clear hfz24_0
                              try clear hfz24_1
                              try clear hfz24_2
                              try clear hfz24_3
                              try clear hfz28_0
                              try clear hfz28_1
                              try clear hfz28_2
                              try clear hfz28_3
                              try clear hfz30_0
                              try clear hfz30_1
                              try clear hfz30_2
                              try clear hfz30_3
                              try clear hfz31_0
                              try clear hfz31_1
                              try clear hfz31_2
                              try clear hfz31_3
                              try clear hx267_0
                              try clear hx267_1
                              try clear hx267_2
                              try clear hx267_3
                              try clear hx269_0
                              try clear hx269_1
                              try clear hx269_2
                              try clear hx269_3
                              try clear hx273_0
                              try clear hx273_1
                              try clear hx273_2
                              try clear hx273_3
                              try clear p2
                              try clear p26
                              try clear p267
                              try clear p269
                              try clear p27
                              try clear p273
                              try clear p6
                              try clear q2
                              try clear q26
                              try clear q267
                              try clear q269
                              try clear q27
                              try clear q273
                              obtain ⟨x11_4, x14_4, rfl, HA, HK4, HO_8, HO_11, BK274, HB⟩ := hrel
                              cases gk with
                              | zero => exact absurd HA.out (by simp [drogherref16_Eval.l2])
                              | succ k4 =>
                                have H := HA.out
                                clear HA
                                simp only [drogherref16_Eval.l2] at H
                                by_cases c33 : x14_4 < ((rd_T52 l0 x47_2).f2)
                                · rw [if_pos c33] at H
                                  have c33b0 : decide (x14_4 < ((rd_T52 l0 x47_2).f2)) = true := decide_eq_true c33
                                  clear c33
                                  obtain ⟨ji34, hji34⟩ : ∃ j_ : Int, (wrap64 (((rd_T52 l0 x47_2).f1) + x14_4)) = j_ := ⟨_, rfl⟩
                                  replace H : (if 0 ≤ (ji34) then (if (ji34) < (l1.length : Int) then (if ((rd_T52 l0 x47_2).f0) = 3 then (if 0 ≤ x14_4 then (if x14_4 < (((rd_T52 l0 x47_2).f3).length : Int) then (if x11_4.length < 140737488355328 then (drogherref16_Eval.l2 k4 l0 l1 y264 (x11_4 ++ [((rd l1 (ji34)) + (rd ((rd_T52 l0 x47_2).f3) x14_4)) % 256]) (wrap64 (x14_4 + 1)) (l0.length : Int) x47_2 ((rd_T52 l0 x47_2).f0) ((rd_T52 l0 x47_2).f1) ((rd_T52 l0 x47_2).f2) ((rd_T52 l0 x47_2).f3)) else (none)) else (none)) else (none)) else (if x11_4.length < 140737488355328 then (drogherref16_Eval.l2 k4 l0 l1 y264 (x11_4 ++ [rd l1 (ji34)]) (wrap64 (x14_4 + 1)) (l0.length : Int) x47_2 ((rd_T52 l0 x47_2).f0) ((rd_T52 l0 x47_2).f1) ((rd_T52 l0 x47_2).f2) ((rd_T52 l0 x47_2).f3)) else (none))) else (none)) else (none)) = some (r1, r2) := by first | (rw [hji34] at H; exact H) | (simp only [hji34] at H ⊢; exact H)
                                  have hji34w : (IntKind.i64.wrap (((rd_T52 l0 x47_2).f1) + x14_4)) = ji34 := (i64_w _).trans hji34
                                  by_cases c35 : 0 ≤ (ji34)
                                  · rw [if_pos c35] at H
                                    have c35b0 : decide (0 ≤ (ji34)) = true := decide_eq_true c35
                                    clear c35
                                    by_cases c36 : (ji34) < (l1.length : Int)
                                    · rw [if_pos c36] at H
                                      have c36b0 : decide ((ji34) < (l1.length : Int)) = true := decide_eq_true c36
                                      clear c36
                                      by_cases c37 : ((rd_T52 l0 x47_2).f0) = 3
                                      · rw [if_pos c37] at H
                                        have c37b0 : (((rd_T52 l0 x47_2).f0) == 3) = true := beq_iff_eq.mpr c37
                                        have c37b1 : (((rd_T52 l0 x47_2).f0) != 3) = false := bne_eq_false_iff_eq.mpr c37
                                        clear c37
                                        by_cases c38 : 0 ≤ x14_4
                                        · rw [if_pos c38] at H
                                          have c38b0 : decide (0 ≤ x14_4) = true := decide_eq_true c38
                                          clear c38
                                          by_cases c39 : x14_4 < (((rd_T52 l0 x47_2).f3).length : Int)
                                          · rw [if_pos c39] at H
                                            have c39b0 : decide (x14_4 < (((rd_T52 l0 x47_2).f3).length : Int)) = true := decide_eq_true c39
                                            clear c39
                                            by_cases c40 : x11_4.length < 140737488355328
                                            · rw [if_pos c40] at H
                                              have LMc40 := Aside0.mk c40
                                              clear c40
                                              obtain ⟨y280, hy280⟩ : ∃ y_ : List Int, y_ = (x11_4 ++ [((rd l1 (ji34)) + (rd ((rd_T52 l0 x47_2).f3) x14_4)) % 256]) := ⟨_, rfl⟩
                                              replace H : (drogherref16_Eval.l2 k4 l0 l1 y264 y280 (wrap64 (x14_4 + 1)) (l0.length : Int) x47_2 ((rd_T52 l0 x47_2).f0) ((rd_T52 l0 x47_2).f1) ((rd_T52 l0 x47_2).f2) ((rd_T52 l0 x47_2).f3)) = some (r1, r2) := by first | (rw [hy280]; with_reducible exact H) | (have H2_ := (Option.bind_some _ _).symm.trans H; rw [hy280]; with_reducible exact H2_) | (have H2_ := (Option.bind_some _ _).symm.trans H; with_reducible exact H2_) | with_reducible exact H | (rw [hy280]; exact H) | exact H
                                              have Ny280 := Aside0.mk hy280
                                              clear hy280
                                              have H' := Aside0.mk H
                                              clear H
                                              have hcz41_0 : wr.cell? ⟨gb274, 0, none⟩ = some (.int .u8 ((rd_T52 l0 x47_2).f0)) := (blk_cell BK274.out 0).trans rfl
                                              have hcz41_1 : wr.cell? ⟨gb274, 1, none⟩ = some (.int .i64 ((rd_T52 l0 x47_2).f1)) := (blk_cell BK274.out 1).trans rfl
                                              have hcz41_2 : wr.cell? ⟨gb274, 2, none⟩ = some (.int .i64 ((rd_T52 l0 x47_2).f2)) := (blk_cell BK274.out 2).trans rfl
                                              have hcz41_3 : wr.cell? ⟨gb274, 3, none⟩ = some (.slice A273_3 ((rd_T52 l0 x47_2).f3).length c273_3) := (blk_cell BK274.out 3).trans rfl
                                              have hfz41_0 := blk_frozen BK274.out 0
                                              have hfz41_1 := blk_frozen BK274.out 1
                                              have hfz41_2 := blk_frozen BK274.out 2
                                              have hfz41_3 := blk_frozen BK274.out 3
                                              have p278 : 0 ≤ ((ji34) : Int) := of_decide_eq_true (by first | (with_reducible assumption) | assumption)
                                              have q278 : (ji34) < (l1.length : Int) := of_decide_eq_true (by first | (with_reducible assumption) | assumption)
                                              obtain ⟨ad278, e278, hx278_0⟩ := Kd.at_int HR1.out (ji34) p278 q278
                                              cases e278
                                              replace hx278_0 := (HB.out.cell (World.block_lt_of_cell? w _ hx278_0)).trans hx278_0
                                              replace p278 := eq_true p278
                                              replace q278 := eq_true q278
                                              have p279 : 0 ≤ (x14_4 : Int) := of_decide_eq_true (by first | (with_reducible assumption) | assumption)
                                              have q279 : x14_4 < (((rd_T52 l0 x47_2).f3).length : Int) := of_decide_eq_true (by first | (with_reducible assumption) | assumption)
                                              obtain ⟨ad279, e279, hx279_0⟩ := Kd.at_int HR273_3.out x14_4 p279 q279
                                              cases e279
                                              replace hx279_0 := (HB.out.cell (World.block_lt_of_cell? w _ hx279_0)).trans hx279_0
                                              replace p279 := eq_true p279
                                              replace q279 := eq_true q279
                                              go_wp2_with (first | ((with_reducible refine gate_builtin (b := .append) (xs := #[.tmp 100, .tmp 102]) rfl ?_); (try (refine gate_guard (by rfl) ?_; dsimp only)); at_builtin; refine Kd.R_append (Kd.int .u8) (w0 := w) w.heap.size rfl (.tmp 100) (.tmp 102) 39 5 (.int .u8 0) 1 rfl Try.underlying39 info5 rfl (by decide) (by omega) u11 x11_4 (((rd l1 (ji34)) + (rd ((rd_T52 l0 x47_2).f3) x14_4)) % 256) [.int .u8 (((rd l1 (ji34)) + (rd ((rd_T52 l0 x47_2).f3) x14_4)) % 256)] (fun k_ => some k_ ≠ (v265 : Value).ownBlock) (fun _ => False) rfl rfl ?aP (fun _ hk => hk.elim) ?aF ?aO ?aB ?aS ?aL ?_; (case aP => exact rfl); (case aB => exact (by repeat (first | (with_reducible first | exact HB.out | apply below_alloc | apply pw_below_drewN | apply below_drew1 | refine below_set ?_ GE274.out) | exact HB.out))); (case aF => exact (fun k_ hk => Kd.fresh' (Kd.R_lt (by (with_reducible repeat (first | apply Kd.R_alloc | apply Kd.R_drewN | apply Kd.R_drew)); exact HO_8.out)) k_ hk)); (case aO => exact (by (with_reducible repeat (first | apply Kd.R_alloc | apply Kd.R_drewN | apply Kd.R_drew)); exact HO_11.out)); (case aS => exact (below_size (by repeat (first | (with_reducible first | exact HB.out | apply below_alloc | apply pw_below_drewN | apply below_drew1 | refine below_set ?_ GE274.out) | exact HB.out)))); (case aL => have := LMc40.out; omega); intro v281 w42 ho hb hg hat; rw [← Ny280.out] at ho; have n0_ := Aside0.mk (Kd.R_after (ok := (fun _ => True)) (by (with_reducible repeat (first | apply Kd.R_alloc | apply Kd.R_drewN | apply Kd.R_drew)); exact Kd.R_mono HO_8.out (fun _ hk => ⟨trivial, hk⟩)) hg hat); have n1_ := Aside0.mk (blk_grown (g := gb274) (o := .cells #[.int .u8 ((rd_T52 l0 x47_2).f0), .int .i64 ((rd_T52 l0 x47_2).f1), .int .i64 ((rd_T52 l0 x47_2).f2), .slice (some ad279) ((rd_T52 l0 x47_2).f3).length c273_3] 52 (0, 0)) (by (with_reducible repeat (first | refine blk_drewN ?_ _ | refine blk_drew ?_ | refine blk_alloc ?_ _)); exact BK274.out) hg (Kd.R_ne HO_11.out BK274.out (by decide))); have n2_ := Aside0.mk (hb); have n3_ := Aside0.mk (ho); clear HO_8; clear BK274; clear HB; clear HO_11; have HO_8 := n0_; have BK274 := n1_; have HB := n2_; have HO282 := n3_; clear n0_ n1_ n2_ n3_; clear ho hb hg hat))
                                              go_roundg k4
                                              case measure => have := HK1.out; have := HK2.out; have := HJ25.out; have := HK4.out; omega
                                              case rel => exact ⟨(y280), (wrap64 (x14_4 + 1)), (by first | rfl | (simp; done) | (simp [*]; done)), H', ⟨by have := HK1.out; have := HK2.out; have := HJ25.out; have := HK4.out; omega⟩, ⟨by (with_reducible repeat (first | apply Kd.R_alloc | apply Kd.R_drewN | apply Kd.R_drew)); exact Kd.R_mono HO_8.out (fun _ hk => hk.2)⟩, ⟨by (with_reducible repeat (first | apply Kd.R_alloc | apply Kd.R_drewN | apply Kd.R_drew)); exact HO282.out⟩, ⟨by (with_reducible repeat (first | refine blk_drewN ?_ _ | refine blk_drew ?_ | refine blk_alloc ?_ _)); exact BK274.out⟩, ⟨by repeat (first | (with_reducible first | exact HB.out | apply below_alloc | apply pw_below_drewN | apply below_drew1 | refine below_set ?_ GE274.out) | exact HB.out)⟩⟩
                                            · rw [if_neg c40] at H
                                              exact absurd H (by simp)
                                          · rw [if_neg c39] at H
                                            exact absurd H (by simp)
                                        · rw [if_neg c38] at H
                                          exact absurd H (by simp)
                                      · rw [if_neg c37] at H
                                        have c37b0 : (((rd_T52 l0 x47_2).f0) == 3) = false := beq_eq_false_iff_ne.mpr c37
                                        have c37b1 : (((rd_T52 l0 x47_2).f0) != 3) = true := bne_iff_ne.mpr c37
                                        by_cases c43 : x11_4.length < 140737488355328
                                        · rw [if_pos c43] at H
                                          have LMc43 := Aside0.mk c43
                                          clear c43
                                          obtain ⟨y283, hy283⟩ : ∃ y_ : List Int, y_ = (x11_4 ++ [rd l1 (ji34)]) := ⟨_, rfl⟩
                                          replace H : (drogherref16_Eval.l2 k4 l0 l1 y264 y283 (wrap64 (x14_4 + 1)) (l0.length : Int) x47_2 ((rd_T52 l0 x47_2).f0) ((rd_T52 l0 x47_2).f1) ((rd_T52 l0 x47_2).f2) ((rd_T52 l0 x47_2).f3)) = some (r1, r2) := by first | (rw [hy283]; with_reducible exact H) | (have H2_ := (Option.bind_some _ _).symm.trans H; rw [hy283]; with_reducible exact H2_) | (have H2_ := (Option.bind_some _ _).symm.trans H; with_reducible exact H2_) | with_reducible exact H | (rw [hy283]; exact H) | exact H
                                          have Ny283 := Aside0.mk hy283
                                          clear hy283
                                          have H' := Aside0.mk H
                                          clear H
                                          have hcz44_0 : wr.cell? ⟨gb274, 0, none⟩ = some (.int .u8 ((rd_T52 l0 x47_2).f0)) := (blk_cell BK274.out 0).trans rfl
                                          have hcz44_1 : wr.cell? ⟨gb274, 1, none⟩ = some (.int .i64 ((rd_T52 l0 x47_2).f1)) := (blk_cell BK274.out 1).trans rfl
                                          have hcz44_2 : wr.cell? ⟨gb274, 2, none⟩ = some (.int .i64 ((rd_T52 l0 x47_2).f2)) := (blk_cell BK274.out 2).trans rfl
                                          have hcz44_3 : wr.cell? ⟨gb274, 3, none⟩ = some (.slice A273_3 ((rd_T52 l0 x47_2).f3).length c273_3) := (blk_cell BK274.out 3).trans rfl
                                          have hfz44_0 := blk_frozen BK274.out 0
                                          have hfz44_1 := blk_frozen BK274.out 1
                                          have hfz44_2 := blk_frozen BK274.out 2
                                          have hfz44_3 := blk_frozen BK274.out 3
                                          have p278 : 0 ≤ ((ji34) : Int) := of_decide_eq_true (by first | (with_reducible assumption) | assumption)
                                          have q278 : (ji34) < (l1.length : Int) := of_decide_eq_true (by first | (with_reducible assumption) | assumption)
                                          obtain ⟨ad278, e278, hx278_0⟩ := Kd.at_int HR1.out (ji34) p278 q278
                                          cases e278
                                          replace hx278_0 := (HB.out.cell (World.block_lt_of_cell? w _ hx278_0)).trans hx278_0
                                          replace p278 := eq_true p278
                                          replace q278 := eq_true q278
                                          go_wp2_with (first | ((with_reducible refine gate_builtin (b := .append) (xs := #[.tmp 100, .tmp 102]) rfl ?_); (try (refine gate_guard (by rfl) ?_; dsimp only)); at_builtin; refine Kd.R_append (Kd.int .u8) (w0 := w) w.heap.size rfl (.tmp 100) (.tmp 102) 39 5 (.int .u8 0) 1 rfl Try.underlying39 info5 rfl (by decide) (by omega) u11 x11_4 (rd l1 (ji34)) [.int .u8 (rd l1 (ji34))] (fun k_ => some k_ ≠ (v265 : Value).ownBlock) (fun _ => False) rfl rfl ?aP (fun _ hk => hk.elim) ?aF ?aO ?aB ?aS ?aL ?_; (case aP => exact rfl); (case aB => exact (by repeat (first | (with_reducible first | exact HB.out | apply below_alloc | apply pw_below_drewN | apply below_drew1 | refine below_set ?_ GE274.out) | exact HB.out))); (case aF => exact (fun k_ hk => Kd.fresh' (Kd.R_lt (by (with_reducible repeat (first | apply Kd.R_alloc | apply Kd.R_drewN | apply Kd.R_drew)); exact HO_8.out)) k_ hk)); (case aO => exact (by (with_reducible repeat (first | apply Kd.R_alloc | apply Kd.R_drewN | apply Kd.R_drew)); exact HO_11.out)); (case aS => exact (below_size (by repeat (first | (with_reducible first | exact HB.out | apply below_alloc | apply pw_below_drewN | apply below_drew1 | refine below_set ?_ GE274.out) | exact HB.out)))); (case aL => have := LMc43.out; omega); intro v284 w45 ho hb hg hat; rw [← Ny283.out] at ho; have n0_ := Aside0.mk (Kd.R_after (ok := (fun _ => True)) (by (with_reducible repeat (first | apply Kd.R_alloc | apply Kd.R_drewN | apply Kd.R_drew)); exact Kd.R_mono HO_8.out (fun _ hk => ⟨trivial, hk⟩)) hg hat); have n1_ := Aside0.mk (blk_grown (g := gb274) (o := .cells #[.int .u8 ((rd_T52 l0 x47_2).f0), .int .i64 ((rd_T52 l0 x47_2).f1), .int .i64 ((rd_T52 l0 x47_2).f2), .slice A273_3 ((rd_T52 l0 x47_2).f3).length c273_3] 52 (0, 0)) (by (with_reducible repeat (first | refine blk_drewN ?_ _ | refine blk_drew ?_ | refine blk_alloc ?_ _)); exact BK274.out) hg (Kd.R_ne HO_11.out BK274.out (by decide))); have n2_ := Aside0.mk (hb); have n3_ := Aside0.mk (ho); clear HO_8; clear BK274; clear HB; clear HO_11; have HO_8 := n0_; have BK274 := n1_; have HB := n2_; have HO285 := n3_; clear n0_ n1_ n2_ n3_; clear ho hb hg hat))
                                          go_roundg k4
                                          case measure => have := HK1.out; have := HK2.out; have := HJ25.out; have := HK4.out; omega
                                          case rel => exact ⟨(y283), (wrap64 (x14_4 + 1)), (by first | rfl | (simp; done) | (simp [*]; done)), H', ⟨by have := HK1.out; have := HK2.out; have := HJ25.out; have := HK4.out; omega⟩, ⟨by (with_reducible repeat (first | apply Kd.R_alloc | apply Kd.R_drewN | apply Kd.R_drew)); exact Kd.R_mono HO_8.out (fun _ hk => hk.2)⟩, ⟨by (with_reducible repeat (first | apply Kd.R_alloc | apply Kd.R_drewN | apply Kd.R_drew)); exact HO285.out⟩, ⟨by (with_reducible repeat (first | refine blk_drewN ?_ _ | refine blk_drew ?_ | refine blk_alloc ?_ _)); exact BK274.out⟩, ⟨by repeat (first | (with_reducible first | exact HB.out | apply below_alloc | apply pw_below_drewN | apply below_drew1 | refine below_set ?_ GE274.out) | exact HB.out)⟩⟩
                                        · rw [if_neg c43] at H
                                          exact absurd H (by simp)
                                    · rw [if_neg c36] at H
                                      exact absurd H (by simp)
                                  · rw [if_neg c35] at H
                                    exact absurd H (by simp)
                                · rw [if_neg c33] at H
                                  have c33b0 : decide (x14_4 < ((rd_T52 l0 x47_2).f2)) = false := decide_eq_false c33
                                  clear c33
                                  have H' := Aside0.mk H
                                  clear H
                                  have hcz46_0 : wr.cell? ⟨gb274, 0, none⟩ = some (.int .u8 ((rd_T52 l0 x47_2).f0)) := (blk_cell BK274.out 0).trans rfl
                                  have hcz46_1 : wr.cell? ⟨gb274, 1, none⟩ = some (.int .i64 ((rd_T52 l0 x47_2).f1)) := (blk_cell BK274.out 1).trans rfl
                                  have hcz46_2 : wr.cell? ⟨gb274, 2, none⟩ = some (.int .i64 ((rd_T52 l0 x47_2).f2)) := (blk_cell BK274.out 2).trans rfl
                                  have hcz46_3 : wr.cell? ⟨gb274, 3, none⟩ = some (.slice A273_3 ((rd_T52 l0 x47_2).f3).length c273_3) := (blk_cell BK274.out 3).trans rfl
                                  have hfz46_0 := blk_frozen BK274.out 0
                                  have hfz46_1 := blk_frozen BK274.out 1
                                  have hfz46_2 := blk_frozen BK274.out 2
                                  have hfz46_3 := blk_frozen BK274.out 3
                                  go_wp2
                                  go_roundg k4
                                  case measure => have := HK1.out; have := HK2.out; have := HJ25.out; have := HK4.out; omega
                                  case rel => exact ⟨(x11_4), (wrap64 (x47_2 + 1)), (by first | rfl | (simp; done) | (simp [*]; done)), H', ⟨by have := HK1.out; have := HK2.out; have := HJ25.out; have := HK4.out; omega⟩, ⟨by (with_reducible repeat (first | apply Kd.R_alloc | apply Kd.R_drewN | apply Kd.R_drew)); exact HO_8.out⟩, ⟨by (with_reducible repeat (first | apply Kd.R_alloc | apply Kd.R_drewN | apply Kd.R_drew)); exact HO_11.out⟩, ⟨by repeat (first | (with_reducible first | exact HB.out | apply below_alloc | apply pw_below_drewN | apply below_drew1 | refine below_set ?_ GE274.out) | exact HB.out)⟩⟩
                  · rw [if_neg c20] at H
                    exact absurd H (by simp)
                · rw [if_neg c19] at H
                  exact absurd H (by simp)
              · rw [if_neg c18] at H
                have c18b0 : decide (x47_2 < (l0.length : Int)) = false := decide_eq_false c18
                clear c18
                simp only [Option.some.injEq, Prod.mk.injEq] at H
                obtain ⟨rfl, rfl⟩ := H
                go_wp2
                go_ret2
                exact ⟨_, by first | rfl | (simp [errW_none, errW_some] <;> rfl) | (simp [*, errW_none, errW_some] <;> rfl), by (with_reducible repeat (first | apply Kd.R_alloc | apply Kd.R_drewN | apply Kd.R_drew)); exact Kd.R_mono HO_11.out (fun _ hk => trivial), by repeat (first | (with_reducible first | exact HB.out | apply below_alloc | apply pw_below_drewN | apply below_drew1) | exact HB.out)⟩
        · rw [if_neg c15] at H
          have c15b0 : (x9_1 == a2) = false := beq_eq_false_iff_ne.mpr c15
          have c15b1 : (x9_1 != a2) = true := bne_iff_ne.mpr c15
          simp only [Option.some.injEq, Prod.mk.injEq] at H
          obtain ⟨rfl, rfl⟩ := H
          go_wp2
          go_ret2
          exact ⟨_, by first | rfl | (simp [errW_none, errW_some] <;> rfl) | (simp [*, errW_none, errW_some] <;> rfl), by (with_reducible repeat (first | apply Kd.R_alloc | apply Kd.R_drewN | apply Kd.R_drew)); exact HO_8.out, by repeat (first | (with_reducible first | exact HB.out | apply below_alloc | apply pw_below_drewN | apply below_drew1) | exact HB.out)⟩

end Go.Proofs.Ytbpdpgigpooacaa.PD
