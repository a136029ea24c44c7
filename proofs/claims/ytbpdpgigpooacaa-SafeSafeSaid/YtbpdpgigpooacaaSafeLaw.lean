/-
  The law of the safe order, in plain words: no program in sight.
-/
import Derived.Test.YtbpdpgigpooacaaPDx22
import Derived.Test.YtbpdpgigpooacaaEvalRef
import Derived.Test.YtbpdpgigpooacaaSafeCore
import Derived.Test.YtbpdpgigpooacaaAwake20
namespace Go.Proofs.Ytbpdpgigpooacaa.PD
open Go.RowKit Go.Proofs.YtbpdpgigpooacaaW.PrintWords Go.Proofs.YtbpdpgigpooacaaW.PrintLast Go.Proofs.YtbpdpgigpooacaaW.PrintMore

theorem done_start (plans : List (List S52)) (old : List Int) (b new : Int) : Done plans old b new (max old.length new.toNat) [] (image0 old new) :=
  ⟨by unfold image0; rw [List.length_append, List.length_replicate]; omega, fun _ _ _ => rfl, fun i h => by simp at h⟩

theorem block_cut {im : List Int} {b new : Int} {i : Nat} (hb : 128 ≤ b ∧ b ≤ 4096) (hi : i ≤ 4096) (hib : (i : Int) * b < new) (hn : new ≤ 100000) (hl : new.toNat ≤ im.length) : drogherref17_Block.f (im.take new.toNat) b i = some ((im.drop ((i : Int) * b).toNat).take (sizeOf i b new).toNat) := by
  have h0 : 0 ≤ (i : Int) * b := Int.mul_nonneg (by omega) (by omega)
  have e : ((i : Int) + 1) * b = i * b + b := by rw [Int.add_mul, Int.one_mul]
  have hlen : (im.take new.toNat).length = new.toNat := by rw [List.length_take]; omega
  unfold drogherref17_Block.f
  rw [hlen, if_pos ⟨by omega, by omega, by omega, by omega, by omega, by omega⟩, e, List.take_take, List.drop_take]
  congr 2
  unfold sizeOf
  omega

theorem safe_l0 (old : List Int) (plans : List (List S52)) (b new : Int) (order im : List Int) (hb : 128 ≤ b ∧ b ≤ 4096) (hn : new ≤ 5000) (ho : old.length ≤ 5000) (hp : plans.length ≤ 100) (hl : ∀ l ∈ plans, l.length ≤ 100) (hd : Done plans old b new (max old.length new.toNat) order im)
    (hin : ∀ i : Nat, i < plans.length → (i : Int) ∈ order ∧ (i : Int) * b < new) :
    ∀ (m i k : Nat), i + m = plans.length → m + 430300 ≤ k → drogherlaw20_SafeSafe.l0 k old plans b (im.take new.toNat) i = some true
  | 0, i, k + 1, h, hk => by
    simp only [drogherlaw20_SafeSafe.l0]
    rw [if_neg (by omega), awake20]
    rfl
  | m + 1, i, k + 1, h, hk => by
    have ih := safe_l0 old plans b new order im hb hn ho hp hl hd hin m (i + 1) k (by omega) (by omega)
    obtain ⟨hi, hib⟩ := hin i (by omega)
    obtain ⟨m1, m2⟩ := hd.made i hi
    have h0 : 0 ≤ (i : Int) * b := Int.mul_nonneg (by omega) (by omega)
    have hlm := hd.len
    have hs0 : 0 ≤ sizeOf i b new ∧ sizeOf i b new ≤ 4096 ∧ (i : Int) * b + sizeOf i b new ≤ new := by unfold sizeOf; omega
    have hlen : ((evalE (rd_L4 plans i) old (sizeOf i b new)).1.length : Int) = sizeOf i b new := by
      rw [← m2, List.length_take, List.length_drop]
      omega
    have hrl : (rd_L4 plans i).length ≤ 100 := by rw [rdL4 (by omega)]; exact hl _ (List.getElem_mem _)
    simp only [drogherlaw20_SafeSafe.l0]
    rw [if_pos (by omega), block_cut hb (by omega) hib (by omega) (by omega), m2, Option.bind_some, if_pos (by omega), hlen, ref_eval _ _ _ (by omega) (by omega) hrl (by omega), Option.bind_some, if_pos m1, if_pos rfl, wrs i (by omega)]
    exact ih
  | 0, _, 0, _, hk => by omega
  | _ + 1, _, 0, _, hk => by omega

theorem safe_safe_law (b : List Int) (plans : List (List S52)) (order : List Int) (bl new : Int) : drogherlaw20_SafeSafe.f 700000 b plans order bl new = some true := by
  have key : ∀ x, x = true → drogherlaw20_SafeSafe.j0 700000 b plans order bl new x = some true := fun x hx => by
    rw [hx]
    simp [drogherlaw20_SafeSafe.j0, awake20]
  unfold drogherlaw20_SafeSafe.f
  rw [greats_f _ (by omega), Option.bind_some]
  cases hg : greats plans with
  | true => rw [if_pos rfl]; exact key _ rfl
  | false =>
    obtain ⟨hn, hl⟩ := not_greats hg
    have hl' : ∀ l ∈ plans, l.length ≤ 100 := fun l h => by have := (hl l h).1; omega
    rw [if_neg (by simp)]
    by_cases c1 : (order.length : Int) > 60
    · rw [if_pos c1]; exact key _ rfl
    by_cases c2 : (b.length : Int) > 5000
    · rw [if_neg c1, if_pos c2]; exact key _ rfl
    by_cases c3 : new > 5000
    · rw [if_neg c1, if_neg c2, if_pos c3]; exact key _ rfl
    rw [if_neg c1, if_neg c2, if_neg c3]
    have hC : safe_Check.f plans order bl b.length new = some (if aheadE plans.length order bl b.length new = 0 then checkE plans bl b.length new order (List.replicate plans.length false) else aheadE plans.length order bl b.length new) := by
      unfold safe_Check.f
      rw [if_pos ⟨by omega, hl', by omega⟩]
    rw [hC, Option.bind_some]
    by_cases hz : aheadE plans.length order bl b.length new = 0
    · rw [if_pos hz]
      by_cases hc : checkE plans bl b.length new order (List.replicate plans.length false) = 0
      · rw [hc]
        obtain ⟨hr, hbl, hon⟩ := ahead_once hz
        obtain ⟨ho1, ho2⟩ := (once_iff order plans.length).1 hon
        have hnd : order.Nodup := by
          have hp := perm_up plans.length order ho1 ho2
          exact hp.nodup_iff.2 ((upFrom_pairwise plans.length).imp (fun h => by omega))
        have hin : ∀ x ∈ order, 0 ≤ x ∧ x < plans.length ∧ x * bl < new := fun x hx => by
          obtain ⟨g1, g2⟩ := once_mem hon hx
          exact ⟨g1, g2, (block_in (by omega) hbl g1 g2).1⟩
        obtain ⟨im, hF, hD⟩ := fold_done plans b bl new (max b.length new.toNat) order plans.length ⟨by omega, by omega⟩ ⟨by omega, by omega⟩ hin hnd order.length 0 (image0 b new) (by omega) (done_start plans b bl new) (by rw [List.take_zero, marks_nil, List.drop_zero]; exact hc)
        rw [List.drop_zero] at hF
        have hlm := hD.len
        have hlen : (im.take new.toNat).length = new.toNat := by rw [List.length_take]; omega
        have hE : safe_Fold.f b plans order bl new = some (im.take new.toNat, 0) := by
          unfold safe_Fold.f
          rw [if_pos ⟨by omega, by omega, hl', by omega, by omega⟩, if_pos hz, hF]
        simp only [drogherlaw20_SafeSafe.j0]
        rw [if_neg (by simp), hE, Option.bind_some, if_pos rfl]
        have hb1 : (((im.take new.toNat).length : Int) != new) = false := by
          rw [hlen, show ((new.toNat : Nat) : Int) = new by omega]
          simp
        simp only [drogherlaw20_SafeSafe.j1]
        rw [hb1, if_neg (by simp)]
        exact safe_l0 b plans bl new order im ⟨by omega, by omega⟩ (by omega) (by omega) (by omega) hl' hD (fun i hi => by
          have hm : (i : Int) ∈ order := List.count_pos_iff.1 (by rw [ho2 i hi]; omega)
          exact ⟨hm, (hin _ hm).2.2⟩) plans.length 0 _ (by omega) (by omega)
      · exact key _ (by simp [hc])
    · rw [if_neg hz]
      exact key _ (by simp [hz])
end Go.Proofs.Ytbpdpgigpooacaa.PD
