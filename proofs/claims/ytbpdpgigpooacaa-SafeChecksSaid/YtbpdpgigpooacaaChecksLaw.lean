/-
  The law of the check, in plain words: no program in sight.
-/
import Derived.Test.YtbpdpgigpooacaaPDx15
import Derived.Test.YtbpdpgigpooacaaSafeRef
namespace Go.Proofs.Ytbpdpgigpooacaa.PD
open Go.RowKit Go.Proofs.YtbpdpgigpooacaaW.PrintWords Go.Proofs.YtbpdpgigpooacaaW.PrintLast Go.Proofs.YtbpdpgigpooacaaW.PrintMore

theorem awake20 : drogherlaw20_awake.f = some true := by
  have o1 : Once [0, 1] 2 := ⟨rfl, sort_eq_up (by decide) (upFrom_pairwise 2) (fun x => by rw [mem_upFrom]; simp; omega)⟩
  have o2 : Once [1, 0] 2 := ⟨rfl, sort_eq_up (by decide) (upFrom_pairwise 2) (fun x => by rw [mem_upFrom]; simp; omega)⟩
  have hb : ((2 : Nat) : Int) = blocksOf 256 128 := by decide
  have a1 : aheadE 2 [0, 1] 128 256 256 = 0 := by unfold aheadE; rw [if_pos (by decide), if_pos ⟨hb, o1⟩]
  have a2 : aheadE 2 [1, 0] 128 256 256 = 0 := by unfold aheadE; rw [if_pos (by decide), if_pos ⟨hb, o2⟩]
  have c1 : checkE [[⟨2, 128, 128, []⟩], [⟨2, 0, 128, []⟩]] 128 256 256 [0, 1] (List.replicate 2 false) = 23 := by decide
  have c2 : checkE [[⟨2, 128, 128, []⟩], [⟨2, 0, 128, []⟩]] 128 256 256 [1, 0] (List.replicate 2 false) = 23 := by decide
  have hl : ∀ l ∈ ([[⟨2, 128, 128, []⟩], [⟨2, 0, 128, []⟩]] : List (List S52)), l.length ≤ 100 := fun l h => by
    simp at h
    rcases h with rfl | rfl <;> simp
  have f1 : safe_Check.f [[⟨2, 128, 128, []⟩], [⟨2, 0, 128, []⟩]] [0, 1] 128 256 256 = some 23 := by
    unfold safe_Check.f
    rw [if_pos ⟨by simp, hl, by simp⟩]
    show some (if aheadE 2 [0, 1] 128 256 256 = 0 then checkE _ 128 256 256 [0, 1] (List.replicate 2 false) else _) = _
    rw [if_pos a1, c1]
  have f2 : safe_Check.f [[⟨2, 128, 128, []⟩], [⟨2, 0, 128, []⟩]] [1, 0] 128 256 256 = some 23 := by
    unfold safe_Check.f
    rw [if_pos ⟨by simp, hl, by simp⟩]
    show some (if aheadE 2 [1, 0] 128 256 256 = 0 then checkE _ 128 256 256 [1, 0] (List.replicate 2 false) else _) = _
    rw [if_pos a2, c2]
  unfold drogherlaw20_awake.f
  rw [Option.bind_some, f1, Option.bind_some, if_pos rfl, f2, Option.bind_some]
  rfl

theorem safe_checks_law (ls : List (List S52)) (order : List Int) (b old new : Int) : drogherlaw20_SafeChecks.f 20000 ls order b old new = some true := by
  unfold drogherlaw20_SafeChecks.f
  rw [greats_f _ (by omega), Option.bind_some]
  cases hg : greats ls with
  | true =>
    rw [if_pos rfl]
    simp [drogherlaw20_SafeChecks.j0, awake20]
  | false =>
    obtain ⟨hn, hl⟩ := not_greats hg
    have hl' : ∀ l ∈ ls, l.length ≤ 100 := fun l h => by have := (hl l h).1; omega
    rw [if_neg (by simp)]
    by_cases ho : order.length ≤ 60
    · rw [decide_eq_false (by omega)]
      simp only [drogherlaw20_SafeChecks.j0]
      rw [if_neg (by simp), ref_check ls order b old new (by omega) hl' (by omega) (by omega)]
      unfold safe_Check.f
      rw [if_pos ⟨by omega, hl', by omega⟩, Option.bind_some, Option.bind_some, if_pos rfl, awake20, Option.bind_some]
    · rw [decide_eq_true (by omega)]
      simp [drogherlaw20_SafeChecks.j0, awake20]
end Go.Proofs.Ytbpdpgigpooacaa.PD
