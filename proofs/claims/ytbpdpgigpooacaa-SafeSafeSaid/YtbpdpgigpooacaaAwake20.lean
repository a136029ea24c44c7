/-
  The two examples that each law of layer 20 asks too: no program in sight.
-/
import Derived.Test.YtbpdpgigpooacaaPDx11
import Derived.Test.YtbpdpgigpooacaaHCheck
namespace Go.Proofs.Ytbpdpgigpooacaa.PD
open Go.RowKit Go.Proofs.YtbpdpgigpooacaaW.PrintWords Go.Proofs.YtbpdpgigpooacaaW.PrintLast Go.Proofs.YtbpdpgigpooacaaW.PrintMore

theorem awake20 : drogherlaw20_awake.f = some true := by
  have o1 : Once [0, 1] 2 := ⟨rfl, sort_eq_up (by decide) (upFrom_pairwise 2) (fun x => by rw [mem_upFrom]; simp; omega)⟩
  have o2 : Once [1, 0] 2 := ⟨rfl, sort_eq_up (by decide) (upFrom_pairwise 2) (fun x => by rw [mem_upFrom]; simp; omega)⟩
  have hb : ((2 : Nat) : Int) = blocksOf 256 128 := by decide
  have a1 : aheadE 2 [0, 1] 128 256 256 = 0 := by unfold aheadE; rw [if_pos (by decide), if_pos ⟨hb, o1⟩]
  have a2 : aheadE 2 [1, 0] 128 256 256 = 0 := by unfold aheadE; rw [if_pos (by decide), if_pos ⟨hb, o2⟩]
  have c1 : checkE [[⟨2, 128, 128, []⟩], [⟨2, 0, 128, []⟩]] 128 256 256 [0, 1] (List.replicate 2 false) = 23 := by decide
  have c2 : checkE [[⟨2, 128, 128, []⟩], [⟨2, 0, 128, []⟩]] 128 256 256 [1, 0] (List.replicate 2 false) = 23 := by decide
  have hl : ∀ l ∈ ([[⟨2, 128, 128, []⟩], [⟨2, 0, 128, []⟩]] : List (List S52)), l.length ≤ 100 := fun l h => by
    simp at h
    rcases h with rfl | rfl <;> simp
  have f1 : safe_Check.f [[⟨2, 128, 128, []⟩], [⟨2, 0, 128, []⟩]] [0, 1] 128 256 256 = some 23 := by
    unfold safe_Check.f
    rw [if_pos ⟨by simp, hl, by simp⟩]
    show some (if aheadE 2 [0, 1] 128 256 256 = 0 then checkE _ 128 256 256 [0, 1] (List.replicate 2 false) else _) = _
    rw [if_pos a1, c1]
  have f2 : safe_Check.f [[⟨2, 128, 128, []⟩], [⟨2, 0, 128, []⟩]] [1, 0] 128 256 256 = some 23 := by
    unfold safe_Check.f
    rw [if_pos ⟨by simp, hl, by simp⟩]
    show some (if aheadE 2 [1, 0] 128 256 256 = 0 then checkE _ 128 256 256 [1, 0] (List.replicate 2 false) else _) = _
    rw [if_pos a2, c2]
  unfold drogherlaw20_awake.f
  rw [Option.bind_some, f1, Option.bind_some, if_pos rfl, f2, Option.bind_some]
  rfl
end Go.Proofs.Ytbpdpgigpooacaa.PD
