/-
  The law of the fold, in plain words: no program in sight.
-/
import Derived.Test.YtbpdpgigpooacaaFoldRef
import Derived.Test.YtbpdpgigpooacaaAwake20
namespace Go.Proofs.Ytbpdpgigpooacaa.PD
open Go.RowKit Go.Proofs.YtbpdpgigpooacaaW.PrintWords Go.Proofs.YtbpdpgigpooacaaW.PrintLast Go.Proofs.YtbpdpgigpooacaaW.PrintMore

theorem fold_some (b : List Int) (plans : List (List S52)) (order : List Int) (bl new : Int) (hb : b.length ≤ 5000) (hp : plans.length ≤ 100) (hl : ∀ l ∈ plans, l.length ≤ 100) (ho : order.length ≤ 100) (hn : new ≤ 5000) : ∃ E, safe_Fold.f b plans order bl new = some E := by
  unfold safe_Fold.f
  rw [if_pos ⟨hb, hp, hl, by omega, hn⟩]
  exact ⟨_, rfl⟩

theorem safe_folds_law (b : List Int) (plans : List (List S52)) (order : List Int) (bl new : Int) : drogherlaw20_SafeFolds.f 700000 b plans order bl new = some true := by
  have key : ∀ x, x = true → drogherlaw20_SafeFolds.j0 700000 b plans order bl new x = some true := fun x hx => by
    rw [hx]
    simp [drogherlaw20_SafeFolds.j0, awake20]
  unfold drogherlaw20_SafeFolds.f
  rw [greats_f _ (by omega), Option.bind_some]
  cases hg : greats plans with
  | true => rw [if_pos rfl]; exact key _ rfl
  | false =>
    obtain ⟨hn, hl⟩ := not_greats hg
    have hl' : ∀ l ∈ plans, l.length ≤ 100 := fun l h => by have := (hl l h).1; omega
    rw [if_neg (by simp)]
    by_cases c1 : (order.length : Int) > 60
    · rw [if_pos c1]; exact key _ rfl
    by_cases c2 : (b.length : Int) > 5000
    · rw [if_neg c1, if_pos c2]; exact key _ rfl
    by_cases c3 : new > 5000
    · rw [if_neg c1, if_neg c2]; exact key _ (decide_eq_true c3)
    rw [if_neg c1, if_neg c2, decide_eq_false c3]
    obtain ⟨E, hE⟩ := fold_some b plans order bl new (by omega) (by omega) hl' (by omega) (by omega)
    simp only [drogherlaw20_SafeFolds.j0]
    rw [if_neg (by simp), Option.bind_some, if_pos (by simp; omega), Option.bind_some, List.nil_append, ref_fold b plans order bl new (by omega) (by omega) hl' (by omega) (by omega) (by omega), hE, Option.bind_some, Option.bind_some, if_pos rfl, if_pos rfl, if_pos rfl, awake20, Option.bind_some]
end Go.Proofs.Ytbpdpgigpooacaa.PD
