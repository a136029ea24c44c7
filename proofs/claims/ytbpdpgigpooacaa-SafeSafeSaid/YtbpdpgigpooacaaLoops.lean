/-
  What the printed loops over plans come to, in plain words: no program in sight.
-/
import Derived.Test.YtbpdpgigpooacaaPDx1
import Derived.Test.YtbpdpgigpooacaaPDx4
import Derived.Test.YtbpdpgigpooacaaSpec
namespace Go.Proofs.Ytbpdpgigpooacaa.PD
open Go.RowKit Go.Proofs.YtbpdpgigpooacaaW.PrintWords Go.Proofs.YtbpdpgigpooacaaW.PrintLast Go.Proofs.YtbpdpgigpooacaaW.PrintMore

theorem wrs (i : Nat) (h : i ≤ 1000000000) : wrap64 ((i : Int) + 1) = ((i + 1 : Nat) : Int) := by unfold wrap64; omega
theorem wrz (x : Int) (h : -9000000000000000000 ≤ x ∧ x ≤ 9000000000000000000) : wrap64 x = x := by unfold wrap64; omega

theorem rdT52 {l : List S52} {i : Nat} (h : i < l.length) : rd_T52 l i = l[i] := by simp [rd_T52, h]
theorem rdL4 {l : List (List S52)} {i : Nat} (h : i < l.length) : rd_L4 l i = l[i] := by simp [rd_L4, h]
theorem rdL5 {l : List (List Int)} {i : Nat} (h : i < l.length) : rd_L5 l i = l[i] := by simp [rd_L5, h]
theorem rdI {l : List Int} {i : Nat} (h : i < l.length) : rd l i = l[i] := by simp [rd, h]

/-- A plan is greater than is gone through. -/
def great (l : List S52) : Bool := decide (60 < l.length) || l.any (fun s => decide (5000 < s.f3.length))

theorem great_l (l : List S52) (hl : l.length ≤ 60) : ∀ (n i k : Nat), i + n = l.length → n + 1 ≤ k → drogherref16_Great.l0 k l l.length i = some ((l.drop i).any (fun s => decide (5000 < s.f3.length)))
  | 0, i, k + 1, h, hk => by
    rw [List.drop_of_length_le (by omega), List.any_nil]
    simp only [drogherref16_Great.l0]
    rw [if_neg (by omega)]
  | n + 1, i, k + 1, h, hk => by
    rw [List.drop_eq_getElem_cons (by omega : i < l.length), List.any_cons]
    simp only [drogherref16_Great.l0]
    rw [if_pos (by omega), if_pos (by omega), if_pos (by omega), rdT52 (by omega), wrs i (by omega)]
    by_cases h5 : 5000 < l[i].f3.length
    · rw [if_pos (by omega), decide_eq_true h5]
      rfl
    · rw [if_neg (by omega), decide_eq_false h5, great_l l hl n (i + 1) k (by omega) (by omega)]
      rfl
  | 0, _, 0, _, hk => by omega
  | _ + 1, _, 0, _, hk => by omega

theorem great_f (l : List S52) {k : Nat} (hk : 61 ≤ k) : drogherref16_Great.f k l = some (great l) := by
  unfold drogherref16_Great.f great
  by_cases h : 60 < l.length
  · rw [if_pos (by omega), decide_eq_true h]; rfl
  · have := great_l l (by omega) l.length 0 k (by omega) (by omega)
    rw [if_neg (by omega), decide_eq_false h]
    exact this

def greats (ls : List (List S52)) : Bool := decide (40 < ls.length) || ls.any great

theorem greats_l (l : List (List S52)) (hl : l.length ≤ 40) : ∀ (n i k : Nat), i + n = l.length → n + 62 ≤ k → drogherref18_GreatPlans.l0 k l l.length i = some ((l.drop i).any great)
  | 0, i, k + 1, h, hk => by
    rw [List.drop_of_length_le (by omega), List.any_nil]
    simp only [drogherref18_GreatPlans.l0]
    rw [if_neg (by omega)]
  | n + 1, i, k + 1, h, hk => by
    rw [List.drop_eq_getElem_cons (by omega : i < l.length), List.any_cons]
    simp only [drogherref18_GreatPlans.l0]
    rw [if_pos (by omega), if_pos (by omega), if_pos (by omega), rdL4 (by omega), wrs i (by omega), great_f _ (by omega), Option.bind_some]
    cases great l[i] with
    | true => rw [if_pos rfl]; rfl
    | false => rw [if_neg (by simp), greats_l l hl n (i + 1) k (by omega) (by omega)]; rfl
  | 0, _, 0, _, hk => by omega
  | _ + 1, _, 0, _, hk => by omega

theorem greats_f (l : List (List S52)) {k : Nat} (hk : 102 ≤ k) : drogherref18_GreatPlans.f k l = some (greats l) := by
  unfold drogherref18_GreatPlans.f greats
  by_cases h : 40 < l.length
  · rw [if_pos (by omega), decide_eq_true h]; rfl
  · have := greats_l l (by omega) l.length 0 k (by omega) (by omega)
    rw [if_neg (by omega), decide_eq_false h]
    exact this

theorem not_greats {ls : List (List S52)} (h : greats ls = false) : ls.length ≤ 40 ∧ ∀ l ∈ ls, l.length ≤ 60 ∧ ∀ s ∈ l, s.f3.length ≤ 5000 := by
  unfold greats at h
  rw [Bool.or_eq_false_iff] at h
  refine ⟨by have := of_decide_eq_false h.1; omega, fun l hl => ?_⟩
  have h2 := List.any_eq_false.1 h.2 l hl
  rw [Bool.not_eq_true] at h2
  unfold great at h2
  rw [Bool.or_eq_false_iff] at h2
  refine ⟨by have := of_decide_eq_false h2.1; omega, fun s hs => ?_⟩
  have h3 := List.any_eq_false.1 h2.2 s hs
  simpa using h3

/-- The document's check of a step is ours. -/
theorem ref_Right_eq (k : Nat) (s : S52) : drogherref16_Right.f (k + 1) s.f0 s.f1 s.f2 s.f3 = some (decide (Right s)) := by
  have key : ∀ b : Bool, (b = true ↔ Right s) → some b = some (decide (Right s)) := fun b h => by congr 1; cases b with | true => exact (decide_eq_true (h.1 rfl)).symm | false => exact (decide_eq_false (fun hh => by have := h.2 hh; cases this)).symm
  unfold drogherref16_Right.f
  simp only [drogherref16_Right.j0]
  split
  · exact key false ⟨by simp, fun h => by unfold Right at h; omega⟩
  by_cases h4 : s.f2 > 4096
  · simp only [h4, decide_true, if_true]
    exact key false ⟨by simp, fun h => by unfold Right at h; omega⟩
  · simp only [h4, decide_false, Bool.false_eq_true, if_false]
    split
    · split
      · exact key _ (by unfold Right; rw [beq_iff_eq]; omega)
      · exact key false ⟨by simp, fun h => by unfold Right at h; omega⟩
    split
    · exact key false ⟨by simp, fun h => by unfold Right at h; omega⟩
    split
    · exact key false ⟨by simp, fun h => by unfold Right at h; omega⟩
    split
    · split
      · exact key true ⟨fun _ => by unfold Right; omega, fun _ => rfl⟩
      · split
        · exact key _ (by unfold Right; rw [beq_iff_eq]; omega)
        · exact key false ⟨by simp, fun h => by unfold Right at h; omega⟩
    · split
      · exact key _ (by unfold Right; rw [beq_iff_eq]; omega)
      · exact key false ⟨by simp, fun h => by unfold Right at h; omega⟩
end Go.Proofs.Ytbpdpgigpooacaa.PD
