/-
  What the printed loops over plans come to, in plain words: no program in sight.
-/
import Derived.Test.YtbpdpgigpooacaaPDx1
import Derived.Test.YtbpdpgigpooacaaPDx5
import Derived.Test.YtbpdpgigpooacaaSpec
namespace Go.Proofs.Ytbpdpgigpooacaa.PD
open Go.RowKit Go.Proofs.YtbpdpgigpooacaaW.PrintWords Go.Proofs.YtbpdpgigpooacaaW.PrintLast Go.Proofs.YtbpdpgigpooacaaW.PrintMore

theorem wrs (i : Nat) (h : i ≤ 1000000000) : wrap64 ((i : Int) + 1) = ((i + 1 : Nat) : Int) := by unfold wrap64; omega
theorem wrz (x : Int) (h : -9000000000000000000 ≤ x ∧ x ≤ 9000000000000000000) : wrap64 x = x := by unfold wrap64; omega

theorem rdT52 {l : List S52} {i : Nat} (h : i < l.length) : rd_T52 l i = l[i] := by simp [rd_T52, h]
theorem rdL4 {l : List (List S52)} {i : Nat} (h : i < l.length) : rd_L4 l i = l[i] := by simp [rd_L4, h]
theorem rdL5 {l : List (List Int)} {i : Nat} (h : i < l.length) : rd_L5 l i = l[i] := by simp [rd_L5, h]
theorem rdI {l : List Int} {i : Nat} (h : i < l.length) : rd l i = l[i] := by simp [rd, h]

/-- A plan is greater than is gone through. -/
def great (l : List S52) : Bool := decide (60 < l.length) || l.any (fun s => decide (5000 < s.f3.length))

theorem great_l (l : List S52) (hl : l.length ≤ 60) : ∀ (n i k : Nat), i + n = l.length → n + 1 ≤ k → drogherref16_Great.l0 k l l.length i = some ((l.drop i).any (fun s => decide (5000 < s.f3.length)))
  | 0, i, k + 1, h, hk => by
    rw [List.drop_of_length_le (by omega), List.any_nil]
    simp only [drogherref16_Great.l0]
    rw [if_neg (by omega)]
  | n + 1, i, k + 1, h, hk => by
    rw [List.drop_eq_getElem_cons (by omega : i < l.length), List.any_cons]
    simp only [drogherref16_Great.l0]
    rw [if_pos (by omega), if_pos (by omega), if_pos (by omega), rdT52 (by omega), wrs i (by omega)]
    by_cases h5 : 5000 < l[i].f3.length
    · rw [if_pos (by omega), decide_eq_true h5]
      rfl
    · rw [if_neg (by omega), decide_eq_false h5, great_l l hl n (i + 1) k (by omega) (by omega)]
      rfl
  | 0, _, 0, _, hk => by omega
  | _ + 1, _, 0, _, hk => by omega

theorem great_f (l : List S52) {k : Nat} (hk : 61 ≤ k) : drogherref16_Great.f k l = some (great l) := by
  unfold drogherref16_Great.f great
  by_cases h : 60 < l.length
  · rw [if_pos (by omega), decide_eq_true h]; rfl
  · have := great_l l (by omega) l.length 0 k (by omega) (by omega)
    rw [if_neg (by omega), decide_eq_false h]
    exact this

def greats (ls : List (List S52)) : Bool := decide (40 < ls.length) || ls.any great

theorem greats_l (l : List (List S52)) (hl : l.length ≤ 40) : ∀ (n i k : Nat), i + n = l.length → n + 62 ≤ k → drogherref18_GreatPlans.l0 k l l.length i = some ((l.drop i).any great)
  | 0, i, k + 1, h, hk => by
    rw [List.drop_of_length_le (by omega), List.any_nil]
    simp only [drogherref18_GreatPlans.l0]
    rw [if_neg (by omega)]
  | n + 1, i, k + 1, h, hk => by
    rw [List.drop_eq_getElem_cons (by omega : i < l.length), List.any_cons]
    simp only [drogherref18_GreatPlans.l0]
    rw [if_pos (by omega), if_pos (by omega), if_pos (by omega), rdL4 (by omega), wrs i (by omega), great_f _ (by omega), Option.bind_some]
    cases great l[i] with
    | true => rw [if_pos rfl]; rfl
    | false => rw [if_neg (by simp), greats_l l hl n (i + 1) k (by omega) (by omega)]; rfl
  | 0, _, 0, _, hk => by omega
  | _ + 1, _, 0, _, hk => by omega

theorem greats_f (l : List (List S52)) {k : Nat} (hk : 102 ≤ k) : drogherref18_GreatPlans.f k l = some (greats l) := by
  unfold drogherref18_GreatPlans.f greats
  by_cases h : 40 < l.length
  · rw [if_pos (by omega), decide_eq_true h]; rfl
  · have := greats_l l (by omega) l.length 0 k (by omega) (by omega)
    rw [if_neg (by omega), decide_eq_false h]
    exact this

theorem not_greats {ls : List (List S52)} (h : greats ls = false) : ls.length ≤ 40 ∧ ∀ l ∈ ls, l.length ≤ 60 ∧ ∀ s ∈ l, s.f3.length ≤ 5000 := by
  unfold greats at h
  rw [Bool.or_eq_false_iff] at h
  refine ⟨by have := of_decide_eq_false h.1; omega, fun l hl => ?_⟩
  have h2 := List.any_eq_false.1 h.2 l hl
  rw [Bool.not_eq_true] at h2
  unfold great at h2
  rw [Bool.or_eq_false_iff] at h2
  refine ⟨by have := of_decide_eq_false h2.1; omega, fun s hs => ?_⟩
  have h3 := List.any_eq_false.1 h2.2 s hs
  simpa using h3

/-- The document's check of a step is ours. -/
theorem ref_Right_eq (k : Nat) (s : S52) : drogherref16_Right.f (k + 1) s.f0 s.f1 s.f2 s.f3 = some (decide (Right s)) := by
  have key : ∀ b : Bool, (b = true ↔ Right s) → some b = some (decide (Right s)) := fun b h => by congr 1; cases b with | true => exact (decide_eq_true (h.1 rfl)).symm | false => exact (decide_eq_false (fun hh => by have := h.2 hh; cases this)).symm
  unfold drogherref16_Right.f
  simp only [drogherref16_Right.j0]
  split
  · exact key false ⟨by simp, fun h => by unfold Right at h; omega⟩
  by_cases h4 : s.f2 > 4096
  · simp only [h4, decide_true, if_true]
    exact key false ⟨by simp, fun h => by unfold Right at h; omega⟩
  · simp only [h4, decide_false, Bool.false_eq_true, if_false]
    split
    · split
      · exact key _ (by unfold Right; rw [beq_iff_eq]; omega)
      · exact key false ⟨by simp, fun h => by unfold Right at h; omega⟩
    split
    · exact key false ⟨by simp, fun h => by unfold Right at h; omega⟩
    split
    · exact key false ⟨by simp, fun h => by unfold Right at h; omega⟩
    split
    · split
      · exact key true ⟨fun _ => by unfold Right; omega, fun _ => rfl⟩
      · split
        · exact key _ (by unfold Right; rw [beq_iff_eq]; omega)
        · exact key false ⟨by simp, fun h => by unfold Right at h; omega⟩
    · split
      · exact key _ (by unfold Right; rw [beq_iff_eq]; omega)
      · exact key false ⟨by simp, fun h => by unfold Right at h; omega⟩

theorem asks_l (l : List S52) (b i : Int) (hb : 128 ≤ b ∧ b ≤ 4096) (hi : 0 ≤ i ∧ i ≤ 4096) (hl : l.length ≤ 100) (hr : ∀ s ∈ l, Right s) : ∀ (n j k : Nat), j + n = l.length → n + 1 ≤ k →
    drogherref18_asks.l0 k l b i l.length j = some ((l.drop j).any (fun s => decide (Meets b i s)))
  | 0, j, k + 1, h, hk => by
    rw [List.drop_of_length_le (by omega), List.any_nil]
    simp only [drogherref18_asks.l0]
    rw [if_neg (by omega)]
  | n + 1, j, k + 1, h, hk => by
    have ih := asks_l l b i hb hi hl hr n (j + 1) k (by omega) (by omega)
    rw [List.drop_eq_getElem_cons (by omega : j < l.length), List.any_cons]
    simp only [drogherref18_asks.l0]
    rw [if_pos (by omega), if_pos (by omega), if_pos (by omega), rdT52 (by omega), wrs j (by omega), ih]
    have hR := hr l[j] (List.getElem_mem _)
    generalize l[j] = s at hR ⊢
    have p1 : i * b ≤ 4096 * 4096 := Int.mul_le_mul hi.2 hb.2 (by omega) (by omega)
    have p0 : 0 ≤ i * b := Int.mul_nonneg hi.1 (by omega)
    have p2 : (i + 1) * b = i * b + b := by rw [Int.add_mul, Int.one_mul]
    have e1 : wrap64 (i + 1) = i + 1 := wrz _ (by omega)
    have e2 : wrap64 ((i + 1) * b) = (i + 1) * b := wrz _ (by omega)
    have e3 : wrap64 (i * b) = i * b := wrz _ (by omega)
    have e4 : wrap64 (s.f1 + s.f2) = s.f1 + s.f2 := wrz _ (by unfold Right at hR; omega)
    rw [e1, e2, e3, e4]
    by_cases m0 : 1 < s.f0
    · rw [if_pos m0]
      by_cases m1 : s.f1 < (i + 1) * b
      · rw [if_pos m1]
        by_cases m2 : s.f1 + s.f2 > i * b
        · rw [if_pos m2, decide_eq_true (show Meets b i s from ⟨m0, m1, m2⟩)]; rfl
        · rw [if_neg m2, decide_eq_false (show ¬ Meets b i s from fun h => m2 h.2.2)]; rfl
      · rw [if_neg m1, decide_eq_false (show ¬ Meets b i s from fun h => m1 h.2.1)]; rfl
    · rw [if_neg m0, decide_eq_false (show ¬ Meets b i s from fun h => m0 h.1)]; rfl
  | 0, _, 0, _, hk => by omega
  | _ + 1, _, 0, _, hk => by omega

theorem asks_f (l : List S52) (b i : Int) (hb : 128 ≤ b ∧ b ≤ 4096) (hi : 0 ≤ i ∧ i ≤ 4096) (hl : l.length ≤ 100) (hr : ∀ s ∈ l, Right s) {k : Nat} (hk : 101 ≤ k) :
    drogherref18_asks.f k l b i = some (l.any (fun s => decide (Meets b i s))) := asks_l l b i hb hi hl hr l.length 0 k (by omega) (by omega)

theorem ref_reads_l1 (l : List S52) (b : Int) (m : Nat) (hb : 128 ≤ b ∧ b ≤ 4096) (hm : m ≤ 100) (hl : l.length ≤ 100) (hr : ∀ s ∈ l, Right s) : ∀ (n i k : Nat), i + n = m → n + 102 ≤ k →
    drogherref18_Reads.l1 k l b m (readsOf l b i) i = some (readsOf l b m, 0)
  | 0, i, k + 1, h, hk => by
    have : i = m := by omega
    subst this
    simp only [drogherref18_Reads.l1]
    rw [if_neg (by omega)]
  | n + 1, i, k + 1, h, hk => by
    have ih := ref_reads_l1 l b m hb hm hl hr n (i + 1) k (by omega) (by omega)
    have hle : (readsOf l b i).length ≤ i := by unfold readsOf; exact Nat.le_trans (List.length_filter_le _ _) (by rw [upFrom_length]; omega)
    simp only [drogherref18_Reads.l1]
    rw [if_pos (by omega), asks_f l b i hb (by omega) hl hr (by omega), Option.bind_some, wrs i (by omega)]
    have e : readsOf l b (i + 1) = readsOf l b i ++ (if l.any (fun s => decide (Meets b i s)) = true then [(i : Int)] else []) := by
      unfold readsOf
      rw [upFrom_succ, List.filter_append]
      congr 1
      cases h : l.any (fun s => decide (Meets b i s)) <;> simp [List.filter, h]
    rw [e] at ih
    by_cases hq : l.any (fun s => decide (Meets b i s)) = true
    · rw [if_pos hq] at ih ⊢
      rw [if_pos (by omega)]
      exact ih
    · rw [if_neg hq] at ih ⊢
      rw [List.append_nil] at ih
      exact ih
  | 0, _, 0, _, hk => by omega
  | _ + 1, _, 0, _, hk => by omega

theorem ref_reads_l0 (l : List S52) (b : Int) (m : Nat) (hb : 128 ≤ b ∧ b ≤ 4096) (hm : m ≤ 100) (hl : l.length ≤ 100) : ∀ (n j k : Nat), j + n = l.length → (∀ s ∈ l.take j, Right s) → n + 210 ≤ k →
    drogherref18_Reads.l0 k l b m [] l.length j = some (if ∀ s ∈ l, Right s then (readsOf l b m, 0) else ([], 3))
  | 0, j, k + 1, h, hj, hk => by
    have hR : ∀ s ∈ l, Right s := by rwa [show j = l.length by omega, List.take_length] at hj
    rw [if_pos hR]
    simp only [drogherref18_Reads.l0]
    rw [if_neg (by omega)]
    exact ref_reads_l1 l b m hb hm hl hR m 0 k (by omega) (by omega)
  | n + 1, j, k + 1, h, hj, hk => by
    simp only [drogherref18_Reads.l0]
    obtain ⟨k', rfl⟩ : ∃ k', k = k' + 1 := ⟨k - 1, by omega⟩
    rw [if_pos (by omega), if_pos (by omega), if_pos (by omega), rdT52 (by omega), ref_Right_eq, Option.bind_some, wrs j (by omega)]
    by_cases hR : Right l[j]
    · rw [decide_eq_true hR, if_pos rfl]
      refine ref_reads_l0 l b m hb hm hl n (j + 1) _ (by omega) ?_ (by omega)
      rw [List.take_add_one, List.getElem?_eq_getElem (by omega)]
      intro s hs
      rcases List.mem_append.1 hs with h1 | h1
      · exact hj s h1
      · simp at h1; rw [h1]; exact hR
    · rw [decide_eq_false hR, if_neg (by simp), if_neg (fun hh => hR (hh _ (List.getElem_mem _)))]
  | 0, _, 0, _, _, hk => by omega
  | _ + 1, _, 0, _, _, hk => by omega

theorem ref_reads (l : List S52) (b : Int) (m : Nat) (hb : 128 ≤ b ∧ b ≤ 4096) (hm : m ≤ 100) (hl : l.length ≤ 100) {k : Nat} (hk : 320 ≤ k) :
    drogherref18_Reads.f k l b m = some (if ∀ s ∈ l, Right s then (readsOf l b m, 0) else ([], 3)) := by
  obtain ⟨k', rfl⟩ : ∃ k', k = k' + 1 := ⟨k - 1, by omega⟩
  unfold drogherref18_Reads.f
  rw [Option.bind_some, if_neg (by omega), if_neg (by omega), if_neg (by omega), decide_eq_false (by omega)]
  simp only [drogherref18_Reads.j0]
  rw [if_neg (by simp)]
  exact ref_reads_l0 l b m hb hm hl l.length 0 k' (by omega) (by simp) (by omega)

theorem same_l (l l' : List Int) (hl : l.length ≤ 1000) (he : l.length = l'.length) : ∀ (n i k : Nat), i + n = l.length → n + 1 ≤ k → drogherref18_Same.l0 k l l' l.length i = some (decide (l.drop i = l'.drop i))
  | 0, i, k + 1, h, hk => by
    rw [List.drop_of_length_le (by omega), List.drop_of_length_le (by omega)]
    simp only [drogherref18_Same.l0]
    rw [if_neg (by omega)]
    simp
  | n + 1, i, k + 1, h, hk => by
    have ih := same_l l l' hl he n (i + 1) k (by omega) (by omega)
    rw [List.drop_eq_getElem_cons (by omega : i < l.length), List.drop_eq_getElem_cons (by omega : i < l'.length)]
    simp only [drogherref18_Same.l0]
    rw [if_pos (by omega), if_pos (by omega), if_pos (by omega), if_pos (by omega), rdI (by omega), rdI (by omega), wrs i (by omega), ih]
    by_cases hq : l[i] = l'[i]
    · rw [if_pos hq, hq]; exact congrArg some (decide_eq_decide.2 ⟨fun e => by rw [e], fun e => (List.cons.inj e).2⟩)
    · rw [if_neg hq]; exact congrArg some (decide_eq_false (fun e => hq (List.cons.inj e).1)).symm
  | 0, _, 0, _, hk => by omega
  | _ + 1, _, 0, _, hk => by omega

theorem same_f (l l' : List Int) (hl : l.length ≤ 1000) {k : Nat} (hk : 1001 ≤ k) : drogherref18_Same.f k l l' = some (decide (l = l')) := by
  unfold drogherref18_Same.f
  by_cases he : l.length = l'.length
  · rw [if_pos (by omega)]
    have := same_l l l' hl he l.length 0 k (by omega) (by omega)
    simpa using this
  · rw [if_neg (by omega), decide_eq_false (fun e => he (by rw [e]))]

theorem sameAll_refl_l (l : List (List Int)) (hl : l.length ≤ 1000) (hr : ∀ r ∈ l, r.length ≤ 1000) : ∀ (n i k : Nat), i + n = l.length → n + 1002 ≤ k → drogherref18_SameAll.l0 k l l l.length i = some true
  | 0, i, k + 1, h, hk => by
    simp only [drogherref18_SameAll.l0]
    rw [if_neg (by omega)]
  | n + 1, i, k + 1, h, hk => by
    have ih := sameAll_refl_l l hl hr n (i + 1) k (by omega) (by omega)
    simp only [drogherref18_SameAll.l0]
    rw [if_pos (by omega), if_pos (by omega), if_pos (by omega), if_pos (by omega), rdL5 (by omega), same_f _ _ (hr _ (List.getElem_mem _)) (by omega), wrs i (by omega), Option.bind_some, ih]
    simp
  | 0, _, 0, _, hk => by omega
  | _ + 1, _, 0, _, hk => by omega

theorem sameAll_refl (l : List (List Int)) (hl : l.length ≤ 1000) (hr : ∀ r ∈ l, r.length ≤ 1000) {k : Nat} (hk : 2002 ≤ k) : drogherref18_SameAll.f k l l = some true := by
  unfold drogherref18_SameAll.f
  rw [if_pos rfl]
  exact sameAll_refl_l l hl hr l.length 0 k (by omega) (by omega)
end Go.Proofs.Ytbpdpgigpooacaa.PD
