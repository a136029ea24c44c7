/-
  What the document's plan makes, in plain words: no program in sight.
-/
import Derived.Test.YtbpdpgigpooacaaPDx17
import Derived.Test.YtbpdpgigpooacaaHFold
import Derived.Test.YtbpdpgigpooacaaLoops
namespace Go.Proofs.Ytbpdpgigpooacaa.PD
open Go.RowKit Go.Proofs.YtbpdpgigpooacaaW.PrintWords Go.Proofs.YtbpdpgigpooacaaW.PrintLast Go.Proofs.YtbpdpgigpooacaaW.PrintMore

theorem step_get {old : List Int} {s : S52} (hr : Right s) (h1 : s.f0 ≠ 1) (hin : s.f1 + s.f2 ≤ old.length) {j : Nat} (hj : (j : Int) < s.f2) (h3 : s.f0 = 3 → j < s.f3.length) :
    (stepBytes old s)[j]? = some (if s.f0 = 3 then (rd old (s.f1 + j) + rd s.f3 j) % 256 else rd old (s.f1 + j)) := by
  unfold Right at hr
  have e1 : rd old (s.f1 + j) = old[s.f1.toNat + j]'(by omega) := by
    unfold rd
    rw [List.getD_eq_getElem?_getD, show (s.f1 + (j : Int)).toNat = s.f1.toNat + j by omega, List.getElem?_eq_getElem (by omega)]
    rfl
  unfold stepBytes
  by_cases hk : s.f0 = 3
  · rw [if_pos hk, if_pos hk, rdI (h3 hk), e1, List.getElem?_zipWith, List.getElem?_take_of_lt (by omega), List.getElem?_drop, List.getElem?_eq_getElem (by omega), List.getElem?_eq_getElem (h3 hk)]
  · rw [if_neg hk, if_neg hk, e1, List.getElem?_take_of_lt (by omega), List.getElem?_drop, List.getElem?_eq_getElem (by omega)]

theorem step_length {old : List Int} {s : S52} (hr : Right s) (h1 : s.f0 ≠ 1) (hin : s.f1 + s.f2 ≤ old.length) : ((stepBytes old s).length : Int) = s.f2 := by
  unfold stepBytes
  unfold Right at hr
  split
  · rw [List.length_zipWith, List.length_take, List.length_drop]; omega
  · rw [List.length_take, List.length_drop]; omega

theorem eval_l2 (l : List S52) (old : List Int) (hol : old.length ≤ 100000) (acc : List Int) (hacc : acc.length ≤ 1000000) (i : Nat) (hi : i ≤ 1000) (s : S52) (hr : Right s) (h1 : s.f0 ≠ 1) (hin : s.f1 + s.f2 ≤ old.length) (R : Option (List Int × Int)) (K : Nat)
    (hK : ∀ k, K ≤ k → drogherref16_Eval.l1 k l old [] (acc ++ stepBytes old s) l.length (wrap64 (i + 1)) = R) : ∀ (n j k : Nat), ((j + n : Nat) : Int) = s.f2 → n + 1 + K ≤ k →
    drogherref16_Eval.l2 k l old [] (acc ++ (stepBytes old s).take j) j l.length i s.f0 s.f1 s.f2 s.f3 = R
  | 0, j, k + 1, h, hk => by
    have hl := step_length hr h1 hin
    rw [List.take_of_length_le (by omega)]
    simp only [drogherref16_Eval.l2]
    rw [if_neg (by omega)]
    exact hK k (by omega)
  | n + 1, j, k + 1, h, hk => by
    have ih := eval_l2 l old hol acc hacc i hi s hr h1 hin R K hK n (j + 1) k (by omega) (by omega)
    have hl := step_length hr h1 hin
    have hR := hr
    unfold Right at hR
    have h3 : s.f0 = 3 → j < s.f3.length := fun h => by omega
    have hg := step_get hr h1 hin (j := j) (by omega) h3
    have hal : (acc ++ (stepBytes old s).take j).length < 140737488355328 := by rw [List.length_append, List.length_take]; omega
    rw [List.take_add_one, hg] at ih
    simp only [drogherref16_Eval.l2]
    rw [if_pos (by omega), wrz (s.f1 + j) (by omega), if_pos (by omega), if_pos (by omega), wrs j (by omega)]
    by_cases hk : s.f0 = 3
    · rw [if_pos hk, if_pos (by omega), if_pos (by have := h3 hk; omega), if_pos hal]
      rw [if_pos hk] at ih
      rw [List.append_assoc]
      exact ih
    · rw [if_neg hk, if_pos hal]
      rw [if_neg hk] at ih
      rw [List.append_assoc]
      exact ih
  | 0, _, 0, _, hk => by omega
  | _ + 1, _, 0, _, hk => by omega

theorem eval_l1 (l : List S52) (old : List Int) (hol : old.length ≤ 100000) (hl : l.length ≤ 100) (hR : ∀ s ∈ l, Right s) (K : Nat → Nat) (hKs : ∀ n, K n + 4200 ≤ K (n + 1)) : ∀ (n i k : Nat) (acc : List Int), i + n = l.length → acc.length ≤ 4096 * i → K n + 1 ≤ k →
    drogherref16_Eval.l1 k l old [] acc l.length i = some (evalRes (evalFold old (l.drop i) acc))
  | 0, i, k + 1, acc, h, ha, hk => by
    rw [List.drop_of_length_le (by omega)]
    simp only [drogherref16_Eval.l1]
    rw [if_neg (by omega)]
    rfl
  | n + 1, i, k + 1, acc, h, ha, hk => by
    have hKn := hKs n
    have hr := hR l[i] (List.getElem_mem _)
    have hr' := hr
    unfold Right at hr'
    rw [List.drop_eq_getElem_cons (by omega : i < l.length)]
    simp only [drogherref16_Eval.l1]
    rw [if_pos (by omega), if_pos (by omega), if_pos (by omega), rdT52 (by omega), wrs i (by omega)]
    unfold evalFold
    by_cases h1 : l[i].f0 = 1
    · rw [if_pos h1, if_pos h1, if_pos (by omega)]
      have := eval_l1 l old hol hl hR K hKs n (i + 1) k (acc ++ l[i].f3) (by omega) (by rw [List.length_append]; omega) (by omega)
      exact this
    · rw [if_neg h1, if_neg h1]
      obtain ⟨k', rfl⟩ : ∃ k', k = k' + 1 := ⟨k - 1, by omega⟩
      by_cases h2 : l[i].f1 + l[i].f2 > old.length
      · rw [if_pos h2]
        by_cases h3 : l[i].f1 > old.length
        · rw [if_pos h3]
          simp [drogherref16_Eval.j2, evalRes]
        · rw [if_neg h3, wrz _ (by omega), decide_eq_true (by omega)]
          simp [drogherref16_Eval.j2, evalRes]
      · rw [if_neg h2, if_neg (by omega), wrz _ (by omega), decide_eq_false (by omega)]
        simp only [drogherref16_Eval.j2]
        rw [if_neg (by simp)]
        have hsl := step_length hr h1 (old := old) (by omega)
        have := eval_l2 l old hol acc (by omega) i (by omega) l[i] hr h1 (by omega) (some (evalRes (evalFold old (l.drop (i + 1)) (acc ++ stepBytes old l[i])))) (K n + 1) (fun k'' hk'' => by
          rw [wrs i (by omega)]
          exact eval_l1 l old hol hl hR K hKs n (i + 1) k'' (acc ++ stepBytes old l[i]) (by omega) (by rw [List.length_append]; omega) hk'') l[i].f2.toNat 0 k' (by omega) (by omega)
        rw [List.take_zero, List.append_nil] at this
        exact this
  | 0, _, 0, _, _, _, hk => by omega
  | _ + 1, _, 0, _, _, _, hk => by omega

theorem sumLen_ge {l : List S52} (hR : ∀ s ∈ l, Right s) (i : Nat) : sumLen (l.take i) ≤ sumLen l := by
  have h1 : sumLen l = sumLen (l.take i) + sumLen (l.drop i) := by
    unfold sumLen
    rw [← List.sum_append, ← List.map_append, List.take_append_drop]
  have h2 := (sumLen_bound (l := l.drop i) (fun s hs => hR s (List.mem_of_mem_drop hs))).1
  omega

theorem eval_l0 (l : List S52) (old : List Int) (want : Int) (hw : 0 ≤ want ∧ want ≤ 1000000) (hol : old.length ≤ 100000) (hl : l.length ≤ 100) : ∀ (n i k : Nat) (x : Int), i + n = l.length → (∀ s ∈ l.take i, Right s) → (x = sumLen (l.take i) ∨ (want < x ∧ want < sumLen (l.take i))) → 0 ≤ x → x ≤ 2000000 → n + 430000 ≤ k →
    drogherref16_Eval.l0 k l old want [] x l.length i = some (evalE l old want)
  | 0, i, k + 1, x, h, hj, hx, hx0, hx1, hk => by
    rw [List.take_of_length_le (by omega)] at hj hx
    simp only [drogherref16_Eval.l0]
    rw [if_neg (by omega)]
    unfold evalE
    rw [if_pos hj]
    by_cases hs : sumLen l = want
    · rw [if_pos (by omega), if_pos hs]
      exact eval_l1 l old hol hl hj (fun n => 4200 * n) (fun n => by omega) l.length 0 k [] (by omega) (by simp) (by omega)
    · rw [if_neg (by omega), if_neg hs]
  | n + 1, i, k + 1, x, h, hj, hx, hx0, hx1, hk => by
    simp only [drogherref16_Eval.l0]
    obtain ⟨k', rfl⟩ : ∃ k', k = k' + 1 := ⟨k - 1, by omega⟩
    rw [if_pos (by omega), if_pos (by omega), if_pos (by omega), rdT52 (by omega), ref_Right_eq, Option.bind_some, wrs i (by omega)]
    by_cases hR : Right l[i]
    · have hst := sumLen_take (l := l) (k := i) (by omega)
      have hR' := hR
      unfold Right at hR'
      have hj' : ∀ s ∈ l.take (i + 1), Right s := by
        rw [List.take_add_one, List.getElem?_eq_getElem (by omega)]
        intro s hs
        rcases List.mem_append.1 hs with h1 | h1
        · exact hj s h1
        · simp at h1; rw [h1]; exact hR
      rw [decide_eq_true hR, if_pos rfl]
      by_cases hc : x ≤ want
      · rw [if_pos hc, wrz _ (by omega)]
        exact eval_l0 l old want hw hol hl n (i + 1) _ (x + l[i].f2) (by omega) hj' (by omega) (by omega) (by omega) (by omega)
      · rw [if_neg hc]
        exact eval_l0 l old want hw hol hl n (i + 1) _ x (by omega) hj' (by omega) hx0 hx1 (by omega)
    · rw [decide_eq_false hR, if_neg (by simp)]
      unfold evalE
      rw [if_neg (fun hh => hR (hh _ (List.getElem_mem _)))]
  | 0, _, 0, _, _, _, _, _, _, hk => by omega
  | _ + 1, _, 0, _, _, _, _, _, _, hk => by omega

theorem ref_eval (l : List S52) (old : List Int) (want : Int) (hw : 0 ≤ want ∧ want ≤ 1000000) (hol : old.length ≤ 100000) (hl : l.length ≤ 100) {k : Nat} (hk : 430200 ≤ k) : drogherref16_Eval.f k l old want = some (evalE l old want) :=
  eval_l0 l old want hw hol hl l.length 0 k 0 (by omega) (by simp) (.inl (by simp [sumLen])) (by omega) (by omega) (by omega)
end Go.Proofs.Ytbpdpgigpooacaa.PD
