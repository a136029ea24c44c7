/-
  What is checked makes in place what it makes of the old image, block by block: in plain words, no program in sight.
-/
import Derived.Test.YtbpdpgigpooacaaHFold
import Derived.Test.YtbpdpgigpooacaaSafeRef
namespace Go.Proofs.Ytbpdpgigpooacaa.PD
open Go.RowKit Go.Proofs.YtbpdpgigpooacaaW.PrintWords Go.Proofs.YtbpdpgigpooacaaW.PrintLast Go.Proofs.YtbpdpgigpooacaaW.PrintMore

theorem layAt_get {u x : List Int} {a p : Nat} (h : a + x.length ≤ u.length) : (layAt u a x)[p]? = if p < a then u[p]? else if p < a + x.length then x[p - a]? else u[p]? := by
  unfold layAt
  have hl : (u.take a ++ x).length = a + x.length := by rw [List.length_append, List.length_take]; omega
  by_cases h1 : p < a
  · rw [if_pos h1, List.getElem?_append_left (by omega), List.getElem?_append_left (by rw [List.length_take]; omega), List.getElem?_take_of_lt h1]
  · rw [if_neg h1]
    by_cases h2 : p < a + x.length
    · rw [if_pos h2, List.getElem?_append_left (by omega), List.getElem?_append_right (by rw [List.length_take]; omega), List.length_take, Nat.min_eq_left (by omega)]
    · rw [if_neg h2, List.getElem?_append_right (by omega), hl, List.getElem?_drop]
      congr 1
      omega

theorem cut_ext {u v : List Int} {a n : Nat} (h : ∀ q, q < n → u[a + q]? = v[a + q]?) : (u.drop a).take n = (v.drop a).take n := by
  apply List.ext_getElem?
  intro q
  by_cases hq : q < n
  · rw [List.getElem?_take_of_lt hq, List.getElem?_take_of_lt hq, List.getElem?_drop, List.getElem?_drop, h q hq]
  · rw [List.getElem?_take_eq_none (by omega), List.getElem?_take_eq_none (by omega)]

/-- Two old images that are alike where steps read make the same. -/
theorem evalFold_congr {o1 o2 : List Int} (hlen : o1.length = o2.length) : ∀ (l : List S52) (acc : List Int), (∀ s ∈ l, s.f0 ≠ 1 → s.f1 + s.f2 ≤ o1.length → (o1.drop s.f1.toNat).take s.f2.toNat = (o2.drop s.f1.toNat).take s.f2.toNat) → evalFold o1 l acc = evalFold o2 l acc
  | [], acc, _ => rfl
  | s :: l, acc, h => by
    unfold evalFold
    have ih := fun acc => evalFold_congr hlen l acc (fun t ht => h t (by simp [ht]))
    by_cases h1 : s.f0 = 1
    · rw [if_pos h1, if_pos h1, ih]
    · rw [if_neg h1, if_neg h1, hlen]
      by_cases h2 : s.f1 + s.f2 > o2.length
      · rw [if_pos h2, if_pos h2]
      · rw [if_neg h2, if_neg h2, ih]
        have e : stepBytes o1 s = stepBytes o2 s := by
          unfold stepBytes
          rw [h s (by simp) h1 (by omega)]
        rw [e]

/-- Plans whose steps all lie in the old image make something. -/
theorem evalFold_some {old : List Int} : ∀ (l : List S52) (acc : List Int), (∀ s ∈ l, rangeE old.length s = 0) → ∃ out, evalFold old l acc = some out
  | [], acc, _ => ⟨acc, rfl⟩
  | s :: l, acc, h => by
    have hs := h s (by simp)
    unfold rangeE at hs
    unfold evalFold
    by_cases h1 : s.f0 = 1
    · rw [if_pos h1]
      exact evalFold_some l _ (fun t ht => h t (by simp [ht]))
    · rw [if_neg h1] at hs ⊢
      by_cases h2 : s.f1 + s.f2 > old.length
      · rw [if_pos h2] at hs; cases hs
      · rw [if_neg h2]
        exact evalFold_some l _ (fun t ht => h t (by simp [ht]))

theorem plan_ok {b old want : Int} {bs : List Bool} {l : List S52} (h : planE b old want bs l = 0) : (∀ s ∈ l, Right s) ∧ sumLen l = want ∧ (∀ s ∈ l, rangeE old s = 0) ∧ ∀ s ∈ l, lateB b bs s = false := by
  unfold planE at h
  split at h
  · rename_i h1
    split at h
    · rename_i h2
      split at h
      · rename_i h3
        split at h
        · cases h
        · rename_i h4
          exact ⟨h1, h2, h3, fun s hs => by
            cases hq : lateB b bs s with
            | false => rfl
            | true => exact absurd (List.any_eq_true.2 ⟨s, hs, hq⟩) h4⟩
      · cases h
    · cases h
  · cases h

/-- The state of the image: which blocks D are done. -/
structure Done (plans : List (List S52)) (old : List Int) (b new : Int) (N : Nat) (D : List Int) (im : List Int) : Prop where
  len : im.length = N
  same : ∀ p : Nat, p < N → (∀ i ∈ D, ¬ (i * b ≤ p ∧ (p : Int) < i * b + b)) → im[p]? = (image0 old new)[p]?
  made : ∀ i ∈ D, (evalE (rd_L4 plans i) old (sizeOf i b new)).2 = 0 ∧ (im.drop (i * b).toNat).take (sizeOf i b new).toNat = (evalE (rd_L4 plans i) old (sizeOf i b new)).1

theorem far_blocks {b i x : Int} (hb : 1 ≤ b) (hne : i ≠ x) : i * b + b ≤ x * b ∨ x * b + b ≤ i * b := by
  rcases Int.lt_or_gt_of_ne hne with h | h
  · left
    have : (i + 1) * b ≤ x * b := Int.mul_le_mul_of_nonneg_right (by omega) (by omega)
    rw [Int.add_mul, Int.one_mul] at this
    exact this
  · right
    have : (x + 1) * b ≤ i * b := Int.mul_le_mul_of_nonneg_right (by omega) (by omega)
    rw [Int.add_mul, Int.one_mul] at this
    exact this

theorem done_step {plans : List (List S52)} {old : List Int} {b new : Int} {N : Nat} {D im : List Int} {x : Int} {n : Nat} (hb : 128 ≤ b ∧ b ≤ 4096) (hN : old.length ≤ N ∧ new ≤ N) (hx0 : 0 ≤ x) (hxn : x * b < new) (hD : ∀ i ∈ D, 0 ≤ i ∧ i < n ∧ i ≠ x ∧ i * b < new)
    (hd : Done plans old b new N D im) (hp : planE b old.length (sizeOf x b new) (marks n D) (rd_L4 plans x) = 0) :
    (evalE (rd_L4 plans x) (im.take old.length) (sizeOf x b new)).2 = 0 ∧ Done plans old b new N (D ++ [x]) (layAt im (x * b).toNat (evalE (rd_L4 plans x) (im.take old.length) (sizeOf x b new)).1) := by
  obtain ⟨hR, hs, hr, hlate⟩ := plan_ok hp
  have hx1 : 0 ≤ x * b := Int.mul_nonneg hx0 (by omega)
  have htl : (im.take old.length).length = old.length := by rw [List.length_take, hd.len]; omega
  have hcong : evalFold (im.take old.length) (rd_L4 plans x) [] = evalFold old (rd_L4 plans x) [] := evalFold_congr htl _ _ (fun s hs h1 h2 => by
    have hRs := hR s hs
    unfold Right at hRs
    rw [htl] at h2
    have hno := hlate s hs
    rw [late_marks (fun i hi => ⟨(hD i hi).1, (hD i hi).2.1⟩)] at hno
    refine cut_ext (fun q hq => ?_)
    have hp1 : s.f1.toNat + q < old.length := by omega
    rw [List.getElem?_take_of_lt hp1, hd.same _ (by omega) (fun i hi hbad => ?_)]
    · unfold image0
      rw [List.getElem?_append_left hp1]
    · have hm : Meets b i s := ⟨by omega, by rw [Int.add_mul, Int.one_mul]; omega, by omega⟩
      have := List.any_eq_false.1 hno i hi
      exact this (decide_eq_true hm))
  have heq : evalE (rd_L4 plans x) (im.take old.length) (sizeOf x b new) = evalE (rd_L4 plans x) old (sizeOf x b new) := by
    unfold evalE
    rw [hcong]
  obtain ⟨out, hout⟩ := evalFold_some (old := old) (rd_L4 plans x) [] hr
  have hev : evalE (rd_L4 plans x) old (sizeOf x b new) = (out, 0) := by
    unfold evalE
    rw [if_pos hR, if_pos hs, hout]
    rfl
  rw [heq, hev]
  have hol := evalFold_length hR hout
  have hsz : (out.length : Int) = sizeOf x b new := by simp at hol; omega
  have hsz2 : 0 ≤ sizeOf x b new ∧ sizeOf x b new ≤ b ∧ x * b + sizeOf x b new ≤ new := by unfold sizeOf; omega
  have hfit : (x * b).toNat + out.length ≤ im.length := by rw [hd.len]; omega
  refine ⟨rfl, ?_, ?_, ?_⟩
  · rw [layAt_length hfit, hd.len]
  · intro p hp hno
    rw [layAt_get hfit]
    have h1 := hno x (by simp)
    have h2 := hd.same p hp (fun i hi => hno i (by simp [hi]))
    by_cases c1 : p < (x * b).toNat
    · rw [if_pos c1]; exact h2
    · rw [if_neg c1, if_neg (by omega)]; exact h2
  · intro i hi
    rcases List.mem_append.1 hi with hi | hi
    · obtain ⟨m1, m2⟩ := hd.made i hi
      refine ⟨m1, ?_⟩
      rw [← m2]
      obtain ⟨hi0, _, hne, hib⟩ := hD i hi
      have hi1 : 0 ≤ i * b := Int.mul_nonneg hi0 (by omega)
      have hs3 : sizeOf i b new ≤ b := by unfold sizeOf; omega
      have hfar := far_blocks (b := b) (by omega) hne
      refine cut_ext (fun q hq => ?_)
      rw [layAt_get hfit]
      by_cases c1 : (i * b).toNat + q < (x * b).toNat
      · rw [if_pos c1]
      · rw [if_neg c1, if_neg (by omega)]
    · simp at hi
      subst hi
      refine ⟨by rw [hev], ?_⟩
      rw [hev]
      apply List.ext_getElem?
      intro q
      by_cases hq : q < (sizeOf i b new).toNat
      · rw [List.getElem?_take_of_lt hq, List.getElem?_drop, layAt_get hfit, if_neg (by omega), if_pos (by omega)]
        congr 1
        omega
      · rw [List.getElem?_take_eq_none (by omega), List.getElem?_eq_none (by show out.length ≤ q; omega)]

theorem fold_done (plans : List (List S52)) (old : List Int) (b new : Int) (N : Nat) (order : List Int) (n : Nat) (hb : 128 ≤ b ∧ b ≤ 4096) (hN : old.length ≤ N ∧ new ≤ N) (hon : ∀ x ∈ order, 0 ≤ x ∧ x < n ∧ x * b < new) (hnd : order.Nodup) :
    ∀ (m j : Nat) (im : List Int), j + m = order.length → Done plans old b new N (order.take j) im → checkE plans b old.length new (order.drop j) (marks n (order.take j)) = 0 → ∃ im', foldE plans b new old.length (order.drop j) im = (im'.take new.toNat, 0) ∧ Done plans old b new N order im'
  | 0, j, im, h, hd, _ => by
    rw [List.drop_of_length_le (by omega)]
    rw [List.take_of_length_le (by omega)] at hd
    exact ⟨im, rfl, hd⟩
  | m + 1, j, im, h, hd, hc => by
    have hj : j < order.length := by omega
    obtain ⟨hx0, hxn, hxb⟩ := hon order[j] (List.getElem_mem hj)
    have hpw := List.pairwise_iff_getElem.1 hnd
    have hD : ∀ i ∈ order.take j, 0 ≤ i ∧ i < n ∧ i ≠ order[j] ∧ i * b < new := fun i hi => by
      obtain ⟨q, hq, e⟩ := List.mem_iff_getElem.1 hi
      rw [List.length_take] at hq
      rw [List.getElem_take] at e
      have h1 := hon i (List.mem_of_mem_take hi)
      refine ⟨h1.1, h1.2.1, fun e2 => ?_, h1.2.2⟩
      exact hpw q j (by omega) hj (by omega) (e.trans e2)
    rw [List.drop_eq_getElem_cons hj] at hc ⊢
    rw [checkE_cons] at hc
    by_cases hp : planE b old.length (sizeOf order[j] b new) (marks n (order.take j)) (rd_L4 plans order[j]) = 0
    · rw [if_pos hp] at hc
      obtain ⟨h1, h2⟩ := done_step hb hN hx0 hxb hD hd hp
      have e : order.take (j + 1) = order.take j ++ [order[j]] := by rw [List.take_add_one, List.getElem?_eq_getElem hj]; rfl
      have hm := marks_set (n := n) (wr := order.take j) (x := order[j].toNat) (by omega)
      rw [hm, show ((order[j].toNat : Nat) : Int) = order[j] by omega, ← e] at hc
      rw [← e] at h2
      obtain ⟨im', h3, h4⟩ := fold_done plans old b new N order n hb hN hon hnd m (j + 1) _ (by omega) h2 hc
      refine ⟨im', ?_, h4⟩
      show (if (evalE (rd_L4 plans order[j]) (im.take old.length) (sizeOf order[j] b new)).2 = 0 then _ else _) = _
      rw [if_pos h1]
      exact h3
    · rw [if_neg hp] at hc
      exact absurd hc hp
end Go.Proofs.Ytbpdpgigpooacaa.PD
