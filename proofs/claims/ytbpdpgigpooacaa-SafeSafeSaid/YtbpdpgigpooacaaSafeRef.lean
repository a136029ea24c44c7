/-
  What the document's loops of layer 20 come to, in plain words: no program in sight.
-/
import Derived.Test.YtbpdpgigpooacaaPDx14
import Derived.Test.YtbpdpgigpooacaaHCheck
import Derived.Test.YtbpdpgigpooacaaHBlock
import Derived.Test.YtbpdpgigpooacaaLoops
namespace Go.Proofs.Ytbpdpgigpooacaa.PD
open Go.RowKit Go.Proofs.YtbpdpgigpooacaaW.PrintWords Go.Proofs.YtbpdpgigpooacaaW.PrintLast Go.Proofs.YtbpdpgigpooacaaW.PrintMore

theorem ref_blocks_eq (k : Nat) {n b : Int} (hb : 128 ≤ b ∧ b ≤ 4096) (hn : n ≤ 2147483647) : drogherref17_Blocks.f (k + 1) n b = some (blocksOf n b) := by
  unfold drogherref17_Blocks.f blocksOf
  by_cases h : n < 1
  · rw [if_pos h, if_pos h]
    simp [drogherref17_Blocks.j0]
  · rw [if_neg h, if_neg h, decide_eq_false (by omega)]
    simp only [drogherref17_Blocks.j0]
    have e1 : Int.tmod n b = n % b := Int.tmod_eq_emod_of_nonneg (by omega)
    have e2 : Int.tdiv n b = n / b := Int.tdiv_eq_ediv_of_nonneg (by omega)
    have p1 : 0 ≤ n / b := Int.ediv_nonneg (by omega) (by omega)
    have p2 : n / b ≤ n := Int.ediv_le_self _ (by omega)
    have e5 : wrap64 (n / b) = n / b := by unfold wrap64; omega
    have e6 : wrap64 (n / b + 1) = n / b + 1 := by unfold wrap64; omega
    rw [if_neg (by simp), if_neg (by omega), e1, e2, e5, e6]
    have h5 := Int.emod_add_mul_ediv n b
    have h6 := Int.emod_nonneg n (show b ≠ 0 by omega)
    have h7 := Int.emod_lt_of_pos n (show 0 < b by omega)
    have h8 : b * (n / b) = n / b * b := Int.mul_comm _ _
    by_cases hr : n % b > 0
    · rw [if_pos hr]
      congr 1
      have : (n - 1) / b = n / b := by
        have e : n - 1 = (n % b - 1) + (n / b) * b := by omega
        rw [e, Int.add_mul_ediv_right _ _ (by omega), Int.ediv_eq_zero_of_lt (by omega) (by omega)]
        omega
      omega
    · rw [if_neg hr]
      congr 1
      have : (n - 1) / b = n / b - 1 := by
        have e : n - 1 = (b - 1) + (n / b - 1) * b := by rw [Int.sub_mul]; omega
        rw [e, Int.add_mul_ediv_right _ _ (by omega), Int.ediv_eq_zero_of_lt (by omega) (by omega)]
        omega
      omega

/-! ### an order has each once -/
theorem once_l1 (l : List Int) (n i : Nat) (hl : l.length ≤ 1000) (hi : i ≤ 1000) (R : Option Bool) (K : Nat) (hK : ∀ k, K ≤ k → drogherref20_once.l0 k l n (wrap64 (i + 1)) = R) : ∀ (m j k : Nat), j + m = l.length → m + 1 + K ≤ k →
    drogherref20_once.l1 k l n i ((l.take j).count (i : Int)) l.length j = if l.count (i : Int) = 1 then R else some false
  | 0, j, k + 1, h, hk => by
    rw [List.take_of_length_le (by omega)]
    simp only [drogherref20_once.l1]
    rw [if_neg (by omega)]
    by_cases hc : l.count (i : Int) = 1
    · rw [if_pos (by omega), if_pos hc]; exact hK k (by omega)
    · rw [if_neg (by omega), if_neg hc]
  | m + 1, j, k + 1, h, hk => by
    have ih := once_l1 l n i hl hi R K hK m (j + 1) k (by omega) (by omega)
    simp only [drogherref20_once.l1]
    rw [if_pos (by omega), if_pos (by omega), if_pos (by omega), rdI (by omega), wrs j (by omega)]
    rw [List.take_add_one, List.getElem?_eq_getElem (by omega), List.count_append] at ih
    have hcl : (l.take j).count (i : Int) ≤ 1000 := Nat.le_trans List.count_le_length (by rw [List.length_take]; omega)
    by_cases hq : l[j] = (i : Int)
    · rw [if_pos hq, wrs _ (by omega)]
      rw [hq, show List.count (i : Int) (some (i : Int)).toList = 1 by simp] at ih
      exact ih
    · rw [if_neg hq]
      rw [show List.count (i : Int) (some l[j]).toList = 0 by simp [hq], Nat.add_zero] at ih
      exact ih
  | 0, _, 0, _, hk => by omega
  | _ + 1, _, 0, _, hk => by omega

set_option maxRecDepth 100000 in
theorem once_l0 (l : List Int) (n : Nat) (hl : l.length ≤ 100) (hn : n ≤ 100) : ∀ (m i k : Nat), i + m = n → m * 110 + 1 ≤ k → drogherref20_once.l0 k l n i = some (decide (∀ x ∈ List.range n, i ≤ x → l.count (x : Int) = 1))
  | 0, i, k + 1, h, hk => by
    simp only [drogherref20_once.l0]
    rw [if_neg (by omega), decide_eq_true (fun x h1 h2 => by have := List.mem_range.1 h1; omega)]
  | m + 1, i, k + 1, h, hk => by
    simp only [drogherref20_once.l0]
    rw [if_pos (by omega)]
    have h1 := once_l1 l n i (by omega) (by omega) _ (m * 110 + 1) (fun k' hk' => by rw [wrs i (by omega)]; exact once_l0 l n hl hn m (i + 1) k' (by omega) hk') l.length 0 k (by omega) (by omega)
    refine Eq.trans h1 ?_
    by_cases hc : l.count (i : Int) = 1
    · rw [if_pos hc]
      exact congrArg some (decide_eq_decide.2 ⟨fun h x h1 h2 => by
        by_cases e : x = i
        · rw [e]; exact hc
        · exact h x h1 (by omega), fun h x h1 h2 => h x h1 (by omega)⟩)
    · rw [if_neg hc, decide_eq_false (fun h => hc (h i (List.mem_range.2 (by omega)) (Nat.le_refl _)))]
  | 0, _, 0, _, hk => by omega
  | _ + 1, _, 0, _, hk => by omega

theorem perm_up : ∀ (n : Nat) (l : List Int), l.length = n → (∀ x : Nat, x < n → l.count (x : Int) = 1) → l.Perm (upFrom n)
  | 0, l, h, _ => by rw [List.eq_nil_of_length_eq_zero h]; exact List.Perm.refl _
  | n + 1, l, h, hc => by
    have hm : (n : Int) ∈ l := List.count_pos_iff.1 (by rw [hc n (by omega)]; omega)
    have hp := List.perm_cons_erase hm
    have ih := perm_up n (l.erase (n : Int)) (by rw [List.length_erase_of_mem hm]; omega) (fun x hx => by
      rw [List.count_erase_of_ne (by omega)]
      exact hc x (by omega))
    rw [upFrom_succ]
    exact hp.trans ((ih.cons _).trans (List.perm_append_singleton _ _).symm)

theorem once_iff (l : List Int) (n : Nat) : Once l n ↔ l.length = n ∧ ∀ x : Nat, x < n → l.count (x : Int) = 1 := by
  unfold Once
  constructor
  · rintro ⟨h1, h2⟩
    refine ⟨h1, fun x hx => ?_⟩
    have hp : (upFrom n).Perm l := by rw [← h2]; exact List.mergeSort_perm l _
    rw [← hp.count_eq]
    have hnd : (upFrom n).Nodup := (upFrom_pairwise n).imp (fun h => by omega)
    rw [hnd.count, if_pos (mem_upFrom.2 ⟨by omega, by omega⟩)]
  · rintro ⟨h1, h2⟩
    refine ⟨h1, ?_⟩
    have hp := perm_up n l h1 h2
    have hnd : (upFrom n).Nodup := (upFrom_pairwise n).imp (fun h => by omega)
    exact sort_eq_up (hp.nodup_iff.2 hnd) (upFrom_pairwise n) (fun x => hp.mem_iff)

theorem ref_once (l : List Int) (n : Nat) (hl : l.length ≤ 100) (hn : n ≤ 100) {k : Nat} (hk : 11001 ≤ k) : drogherref20_once.f k l n = some (decide (Once l n)) := by
  unfold drogherref20_once.f
  by_cases h : l.length = n
  · rw [if_pos (by omega)]
    have := once_l0 l n hl hn n 0 k (by omega) (by omega)
    refine Eq.trans this (congrArg some (decide_eq_decide.2 ⟨fun hh => (once_iff l n).2 ⟨h, fun x hx => hh x (List.mem_range.2 hx) (Nat.zero_le _)⟩, fun hh x hx _ => ((once_iff l n).1 hh).2 x (List.mem_range.1 hx)⟩))
  · rw [if_neg (by omega), decide_eq_false (fun hh => h hh.1)]

theorem ref_ahead (l0 : List (List S52)) (l1 : List Int) (b old new : Int) (h0 : l0.length ≤ 100) (h1 : l1.length ≤ 100) {k : Nat} (hk : 11003 ≤ k) : drogherref20_Ahead.f k l0 l1 b old new = some (aheadE l0.length l1 b old new) := by
  obtain ⟨k', rfl⟩ : ∃ k', k = k' + 1 := ⟨k - 1, by omega⟩
  have key : ∀ x, x = true → drogherref20_Ahead.j0 (k' + 1) l0 l1 b new x = some 1 := fun x hx => by simp [drogherref20_Ahead.j0, hx]
  unfold drogherref20_Ahead.f aheadE
  by_cases c1 : b < 128
  · rw [if_pos c1, if_neg (by omega)]; exact key _ rfl
  by_cases c2 : b > 4096
  · rw [if_neg c1, if_pos c2, if_neg (by omega)]; exact key _ rfl
  by_cases c3 : old < 0
  · rw [if_neg c1, if_neg c2, if_pos c3, if_neg (by omega)]; exact key _ rfl
  by_cases c4 : old > 2147483647
  · rw [if_neg c1, if_neg c2, if_neg c3, if_pos c4, if_neg (by omega)]; exact key _ rfl
  by_cases c5 : new < 0
  · rw [if_neg c1, if_neg c2, if_neg c3, if_neg c4, if_pos c5, if_neg (by omega)]; exact key _ rfl
  by_cases c6 : new > 2147483647
  · rw [if_neg c1, if_neg c2, if_neg c3, if_neg c4, if_neg c5, if_neg (by omega)]; exact key _ (decide_eq_true c6)
  rw [if_neg c1, if_neg c2, if_neg c3, if_neg c4, if_neg c5, if_pos (by omega), decide_eq_false c6]
  simp only [drogherref20_Ahead.j0]
  obtain ⟨k'', rfl⟩ : ∃ k'', k' = k'' + 1 := ⟨k' - 1, by omega⟩
  rw [if_neg (by simp), ref_blocks_eq k'' (by omega) (by omega), Option.bind_some]
  by_cases hb : (l0.length : Int) = blocksOf new b
  · rw [if_pos hb, ref_once l1 l0.length h1 h0 (by omega), Option.bind_some]
    by_cases ho : Once l1 l0.length
    · rw [decide_eq_true ho, if_pos rfl, if_pos ⟨hb, ho⟩]
    · rw [decide_eq_false ho, if_neg (by simp), if_neg (fun hh => ho hh.2)]
  · rw [if_neg hb, if_neg (fun hh => hb hh.1)]

theorem ref_size {i b new : Int} (hb : 128 ≤ b ∧ b ≤ 4096) (hi : 0 ≤ i ∧ i ≤ 100) (hn : 0 ≤ new ∧ new ≤ 2147483647) : drogherref20_size.f i b new = some (sizeOf i b new) := by
  unfold drogherref20_size.f sizeOf
  have p0 : 0 ≤ i * b := Int.mul_nonneg hi.1 (by omega)
  have p1 : i * b ≤ 100 * 4096 := Int.mul_le_mul hi.2 hb.2 (by omega) (by omega)
  have e1 : wrap64 (i * b) = i * b := by unfold wrap64; omega
  have e2 : wrap64 (new - i * b) = new - i * b := by unfold wrap64; omega
  rw [e1, e2]
  split <;> (congr 1; omega)

/-! ### one plan -/
theorem ref_meets {b x : Int} {s : S52} (hb : 128 ≤ b ∧ b ≤ 4096) (hx : 0 ≤ x ∧ x ≤ 4096) (hR : Right s) : drogherref20_meets.f s.f0 s.f1 s.f2 s.f3 b x = some (decide (Meets b x s)) := by
  have p1 : x * b ≤ 4096 * 4096 := Int.mul_le_mul hx.2 hb.2 (by omega) (by omega)
  have p0 : 0 ≤ x * b := Int.mul_nonneg hx.1 (by omega)
  have p2 : (x + 1) * b = x * b + b := by rw [Int.add_mul, Int.one_mul]
  have e1 : wrap64 (x + 1) = x + 1 := wrz _ (by omega)
  have e2 : wrap64 ((x + 1) * b) = (x + 1) * b := wrz _ (by omega)
  have e3 : wrap64 (x * b) = x * b := wrz _ (by omega)
  have e4 : wrap64 (s.f1 + s.f2) = s.f1 + s.f2 := wrz _ (by unfold Right at hR; omega)
  unfold drogherref20_meets.f
  rw [e1, e2, e3, e4]
  by_cases m0 : 1 < s.f0
  · rw [if_pos m0]
    by_cases m1 : s.f1 < (x + 1) * b
    · rw [if_pos m1]
      exact congrArg some (decide_eq_decide.2 ⟨fun h => ⟨m0, m1, h⟩, fun h => h.2.2⟩)
    · rw [if_neg m1, decide_eq_false (fun h => m1 h.2.1)]
  · rw [if_neg m0, decide_eq_false (fun h => m0 h.1)]

theorem one_l3 (l : List S52) (wr : List Int) (b : Int) (j : Nat) (hj : j < l.length) (hb : 128 ≤ b ∧ b ≤ 4096) (hw : ∀ x ∈ wr, 0 ≤ x ∧ x ≤ 4096) (hwl : wr.length ≤ 1000) (hR : Right l[j]) (R : Option Int) (K : Nat) (hK : ∀ k, K ≤ k → drogherref20_one.l2 k l wr b l.length (wrap64 (j + 1)) = R) : ∀ (m i k : Nat), i + m = wr.length → m + 1 + K ≤ k →
    drogherref20_one.l3 k l wr b j l.length j wr.length i = if (wr.drop i).any (fun x => decide (Meets b x l[j])) = true then some 23 else R
  | 0, i, k + 1, h, hk => by
    rw [List.drop_of_length_le (by omega), List.any_nil, if_neg (by simp)]
    simp only [drogherref20_one.l3]
    rw [if_neg (by omega)]
    exact hK k (by omega)
  | m + 1, i, k + 1, h, hk => by
    have ih := one_l3 l wr b j hj hb hw hwl hR R K hK m (i + 1) k (by omega) (by omega)
    rw [List.drop_eq_getElem_cons (by omega : i < wr.length), List.any_cons]
    simp only [drogherref20_one.l3]
    rw [if_pos (by omega), if_pos (by omega), if_pos (by omega), if_pos (by omega), if_pos (by omega), rdT52 hj, rdI (by omega), ref_meets hb (hw _ (List.getElem_mem _)) hR, Option.bind_some, wrs i (by omega), ih]
    by_cases hq : Meets b wr[i] l[j]
    · rw [decide_eq_true hq, if_pos rfl, Bool.true_or, if_pos rfl]
    · rw [decide_eq_false hq, if_neg (by simp), Bool.false_or]
  | 0, _, 0, _, hk => by omega
  | _ + 1, _, 0, _, hk => by omega

set_option maxRecDepth 100000 in
theorem one_l2 (l : List S52) (wr : List Int) (b : Int) (hl : l.length ≤ 100) (hb : 128 ≤ b ∧ b ≤ 4096) (hw : ∀ x ∈ wr, 0 ≤ x ∧ x ≤ 4096) (hwl : wr.length ≤ 100) (hR : ∀ s ∈ l, Right s) : ∀ (m j k : Nat), j + m = l.length → m * 110 + 1 ≤ k →
    drogherref20_one.l2 k l wr b l.length j = some (if (l.drop j).any (fun s => wr.any (fun x => decide (Meets b x s))) = true then 23 else 0)
  | 0, j, k + 1, h, hk => by
    rw [List.drop_of_length_le (by omega), List.any_nil, if_neg (by simp)]
    simp only [drogherref20_one.l2]
    rw [if_neg (by omega)]
  | m + 1, j, k + 1, h, hk => by
    rw [List.drop_eq_getElem_cons (by omega : j < l.length), List.any_cons]
    simp only [drogherref20_one.l2]
    rw [if_pos (by omega)]
    have h1 := one_l3 l wr b j (by omega) hb hw (by omega) (hR _ (List.getElem_mem _)) _ (m * 110 + 1) (fun k' hk' => by rw [wrs j (by omega)]; exact one_l2 l wr b hl hb hw hwl hR m (j + 1) k' (by omega) hk') wr.length 0 k (by omega) (by omega)
    refine Eq.trans h1 ?_
    rw [List.drop_zero]
    by_cases hq : wr.any (fun x => decide (Meets b x l[j])) = true
    · rw [if_pos hq, hq, Bool.true_or, if_pos rfl]
    · rw [if_neg hq, Bool.eq_false_iff.2 hq, Bool.false_or]
  | 0, _, 0, _, hk => by omega
  | _ + 1, _, 0, _, hk => by omega

theorem one_l1 (l : List S52) (wr : List Int) (b old : Int) (hl : l.length ≤ 100) (hb : 128 ≤ b ∧ b ≤ 4096) (hw : ∀ x ∈ wr, 0 ≤ x ∧ x ≤ 4096) (hwl : wr.length ≤ 100) (hR : ∀ s ∈ l, Right s) : ∀ (m j k : Nat), j + m = l.length → m + 11002 ≤ k →
    drogherref20_one.l1 k l wr b old l.length j = some (if ∀ s ∈ l.drop j, rangeE old s = 0 then (if l.any (fun s => wr.any (fun x => decide (Meets b x s))) = true then 23 else 0) else 5)
  | 0, j, k + 1, h, hk => by
    rw [List.drop_of_length_le (by omega), if_pos (by simp)]
    simp only [drogherref20_one.l1]
    rw [if_neg (by omega)]
    exact one_l2 l wr b hl hb hw hwl hR l.length 0 k (by omega) (by omega)
  | m + 1, j, k + 1, h, hk => by
    have ih := one_l1 l wr b old hl hb hw hwl hR m (j + 1) k (by omega) (by omega)
    rw [List.drop_eq_getElem_cons (by omega : j < l.length)]
    simp only [drogherref20_one.l1]
    rw [if_pos (by omega), if_pos (by omega), if_pos (by omega), rdT52 (by omega), wrs j (by omega), ih]
    have hRj := hR l[j] (List.getElem_mem _)
    generalize l[j] = s at hRj ⊢
    rw [wrz (s.f1 + s.f2) (by unfold Right at hRj; omega)]
    have hall : (∀ t ∈ s :: l.drop (j + 1), rangeE old t = 0) ↔ rangeE old s = 0 ∧ ∀ t ∈ l.drop (j + 1), rangeE old t = 0 := by simp
    by_cases m0 : s.f0 > 1
    · rw [if_pos m0]
      by_cases m1 : s.f1 + s.f2 > old
      · rw [if_pos m1]
        have e : rangeE old s = 5 := by unfold rangeE; rw [if_neg (by omega), if_pos m1]
        rw [if_neg (fun hh => by have := (hall.1 hh).1; omega)]
      · rw [if_neg m1]
        have e : rangeE old s = 0 := by unfold rangeE; rw [if_neg (by omega), if_neg m1]
        congr 1
        by_cases hq : ∀ t ∈ l.drop (j + 1), rangeE old t = 0
        · rw [if_pos hq, if_pos (hall.2 ⟨e, hq⟩)]
        · rw [if_neg hq, if_neg (fun hh => hq (hall.1 hh).2)]
    · rw [if_neg m0]
      have e : rangeE old s = 0 := by unfold rangeE; rw [if_pos (by unfold Right at hRj; omega)]
      congr 1
      by_cases hq : ∀ t ∈ l.drop (j + 1), rangeE old t = 0
      · rw [if_pos hq, if_pos (hall.2 ⟨e, hq⟩)]
      · rw [if_neg hq, if_neg (fun hh => hq (hall.1 hh).2)]
  | 0, _, 0, _, hk => by omega
  | _ + 1, _, 0, _, hk => by omega

theorem one_l0 (l : List S52) (wr : List Int) (b old want : Int) (hl : l.length ≤ 100) (hb : 128 ≤ b ∧ b ≤ 4096) (hw : ∀ x ∈ wr, 0 ≤ x ∧ x ≤ 4096) (hwl : wr.length ≤ 100) : ∀ (m j k : Nat), j + m = l.length → (∀ s ∈ l.take j, Right s) → m + 11200 ≤ k →
    drogherref20_one.l0 k l wr b old want (sumLen (l.take j)) l.length j = some (if ∀ s ∈ l, Right s then (if sumLen l = want then (if ∀ s ∈ l, rangeE old s = 0 then (if l.any (fun s => wr.any (fun x => decide (Meets b x s))) = true then 23 else 0) else 5) else 13) else 3)
  | 0, j, k + 1, h, hj, hk => by
    rw [List.take_of_length_le (by omega)] at hj ⊢
    rw [if_pos hj]
    simp only [drogherref20_one.l0]
    rw [if_neg (by omega)]
    by_cases hs : sumLen l = want
    · rw [if_pos hs, if_pos hs]
      have := one_l1 l wr b old hl hb hw hwl hj l.length 0 k (by omega) (by omega)
      rw [List.drop_zero] at this
      exact this
    · rw [if_neg hs, if_neg hs]
  | m + 1, j, k + 1, h, hj, hk => by
    simp only [drogherref20_one.l0]
    obtain ⟨k', rfl⟩ : ∃ k', k = k' + 1 := ⟨k - 1, by omega⟩
    rw [if_pos (by omega), if_pos (by omega), if_pos (by omega), rdT52 (by omega), ref_Right_eq, Option.bind_some, wrs j (by omega)]
    by_cases hR : Right l[j]
    · rw [decide_eq_true hR, if_pos rfl]
      have hbd := sumLen_bound hj
      rw [List.length_take] at hbd
      have hst := sumLen_take (l := l) (k := j) (by omega)
      rw [wrz _ (by unfold Right at hR; omega), ← hst]
      refine one_l0 l wr b old want hl hb hw hwl m (j + 1) _ (by omega) ?_ (by omega)
      rw [List.take_add_one, List.getElem?_eq_getElem (by omega)]
      intro s hs
      rcases List.mem_append.1 hs with h1 | h1
      · exact hj s h1
      · simp at h1; rw [h1]; exact hR
    · rw [decide_eq_false hR, if_neg (by simp), if_neg (fun hh => hR (hh _ (List.getElem_mem _)))]
  | 0, _, 0, _, _, hk => by omega
  | _ + 1, _, 0, _, _, hk => by omega

/-- Which blocks an order's part has. -/
def marks (n : Nat) (wr : List Int) : List Bool := (List.range n).map (fun i : Nat => decide ((i : Int) ∈ wr))

theorem late_marks {b : Int} {n : Nat} {wr : List Int} (hw : ∀ x ∈ wr, 0 ≤ x ∧ x < n) (s : S52) : lateB b (marks n wr) s = wr.any (fun x => decide (Meets b x s)) := by
  have hlen : (marks n wr).length = n := by simp [marks]
  have hget : ∀ i, i < n → (marks n wr)[i]?.getD false = decide ((i : Int) ∈ wr) := fun i hi => by simp [marks, hi]
  cases h : wr.any (fun x => decide (Meets b x s)) with
  | true =>
    obtain ⟨x, hx, hm⟩ := List.any_eq_true.1 h
    obtain ⟨h0, h1⟩ := hw x hx
    unfold lateB
    rw [List.any_eq_true, hlen]
    refine ⟨x.toNat, List.mem_range.2 (by omega), ?_⟩
    rw [hget _ (by omega), show ((x.toNat : Nat) : Int) = x by omega, decide_eq_true hx, Bool.true_and]
    exact hm
  | false =>
    unfold lateB
    rw [List.any_eq_false, hlen]
    intro i hi
    have hi' := List.mem_range.1 hi
    rw [hget i hi']
    by_cases hx : (i : Int) ∈ wr
    · have := List.any_eq_false.1 h _ hx
      rw [decide_eq_true hx, Bool.true_and]
      exact this
    · rw [decide_eq_false hx, Bool.false_and]
      simp

theorem ref_one (l : List S52) (wr : List Int) (b old want : Int) (n : Nat) (hn : n ≤ 100) (hl : l.length ≤ 100) (hb : 128 ≤ b ∧ b ≤ 4096) (hw : ∀ x ∈ wr, 0 ≤ x ∧ x < n) (hwl : wr.length ≤ 100) {k : Nat} (hk : 11300 ≤ k) :
    drogherref20_one.f k l wr b old want = some (planE b old want (marks n wr) l) := by
  have h := one_l0 l wr b old want hl hb (fun x hx => by have := hw x hx; omega) hwl l.length 0 k (by omega) (by simp) (by omega)
  unfold drogherref20_one.f planE
  have e : (fun s => wr.any (fun x => decide (Meets b x s))) = lateB b (marks n wr) := funext (fun s => (late_marks hw s).symm)
  rw [e] at h
  exact h

theorem marks_set {n : Nat} {wr : List Int} {x : Nat} (hx : x < n) : (marks n wr).set x true = marks n (wr ++ [(x : Int)]) := by
  unfold marks
  apply List.ext_getElem
  · simp
  · intro i h1 h2
    simp at h2
    rw [List.getElem_set]
    by_cases e : x = i
    · subst e; simp
    · rw [if_neg e]
      simp
      omega

theorem checkE_cons (plans : List (List S52)) (b old new i : Int) (rest : List Int) (bs : List Bool) : checkE plans b old new (i :: rest) bs = if planE b old (sizeOf i b new) bs (rd_L4 plans i) = 0 then checkE plans b old new rest (bs.set i.toNat true) else planE b old (sizeOf i b new) bs (rd_L4 plans i) := rfl

theorem ref_check_l0 (plans : List (List S52)) (order : List Int) (b old new : Int) (hp : plans.length ≤ 100) (hl : ∀ l ∈ plans, l.length ≤ 100) (ho : order.length ≤ 100) (hon : ∀ x ∈ order, 0 ≤ x ∧ x < plans.length) (hb : 128 ≤ b ∧ b ≤ 4096) (hn : 0 ≤ new ∧ new ≤ 2147483647) : ∀ (m j k : Nat), j + m = order.length → m + 11400 ≤ k →
    drogherref20_Check.l0 k plans order b old new order.length j = some (checkE plans b old new (order.drop j) (marks plans.length (order.take j)))
  | 0, j, k + 1, h, hk => by
    rw [List.drop_of_length_le (by omega)]
    simp only [drogherref20_Check.l0]
    rw [if_neg (by omega)]
    rfl
  | m + 1, j, k + 1, h, hk => by
    have ih := ref_check_l0 plans order b old new hp hl ho hon hb hn m (j + 1) k (by omega) (by omega)
    have hx := hon order[j] (List.getElem_mem _)
    obtain ⟨x, hxe⟩ : ∃ x : Nat, order[j] = (x : Int) := ⟨order[j].toNat, by omega⟩
    rw [hxe] at hx
    rw [List.drop_eq_getElem_cons (by omega : j < order.length), hxe]
    simp only [drogherref20_Check.l0]
    rw [if_pos (by omega), if_pos (by omega), if_pos (by omega), rdI (by omega), hxe, if_pos (by omega), if_pos (by omega), if_pos (by omega), ref_size hb (by omega) hn, Option.bind_some, Int.toNat_natCast,
      ref_one _ (order.take j) b old _ plans.length hp (hl _ (plan_mem (by omega) rfl)) hb (fun y hy => hon y (List.mem_of_mem_take hy)) (by rw [List.length_take]; omega) (by omega), Option.bind_some, wrs j (by omega), ih]
    rw [checkE_cons, Int.toNat_natCast, marks_set (by omega), List.take_add_one, List.getElem?_eq_getElem (by omega), hxe]
    by_cases hE : planE b old (sizeOf x b new) (marks plans.length (order.take j)) (rd_L4 plans x) = 0
    · rw [if_pos hE, if_pos hE]
      rfl
    · rw [if_neg hE, if_neg hE]
  | 0, _, 0, _, hk => by omega
  | _ + 1, _, 0, _, hk => by omega

theorem marks_nil (n : Nat) : marks n [] = List.replicate n false := by
  unfold marks
  apply List.ext_getElem
  · simp
  · intro i h1 h2; simp

theorem ahead_once {n : Nat} {order : List Int} {b old new : Int} (h : aheadE n order b old new = 0) : (128 ≤ b ∧ b ≤ 4096 ∧ 0 ≤ old ∧ old ≤ 2147483647 ∧ 0 ≤ new ∧ new ≤ 2147483647) ∧ (n : Int) = blocksOf new b ∧ Once order n := by
  unfold aheadE at h
  split at h
  · rename_i h1
    split at h
    · rename_i h2; exact ⟨h1, h2.1, h2.2⟩
    · cases h
  · cases h

theorem ref_check (plans : List (List S52)) (order : List Int) (b old new : Int) (hp : plans.length ≤ 100) (hl : ∀ l ∈ plans, l.length ≤ 100) (ho : order.length ≤ 100) {k : Nat} (hk : 11600 ≤ k) : drogherref20_Check.f k plans order b old new = safe_Check.f plans order b old new := by
  unfold drogherref20_Check.f safe_Check.f
  rw [ref_ahead plans order b old new hp ho (by omega), Option.bind_some, if_pos (show plans.length ≤ 100 ∧ (∀ l ∈ plans, l.length ≤ 100) ∧ order.length ≤ 1000 from ⟨hp, hl, by omega⟩)]
  by_cases hz : aheadE plans.length order b old new = 0
  · obtain ⟨hr, _, hon⟩ := ahead_once hz
    rw [if_pos hz, if_pos hz, ← marks_nil]
    exact ref_check_l0 plans order b old new hp hl ho (fun x hx => once_mem hon hx) (by omega) (by omega) order.length 0 k (by omega) (by omega)
  · rw [if_neg hz, if_neg hz]
end Go.Proofs.Ytbpdpgigpooacaa.PD
