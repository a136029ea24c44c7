/-
  What the document's fold makes, in plain words: no program in sight.
-/
import Derived.Test.YtbpdpgigpooacaaPDx20
import Derived.Test.YtbpdpgigpooacaaEvalRef
import Derived.Test.YtbpdpgigpooacaaSafeRef
namespace Go.Proofs.Ytbpdpgigpooacaa.PD
open Go.RowKit Go.Proofs.YtbpdpgigpooacaaW.PrintWords Go.Proofs.YtbpdpgigpooacaaW.PrintLast Go.Proofs.YtbpdpgigpooacaaW.PrintMore

/-- Zeros behind, up to n. -/
def padTo (n : Nat) (l : List Int) : List Int := l ++ List.replicate (n - l.length) 0

theorem padTo_length (n : Nat) (l : List Int) : (padTo n l).length = max n l.length := by
  unfold padTo
  rw [List.length_append, List.length_replicate]
  omega

theorem padTo_self {n : Nat} {l : List Int} (h : n ≤ l.length) : padTo n l = l := by
  unfold padTo
  rw [show n - l.length = 0 by omega, List.replicate_zero, List.append_nil]

theorem padTo_zero {n : Nat} {l : List Int} (h : l.length < n) : padTo n (l ++ [0]) = padTo n l := by
  unfold padTo
  rw [List.length_append, List.length_singleton, show n - l.length = (n - (l.length + 1)) + 1 by omega, List.replicate_succ, List.append_assoc]
  rfl

theorem padTo_padTo {m n : Nat} (h : m ≤ n) (l : List Int) : padTo n (padTo m l) = padTo n l := by
  have e : (padTo m l).length = max m l.length := padTo_length m l
  unfold padTo at *
  rw [List.append_assoc, List.append_cancel_left_eq, e, List.replicate_append_replicate]
  congr 1
  omega

theorem layAt_pad {n at_ : Nat} {u x : List Int} (h : at_ + x.length ≤ u.length) : padTo n (layAt u at_ x) = layAt (padTo n u) at_ x := by
  have hl := layAt_length h
  unfold padTo
  rw [hl]
  unfold layAt
  rw [List.take_append_of_le_length (by omega), List.drop_append_of_le_length (by omega), List.append_assoc]

theorem layAt_at {u x : List Int} {a p : Nat} (h : a + x.length ≤ u.length) : (layAt u a x)[p]? = if p < a then u[p]? else if p < a + x.length then x[p - a]? else u[p]? := by
  unfold layAt
  have hl : (u.take a ++ x).length = a + x.length := by rw [List.length_append, List.length_take]; omega
  by_cases h1 : p < a
  · rw [if_pos h1, List.getElem?_append_left (by omega), List.getElem?_append_left (by rw [List.length_take]; omega), List.getElem?_take_of_lt h1]
  · rw [if_neg h1]
    by_cases h2 : p < a + x.length
    · rw [if_pos h2, List.getElem?_append_left (by omega), List.getElem?_append_right (by rw [List.length_take]; omega), List.length_take, Nat.min_eq_left (by omega)]
    · rw [if_neg h2, List.getElem?_append_right (by omega), hl, List.getElem?_drop]
      congr 1
      omega

theorem write_l1 (x : List Int) (at_ : Nat) (u : List Int) (hx : x.length ≤ 100000) (ha : at_ ≤ 100000) (hu : at_ + x.length ≤ u.length) : ∀ (n i k : Nat), i + n = x.length → n + 1 ≤ k → drogherref20_Write.l1 k at_ x (layAt u at_ (x.take i)) x.length i = some (layAt u at_ x)
  | 0, i, k + 1, h, hk => by
    rw [List.take_of_length_le (by omega)]
    simp only [drogherref20_Write.l1]
    rw [if_neg (by omega)]
  | n + 1, i, k + 1, h, hk => by
    have ih := write_l1 x at_ u hx ha hu n (i + 1) k (by omega) (by omega)
    have hl : (layAt u at_ (x.take i)).length = u.length := layAt_length (by rw [List.length_take]; omega)
    simp only [drogherref20_Write.l1]
    rw [if_pos (by omega), if_pos (by omega), if_pos (by omega), wrz _ (by omega), if_pos (by omega), if_pos (by rw [hl]; omega), rdI (by omega), wrs i (by omega)]
    have e : (layAt u at_ (x.take i)).set ((at_ : Int) + i).toNat x[i] = layAt u at_ (x.take (i + 1)) := by
      have f1 : (x.take i).length = i := by rw [List.length_take]; omega
      have f2 : (x.take (i + 1)).length = i + 1 := by rw [List.length_take]; omega
      rw [show ((at_ : Int) + i).toNat = at_ + i by omega]
      apply List.ext_getElem?
      intro q
      rw [List.getElem?_set, hl, layAt_at (by rw [f1]; omega), layAt_at (by rw [f2]; omega), f1, f2]
      by_cases c0 : at_ + i = q
      · subst c0
        rw [if_pos rfl, if_pos (by omega), if_neg (by omega), if_pos (by omega), show at_ + i - at_ = i by omega, List.getElem?_take_of_lt (by omega), List.getElem?_eq_getElem (by omega)]
      · rw [if_neg c0]
        by_cases c1 : q < at_
        · rw [if_pos c1, if_pos c1]
        · rw [if_neg c1, if_neg c1]
          by_cases c2 : q < at_ + i
          · rw [if_pos c2, if_pos (by omega), List.getElem?_take_of_lt (by omega), List.getElem?_take_of_lt (by omega)]
          · rw [if_neg c2, if_neg (by omega)]
    rw [e]
    exact ih
  | 0, _, 0, _, hk => by omega
  | _ + 1, _, 0, _, hk => by omega

theorem write_l0 (x : List Int) (at_ : Nat) (hx : x.length ≤ 100000) (ha : at_ ≤ 100000) : ∀ (n k : Nat) (u : List Int), u.length + n = max u.length (at_ + x.length) → n + x.length + 3 ≤ k → drogherref20_Write.l0 k at_ x u = some (layAt (padTo (at_ + x.length) u) at_ x)
  | 0, k + 1, u, h, hk => by
    simp only [drogherref20_Write.l0]
    rw [wrz _ (by omega), if_neg (by omega), padTo_self (by omega)]
    have := write_l1 x at_ u hx ha (by omega) x.length 0 k (by omega) (by omega)
    rw [List.take_zero] at this
    have e : layAt u at_ [] = u := by unfold layAt; rw [List.append_nil, List.length_nil, Nat.add_zero, List.take_append_drop]
    rw [e] at this
    exact this
  | n + 1, k + 1, u, h, hk => by
    simp only [drogherref20_Write.l0]
    rw [wrz _ (by omega), if_pos (by omega), if_pos (by omega)]
    have := write_l0 x at_ hx ha n k (u ++ [0]) (by rw [List.length_append, List.length_singleton]; omega) (by omega)
    rw [padTo_zero (by omega)] at this
    exact this
  | 0, 0, _, _, hk => by omega
  | _ + 1, 0, _, _, hk => by omega

theorem ref_write (x : List Int) (at_ : Nat) (u : List Int) (hx : x.length ≤ 100000) (ha : at_ ≤ 100000) (hu : u.length ≤ 100000) {k : Nat} (hk : 400000 ≤ k) : drogherref20_Write.f k u at_ x = some (layAt (padTo (at_ + x.length) u) at_ x) := by
  unfold drogherref20_Write.f
  rw [Option.bind_some, if_pos (by simp; omega), List.nil_append]
  exact write_l0 x at_ hx ha (max u.length (at_ + x.length) - u.length) k u (by omega) (by omega)

theorem fold_l1 (new : Int) (hn : 0 ≤ new ∧ new ≤ 100000) : ∀ (n k : Nat) (u : List Int), u.length + n = max u.length new.toNat → n + 1 ≤ k → drogherref20_Fold.l1 k new u = some ((padTo new.toNat u).take new.toNat, 0)
  | 0, k + 1, u, h, hk => by
    simp only [drogherref20_Fold.l1]
    rw [if_neg (by omega), if_pos (by omega), if_pos (by omega), padTo_self (by omega)]
  | n + 1, k + 1, u, h, hk => by
    simp only [drogherref20_Fold.l1]
    rw [if_pos (by omega), if_pos (by omega)]
    have := fold_l1 new hn n k (u ++ [0]) (by rw [List.length_append, List.length_singleton]; omega) (by omega)
    rw [padTo_zero (by omega)] at this
    exact this
  | 0, 0, _, _, hk => by omega
  | _ + 1, 0, _, _, hk => by omega

theorem fold_l0 (b : List Int) (plans : List (List S52)) (order : List Int) (bl new : Int) (N : Nat) (hN : b.length ≤ N ∧ new ≤ N ∧ N ≤ 5000) (hp : plans.length ≤ 100) (hl : ∀ l ∈ plans, l.length ≤ 100) (ho : order.length ≤ 100) (hon : ∀ x ∈ order, 0 ≤ x ∧ x < plans.length) (hbl : (plans.length : Int) = blocksOf new bl) (hb : 128 ≤ bl ∧ bl ≤ 4096) (hn : 0 ≤ new ∧ new ≤ 5000) :
    ∀ (m j k : Nat) (u : List Int), j + m = order.length → b.length ≤ u.length → u.length ≤ N → m + 500000 ≤ k → drogherref20_Fold.l0 k b plans order bl new u order.length j = some (foldE plans bl new b.length (order.drop j) (padTo N u))
  | 0, j, k + 1, u, h, h1, h2, hk => by
    rw [List.drop_of_length_le (by omega)]
    simp only [drogherref20_Fold.l0]
    rw [if_neg (by omega)]
    have e : (padTo new.toNat u).take new.toNat = (padTo N u).take new.toNat := by
      rw [← padTo_padTo (show new.toNat ≤ N by omega) u]
      have f1 : new.toNat ≤ (padTo new.toNat u).length := by unfold padTo; rw [List.length_append, List.length_replicate]; omega
      generalize padTo new.toNat u = y at f1 ⊢
      unfold padTo
      rw [List.take_append_of_le_length f1]
    rw [fold_l1 new (by omega) (max u.length new.toNat - u.length) k u (by omega) (by omega), e]
    rfl
  | m + 1, j, k + 1, u, h, h1, h2, hk => by
    have hx := hon order[j] (List.getElem_mem _)
    obtain ⟨x, hxe⟩ : ∃ x : Nat, order[j] = (x : Int) := ⟨order[j].toNat, by omega⟩
    rw [hxe] at hx
    obtain ⟨hxb, hn1⟩ := block_in (by omega) hbl hx.1 hx.2
    have hxb0 : 0 ≤ (x : Int) * bl := Int.mul_nonneg (by omega) (by omega)
    rw [List.drop_eq_getElem_cons (by omega : j < order.length), hxe]
    simp only [drogherref20_Fold.l0]
    have hsz : 0 ≤ sizeOf x bl new ∧ sizeOf x bl new ≤ 5000 ∧ (x : Int) * bl + sizeOf x bl new ≤ new := by unfold sizeOf; omega
    have et : u.take b.length = (padTo N u).take b.length := by unfold padTo; rw [List.take_append_of_le_length h1]
    rw [if_pos (by omega), if_pos (by omega), if_pos (by omega), rdI (by omega), hxe, if_pos (by omega), if_pos (by omega), if_pos (by omega), if_pos (by omega), ref_size hb (by omega) (by omega), Option.bind_some, Int.toNat_natCast,
      ref_eval _ _ _ (by omega) (by rw [List.length_take]; omega) (hl _ (plan_mem (by omega) rfl)) (by omega), Option.bind_some, et, wrs j (by omega)]
    show _ = some (if (evalE (rd_L4 plans x) ((padTo N u).take b.length) (sizeOf x bl new)).2 = 0 then foldE plans bl new b.length (order.drop (j + 1)) (layAt (padTo N u) ((x : Int) * bl).toNat (evalE (rd_L4 plans x) ((padTo N u).take b.length) (sizeOf x bl new)).1) else ([], (evalE (rd_L4 plans x) ((padTo N u).take b.length) (sizeOf x bl new)).2))
    have hEL := evalE_length (l := rd_L4 plans x) (old := (padTo N u).take b.length) (want := sizeOf x bl new)
    generalize evalE (rd_L4 plans x) ((padTo N u).take b.length) (sizeOf x bl new) = E at hEL
    by_cases hE : E.2 = 0
    · have hlen := hEL hE
      rw [if_pos hE, if_pos hE, wrz _ (by omega), show (x : Int) * bl = ((((x : Int) * bl).toNat : Nat) : Int) by omega, ref_write _ _ _ (by omega) (by omega) (by omega) (by omega), Option.bind_some]
      have hpl := padTo_length (((x : Int) * bl).toNat + E.1.length) u
      have hll : (layAt (padTo (((x : Int) * bl).toNat + E.1.length) u) ((x : Int) * bl).toNat E.1).length = (padTo (((x : Int) * bl).toNat + E.1.length) u).length := layAt_length (by rw [hpl]; omega)
      have ih := fold_l0 b plans order bl new N hN hp hl ho hon hbl hb hn m (j + 1) k (layAt (padTo (((x : Int) * bl).toNat + E.1.length) u) ((x : Int) * bl).toNat E.1) (by omega) (by omega) (by omega) (by omega)
      rw [layAt_pad (by rw [hpl]; omega), padTo_padTo (by omega)] at ih
      rw [Int.toNat_natCast]
      exact ih
    · rw [if_neg hE, if_neg hE]
  | 0, _, 0, _, _, _, _, hk => by omega
  | _ + 1, _, 0, _, _, _, _, hk => by omega

theorem ref_fold (b : List Int) (plans : List (List S52)) (order : List Int) (bl new : Int) (hb : b.length ≤ 5000) (hp : plans.length ≤ 100) (hl : ∀ l ∈ plans, l.length ≤ 100) (ho : order.length ≤ 100) (hn : new ≤ 5000) {k : Nat} (hk : 600000 ≤ k) : drogherref20_Fold.f k b plans order bl new = safe_Fold.f b plans order bl new := by
  unfold drogherref20_Fold.f safe_Fold.f
  rw [ref_ahead plans order bl b.length new hp ho (by omega), Option.bind_some, if_pos (show b.length ≤ 5000 ∧ plans.length ≤ 100 ∧ (∀ l ∈ plans, l.length ≤ 100) ∧ order.length ≤ 1000 ∧ new ≤ 5000 from ⟨hb, hp, hl, by omega, hn⟩)]
  by_cases hz : aheadE plans.length order bl b.length new = 0
  · obtain ⟨hr, hbl, hon⟩ := ahead_once hz
    rw [if_pos hz, if_pos hz, Option.bind_some, if_pos (by simp; omega), List.nil_append]
    have e : image0 b new = padTo (max b.length new.toNat) b := by
      unfold image0 padTo
      congr 2
      omega
    rw [e]
    exact fold_l0 b plans order bl new (max b.length new.toNat) (by omega) hp hl ho (fun x hx => once_mem hon hx) hbl (by omega) (by omega) order.length 0 k b (by omega) (Nat.le_refl _) (by omega) (by omega)
  · rw [if_neg hz, if_neg hz]
end Go.Proofs.Ytbpdpgigpooacaa.PD
