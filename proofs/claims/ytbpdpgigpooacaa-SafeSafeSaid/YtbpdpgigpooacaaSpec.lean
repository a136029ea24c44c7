/-
  What steps, plans and orders are, in plain words: no program in sight.
-/
import Derived.Test.YtbpdpgigpooacaaPDx0
namespace Go.Proofs.Ytbpdpgigpooacaa.PD
open Go.RowKit Go.Proofs.YtbpdpgigpooacaaW.PrintWords

/-- A step is right. -/
def Right (s : S52) : Prop :=
  1 ≤ s.f2 ∧ s.f2 ≤ 4096 ∧ 0 ≤ s.f1 ∧ s.f1 ≤ 2147483647 ∧ (s.f0 = 1 ∧ s.f1 = 0 ∧ (s.f3.length : Int) = s.f2 ∨ s.f0 = 2 ∧ s.f3.length = 0 ∨ s.f0 = 3 ∧ (s.f3.length : Int) = s.f2)

instance (s : S52) : Decidable (Right s) := by unfold Right; infer_instance

/-- A step asks for a byte of the i-th block. -/
def Meets (b i : Int) (s : S52) : Prop := 1 < s.f0 ∧ s.f1 < (i + 1) * b ∧ i * b < s.f1 + s.f2

instance (b i : Int) (s : S52) : Decidable (Meets b i s) := by unfold Meets; infer_instance

/-- .. told by the quotients. -/
theorem meets_iff {b i : Int} {s : S52} (hb : 1 ≤ b) (hr : Right s) : Meets b i s ↔ s.f0 ≠ 1 ∧ s.f1 / b ≤ i ∧ i ≤ (s.f1 + s.f2 - 1) / b := by
  have h1 : s.f1 / b ≤ i ↔ s.f1 < (i + 1) * b := by
    rw [show s.f1 / b ≤ i ↔ s.f1 / b < i + 1 from by omega]
    exact Int.ediv_lt_iff_lt_mul (by omega)
  have h2 : i ≤ (s.f1 + s.f2 - 1) / b ↔ i * b < s.f1 + s.f2 := by
    rw [Int.le_ediv_iff_mul_le (by omega)]
    omega
  unfold Meets
  rw [h1, h2]
  obtain ⟨_, _, _, _, h⟩ := hr
  constructor
  · rintro ⟨a, b, c⟩; exact ⟨by omega, b, c⟩
  · rintro ⟨a, b, c⟩; exact ⟨by omega, b, c⟩

/-- 0, 1, .., n - 1. -/
def upFrom (n : Nat) : List Int := (List.range n).map Int.ofNat

theorem mem_upFrom {n : Nat} {x : Int} : x ∈ upFrom n ↔ 0 ≤ x ∧ x < n := by
  unfold upFrom
  rw [List.mem_map]
  constructor
  · rintro ⟨k, hk, rfl⟩
    have := List.mem_range.1 hk
    exact ⟨Int.natCast_nonneg k, by show (k : Int) < n; omega⟩
  · rintro ⟨h0, h1⟩
    exact ⟨x.toNat, List.mem_range.2 (by omega), by show ((x.toNat : Nat) : Int) = x; omega⟩

theorem upFrom_succ (n : Nat) : upFrom (n + 1) = upFrom n ++ [(n : Int)] := by simp [upFrom, List.range_succ]

theorem upFrom_length (n : Nat) : (upFrom n).length = n := by simp [upFrom]

theorem upFrom_get (n j : Nat) (h : j < n) : (upFrom n)[j]?.getD 0 = (j : Int) := by simp [upFrom, h]

theorem upFrom_pairwise (n : Nat) : (upFrom n).Pairwise (fun x y => x < y) := by
  unfold upFrom
  rw [List.pairwise_map]
  exact List.pairwise_lt_range.imp (fun h => by show ((_ : Nat) : Int) < ((_ : Nat) : Int); omega)

/-- The blocks in whose places a plan asks for bytes. -/
def readsOf (l : List S52) (b : Int) (m : Nat) : List Int := (upFrom m).filter (fun i => l.any (fun s => decide (Meets b i s)))

/-- A list that goes up is told by its members. -/
theorem up_ext {l l' : List Int} (h : l.Pairwise (fun x y => x < y)) (h' : l'.Pairwise (fun x y => x < y)) (hm : ∀ x, x ∈ l ↔ x ∈ l') : l = l' := by
  have hn : l.Nodup := h.imp (fun h => by omega)
  have hn' : l'.Nodup := h'.imp (fun h => by omega)
  exact List.Perm.eq_of_pairwise (le := fun x y => x < y) (fun a b _ _ h1 h2 => by omega) h h' ((List.perm_ext_iff_of_nodup hn hn').2 hm)

/-- Sorted, a list without twins goes up. -/
theorem sort_up {l : List Int} (hn : l.Nodup) : (l.mergeSort (fun x y => decide (x ≤ y))).Pairwise (fun x y => x < y) := by
  have h1 := List.pairwise_mergeSort (le := fun x y : Int => decide (x ≤ y)) (fun a b c h1 h2 => by simp only [decide_eq_true_eq] at *; omega) (fun a b => by simp only [Bool.or_eq_true, decide_eq_true_eq]; omega) l
  have h2 : (l.mergeSort (fun x y => decide (x ≤ y))).Nodup := (List.mergeSort_perm l _).nodup_iff.2 hn
  exact (h1.and h2).imp (fun ⟨a, b⟩ => by simp only [decide_eq_true_eq] at a; omega)

theorem sort_eq_up {l l' : List Int} (hn : l.Nodup) (h' : l'.Pairwise (fun x y => x < y)) (hm : ∀ x, x ∈ l ↔ x ∈ l') : l.mergeSort (fun x y => decide (x ≤ y)) = l' :=
  up_ext (sort_up hn) h' (fun x => (List.mergeSort_perm l _).mem_iff.trans (hm x))

theorem readsOf_up (l : List S52) (b : Int) (m : Nat) : (readsOf l b m).Pairwise (fun x y => x < y) := (upFrom_pairwise m).filter _

theorem mem_readsOf {l : List S52} {b : Int} {m : Nat} {x : Int} : x ∈ readsOf l b m ↔ (0 ≤ x ∧ x < m) ∧ ∃ s ∈ l, Meets b x s := by
  unfold readsOf
  rw [List.mem_filter, mem_upFrom, List.any_eq_true]
  simp only [decide_eq_true_eq]
end Go.Proofs.Ytbpdpgigpooacaa.PD
