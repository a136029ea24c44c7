/-
  The order's check: sorted, it is 0, 1, 2 and so on: a hand contract beside the printed ones.
-/
import Derived.Test.YtbpdpgigpooacaaPDx0
import Derived.Test.YtbpdpgigpooacaaVals
import Derived.Test.YtbpdpgigpooacaaSpec
import Derived.Lib.AtoiErrMem
namespace Go.Proofs.Ytbpdpgigpooacaa.PD
open Go.RowKit Go.Proofs.YtbpdpgigpooacaaW.PrintWords Go.Proofs.YtbpdpgigpooacaaW.PrintLast Go.Proofs.YtbpdpgigpooacaaW.PrintMore

/-- True just where the order is as long as said and, sorted, counts up from nought. -/
def safe_once.f (l0 : List Int) (a1 : Int) : Option (Bool) :=
  if l0.length ≤ 1000 then some (decide ((l0.length : Int) = a1 ∧ l0.mergeSort (fun x y => decide (x ≤ y)) = upFrom l0.length)) else none

theorem ints_of_C {w : World} {A : Option Addr} {l : List Int} (h : Kd.C (Kd.int .i64) w A l.length l) : Vals.Ints w.heap.size w A l := fun h0 => by
  obtain ⟨ad, e, _⟩ := Kd.at_int h 0 (by omega) (by omega)
  have hcell : ∀ j, j < l.length → w.cell? (ad.add j) = some (.int .i64 (l[j]?.getD 0)) := fun j hj => by
    obtain ⟨ad', e', hc⟩ := Kd.at_int h j (by omega) (by omega)
    rw [e] at e'
    injection e' with e'
    subst e'
    simpa [rd] using hc
  refine ⟨ad, e, ?_, hcell⟩
  have := hcell 0 h0
  have h2 := Lib.lt_of_cell this
  rwa [Vals.add_block] at h2

theorem once_row {w1 w : World} {n : Nat} {v : Value} {sd : List Int} (hsl : sd.length = n) (h : w.ownsRow w1.heap.size 3 1 v n (sd.map (Value.int .i64))) : ∃ A c, v = .slice A sd.length c ∧ sd.length ≤ c ∧ Kd.C (Kd.int .i64) w A sd.length sd := by
  subst hsl
  exact Kd.R_reads (Kd.R_of_own (enc := Value.int .i64) (h1 := fun _ => rfl) (ok := fun _ => True) h (fun _ _ => trivial))

theorem once_not {sd : List Int} {len : Nat} {f : Nat → Int} (hsl : sd.length = len) (hff : ∀ j, f j = sd[j]?.getD 0) {k : Nat} (hk : k < len) (h : ¬ f k = k) : (sd = upFrom len) = False := by
  apply eq_false
  rintro rfl
  exact h (by rw [hff, upFrom_get _ _ hk])

theorem once_yes {sd : List Int} {len : Nat} {f : Nat → Int} (hsl : sd.length = len) (hff : ∀ j, f j = sd[j]?.getD 0) (h : ∀ j, j < len → f j = j) : (sd = upFrom len) = True := by
  apply eq_true
  apply List.ext_getElem
  · simp [upFrom, hsl]
  · intro i h1 h2
    have := h i (by omega)
    rw [hff] at this
    simpa [upFrom, h1] using this

set_option maxHeartbeats 8000000 in
set_option maxRecDepth 100000 in
theorem safe_once.calls (A0 : Option Addr) (c0 : Nat) (l0 : List Int) (a1 : Int) (r : Bool) (w : World) (hr0 : Kd.C (Kd.int .i64) w A0 l0.length l0) (hc0 : l0.length ≤ c0) (h : safe_once.f l0 a1 = some r) :
    Calls Try.prog 47 #[.slice A0 l0.length c0, .int .i64 a1] w fun e w' => e = .returned (.bool r) ∧ Below w.heap.size w w' := by
  unfold safe_once.f at h
  split at h
  case isFalse => cases h
  case isTrue hlen =>
  injection h with h
  have hI := ints_of_C hr0
  have cS := Vals.sorted_values A0 c0 l0 (by omega) w hI
  generalize hsd : l0.mergeSort (fun x y => decide (x ≤ y)) = sd at h cS
  have hsl : sd.length = l0.length := by rw [← hsd, List.length_mergeSort]
  by_cases hn : (l0.length : Int) = a1
  case neg =>
    have hr : r = false := by rw [← h]; simp [hn]
    subst hr
    go_enter Try.func47, Try.ntmps47
    go_wp2
    go_ret
    exact ⟨rfl, Below.refl _ _⟩
  case pos =>
  subst hn
  go_enter Try.func47, Try.ntmps47
  go_wp2_with (first
    | (go_at_call 58; refine (Vals.values _ _ _ _).mono ?_; rintro e w1 ⟨rfl, rfl⟩)
    | (go_at_call 41; refine (cS _ rfl).mono ?_; rintro e w2 ⟨v, rfl, hrow, hnil, hb⟩; obtain ⟨A, c, rfl, hcl, hC⟩ := once_row hsl hrow))
  have hI2 := ints_of_C hC
  have hb2 : Below w.heap.size w w2 := ((Below.refl _ w).alloc (Nat.le_refl _) _).trans (hb.mono (by simp))
  clear hC hrow hb hnil cS hI hr0
  obtain ⟨f, hf⟩ : ∃ f : Nat → Int, (fun j => sd[j]?.getD 0) = f := ⟨_, rfl⟩
  have hff : ∀ j, f j = sd[j]?.getD 0 := fun j => by rw [← hf]
  unfold Vals.Ints at hI2
  rw [hf, hsl] at hI2
  clear hf
  obtain ⟨len, hln⟩ : ∃ len, l0.length = len := ⟨_, rfl⟩
  rw [hln] at hI2 h hlen hsl ⊢
  have K1 : Aside0 (∀ k, k < len → ¬ f k = k → r = false) := ⟨fun k hk hkk => by rw [← h]; exact decide_eq_false (fun hh => (once_not hsl hff hk hkk).mp hh.2)⟩
  have K2 : Aside0 ((∀ j, j < len → f j = j) → r = true) := ⟨fun hJ => by rw [← h]; exact decide_eq_true ⟨trivial, (once_yes hsl hff hJ).mpr trivial⟩⟩
  clear hff h hsl
  go_loopw [17] (fun i wr => ∃ k : Nat, k ≤ len ∧ i = .int .i64 k ∧ Aside0 (∀ j, j < k → f j = j) ∧ Below w2.heap.size w2 wr)
    (fun i _ => len - (intOf i).toNat)
  case atStart => exact ⟨0, Nat.zero_le _, rfl, ⟨by omega⟩, Below.refl _ _⟩
  case round =>
    obtain ⟨k, hk, rfl, hJ, hnx⟩ := hrel
    by_cases hlt : k < len
    · obtain ⟨ad, rfl, hbl, hc⟩ := (Vals.IntsF.below hnx hI2) (by omega)
      have hcx := hc k (by omega)
      clear hc
      by_cases hkk : f k = k
      · go_wp2
        refine ⟨⟨k + 1, by omega, by simp, ⟨fun j hj => by rcases Nat.lt_succ_iff_lt_or_eq.1 hj with h1 | rfl <;> first | exact hJ.out j h1 | exact hkk⟩, hnx⟩, ?_⟩
        simp [intOf]
        omega
      · go_wp2
        go_ret
        exact ⟨by rw [K1.out k hlt hkk]; rfl, hb2.trans (hnx.mono hb2.size)⟩
    · obtain rfl : k = len := by omega
      go_wp2
      go_ret
      exact ⟨by rw [K2.out hJ.out]; rfl, hb2.trans (hnx.mono hb2.size)⟩
end Go.Proofs.Ytbpdpgigpooacaa.PD
