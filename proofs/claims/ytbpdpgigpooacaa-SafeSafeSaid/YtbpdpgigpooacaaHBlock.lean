/-
  The block of an image, in its range: a hand contract beside the printed ones.
-/
import Derived.Test.YtbpdpgigpooacaaPDx0
import Derived.Test.YtbpdpgigpooacaaPDx12
namespace Go.Proofs.Ytbpdpgigpooacaa.PD
open Go.RowKit Go.Proofs.YtbpdpgigpooacaaW.PrintWords Go.Proofs.YtbpdpgigpooacaaW.PrintLast Go.Proofs.YtbpdpgigpooacaaW.PrintMore

/-- A string made of bytes that are only read. -/
theorem v_string {P : Program} {W : World} {base e' : Nat} {ok : Nat → Prop} {src dst e : TypeId} {v : Value} {xs : List Int} (hs : P.underlying src = some (.slice e)) (he : P.underlying e = some (.int .u8)) (hd : P.underlying dst = some .string)
    (h : Kd.V (Kd.int .u8) e' W base ok v xs) : (convert src dst v).run P W = .ok (.string (strOfNums xs)) W := by
  obtain ⟨A, c, rfl, hl, hF⟩ := h
  exact Kd.C_string hs he hd (Kd.F_now hF)

theorem wr64 (n : Int) (h : -9223372036854775808 ≤ n ∧ n ≤ 9223372036854775807) : wrap64 n = n := by unfold wrap64; omega

/-- The bytes from block a2 on, as many as a block has; none outside the range that is needed. -/
def drogherref17_Block.f (l0 : List Int) (a1 : Int) (a2 : Int) : Option (List Int) :=
  if 1 ≤ a1 ∧ a1 ≤ 4096 ∧ 0 ≤ a2 ∧ a2 ≤ 4096 ∧ a2 * a1 < l0.length ∧ l0.length ≤ 100000 then
    some ((l0.take (min (l0.length : Int) ((a2 + 1) * a1)).toNat).drop (a2 * a1).toNat)
  else none

theorem blocks_in (k : Nat) {n b : Int} (h1 : 1 ≤ b) (h2 : b ≤ 4096) (h3 : 1 ≤ n) (h4 : n ≤ 100000) :
    drogherref17_Blocks.f (k + 1) n b = some (if 0 < n % b then n / b + 1 else n / b) := by
  have e1 : Int.tmod n b = n % b := Int.tmod_eq_emod_of_nonneg (by omega)
  have e2 : Int.tdiv n b = n / b := Int.tdiv_eq_ediv_of_nonneg (by omega)
  have e3 : 0 ≤ n / b := Int.ediv_nonneg (by omega) (by omega)
  have e4 : n / b ≤ n := Int.ediv_le_self _ (by omega)
  have e5 : wrap64 (n / b) = n / b := wr64 _ (by omega)
  have e6 : wrap64 (n / b + 1) = n / b + 1 := wr64 _ (by omega)
  unfold drogherref17_Blocks.f
  rw [if_neg (by omega)]
  rw [show (decide (b < 1)) = false from decide_eq_false (by omega)]
  simp only [drogherref17_Blocks.j0]
  rw [if_neg (by simp), if_neg (by omega), e1, e2, e5, e6]
  split <;> rfl

theorem lt_blocks {n b i : Int} (h1 : 1 ≤ b) (h3 : 1 ≤ n) (h0 : 0 ≤ i) (h : i * b < n) : i < (if 0 < n % b then n / b + 1 else n / b) := by
  have h5 := Int.emod_add_mul_ediv n b
  have h6 := Int.emod_nonneg n (show b ≠ 0 by omega)
  by_cases h7 : i < n / b
  · split <;> omega
  · have h8 : n / b * b ≤ i * b := Int.mul_le_mul_of_nonneg_right (by omega) (by omega)
    have h9 : b * (n / b) = n / b * b := Int.mul_comm _ _
    have h10 : i * b < (n / b + 1) * b := by
      have := Int.emod_lt_of_pos n (show 0 < b by omega)
      have : (n / b + 1) * b = n / b * b + b := by rw [Int.add_mul, Int.one_mul]
      omega
    have h11 : i < n / b + 1 := Int.lt_of_mul_lt_mul_right h10 (by omega)
    have : i = n / b := by omega
    subst this
    rw [if_pos (by omega)]
    omega

/-- What is handed back, told as a row that is only read. -/
theorem block_ret {P0_ : Nat → Prop} {A : Option Addr} {n c lo : Nat} {r : List Int} {w : World}
    (hF : Kd.F (Kd.int .u8) w (fun k_ => P0_ k_) (A.map (fun x => x.add (lo * (Kd.int .u8).sz))) r.length r) (hl : r.length = n) (hc : n ≤ c) (m : Nat) :
    ∃ v0_ : Value, Ending.returned (.slice (A.map (fun x => x.add lo)) n c) = .returned v0_ ∧ Kd.V (Kd.int .u8) 5 (w.drewN m) w.heap.size (fun k_ => (P0_ k_ ∨ w.heap.size ≤ k_)) v0_ r ∧ Below w.heap.size w (w.drewN m) := by
  refine ⟨_, rfl, ?_, pw_below_drewN (Below.refl _ _) m⟩
  rw [show lo * (Kd.int .u8).sz = lo from Nat.mul_one lo] at hF
  subst hl
  exact Kd.V_drewN (Kd.V_mono (Kd.V_mk hc hF) (fun _ hk => .inl hk)) m

set_option maxHeartbeats 8000000 in
set_option maxRecDepth 100000 in
theorem drogherref17_Block.calls (P0_ : Nat → Prop) (A0 : Option Addr) (c0 : Nat) (l0 : List Int) (a1 : Int) (a2 : Int) (r : List Int) (w : World) (hs0 : Kd.V (Kd.int .u8) 5 w w.heap.size (fun k_ => P0_ k_) (.slice A0 l0.length c0) l0) (h : drogherref17_Block.f l0 a1 a2 = some r) :
    Calls Try.prog 19 #[.slice A0 l0.length c0, .int .i64 a1, .int .i64 a2] w fun e w' => ∃ v0_ : Value, e = .returned (v0_) ∧ Kd.V (Kd.int .u8) 5 w' w.heap.size (fun k_ => (P0_ k_ ∨ w.heap.size ≤ k_)) v0_ r ∧ Below w.heap.size w w' := by
  unfold drogherref17_Block.f at h
  split at h
  case isFalse => cases h
  case isTrue hc =>
  obtain ⟨h1, h2, h3, h4, h5, h6⟩ := hc
  injection h with h
  obtain ⟨_, hc0, hF⟩ := Kd.V_at hs0
  have hp0 : 0 ≤ a2 * a1 := Int.mul_nonneg h3 (by omega)
  have hlen : (1 : Int) ≤ l0.length := by omega
  have hB := blocks_in 0 h1 h2 hlen (by omega)
  have hlt := lt_blocks h1 hlen h3 h5
  generalize hq : (if 0 < (l0.length : Int) % a1 then (l0.length : Int) / a1 + 1 else (l0.length : Int) / a1) = q at hB hlt
  have hw1 : IntKind.i64.wrap (a2 * a1) = a2 * a1 := by simp only [i64_w]; exact wr64 _ (by omega)
  have hs1 : (a2 + 1) * a1 = a2 * a1 + a1 := by rw [Int.add_mul, Int.one_mul]
  go_enter Try.func19, Try.ntmps19
  go_wp2_with (refine (drogherref17_Blocks.calls 1 _ _ _ _ hB).mono ?_; rintro e w1 ⟨rfl, ⟨m, rfl⟩⟩)
  · go_ret
    have hm : min (l0.length : Int) ((a2 + 1) * a1) = a2 * a1 + a1 := by omega
    rw [hm] at h
    have hF2 := Kd.F_mid hF (lo := (a2 * a1).toNat) (hi := (a2 * a1 + a1).toNat) (by omega) (by omega) hc0
    rw [if_neg (by omega), h] at hF2
    have hl : r.length = (a2 * a1 + a1).toNat - (a2 * a1).toNat := by rw [← h, List.length_drop, List.length_take]; omega
    exact block_ret hF2 hl (by omega) m
  · go_ret
    have hm : min (l0.length : Int) ((a2 + 1) * a1) = l0.length := by omega
    rw [hm] at h
    have hF2 := Kd.F_mid hF (lo := (a2 * a1).toNat) (hi := (l0.length : Int).toNat) (by omega) (by omega) hc0
    rw [if_neg (by omega), h] at hF2
    have hl : r.length = l0.length - (a2 * a1).toNat := by rw [← h, List.length_drop, List.length_take]; omega
    exact block_ret hF2 hl (by omega) m
end Go.Proofs.Ytbpdpgigpooacaa.PD
