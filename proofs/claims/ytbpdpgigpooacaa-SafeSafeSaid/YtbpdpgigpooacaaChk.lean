/-
  The checker's two methods on a step: is it out of range, is it late: what they answer, and that they write nothing that was there.
-/
import Derived.Test.YtbpdpgigpooacaaHReads
namespace Go.Proofs.Ytbpdpgigpooacaa.PD
open Go.RowKit Go.Proofs.YtbpdpgigpooacaaW.PrintWords Go.Proofs.YtbpdpgigpooacaaW.PrintLast Go.Proofs.YtbpdpgigpooacaaW.PrintMore

/-- The checker in block g: a block's bytes, the old image's, which blocks were written. -/
def IsC (W : World) (g : Nat) (b old : Int) (A : Option Addr) (c : Nat) (bs : List Bool) : Prop :=
  W.heap[g]? = some (.cells #[.int .i64 b, .int .i64 old, .slice A bs.length c] 64 (0, 0)) ∧ bs.length ≤ c ∧ Kd.C Kd.bool W A bs.length bs

theorem IsC.below {W W' : World} {g : Nat} {b old : Int} {A : Option Addr} {c : Nat} {bs : List Bool} (h : IsC W g b old A c bs) (hb : Below W.heap.size W W') : IsC W' g b old A c bs :=
  ⟨blk_below h.1 hb, h.2.1, Kd.C_below h.2.2 hb⟩

/-- What is wrong with a step, of its range. -/
def rangeE (old : Int) (s : S52) : Int := if s.f0 = 1 then 0 else if s.f1 + s.f2 > old then 5 else 0

/-- A step asks where a block was written. -/
def lateB (b : Int) (bs : List Bool) (s : S52) : Bool := (List.range bs.length).any (fun i => (bs[i]?.getD false) && decide (Meets b i s))

abbrev stepV (s : S52) (A : Option Addr) (c : Nat) : Value := .agg #[.int .u8 s.f0, .int .i64 s.f1, .int .i64 s.f2, .slice A s.f3.length c]

set_option maxHeartbeats 4000000 in
set_option maxRecDepth 100000 in
theorem step_calls (g : Nat) (b old : Int) (A A3 : Option Addr) (c c3 : Nat) (bs : List Bool) (s : S52) (w : World) (hC : IsC w g b old A c bs) (hr : Right s) (ho : 0 ≤ old ∧ old ≤ 2147483647) :
    Calls Try.prog 48 #[.pointer (some ⟨g, 0, none⟩), stepV s A3 c3] w fun e w' => e = .returned (.int .i64 (rangeE old s)) ∧ Below w.heap.size w w' := by
  have hu52 := Try.underlying52
  have hu64 := Try.underlying64
  have hgl : g < w.heap.size := blk_lt hC.1
  have hc0 := (blk_cell hC.1 0).trans rfl
  have hc1 := (blk_cell hC.1 1).trans rfl
  clear hC
  obtain ⟨hf2a, hf2b, hf1a, hf1b, _⟩ := hr
  have hne : ¬ g = w.heap.size := by omega
  by_cases hk1 : s.f0 = 1
  · have hk1b : (s.f0 == 1) = true := by rw [hk1]; rfl
    have e : rangeE old s = 0 := by unfold rangeE; rw [if_pos hk1]
    rw [e]
    clear hk1 e
    go_enter Try.func48, Try.ntmps48
    go_wp2
    go_ret
    exact ⟨rfl, (Below.refl _ _).alloc (Nat.le_refl _) _⟩
  · have hk1b : (s.f0 == 1) = false := by simpa using hk1
    by_cases h1 : old < s.f1
    · have hd1 : decide (old < s.f1) = true := decide_eq_true h1
      have e : rangeE old s = 5 := by unfold rangeE; rw [if_neg hk1, if_pos (by omega)]
      rw [e]
      clear hk1 e
      go_enter Try.func48, Try.ntmps48
      go_wp2
      go_quiet (fail)
      go_wp2
      go_ret
      exact ⟨rfl, by with_reducible repeat (first | exact Below.refl _ _ | apply below_alloc | apply pw_below_drewN | apply below_drew)⟩
    · have hd1 : decide (old < s.f1) = false := decide_eq_false h1
      have e4 : IntKind.i64.wrap (old - s.f1) = old - s.f1 := by simp only [i64_w]; unfold wrap64; omega
      by_cases h2 : old - s.f1 < s.f2
      · have hd2 : decide (old - s.f1 < s.f2) = true := decide_eq_true h2
        have e : rangeE old s = 5 := by unfold rangeE; rw [if_neg hk1, if_pos (by omega)]
        rw [e]
        clear hk1 e
        go_enter Try.func48, Try.ntmps48
        go_wp2
        go_quiet (fail)
        go_wp2
        go_ret
        exact ⟨rfl, by with_reducible repeat (first | exact Below.refl _ _ | apply below_alloc | apply pw_below_drewN | apply below_drew)⟩
      · have hd2 : decide (old - s.f1 < s.f2) = false := decide_eq_false h2
        have e : rangeE old s = 0 := by unfold rangeE; rw [if_neg hk1, if_neg (by omega)]
        rw [e]
        clear hk1 e
        go_enter Try.func48, Try.ntmps48
        go_wp2
        go_quiet (fail)
        go_wp2
        go_ret
        exact ⟨rfl, by with_reducible repeat (first | exact Below.refl _ _ | apply below_alloc | apply pw_below_drewN | apply below_drew)⟩

/-- The blocks from q0 to q1 are those that a step meets. -/
theorem late_no {b : Int} {bs : List Bool} {s : S52} {q0 q1 x : Int} (hb : 1 ≤ b) (hr : Right s) (hq0 : s.f1 / b = q0) (hq1 : (s.f1 + s.f2 - 1) / b = q1) (hend : ¬ (x ≤ q1 ∧ x < bs.length)) (hno : ∀ i : Nat, q0 ≤ i → (i : Int) < x → bs[i]?.getD false = false) : lateB b bs s = false := by
  unfold lateB
  rw [List.any_eq_false]
  intro i hi
  have hi' := List.mem_range.1 hi
  rw [Bool.and_eq_true, decide_eq_true_eq, meets_iff hb hr, hq0, hq1]
  rintro ⟨h1, _, h2, h3⟩
  rw [hno i h2 (by omega)] at h1
  cases h1

theorem late_yes {b : Int} {bs : List Bool} {s : S52} {q0 q1 : Int} {i : Nat} (hb : 1 ≤ b) (hr : Right s) (hk : s.f0 ≠ 1) (hq0 : s.f1 / b = q0) (hq1 : (s.f1 + s.f2 - 1) / b = q1) (h0 : q0 ≤ i) (h1 : (i : Int) ≤ q1) (h2 : i < bs.length) (h : bs[i]?.getD false = true) : lateB b bs s = true := by
  unfold lateB
  rw [List.any_eq_true]
  exact ⟨i, List.mem_range.2 h2, by rw [Bool.and_eq_true, decide_eq_true_eq, meets_iff hb hr, hq0, hq1]; exact ⟨h, hk, h0, h1⟩⟩

theorem late_lit {b : Int} {bs : List Bool} {s : S52} (hk : s.f0 = 1) : lateB b bs s = false := by
  unfold lateB
  rw [List.any_eq_false]
  intro i _
  rw [Bool.and_eq_true, decide_eq_true_eq]
  rintro ⟨_, h, _⟩
  omega

theorem bools_at {w : World} {A : Option Addr} {bs : List Bool} (h : Kd.C Kd.bool w A bs.length bs) (i : Nat) (hi : i < bs.length) : ∃ ad, A = some ad ∧ w.cell? (ad.add i) = some (.bool (bs[i]?.getD false)) := by
  obtain ⟨ad, e, hc⟩ := Kd.at_bool h i (by omega) (by omega)
  refine ⟨ad, e, ?_⟩
  rw [Int.toNat_natCast] at hc
  simpa [rdOf] using hc

set_option maxHeartbeats 4000000 in
set_option maxRecDepth 100000 in
theorem late_calls (g : Nat) (b old : Int) (A A3 : Option Addr) (c c3 : Nat) (bs : List Bool) (s : S52) (w : World) (hC : IsC w g b old A c bs) (hr : Right s) (hb : 128 ≤ b ∧ b ≤ 4096) (hl : bs.length ≤ 1000) :
    Calls Try.prog 50 #[.pointer (some ⟨g, 0, none⟩), stepV s A3 c3] w fun e w' => e = .returned (.bool (lateB b bs s)) ∧ Below w.heap.size w w' := by
  have hu52 := Try.underlying52
  have hu64 := Try.underlying64
  have hgl : g < w.heap.size := blk_lt hC.1
  have hc0 := (blk_cell hC.1 0).trans rfl
  have hc2 := (blk_cell hC.1 2).trans rfl
  have hRT := Aside0.mk hr
  obtain ⟨hf2a, hf2b, hf1a, hf1b, _⟩ := hr
  have hne : ¬ g = w.heap.size := by omega
  by_cases hk1 : s.f0 = 1
  · have hk1b : (s.f0 == 1) = true := by rw [hk1]; rfl
    rw [late_lit hk1]
    clear hk1
    go_enter Try.func50, Try.ntmps50
    go_wp2
    go_ret
    exact ⟨rfl, (Below.refl _ _).alloc (Nat.le_refl _) _⟩
  · have hk1b : (s.f0 == 1) = false := by simpa using hk1
    have hK1 := Aside0.mk hk1
    clear hk1
    obtain ⟨q0, q1, hq0, hq1, hq0', hq1', hqa, hqb, hqc⟩ := reads_quo (b := b) (x := s.f1) (y := s.f2) hb.1 hf1a hf1b hf2a hf2b
    obtain ⟨r, hre⟩ : ∃ r, lateB b bs s = r := ⟨_, rfl⟩
    have K0 : Aside0 (∀ x, ¬ (x ≤ q1 ∧ x < bs.length) → (∀ i : Nat, q0 ≤ i → (i : Int) < x → bs[i]?.getD false = false) → r = false) := ⟨fun x h1 h2 => by rw [← hre]; exact late_no (by omega) hRT.out hq0' hq1' h1 h2⟩
    have K1 : Aside0 (∀ i : Nat, q0 ≤ i → (i : Int) ≤ q1 → i < bs.length → bs[i]?.getD false = true → r = true) := ⟨fun i h0 h1 h2 h3 => by rw [← hre]; exact late_yes (by omega) hRT.out hK1.out hq0' hq1' h0 h1 h2 h3⟩
    rw [hre]
    clear hre
    obtain ⟨hb1, hb2⟩ := hb
    go_enter Try.func50, Try.ntmps50
    go_wp2
    go_quiet (fail)
    go_wp2
    try rw [hq0']
    have hb0 : Below w.heap.size w (w.alloc (.cells #[.int .u8 s.f0, .int .i64 s.f1, .int .i64 s.f2, .slice A3 s.f3.length c3] 52)) := (Below.refl _ _).alloc (Nat.le_refl _) _
    go_loopw [5] (fun i wr => ∃ x : Int, q0 ≤ x ∧ i = .int .i64 x ∧ Aside0 (x ≤ q1 + 1) ∧ Aside0 (∀ i : Nat, q0 ≤ i → (i : Int) < x → bs[i]?.getD false = false) ∧
        Aside0 (wr.heap[w.heap.size]? = some (.cells #[.int .u8 s.f0, .int .i64 s.f1, .int .i64 s.f2, .slice A3 s.f3.length c3] 52 (0, 0))) ∧ Aside0 (IsC wr g b old A c bs) ∧ Aside0 (Below w.heap.size w wr))
      (fun i _ => (q1 + 1 - intOf i).toNat)
    case atStart => exact ⟨q0, Int.le_refl _, rfl, ⟨by omega⟩, ⟨fun i h1 h2 => by omega⟩, ⟨by with_reducible repeat (first | exact blk_new _ _ | refine blk_drewN ?_ _ | refine blk_drew ?_)⟩, ⟨hC.below (by with_reducible repeat (first | exact hb0 | apply pw_below_drewN | apply below_drew))⟩, ⟨by with_reducible repeat (first | exact hb0 | apply pw_below_drewN | apply below_drew)⟩⟩
    case round =>
      obtain ⟨x, hx0, rfl, hxq, hno, BK, HC, HB⟩ := hrel
      clear hc0 hc2
      have hc0 := (blk_cell HC.out.1 0).trans rfl
      have hc2 := (blk_cell HC.out.1 2).trans rfl
      have hd1 := (blk_cell BK.out 1).trans rfl
      have hd2 := (blk_cell BK.out 2).trans rfl
      by_cases hg1 : x ≤ q1
      · have hg1b : decide (x ≤ q1) = true := decide_eq_true hg1
        by_cases hg2 : x < bs.length
        · have hg2b : decide (x < (bs.length : Int)) = true := decide_eq_true hg2
          obtain ⟨n, rfl⟩ : ∃ n : Nat, x = n := ⟨x.toNat, by omega⟩
          obtain ⟨ad, rfl, hcell⟩ := bools_at HC.out.2.2 n (by omega)
          obtain ⟨q, hq⟩ : ∃ q, bs[n]?.getD false = q := ⟨_, rfl⟩
          rw [hq] at hcell
          have hQ := Aside0.mk hq
          clear hq
          cases q with
          | true =>
            go_wp2
            go_quiet (fail)
            go_wp2
            go_ret
            exact ⟨by rw [K1.out n hx0 hg1 (by omega) hQ.out]; rfl, by with_reducible repeat (first | exact HB.out | apply pw_below_drewN | apply below_drew)⟩
          | false =>
            go_wp2
            go_quiet (fail)
            go_wp2
            exact ⟨⟨n + 1, by omega, rfl, ⟨by omega⟩, ⟨fun i h1 h2 => by
                by_cases e : i = n
                · rw [e]; exact hQ.out
                · exact hno.out i h1 (by omega)⟩, ⟨blk_drewN BK.out _⟩, ⟨HC.out.below (pw_below_drewN (Below.refl _ _) _)⟩, ⟨by with_reducible repeat (first | exact HB.out | apply pw_below_drewN | apply below_drew)⟩⟩, by simp [intOf]; omega⟩
        · have hg2b : decide (x < (bs.length : Int)) = false := decide_eq_false hg2
          go_wp2
          go_quiet (fail)
          go_wp2
          go_ret
          exact ⟨by rw [K0.out x (fun h => by omega) hno.out]; rfl, by with_reducible repeat (first | exact HB.out | apply pw_below_drewN | apply below_drew)⟩
      · have hg1b : decide (x ≤ q1) = false := decide_eq_false hg1
        go_wp2
        go_quiet (fail)
        go_wp2
        go_ret
        exact ⟨by rw [K0.out x (fun h => by omega) hno.out]; rfl, by with_reducible repeat (first | exact HB.out | apply pw_below_drewN | apply below_drew)⟩
end Go.Proofs.Ytbpdpgigpooacaa.PD
