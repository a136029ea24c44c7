/-
  May plans be done in place: a hand contract beside the printed ones.
-/
import Derived.Test.YtbpdpgigpooacaaPlan
import Derived.Test.YtbpdpgigpooacaaPDx10
import Derived.Deep.RegionWith
namespace Go.Proofs.Ytbpdpgigpooacaa.PD
open Go.RowKit Go.Proofs.YtbpdpgigpooacaaW.PrintWords Go.Proofs.YtbpdpgigpooacaaW.PrintLast Go.Proofs.YtbpdpgigpooacaaW.PrintMore

/-- How many blocks. -/
def blocksOf (n b : Int) : Int := if n < 1 then 0 else (n - 1) / b + 1

/-- An order has each of n blocks once. -/
def Once (l : List Int) (n : Nat) : Prop := l.length = n ∧ l.mergeSort (fun x y => decide (x ≤ y)) = upFrom n

instance (l : List Int) (n : Nat) : Decidable (Once l n) := by unfold Once; infer_instance

/-- What is wrong ahead of all blocks. -/
def aheadE (n : Nat) (order : List Int) (b old new : Int) : Int :=
  if 128 ≤ b ∧ b ≤ 4096 ∧ 0 ≤ old ∧ old ≤ 2147483647 ∧ 0 ≤ new ∧ new ≤ 2147483647 then (if (n : Int) = blocksOf new b ∧ Once order n then 0 else 23) else 1

/-- A block's size. -/
def sizeOf (i b new : Int) : Int := min b (new - i * b)

/-- What is wrong with the plans, in an order, some being done. -/
def checkE (plans : List (List S52)) (b old new : Int) : List Int → List Bool → Int
  | [], _ => 0
  | i :: rest, bs => if planE b old (sizeOf i b new) bs (rd_L4 plans i) = 0 then checkE plans b old new rest (bs.set i.toNat true) else planE b old (sizeOf i b new) bs (rd_L4 plans i)

/-- None outside the range that is needed. -/
def safe_Check.f (l0 : List (List (S52))) (l1 : List Int) (a2 : Int) (a3 : Int) (a4 : Int) : Option (Int) :=
  if l0.length ≤ 100 ∧ (∀ l ∈ l0, l.length ≤ 100) ∧ l1.length ≤ 1000 then
    some (if aheadE l0.length l1 a2 a3 a4 = 0 then checkE l0 a2 a3 a4 l1 (List.replicate l0.length false) else aheadE l0.length l1 a2 a3 a4)
  else none

theorem may_eq (k : Nat) (b x y : Int) : safe_may.f (k + 3) b [x, y] = some (decide (128 ≤ b ∧ b ≤ 4096 ∧ 0 ≤ x ∧ x ≤ 2147483647 ∧ 0 ≤ y ∧ y ≤ 2147483647)) := by
  have e0 : rd [x, y] 0 = x := rfl
  have e1 : rd [x, y] 1 = y := rfl
  have w1 : wrap64 (0 + 1) = 1 := by unfold wrap64; omega
  have w2 : wrap64 (1 + 1) = 2 := by unfold wrap64; omega
  unfold safe_may.f
  simp only [safe_may.l0, List.length_cons, List.length_nil, e0, e1, w1, w2]
  by_cases h1 : x < 0
  · simp [h1] <;> omega
  by_cases h2 : x > 2147483647
  · simp [h1, h2] <;> omega
  by_cases h3 : y < 0
  · simp [h1, h2, h3] <;> omega
  by_cases h4 : y > 2147483647
  · simp [h1, h2, h3, h4] <;> omega
  by_cases h5 : b ≥ 128
  · simp [h1, h2, h3, h4, h5] <;> omega
  · simp [h1, h2, h3, h4, h5] <;> omega

theorem delta_blocks_eq {n b : Int} (hb : 128 ≤ b) (hn : n ≤ 2147483647) : delta_Blocks.f n b = some (blocksOf n b) := by
  unfold delta_Blocks.f blocksOf
  by_cases h : n < 1
  · rw [if_pos h, if_pos h]
  · rw [if_neg h, if_neg h, if_neg (by omega), if_neg (by omega)]
    have e1 : wrap64 (n - 1) = n - 1 := by unfold wrap64; omega
    have e2 : Int.tdiv (n - 1) b = (n - 1) / b := Int.tdiv_eq_ediv_of_nonneg (by omega)
    have p1 : 0 ≤ (n - 1) / b := Int.ediv_nonneg (by omega) (by omega)
    have p2 : (n - 1) / b ≤ n - 1 := Int.ediv_le_self _ (by omega)
    rw [e1, e2]
    congr 1
    unfold wrap64
    omega

theorem ahead_eq (k : Nat) (l0 : List (List S52)) (l1 : List Int) (b old new : Int) (h1 : l1.length ≤ 1000) : safe_ahead.f (k + 3) l0 l1 b old new = some (aheadE l0.length l1 b old new) := by
  unfold safe_ahead.f aheadE
  rw [may_eq, Option.bind_some]
  by_cases h : 128 ≤ b ∧ b ≤ 4096 ∧ 0 ≤ old ∧ old ≤ 2147483647 ∧ 0 ≤ new ∧ new ≤ 2147483647
  · rw [decide_eq_true h, if_pos rfl, if_pos h, delta_blocks_eq h.1 (by omega), Option.bind_some]
    by_cases h2 : (l0.length : Int) = blocksOf new b
    · rw [if_pos h2]
      unfold safe_once.f
      rw [if_pos h1, Option.bind_some]
      have hiff : ((l1.length : Int) = (l0.length : Int) ∧ l1.mergeSort (fun x y => decide (x ≤ y)) = upFrom l1.length) ↔ Once l1 l0.length := by
        unfold Once
        constructor
        · rintro ⟨a, b⟩; exact ⟨by omega, by rw [show l0.length = l1.length by omega]; exact b⟩
        · rintro ⟨a, b⟩; exact ⟨by omega, by rw [a]; exact b⟩
      by_cases h3 : Once l1 l0.length
      · rw [decide_eq_true (hiff.2 h3), if_pos rfl, if_pos ⟨h2, h3⟩]
      · rw [decide_eq_false (fun hh => h3 (hiff.1 hh)), if_neg (by simp), if_neg (fun hh => h3 hh.2)]
    · rw [if_neg h2, if_neg (fun hh => h2 hh.1)]
  · rw [decide_eq_false h, if_neg (by simp), if_neg h]

theorem once_mem {l : List Int} {n : Nat} (h : Once l n) {x : Int} (hx : x ∈ l) : 0 ≤ x ∧ x < n := by
  have h1 : x ∈ l.mergeSort (fun x y => decide (x ≤ y)) := (List.mergeSort_perm l _).mem_iff.2 hx
  rw [h.2] at h1
  exact mem_upFrom.1 h1

theorem size_eq {i b new : Int} (hb : 128 ≤ b ∧ b ≤ 4096) (hi : 0 ≤ i ∧ i ≤ 100) (hn : 0 ≤ new ∧ new ≤ 2147483647) : safe_size.f i b new = some (sizeOf i b new) := by
  unfold safe_size.f sizeOf
  have p0 : 0 ≤ i * b := Int.mul_nonneg hi.1 (by omega)
  have p1 : i * b ≤ 100 * 4096 := Int.mul_le_mul hi.2 hb.2 (by omega) (by omega)
  have e1 : wrap64 (i * b) = i * b := by unfold wrap64; omega
  have e2 : wrap64 (new - i * b) = new - i * b := by unfold wrap64; omega
  rw [e1, e2]
  congr 1
  unfold mn
  split <;> omega

theorem info4 : (Try.prog.info? 4).map (fun i => (i.zero, i.size, i.bytes)) = some (some (.bool false), 1, 1) := by kernel_rfl

theorem bool_store {W : World} {base g n cap : Nat} {bs : List Bool} (h : Kd.R Kd.bool 4 W base (fun _ => True) (.slice (some ⟨g, 0, none⟩) n cap) bs) (i : Nat) (hi : i < n) :
    W.frozen? ⟨g, i, none⟩ = false ∧ (∃ u, W.cell? ⟨g, i, none⟩ = some u) ∧ Kd.R Kd.bool 4 (W.setCell ⟨g, i, none⟩ (.bool true)) base (fun _ => True) (.slice (some ⟨g, 0, none⟩) n cap) (bs.set i true) ∧ W.grownBy (W.setCell ⟨g, i, none⟩ (.bool true)) (some g) := by
  obtain ⟨cc, hcl, hM, hcc, hfr⟩ := Kd.R_elem h false i (by omega) (by omega)
  have hs := Kd.R_putg h i true
  have hcl' : cc.length = 1 := hcl
  obtain ⟨u, rfl⟩ : ∃ u, cc = [u] := by
    match cc, hcl' with
    | [u], _ => exact ⟨u, rfl⟩
  have hc0 := hcc 0 u rfl
  have hf0 := hfr 0
  have hsz : Kd.bool.sz = 1 := rfl
  rw [hsz, Nat.mul_one, Nat.add_zero, Int.toNat_natCast] at hc0 hf0
  rw [Int.toNat_natCast] at hs
  exact ⟨hf0, ⟨u, hc0⟩, hs.1, hs.2⟩

theorem nums_at {w : World} {A : Option Addr} {l : List Int} (h : Kd.C (Kd.int .i64) w A l.length l) (i : Nat) (hi : i < l.length) : ∃ ad, A = some ad ∧ w.cell? (ad.add i) = some (.int .i64 l[i]) := by
  obtain ⟨ad, e, hc⟩ := Kd.at_int h i (by omega) (by omega)
  refine ⟨ad, e, ?_⟩
  rw [Int.toNat_natCast] at hc
  have e2 : rd l i = l[i] := by simp [rd, hi]
  rw [e2] at hc
  exact hc

theorem plan_mem {ls : List (List S52)} {k : Nat} {l : List S52} (h : k < ls.length) (hs : rd_L4 ls k = l) : l ∈ ls := by
  rw [← hs]
  simp [rd_L4, h]

set_option maxHeartbeats 8000000 in
set_option maxRecDepth 100000 in
theorem safe_Check.calls (A0 : Option Addr) (c0 : Nat) (l0 : List (List (S52))) (A1 : Option Addr) (c1 : Nat) (l1 : List Int) (a2 : Int) (a3 : Int) (a4 : Int) (r : Int) (w : World) (hr0 : Kd.C (Kd.slice 52 k52) w A0 l0.length l0) (hc0 : l0.length ≤ c0) (hr1 : Kd.C (Kd.int .i64) w A1 l1.length l1) (hc1 : l1.length ≤ c1) (h : safe_Check.f l0 l1 a2 a3 a4 = some r) :
    Calls Try.prog 15 #[.slice A0 l0.length c0, .slice A1 l1.length c1, .int .i64 a2, .int .i64 a3, .int .i64 a4] w fun e w' => e = .returned (.int .i64 r) ∧ Below w.heap.size w w' := by
  have hu64 := Try.underlying64
  unfold safe_Check.f at h
  split at h
  case isFalse => cases h
  case isTrue hc =>
  obtain ⟨hl0, hl, hl1⟩ := hc
  injection h with h
  have hA := Aside0.mk (ahead_eq 0 l0 l1 a2 a3 a4 hl1)
  by_cases hz : aheadE l0.length l1 a2 a3 a4 = 0
  case neg =>
    rw [if_neg hz] at h
    rw [h] at hA hz
    have hzb : (r != 0) = true := bne_iff_ne.2 hz
    clear h hz
    go_enter Try.func15, Try.ntmps15
    go_wp2_with (go_at_call 30; refine (safe_ahead.calls _ _ _ _ _ _ _ _ _ _ _ _ hr0 hc0 hr1 hc1 hA.out).mono ?_; rintro e w1 ⟨rfl, hw1⟩)
    go_ret
    exact ⟨rfl, hw1⟩
  case pos =>
  rw [if_pos hz] at h
  rw [hz] at hA
  obtain ⟨⟨hb1, hb2, ho1, ho2, hn1, hn2⟩, hbl, hon⟩ : (128 ≤ a2 ∧ a2 ≤ 4096 ∧ 0 ≤ a3 ∧ a3 ≤ 2147483647 ∧ 0 ≤ a4 ∧ a4 ≤ 2147483647) ∧ (l0.length : Int) = blocksOf a4 a2 ∧ Once l1 l0.length := by
    unfold aheadE at hz
    split at hz
    · rename_i h1
      split at hz
      · rename_i h2; exact ⟨h1, h2.1, h2.2⟩
      · cases hz
    · cases hz
  have HH := Aside0.mk h
  have HO := Aside0.mk hon
  clear h hz hbl hon
  go_enter Try.func15, Try.ntmps15
  go_wp2_with (first
    | (go_at_call 30; refine (safe_ahead.calls _ _ _ _ _ _ _ _ _ _ _ _ hr0 hc0 hr1 hc1 hA.out).mono ?_; rintro e w1 ⟨rfl, hw1⟩)
    | ((with_reducible refine gate_dst (N := 29) rfl ?_); refine Kd.R_make Kd.bool _ 4 rfl (N := 29) rfl 62 _ _ rfl (l0.length : Int) rfl rfl Try.underlying62 (.bool false) 1 info4 rfl (by decide) (by omega) false (ok := fun _ => True) (okp := fun _ => True) rfl (fun _ hk => hk) trivial (by omega) (by omega) (Below.refl _ _) (Nat.le_refl _) ?_; intro v w2 hrow hb hg hnew; obtain ⟨Av, cv, rfl⟩ := Kd.R_slice hrow))
  simp only [List.length_replicate, Int.toNat_natCast] at hrow
  have HB0 : Aside0 (Below w.heap.size w (w2.alloc (.cells #[.int .i64 a2, .int .i64 a3, .slice Av l0.length cv] 64))) := ⟨reads_box (hw1.trans (hb.mono hw1.size)) _⟩
  have HR0 : Aside0 (Kd.R Kd.bool 4 (w2.alloc (.cells #[.int .i64 a2, .int .i64 a3, .slice Av l0.length cv] 64)) w.heap.size (fun _ => True) (.slice Av l0.length cv) (List.replicate l0.length false)) := ⟨Kd.R_below (Kd.R_lower hrow hw1.size) (reads_box (Below.refl _ _) _)⟩
  have HG0 : Aside0 ((w2.alloc (.cells #[.int .i64 a2, .int .i64 a3, .slice Av l0.length cv] 64)).heap[w2.heap.size]? = some (.cells #[.int .i64 a2, .int .i64 a3, .slice Av l0.length cv] 64 (0, 0))) := ⟨blk_new _ _⟩
  have hgw : w.heap.size ≤ w2.heap.size := Nat.le_trans hw1.size hb.size
  obtain ⟨g, hgg⟩ : ∃ g, w2.heap.size = g := ⟨_, rfl⟩
  obtain ⟨wm, hwm⟩ : ∃ wm, w2.alloc (.cells #[.int .i64 a2, .int .i64 a3, .slice Av l0.length cv] 64) = wm := ⟨_, rfl⟩
  rw [hwm] at HB0 HR0 HG0 ⊢
  rw [hgg] at HG0 hgw ⊢
  clear hwm hgg hrow hb hg hnew hw1 hA
  go_loopw [34] (fun i wr => ∃ (k : Nat) (bs : List Bool), k ≤ l1.length ∧ i = .int .i64 k ∧ Aside0 (bs.length = l0.length) ∧ Aside0 (wr.heap[g]? = some (.cells #[.int .i64 a2, .int .i64 a3, .slice Av l0.length cv] 64 (0, 0))) ∧
      Aside0 (Kd.R Kd.bool 4 wr w.heap.size (fun _ => True) (.slice Av l0.length cv) bs) ∧ Aside0 (checkE l0 a2 a3 a4 (l1.drop k) bs = r) ∧ Aside0 (Below w.heap.size w wr))
    (fun i _ => l1.length - (intOf i).toNat)
  case atStart => exact ⟨0, _, Nat.zero_le _, rfl, ⟨by simp⟩, HG0, HR0, HH, HB0⟩
  case round =>
    clear HB0 HR0 HG0 HH
    obtain ⟨k, bs, hk, rfl, HL, HG, HR, HE, HB⟩ := hrel
    by_cases hlt : k < l1.length
    · obtain ⟨ad, rfl, hcx⟩ := nums_at hr1 k hlt
      replace hcx := (HB.out.cell (World.block_lt_of_cell? w _ hcx)).trans hcx
      obtain ⟨hx0, hx1⟩ := once_mem HO.out (List.getElem_mem hlt)
      have HE2 := HE.out
      rw [List.drop_eq_getElem_cons hlt] at HE2
      clear HE
      obtain ⟨x, hx⟩ : ∃ x : Nat, l1[k] = (x : Int) := ⟨l1[k].toNat, by omega⟩
      rw [hx] at hcx HE2 hx0 hx1
      have hxl : x < l0.length := by omega
      obtain ⟨ad1, A2, c2, rfl, hy0, hl3, hi3⟩ := at_L4 hr0 x (by omega) (by omega)
      replace hy0 := (HB.out.cell (World.block_lt_of_cell? w _ hy0)).trans hy0
      simp only [Int.toNat_natCast] at hy0
      obtain ⟨l, hs⟩ : ∃ l, rd_L4 l0 x = l := ⟨_, rfl⟩
      have hll : l.length ≤ 100 := hl l (plan_mem hxl hs)
      unfold checkE at HE2
      rw [hs, Int.toNat_natCast] at HE2
      rw [hs] at hy0 hl3 hi3
      have hsz := Aside0.mk (size_eq (i := x) (b := a2) (new := a4) ⟨hb1, hb2⟩ (by omega) ⟨hn1, hn2⟩)
      obtain ⟨want, hwant⟩ : ∃ want, sizeOf x a2 a4 = want := ⟨_, rfl⟩
      rw [hwant] at HE2 hsz
      have hIC : ∀ W, Below wr.heap.size wr W → IsC W g a2 a3 Av cv bs := fun W hW => by
        obtain ⟨_, _, e, hle, hC⟩ := Kd.R_reads HR.out
        injection e with e1 e2 e3
        subst e1 e3
        have : IsC wr g a2 a3 Av cv bs := ⟨by rw [HL.out]; exact HG.out, hle, hC⟩
        exact this.below hW
      have hP : Aside0 (∀ W, Below wr.heap.size wr W → Calls Try.prog 31 #[.pointer (some ⟨g, 0, none⟩), .slice A2 l.length c2, .int .i64 want] W fun e w' => e = .returned (.int .i64 (planE a2 a3 want bs l)) ∧ Below W.heap.size W w') := ⟨fun W hW =>
        plan_calls g a2 a3 want Av A2 cv c2 bs l W (hIC W hW) (Kd.C_below hi3 (HB.out.trans (hW.mono HB.out.size))) ⟨hb1, hb2⟩ ⟨ho1, ho2⟩ (by rw [HL.out]; omega) (by omega)⟩
      obtain ⟨E, hE⟩ : ∃ E, planE a2 a3 want bs l = E := ⟨_, rfl⟩
      rw [hE] at HE2 hP
      have HE3 := Aside0.mk HE2
      clear HE2 hIC hE hwant hs hx hi3
      obtain ⟨gA, capA, hAv, hgA1, hgA2, cellsA, hgA3⟩ := Kd.R_form HR.out (by rw [HL.out]; omega)
      injection hAv with e1 e2 e3
      subst e1 e3
      clear e2
      have hne : Aside0 (g ≠ gA) := ⟨blk_ne HG.out hgA3 (by decide)⟩
      clear hgA3
      go_wp2
      go_region_with (first
        | (go_at_call 32; refine (safe_size.calls _ _ _ _ _ hsz.out).mono ?_; rintro e w3 ⟨rfl, hw3⟩; have hw3' : Below wr.heap.size wr w3 := (below_drew (Below.refl _ _)).trans hw3; have hy3 := (hw3.cell (World.block_lt_of_cell? wr _ hy0)).trans hy0)
        | (go_at_call 31; refine (hP.out _ hw3').mono ?_; rintro e w4 ⟨rfl, hw4⟩))
      all_goals
        have hw4' : Below wr.heap.size wr w4 := hw3'.trans (hw4.mono hw3'.size)
        have HB4 := Aside0.mk (HB.out.trans (hw4'.mono HB.out.size))
        obtain ⟨hfz, ⟨u4, hcu⟩, hset, hgr⟩ := bool_store (Kd.R_below HR.out hw4') x hxl
        have hG4 := Aside0.mk (blk_below HG.out hw4')
        have hc2 := (blk_cell hG4.out 2).trans rfl
        have HST := Aside0.mk hset
        have HGR := Aside0.mk hgr
        clear hset hgr hw4 hw3 hw3' hw4' hy3 hy0 hcx
        by_cases hE0 : E = 0
        · subst hE0
          have HE4 := HE3.out
          rw [if_pos rfl] at HE4
          have HE5 := Aside0.mk HE4
          clear HE4 HE3
          go_wp2
          refine ⟨⟨k + 1, bs.set x true, by omega, by simp, ⟨by rw [List.length_set]; exact HL.out⟩, ⟨blk_grown hG4.out HGR.out (fun e => hne.out (by injection e))⟩, HST, HE5, ⟨HB4.out.grown HGR.out HB4.out.size (fun j e => by cases e; exact hgA1)⟩⟩, ?_⟩
          simp [intOf]
          omega
        · have hEb : (E != 0) = true := bne_iff_ne.2 hE0
          have HE4 := HE3.out
          rw [if_neg hE0] at HE4
          clear HE3 hE0
          subst HE4
          go_wp2
          go_ret
          exact ⟨rfl, HB4.out⟩
    · obtain rfl : k = l1.length := by omega
      have HE2 := HE.out
      rw [List.drop_of_length_le (Nat.le_refl _)] at HE2
      unfold checkE at HE2
      subst HE2
      go_wp2
      go_ret
      exact ⟨rfl, HB.out⟩
end Go.Proofs.Ytbpdpgigpooacaa.PD
