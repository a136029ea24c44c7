/-
  The checker's method on a whole plan: what it answers, and that it writes nothing that was there.
-/
import Derived.Test.YtbpdpgigpooacaaChk
namespace Go.Proofs.Ytbpdpgigpooacaa.PD
open Go.RowKit Go.Proofs.YtbpdpgigpooacaaW.PrintWords Go.Proofs.YtbpdpgigpooacaaW.PrintLast Go.Proofs.YtbpdpgigpooacaaW.PrintMore

/-- Where the first late step stands; -1: there is none. -/
def firstLate (b : Int) (bs : List Bool) (l : List S52) : Int := match l.findIdx? (lateB b bs) with
  | some i => i
  | none => -1

/-- The number of bytes that a plan makes. -/
def sumLen (l : List S52) : Int := (l.map (fun s => s.f2)).sum

/-- What is wrong with a plan. -/
def planE (b old want : Int) (bs : List Bool) (l : List S52) : Int :=
  if ∀ s ∈ l, Right s then
    (if sumLen l = want then (if ∀ s ∈ l, rangeE old s = 0 then (if l.any (lateB b bs) = true then 23 else 0) else 5) else 13)
  else 3

/-- A step of a plan that is read, its cells. -/
theorem step_at {w W : World} {A : Option Addr} {l : List S52} (h : Kd.C k52 w A l.length l) (hb : Below w.heap.size w W) {k : Nat} (hk : k < l.length) : ∃ ad A3 c3, A = some ad ∧ W.cell? (ad.add (k * 4)) = some (.int .u8 l[k].f0) ∧ W.cell? ⟨(ad.add (k * 4)).block, (ad.add (k * 4)).off + 1, none⟩ = some (.int .i64 l[k].f1) ∧
    W.cell? ⟨(ad.add (k * 4)).block, (ad.add (k * 4)).off + 2, none⟩ = some (.int .i64 l[k].f2) ∧ W.cell? ⟨(ad.add (k * 4)).block, (ad.add (k * 4)).off + 3, none⟩ = some (.slice A3 l[k].f3.length c3) ∧ l[k].f3.length ≤ c3 ∧ Kd.C (Kd.int .u8) w A3 l[k].f3.length l[k].f3 := by
  obtain ⟨ad, A3, c3, e, hx0, hx1, hx2, hx3, hl3, hi3⟩ := at_T52 h k (by omega) (by omega)
  have hs : rd_T52 l k = l[k] := by simp [rd_T52, hk]
  rw [hs] at hx0 hx1 hx2 hx3 hl3 hi3
  simp only [Int.toNat_natCast] at hx0 hx1 hx2 hx3
  exact ⟨ad, A3, c3, e, (hb.cell (World.block_lt_of_cell? w _ hx0)).trans hx0, (hb.cell (World.block_lt_of_cell? w _ hx1)).trans hx1, (hb.cell (World.block_lt_of_cell? w _ hx2)).trans hx2, (hb.cell (World.block_lt_of_cell? w _ hx3)).trans hx3, hl3, hi3⟩

set_option maxHeartbeats 4000000 in
set_option maxRecDepth 100000 in
theorem index_calls (g : Nat) (b old : Int) (A Al : Option Addr) (c cl : Nat) (bs : List Bool) (l : List S52) (w : World) (hC : IsC w g b old A c bs) (hr0 : Kd.C k52 w Al l.length l) (hr : ∀ s ∈ l, Right s) (hb : 128 ≤ b ∧ b ≤ 4096) (hl : bs.length ≤ 1000) (hll : l.length ≤ 1000) :
    Calls Try.prog 59 #[.slice Al l.length cl, .func (.func 50) #[.pointer (some ⟨g, 0, none⟩)] #[]] w fun e w' => e = .returned (.int .i64 (firstLate b bs l)) ∧ Below w.heap.size w w' := by
  have hu52 := Try.underlying52
  obtain ⟨r, hre⟩ : ∃ r, firstLate b bs l = r := ⟨_, rfl⟩
  have K0 : Aside0 ((∀ (k : Nat) (h : k < l.length), lateB b bs l[k] = false) → r = -1) := ⟨fun h => by
    rw [← hre]
    unfold firstLate
    rw [List.findIdx?_eq_none_iff.2 (fun s hs => by obtain ⟨k, hk, rfl⟩ := List.mem_iff_getElem.1 hs; exact h k hk)]⟩
  have K1 : Aside0 (∀ (k : Nat) (h : k < l.length), (∀ (j : Nat) (hj : j < l.length), j < k → lateB b bs l[j] = false) → lateB b bs l[k] = true → r = k) := ⟨fun k hk h1 h2 => by
    rw [← hre]
    unfold firstLate
    rw [List.findIdx?_eq_some_iff_getElem.2 ⟨hk, h2, fun j hj => by rw [h1 j (by omega) hj]; simp⟩]⟩
  rw [hre]
  clear hre
  obtain ⟨len, hlen⟩ : ∃ len, l.length = len := ⟨_, rfl⟩
  have HC := Aside0.mk hC
  have HR := Aside0.mk hr
  clear hC hr
  go_enter Try.func59, Try.ntmps59
  rw [hlen]
  go_wp2
  go_loopw [8] (fun i wr => ∃ k : Nat, k ≤ len ∧ i = .int .i64 k ∧ Aside0 (∀ (j : Nat) (hj : j < l.length), j < k → lateB b bs l[j] = false) ∧ Aside0 (Below w.heap.size w wr))
    (fun i _ => len - (intOf i).toNat)
  case atStart => exact ⟨0, Nat.zero_le _, rfl, ⟨fun j hj h => by omega⟩, ⟨Below.refl _ _⟩⟩
  case round =>
    obtain ⟨k, hk, rfl, hno, HB⟩ := hrel
    by_cases hlt : k < len
    · have hlt' : k < l.length := by omega
      obtain ⟨ad, A3, c3, rfl, hx0, hx1, hx2, hx3, hl3, hi3⟩ := step_at hr0 HB.out hlt'
      have hRk := Aside0.mk (HR.out _ (List.getElem_mem hlt'))
      have HQ0 : Aside0 (∀ q, lateB b bs l[k] = q → q = true → r = k) := ⟨fun q e h => K1.out k hlt' (fun j hj h => hno.out j hj h) (by rw [e]; exact h)⟩
      have HQ1 : Aside0 (∀ q, lateB b bs l[k] = q → q = false → ∀ (j : Nat) (hj : j < l.length), j < k + 1 → lateB b bs l[j] = false) := ⟨fun q e h j hj hjk => by
        by_cases e2 : j = k
        · subst e2; rw [e]; exact h
        · exact hno.out j hj (by omega)⟩
      obtain ⟨s, hs⟩ : ∃ s, l[k] = s := ⟨_, rfl⟩
      rw [hs] at hx0 hx1 hx2 hx3 hl3 hi3 hRk HQ0 HQ1
      obtain ⟨q, hq⟩ : ∃ q, lateB b bs s = q := ⟨_, rfl⟩
      have hL := late_calls g b old A A3 c c3 bs s wr (HC.out.below HB.out) hRk.out hb hl
      rw [hq] at hL
      replace HQ0 := Aside0.mk (HQ0.out q hq)
      replace HQ1 := Aside0.mk (HQ1.out q hq)
      clear hq hs hi3 hl3
      cases q with
      | true =>
        go_wp2_with (go_at_call 50; refine hL.mono ?_; rintro e w2 ⟨rfl, hw2⟩)
        go_ret
        exact ⟨by rw [HQ0.out trivial]; rfl, HB.out.trans (hw2.mono HB.out.size)⟩
      | false =>
        go_wp2_with (go_at_call 50; refine hL.mono ?_; rintro e w2 ⟨rfl, hw2⟩)
        exact ⟨⟨k + 1, by omega, by simp, ⟨HQ1.out trivial⟩, ⟨HB.out.trans (hw2.mono HB.out.size)⟩⟩, by simp [intOf]; omega⟩
    · obtain rfl : k = len := by omega
      go_wp2
      go_ret
      exact ⟨by rw [K0.out (fun j hj => hno.out j hj (by omega))]; rfl, HB.out⟩

theorem contains_calls (g : Nat) (b old : Int) (A Al : Option Addr) (c cl : Nat) (bs : List Bool) (l : List S52) (w : World) (hC : IsC w g b old A c bs) (hr0 : Kd.C k52 w Al l.length l) (hr : ∀ s ∈ l, Right s) (hb : 128 ≤ b ∧ b ≤ 4096) (hl : bs.length ≤ 1000) (hll : l.length ≤ 1000) :
    Calls Try.prog 49 #[.slice Al l.length cl, .func (.func 50) #[.pointer (some ⟨g, 0, none⟩)] #[]] w fun e w' => e = .returned (.bool (l.any (lateB b bs))) ∧ Below w.heap.size w w' := by
  have hI := index_calls g b old A Al c cl bs l w hC hr0 hr hb hl hll
  obtain ⟨q, hq⟩ : ∃ q, l.any (lateB b bs) = q := ⟨_, rfl⟩
  have hF : (decide (0 ≤ firstLate b bs l)) = q := by
    rw [← hq]
    unfold firstLate
    cases hfi : l.findIdx? (lateB b bs) with
    | some i =>
      obtain ⟨hi, h1, _⟩ := List.findIdx?_eq_some_iff_getElem.1 hfi
      rw [List.any_eq_true.2 ⟨_, List.getElem_mem hi, h1⟩]
      exact decide_eq_true (show (0 : Int) ≤ (i : Int) by omega)
    | none =>
      rw [List.any_eq_false.2 (fun s hs => by rw [List.findIdx?_eq_none_iff.1 hfi s hs]; simp)]
      rfl
  rw [hq]
  generalize firstLate b bs l = z at hI hF
  clear hC hr0 hr hq
  go_enter Try.func49, Try.ntmps49
  go_wp2_with (go_at_call 59; refine hI.mono ?_; rintro e w2 ⟨rfl, hw2⟩)
  go_ret
  exact ⟨by rw [← hF]; rfl, hw2⟩

/-! ### the whole plan -/
theorem sumLen_take {l : List S52} {k : Nat} (h : k < l.length) : sumLen (l.take (k + 1)) = sumLen (l.take k) + l[k].f2 := by
  unfold sumLen
  rw [List.take_add_one, List.getElem?_eq_getElem h, List.map_append, List.sum_append]
  simp

theorem sumLen_bound : ∀ {l : List S52}, (∀ s ∈ l, Right s) → 0 ≤ sumLen l ∧ sumLen l ≤ 4096 * l.length
  | [], _ => by simp [sumLen]
  | s :: l, h => by
    have h1 := h s (by simp)
    have h2 := sumLen_bound (l := l) (fun t ht => h t (by simp [ht]))
    unfold Right at h1
    have : sumLen (s :: l) = s.f2 + sumLen l := by simp [sumLen]
    rw [this, List.length_cons]
    omega

set_option maxHeartbeats 4000000 in
set_option maxRecDepth 100000 in
theorem plan_calls (g : Nat) (b old want : Int) (A Al : Option Addr) (c cl : Nat) (bs : List Bool) (l : List S52) (w : World) (hC : IsC w g b old A c bs) (hr0 : Kd.C k52 w Al l.length l) (hb : 128 ≤ b ∧ b ≤ 4096) (ho : 0 ≤ old ∧ old ≤ 2147483647) (hl : bs.length ≤ 1000) (hll : l.length ≤ 1000) :
    Calls Try.prog 31 #[.pointer (some ⟨g, 0, none⟩), .slice Al l.length cl, .int .i64 want] w fun e w' => e = .returned (.int .i64 (planE b old want bs l)) ∧ Below w.heap.size w w' := by
  have hu52 := Try.underlying52
  obtain ⟨r, hre⟩ : ∃ r, planE b old want bs l = r := ⟨_, rfl⟩
  have K3 : Aside0 ((∃ s ∈ l, ¬ Right s) → r = 3) := ⟨fun ⟨s, hs, h⟩ => by rw [← hre]; unfold planE; rw [if_neg (fun hh => h (hh s hs))]⟩
  have K13 : Aside0 ((∀ s ∈ l, Right s) → sumLen l ≠ want → r = 13) := ⟨fun h1 h2 => by rw [← hre]; unfold planE; rw [if_pos h1, if_neg h2]⟩
  have K5 : Aside0 ((∀ s ∈ l, Right s) → sumLen l = want → (∃ s ∈ l, rangeE old s ≠ 0) → r = 5) := ⟨fun h1 h2 ⟨s, hs, h⟩ => by rw [← hre]; unfold planE; rw [if_pos h1, if_pos h2, if_neg (fun hh => h (hh s hs))]⟩
  have K23 : Aside0 ((∀ s ∈ l, Right s) → sumLen l = want → (∀ s ∈ l, rangeE old s = 0) → r = if l.any (lateB b bs) = true then 23 else 0) := ⟨fun h1 h2 h3 => by rw [← hre]; unfold planE; rw [if_pos h1, if_pos h2, if_pos h3]⟩
  rw [hre]
  clear hre
  obtain ⟨len, hlen⟩ : ∃ len, l.length = len := ⟨_, rfl⟩
  have HC := Aside0.mk hC
  clear hC
  have HL := Aside0.mk hlen
  go_enter Try.func31, Try.ntmps31
  rw [hlen] at hll ⊢
  clear hlen
  go_wp2
  go_loopw [7, 15] (fun n i wr => ∃ k : Nat, k ≤ len ∧ i = .int .i64 k ∧ n = .int .i64 (sumLen (l.take k)) ∧ Aside0 (∀ s ∈ l.take k, Right s) ∧ Aside0 (Below w.heap.size w wr))
    (fun _ i _ => len - (intOf i).toNat)
  case atStart => exact ⟨0, Nat.zero_le _, rfl, rfl, ⟨by simp⟩, ⟨Below.refl _ _⟩⟩
  case round =>
    obtain ⟨k, hk, rfl, rfl, hR, HB⟩ := hrel
    by_cases hlt : k < len
    · have hlt' : k < l.length := by have := HL.out; omega
      obtain ⟨ad, A3, c3, rfl, hx0, hx1, hx2, hx3, hl3, hi3⟩ := step_at hr0 HB.out hlt'
      have hmem : Aside0 (l[k] ∈ l) := ⟨List.getElem_mem hlt'⟩
      have hsum : Aside0 (sumLen (l.take (k + 1)) = sumLen (l.take k) + l[k].f2) := ⟨sumLen_take hlt'⟩
      have hR1 : Aside0 (Right l[k] → ∀ s ∈ l.take (k + 1), Right s) := ⟨fun h s hs => by
        rw [List.take_add_one, List.getElem?_eq_getElem hlt'] at hs
        rcases List.mem_append.1 hs with h1 | h1
        · exact hR.out s h1
        · simp at h1; rw [h1]; exact h⟩
      have hbd := sumLen_bound hR.out
      rw [List.length_take] at hbd
      obtain ⟨s, hs⟩ : ∃ s, l[k] = s := ⟨_, rfl⟩
      rw [hs] at hx0 hx1 hx2 hx3 hl3 hi3 hmem hsum hR1
      clear hs
      obtain ⟨n0, hn0⟩ : ∃ n0, sumLen (l.take k) = n0 := ⟨_, rfl⟩
      rw [hn0] at hbd hsum ⊢
      clear hn0
      by_cases hrt : Right s
      · have hRE := Aside0.mk ((plan_Right_eq 0 s).trans (congrArg some (decide_eq_true hrt)))
        have hRT := Aside0.mk hrt
        obtain ⟨hf2a, hf2b, hf1a, hf1b, _⟩ := hrt
        have hw0 : IntKind.i64.wrap (n0 + s.f2) = n0 + s.f2 := by simp only [i64_w]; unfold wrap64; omega
        go_wp2_with (first
          | (go_at_call 40; refine (plan_Right.calls 1 _ _ _ _ _ _ _ _ (Kd.C_below hi3 (reads_box HB.out _)) hl3 hRE.out).mono ?_; rintro e w2 ⟨rfl, hw2⟩; obtain ⟨BK, GE⟩ := box_after hw2; clear hw2; have hc2 := (blk_cell BK.out 2).trans rfl; clear hx0 hx1 hx2 hx3))
        exact ⟨⟨k + 1, by omega, by simp, by rw [hsum.out], ⟨hR1.out hRT.out⟩, ⟨HB.out.trans (GE.out.mono HB.out.size)⟩⟩, by simp [intOf]; omega⟩
      · have hRE := Aside0.mk ((plan_Right_eq 0 s).trans (congrArg some (decide_eq_false hrt)))
        go_wp2_with (first
          | (go_at_call 40; refine (plan_Right.calls 1 _ _ _ _ _ _ _ _ (Kd.C_below hi3 (reads_box HB.out _)) hl3 hRE.out).mono ?_; rintro e w2 ⟨rfl, hw2⟩))
        go_ret
        exact ⟨by rw [K3.out ⟨s, hmem.out, hrt⟩]; rfl, HB.out.trans ((((Below.refl _ _).alloc (Nat.le_refl _) _).trans (hw2.mono (by simp))).mono HB.out.size)⟩
    · obtain rfl : k = len := by omega
      have hR' := hR.out
      have hL := HL.out
      rw [← hL, List.take_length] at hR'
      rw [show l.take k = l by rw [← hL, List.take_length]]
      have HR := Aside0.mk hR'
      have HB1 := HB
      have hbd := sumLen_bound hR'
      clear hR' hR
      obtain ⟨n0, hn0⟩ : ∃ n0, sumLen l = n0 := ⟨_, rfl⟩
      rw [hn0] at hbd K13 K5 K23 ⊢
      clear hn0
      by_cases hw : n0 = want
      · subst hw
        go_wp2
        clear K13 K3 HB
        go_loopw [32] (fun i wr => ∃ j : Nat, j ≤ k ∧ i = .int .i64 j ∧ Aside0 (∀ (m : Nat) (hm : m < l.length), m < j → rangeE old l[m] = 0) ∧ Aside0 (Below w.heap.size w wr))
          (fun i _ => k - (intOf i).toNat)
        case atStart => exact ⟨0, Nat.zero_le _, rfl, ⟨fun m hm h => by omega⟩, HB1⟩
        case round =>
          clear HB1
          obtain ⟨j, hj, rfl, hno, HB⟩ := hrel
          by_cases hlt : j < k
          · have hlt' : j < l.length := by omega
            obtain ⟨ad, A3, c3, rfl, hx0, hx1, hx2, hx3, hl3, hi3⟩ := step_at hr0 HB.out hlt'
            have hmem : Aside0 (l[j] ∈ l) := ⟨List.getElem_mem hlt'⟩
            have hRk := Aside0.mk (HR.out _ (List.getElem_mem hlt'))
            have HQ1 : Aside0 (rangeE old l[j] = 0 → ∀ (m : Nat) (hm : m < l.length), m < j + 1 → rangeE old l[m] = 0) := ⟨fun h m hm hmj => by
              by_cases e2 : m = j
              · subst e2; exact h
              · exact hno.out m hm (by omega)⟩
            obtain ⟨s, hs⟩ : ∃ s, l[j] = s := ⟨_, rfl⟩
            rw [hs] at hx0 hx1 hx2 hx3 hl3 hi3 hRk HQ1 hmem
            have hS := step_calls g b old A A3 c c3 bs s (wr.alloc (.cells #[.int .u8 s.f0, .int .i64 s.f1, .int .i64 s.f2, .slice A3 s.f3.length c3] 52)) (HC.out.below (reads_box HB.out _)) hRk.out ho
            have h5 : rangeE old s = 0 ∨ rangeE old s = 5 := by unfold rangeE; split; exact .inl rfl; split; exact .inr rfl; exact .inl rfl
            clear hs hi3 hl3
            rcases h5 with h5 | h5
            · have HQ2 := Aside0.mk (HQ1.out h5)
              rw [h5] at hS
              clear h5 HQ1
              go_wp2_with (go_at_call 48; refine hS.mono ?_; rintro e w2 ⟨rfl, hw2⟩)
              exact ⟨⟨j + 1, by omega, by simp, HQ2, ⟨HB.out.trans ((((Below.refl _ _).alloc (Nat.le_refl _) _).trans (hw2.mono (by simp))).mono HB.out.size)⟩⟩, by simp [intOf]; omega⟩
            · have HQ2 : Aside0 (rangeE old s ≠ 0) := ⟨by omega⟩
              rw [h5] at hS
              clear h5 HQ1
              go_wp2_with (go_at_call 48; refine hS.mono ?_; rintro e w2 ⟨rfl, hw2⟩)
              go_ret
              exact ⟨by rw [K5.out HR.out trivial ⟨s, hmem.out, HQ2.out⟩]; rfl, HB.out.trans ((((Below.refl _ _).alloc (Nat.le_refl _) _).trans (hw2.mono (by simp))).mono HB.out.size)⟩
          · obtain rfl : j = k := by omega
            have hall : ∀ s ∈ l, rangeE old s = 0 := fun s hs => by
              obtain ⟨m, hm, rfl⟩ := List.mem_iff_getElem.1 hs
              exact hno.out m hm (by omega)
            have hcn := contains_calls g b old A Al c cl bs l wr (HC.out.below HB.out) (Kd.C_below hr0 HB.out) HR.out hb hl (by omega)
            have hrr := K23.out HR.out trivial hall
            clear hall hno K23 K5
            obtain ⟨q, hq⟩ : ∃ q, l.any (lateB b bs) = q := ⟨_, rfl⟩
            rw [hq] at hcn hrr
            rw [hL] at hcn
            clear hq
            cases q with
            | true =>
              rw [if_pos rfl] at hrr
              subst hrr
              go_wp2_with (go_at_call 49; refine hcn.mono ?_; rintro e w2 ⟨rfl, hw2⟩)
              go_ret
              exact ⟨rfl, HB.out.trans (hw2.mono HB.out.size)⟩
            | false =>
              rw [if_neg (by simp)] at hrr
              subst hrr
              go_wp2_with (go_at_call 49; refine hcn.mono ?_; rintro e w2 ⟨rfl, hw2⟩)
              go_ret
              exact ⟨rfl, HB.out.trans (hw2.mono HB.out.size)⟩
      · go_wp2
        go_ret
        exact ⟨by rw [K13.out HR.out hw]; rfl, HB.out⟩
end Go.Proofs.Ytbpdpgigpooacaa.PD
