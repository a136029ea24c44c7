/-
  The blocks that a plan reads: a hand contract beside the printed ones.
-/
import Derived.Test.YtbpdpgigpooacaaPDx1
import Derived.Test.YtbpdpgigpooacaaKeys
import Derived.Test.YtbpdpgigpooacaaSpec
namespace Go.Proofs.Ytbpdpgigpooacaa.PD
open Go.RowKit Go.Maps Go.Proofs.YtbpdpgigpooacaaW.PrintWords Go.Proofs.YtbpdpgigpooacaaW.PrintLast Go.Proofs.YtbpdpgigpooacaaW.PrintMore

/-- The program's own check of a step is ours. -/
theorem plan_Right_eq (k : Nat) (s : S52) : plan_Right.f (k + 1) s.f0 s.f1 s.f2 s.f3 = some (decide (Right s)) := by
  have key : ∀ b : Bool, (b = true ↔ Right s) → some b = some (decide (Right s)) := fun b h => by congr 1; cases b with | true => exact (decide_eq_true (h.1 rfl)).symm | false => exact (decide_eq_false (fun hh => by have := h.2 hh; cases this)).symm
  unfold plan_Right.f
  simp only [plan_Right.j0]
  split
  · exact key false ⟨by simp, fun h => by unfold Right at h; omega⟩
  split
  · exact key false ⟨by simp, fun h => by unfold Right at h; omega⟩
  split
  · exact key false ⟨by simp, fun h => by unfold Right at h; omega⟩
  by_cases h4 : s.f1 > 2147483647
  · simp only [h4, decide_true, if_true]
    exact key false ⟨by simp, fun h => by unfold Right at h; omega⟩
  · simp only [h4, decide_false, Bool.false_eq_true, if_false]
    split
    · split
      · exact key _ (by unfold Right; rw [beq_iff_eq]; omega)
      · exact key false ⟨by simp, fun h => by unfold Right at h; omega⟩
    split
    · exact key _ (by unfold Right; rw [beq_iff_eq]; omega)
    split
    · exact key _ (by unfold Right; rw [beq_iff_eq]; omega)
    · exact key false ⟨by simp, fun h => by unfold Right at h; omega⟩

/-- The blocks, and no error; or none, and that a step isn't right. None outside the range that is needed. -/
def graph_Reads.f (l0 : List (S52)) (a1 : Int) (a2 : Int) : Option (List Int × Int) :=
  if l0.length ≤ 100 ∧ 128 ≤ a1 ∧ a1 ≤ 4096 ∧ 0 ≤ a2 ∧ a2 ≤ 100 then
    (if ∀ s ∈ l0, Right s then some (readsOf l0 a1 a2.toNat, 0) else some ([], 3))
  else none

theorem graph_may_eq {b m : Int} (h : 128 ≤ b ∧ b ≤ 4096 ∧ 0 ≤ m ∧ m ≤ 4096) : graph_may.f b m = some true := by
  unfold graph_may.f
  rw [if_pos (by omega), if_pos (by omega), if_pos (by omega), decide_eq_true (by omega)]

theorem reads_below {w w1 : World} (h : Drawn0 w w1) : Below w.heap.size w (w1.alloc (.map #[] 0)) := by
  obtain ⟨m, rfl⟩ := h
  exact (pw_below_drewN (Below.refl _ _) m).alloc (Nat.le_refl _) _

theorem reads_size {w w1 : World} (h : Drawn0 w w1) : w.heap.size ≤ w1.heap.size := by
  obtain ⟨m, rfl⟩ := h
  exact Nat.le_refl _

theorem box_after {wr w2 : World} {cs : Array Value} {t : TypeId} (h : Below (wr.alloc (.cells cs t)).heap.size (wr.alloc (.cells cs t)) w2) :
    Aside0 (w2.heap[wr.heap.size]? = some (.cells cs t (0, 0))) ∧ Aside0 (Below wr.heap.size wr w2) :=
  ⟨⟨blk_below (blk_new wr _) h⟩, ⟨((Below.refl _ wr).alloc (Nat.le_refl _) _).trans (h.mono (by simp))⟩⟩

theorem _root_.Go.World.ownsMap.below' {H : Type} {P : Program} {k : TypeId} {R : Value → Option (DataW H × List MemPlace)} {b n : Nat} {D : DataW H} {w w' : World} (h : w.ownsMap P k R b n D) (hb : Below w.heap.size w w') : w'.ownsMap P k R b n D := by
  have hlt := h.lt
  obtain ⟨es, clock, hb', F, hs, hD⟩ := h
  exact ⟨es, clock, (hb.block b hlt).trans hb', F, hs, hD⟩

theorem size_le {H : Type} {P : Program} {k : TypeId} {R : Value → Option (DataW H × List MemPlace)} {b n : Nat} {D : DataW H} {w : World} (h : w.ownsMap P k R b n D) : Maps.size D ≤ n := by
  obtain ⟨es, clock, hb, F, hs, rfl⟩ := h
  show ((es.toList.map _).foldr DataW.insert []).length ≤ n
  rw [length_sorted]
  simpa using hs

theorem take_step {l : List S52} {k : Nat} {s : S52} (h : k < l.length) (hs : rd_T52 l k = s) : l.take (k + 1) = l.take k ++ [s] := by
  rw [List.take_add_one, ← hs]
  simp [rd_T52, h]

theorem step_mem {l : List S52} {k : Nat} {s : S52} (h : k < l.length) (hs : rd_T52 l k = s) : s ∈ l := by
  rw [← hs]
  simp [rd_T52, h]

theorem right_snoc {l : List S52} {s : S52} (h : ∀ t ∈ l, Right t) (hs : Right s) : ∀ t ∈ l ++ [s], Right t := fun t ht => by
  rcases List.mem_append.1 ht with h1 | h1
  · exact h t h1
  · rw [List.mem_singleton.1 h1]; exact hs

theorem meets_snoc {l : List S52} {s : S52} {b x : Int} : (∃ t, t ∈ l ++ [s] ∧ Meets b x t) ↔ (∃ t, t ∈ l ∧ Meets b x t) ∨ Meets b x s := by
  constructor
  · rintro ⟨t, ht, hm⟩
    rcases List.mem_append.1 ht with h1 | h1
    · exact .inl ⟨t, h1, hm⟩
    · rw [List.mem_singleton.1 h1] at hm; exact .inr hm
  · rintro (⟨t, ht, hm⟩ | hm)
    · exact ⟨t, List.mem_append_left _ ht, hm⟩
    · exact ⟨s, by simp, hm⟩

/-- The two quotients, as Go reckons them. -/
theorem reads_quo {b x y : Int} (hb : 128 ≤ b) (h0 : 0 ≤ x) (h1 : x ≤ 2147483647) (h2 : 1 ≤ y) (h3 : y ≤ 4096) :
    ∃ q0 q1, wrap64 (x.tdiv b) = q0 ∧ wrap64 ((x + y - 1).tdiv b) = q1 ∧ x / b = q0 ∧ (x + y - 1) / b = q1 ∧ 0 ≤ q0 ∧ q0 ≤ q1 ∧ q1 ≤ 2147500000 := by
  have e1 : x.tdiv b = x / b := Int.tdiv_eq_ediv_of_nonneg h0
  have e2 : (x + y - 1).tdiv b = (x + y - 1) / b := Int.tdiv_eq_ediv_of_nonneg (by omega)
  have p1 : 0 ≤ x / b := Int.ediv_nonneg h0 (by omega)
  have p2 : x / b ≤ (x + y - 1) / b := Int.ediv_le_ediv (by omega) (by omega)
  have p3 : (x + y - 1) / b ≤ x + y - 1 := Int.ediv_le_self _ (by omega)
  refine ⟨x / b, (x + y - 1) / b, ?_, ?_, rfl, rfl, p1, p2, by omega⟩
  · rw [e1]; unfold wrap64; omega
  · rw [e2]; unfold wrap64; omega

theorem wf64 (x : Int) (h : -9223372036854775808 ≤ x ∧ x ≤ 9223372036854775807) : (Lit.int .i64 x).wf = true := by
  have e : wrap64 x = x := by unfold wrap64; omega
  exact e ▸ wrap64_wf x

theorem has_put_iff {H : Type} {D : DataW H} (h : IsMap D) {x y : Int} {d : DataW H} : has (D.put (.int .i64 x) d) (.int .i64 y) = true ↔ has D (.int .i64 y) = true ∨ y = x := by
  by_cases e : y = x
  · subst e
    rw [has_put_same h (show WideAt.IsKeyLit (.int .i64 y) from trivial)]
    simp
  · rw [has_put_other (fun h => e (by cases h; rfl))]
    simp [e]

theorem reads_box {w wr : World} (h : Below w.heap.size w wr) (o : Obj) : Below w.heap.size w (wr.alloc o) := h.alloc h.size _

set_option maxHeartbeats 8000000 in
set_option maxRecDepth 100000 in
theorem graph_Reads.calls (A0 : Option Addr) (c0 : Nat) (l0 : List (S52)) (a1 : Int) (a2 : Int) (r1 : List Int) (r2 : Int) (w : World) (hr0 : Kd.C k52 w A0 l0.length l0) (hc0 : l0.length ≤ c0) (h : graph_Reads.f l0 a1 a2 = some (r1, r2)) :
    Calls Try.prog 22 #[.slice A0 l0.length c0, .int .i64 a1, .int .i64 a2] w fun e w' => ∃ v0_ : Value, e = .returned (.tuple #[v0_, .int .i64 r2]) ∧ Kd.R (Kd.int .i64) 3 w' w.heap.size (fun _ => True) v0_ r1 ∧ Below w.heap.size w w' := by
  have hu52 := Try.underlying52
  unfold graph_Reads.f at h
  split at h
  case isFalse => cases h
  case isTrue hc =>
  obtain ⟨hl, h1, h2, h3, h4⟩ := hc
  have hmay := graph_may_eq (b := a1) (m := a2) (by omega)
  go_enter Try.func22, Try.ntmps22
  have hmk := @run_makeMap Try.prog
  go_wp2_with (first
    | (go_at_call 23; refine (graph_may.calls _ _ _ _ hmay).mono ?_; rintro e w1 ⟨rfl, hw1⟩))
  have hb0 : Below w.heap.size w (w1.alloc (.map #[] 0)) := reads_below hw1
  have hbs : w.heap.size ≤ w1.heap.size := reads_size hw1
  have hown0 := World.ownsMap_made w1 Try.prog 3 (unitElem (H := Unit))
  obtain ⟨wm, hwm⟩ : ∃ wm, w1.alloc (.map #[] 0) = wm := ⟨_, rfl⟩
  obtain ⟨b, hb⟩ : ∃ b, w1.heap.size = b := ⟨_, rfl⟩
  rw [hwm] at hb0 hown0 ⊢
  rw [hb] at hown0 hbs ⊢
  clear hwm hb hw1 hmk hmay
  go_loopw [19] (fun i wr => ∃ (k n : Nat) (D : DataW Unit), k ≤ l0.length ∧ i = .int .i64 k ∧ Aside0 (∀ s ∈ l0.take k, Right s) ∧ wr.ownsMap Try.prog 3 unitElem b n D ∧ n ≤ 200 * k ∧
      Aside0 (∀ x, has D (.int .i64 x) = true ↔ (0 ≤ x ∧ x < a2) ∧ ∃ s ∈ l0.take k, Meets a1 x s) ∧ Aside0 (Below w.heap.size w wr))
    (fun i _ => l0.length - (intOf i).toNat)
  case atStart => exact ⟨0, 0, _, Nat.zero_le _, rfl, ⟨by simp⟩, hown0, by omega, ⟨fun x => by simp [has]⟩, ⟨hb0⟩⟩
  case round =>
    obtain ⟨k, n, D, hk, rfl, hR, hown, hn, hD, HB⟩ := hrel
    by_cases hlt : k < l0.length
    · have hlt' : (k : Int) < l0.length := by omega
      obtain ⟨ad, A3, c3, rfl, hx0, hx1, hx2, hx3, hl3, hi3⟩ := at_T52 hr0 k (by omega) (by omega)
      replace hx0 := (HB.out.cell (World.block_lt_of_cell? w _ hx0)).trans hx0
      replace hx1 := (HB.out.cell (World.block_lt_of_cell? w _ hx1)).trans hx1
      replace hx2 := (HB.out.cell (World.block_lt_of_cell? w _ hx2)).trans hx2
      replace hx3 := (HB.out.cell (World.block_lt_of_cell? w _ hx3)).trans hx3
      obtain ⟨s, hs⟩ : ∃ s, rd_T52 l0 k = s := ⟨_, rfl⟩
      rw [hs] at hx0 hx1 hx2 hx3 hl3 hi3
      simp only [Int.toNat_natCast] at hx0 hx1 hx2 hx3
      have hTk := Aside0.mk (take_step hlt hs)
      by_cases hrt : Right s
      · have hRT := Aside0.mk hrt
        have hRE := Aside0.mk ((plan_Right_eq 0 s).trans (congrArg some (decide_eq_true hrt)))
        obtain ⟨hf2a, hf2b, hf1a, hf1b, _⟩ := hrt
        obtain ⟨q0, q1, hq0, hq1, hq0', hq1', hqa, hqb, hqc⟩ := reads_quo (b := a1) (x := s.f1) (y := s.f2) h1 hf1a hf1b hf2a hf2b
        have hME := Aside0.mk (fun x => meets_iff (b := a1) (i := x) (by omega : 1 ≤ a1) hRT.out)
        by_cases hk1 : s.f0 = 1
        · have hk1b : (s.f0 == 1) = true := by rw [hk1]; rfl
          have hK1 := Aside0.mk hk1
          clear hk1
          go_wp2_with (first
            | (go_at_call 40; refine (plan_Right.calls 1 _ _ _ _ _ _ _ _ (Kd.C_below hi3 (reads_box HB.out _)) hl3 hRE.out).mono ?_; rintro e w2 ⟨rfl, hw2⟩; obtain ⟨BK, GE⟩ := box_after hw2; clear hw2; have hc0 := (blk_cell BK.out 0).trans rfl; have hc1 := (blk_cell BK.out 1).trans rfl; have hc2 := (blk_cell BK.out 2).trans rfl; clear hx0 hx1 hx2 hx3))
          refine ⟨⟨k + 1, n, D, by omega, by simp, ⟨?_⟩, hown.below' GE.out, by omega, ⟨fun x => ?_⟩, ⟨HB.out.trans (GE.out.mono HB.out.size)⟩⟩, by simp [intOf]; omega⟩
          · rw [hTk.out]; exact right_snoc hR.out hRT.out
          · rw [hTk.out, meets_snoc, hD.out x, hME.out x]
            simp [hK1.out]
        · have hk1b : (s.f0 == 1) = false := by simpa using hk1
          have hK1 := Aside0.mk hk1
          clear hk1
          go_wp2_with (first
            | (go_at_call 40; refine (plan_Right.calls 1 _ _ _ _ _ _ _ _ (Kd.C_below hi3 (reads_box HB.out _)) hl3 hRE.out).mono ?_; rintro e w2 ⟨rfl, hw2⟩; obtain ⟨BK, GE⟩ := box_after hw2; clear hw2; have hc0 := (blk_cell BK.out 0).trans rfl; have hc1 := (blk_cell BK.out 1).trans rfl; have hc2 := (blk_cell BK.out 2).trans rfl; clear hx0 hx1 hx2 hx3))
          have HW := Aside0.mk (HB.out.trans (GE.out.mono HB.out.size))
          have hown2 := hown.below' GE.out
          have hgb : b ≠ wr.heap.size := by have := hown.lt; omega
          have hgw : w.heap.size ≤ wr.heap.size := HB.out.size
          obtain ⟨g, hg⟩ : ∃ g, wr.heap.size = g := ⟨_, rfl⟩
          rw [hg] at BK hgb hgw ⊢
          clear hc0 hc1 hc2 hg GE hown
          rw [hq0']
          go_loopw [11] (fun i wr => ∃ (x : Int) (n' : Nat) (D' : DataW Unit), q0 ≤ x ∧ (x = q0 ∨ x ≤ a2) ∧ i = .int .i64 x ∧ wr.ownsMap Try.prog 3 unitElem b n' D' ∧ n' ≤ 200 * k + (x - q0).toNat ∧
              Aside0 (∀ y, has D' (.int .i64 y) = true ↔ has D (.int .i64 y) = true ∨ (q0 ≤ y ∧ y < x)) ∧ Aside0 (x ≤ q1 + 1) ∧
              Aside0 (wr.heap[g]? = some (.cells #[.int .u8 s.f0, .int .i64 s.f1, .int .i64 s.f2, .slice A3 s.f3.length c3] 52 (0, 0))) ∧ Aside0 (Below w.heap.size w wr))
            (fun i _ => (q1 + 1 - intOf i).toNat)
          case atStart => exact ⟨q0, n, D, by omega, .inl rfl, rfl, hown2, by omega, ⟨fun y => by constructor; exact .inl; rintro (h | h); exact h; omega⟩, ⟨by omega⟩, BK, HW⟩
          case round =>
            clear hown2 BK HW
            obtain ⟨x, n', D', hx0, hxa, rfl, hown, hn', hD', hxq, BK, HB⟩ := hrel
            have hc0 := (blk_cell BK.out 0).trans rfl
            have hc1 := (blk_cell BK.out 1).trans rfl
            have hc2 := (blk_cell BK.out 2).trans rfl
            by_cases hgo : x ≤ q1 ∧ x < a2
            · obtain ⟨hg1, hg2⟩ := hgo
              have hkey := Maps.keyOf_int_mk Try.underlying3 (wf64 x (by omega))
              go_wp2_with (first
                | (at_mapUpdate; refine wpList_mapUpdate_own _ rfl _ _ _ 74 rfl 3 75 (Maps.int_keyed Try.underlying3) Try.underlying74 unitElem b n' D' rfl hown (by simp [maxLen]; omega) _ _ _ rfl rfl hkey _ [] unitElem_mk ?_; intro w1 hown1 hgrow1))
              go_roundw
              case rel =>
                refine ⟨x + 1, n' + 1, _, by omega, .inr (by omega), by simp, hown1, by omega, ⟨fun y => ?_⟩, ⟨by omega⟩, ⟨blk_grown BK.out hgrow1 (fun e => hgb (by cases e; rfl))⟩, ⟨HB.out.grown hgrow1 HB.out.size (fun k e => by cases e; exact hbs)⟩⟩
                rw [has_put_iff hown.isMap, hD'.out y]
                have := hx0
                constructor
                · rintro (h | h)
                  · exact h.imp_right (fun h => by omega)
                  · exact .inr (by omega)
                · rintro (h | h)
                  · exact .inl (.inl h)
                  · by_cases e : y = x
                    · exact .inr e
                    · exact .inl (.inr (by omega))
              case measure => simp [intOf]; omega
            · have hgo' : Aside0 (¬ (x ≤ q1 ∧ x < a2)) := ⟨hgo⟩
              clear hgo
              have hend : Aside0 (∀ y, has D' (.int .i64 y) = true ↔ (0 ≤ y ∧ y < a2) ∧ ∃ t, t ∈ l0.take (k + 1) ∧ Meets a1 y t) := ⟨fun y => by
                rw [hTk.out, meets_snoc, hD'.out y, hD.out y, hME.out y, hq0', hq1']
                have h1 := hgo'.out
                have h2 := hxq.out
                have h3 := hK1.out
                constructor
                · rintro (⟨h, hm⟩ | h)
                  · exact ⟨h, .inl hm⟩
                  · exact ⟨by omega, .inr ⟨h3, by omega, by omega⟩⟩
                · rintro ⟨h, hm | ⟨_, h5, h6⟩⟩
                  · exact .inl ⟨h, hm⟩
                  · exact .inr (by omega)⟩
              by_cases hg1 : x ≤ q1
              · have hg2 : ¬ x < a2 := fun h => hgo'.out ⟨hg1, h⟩
                go_wp2
                exact ⟨⟨k + 1, n', D', by omega, by simp, ⟨by rw [hTk.out]; exact right_snoc hR.out hRT.out⟩, hown, by omega, hend, HB⟩, by simp [intOf]; omega⟩
              · go_wp2
                exact ⟨⟨k + 1, n', D', by omega, by simp, ⟨by rw [hTk.out]; exact right_snoc hR.out hRT.out⟩, hown, by omega, hend, HB⟩, by simp [intOf]; omega⟩
      · have hRE := Aside0.mk ((plan_Right_eq 0 s).trans (congrArg some (decide_eq_false hrt)))
        go_wp2_with (first
            | (go_at_call 40; refine (plan_Right.calls 1 _ _ _ _ _ _ _ _ (Kd.C_below hi3 (reads_box HB.out _)) hl3 hRE.out).mono ?_; rintro e w2 ⟨rfl, hw2⟩))
        go_ret2
        rw [if_neg (fun hh => hrt (hh s (step_mem hlt hs)))] at h
        cases h
        exact ⟨_, rfl, Kd.R_nil _ _ _ _ _, HB.out.trans ((((Below.refl _ _).alloc (Nat.le_refl _) _).trans (hw2.mono (by simp))).mono HB.out.size)⟩
    · obtain rfl : k = l0.length := by omega
      have hR' := hR.out
      rw [List.take_length] at hR'
      rw [if_pos hR'] at h
      have hD' := hD.out
      rw [List.take_length] at hD'
      cases h
      have hsz : Maps.size D ≤ 1000000 := Nat.le_trans (size_le hown) (by omega)
      have cS := Keys.sorted b n D unitElem wr hown hsz
      have HD := Aside0.mk hD'
      clear hD' hR' hsz hR hD
      go_wp2_with (first
        | (go_at_call 42; refine (Keys.keys _ _).mono ?_; rintro e w2 ⟨rfl, rfl⟩)
        | (go_at_call 41; refine (cS _ rfl).mono ?_; rintro e w3 ⟨v, ss, rfl, hS, hrow, hnil, hbb⟩))
      go_ret2
      obtain ⟨hnd, hmem⟩ := Keys.mem hown hS
      have e : ss.mergeSort (fun x y => decide (x ≤ y)) = readsOf l0 a1 a2.toNat := sort_eq_up hnd (readsOf_up _ _ _) (fun x => by rw [hmem x, HD.out x, mem_readsOf, show ((a2.toNat : Nat) : Int) = a2 from by omega])
      have hl2 : ss.length = (readsOf l0 a1 a2.toNat).length := by rw [← e, List.length_mergeSort]
      rw [e, hl2] at hrow
      refine ⟨_, rfl, ?_, HB.out.trans ((((Below.refl _ _).alloc (Nat.le_refl _) _).trans (hbb.mono (by simp))).mono HB.out.size)⟩
      exact Kd.R_of_own (enc := Value.int .i64) (h1 := fun _ => rfl) (own_weaken hrow (by have := HB.out.size; simp; omega)) (fun _ _ => trivial)
end Go.Proofs.Ytbpdpgigpooacaa.PD
