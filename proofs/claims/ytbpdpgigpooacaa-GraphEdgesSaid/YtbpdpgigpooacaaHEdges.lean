/-
  Of each block which others it reads: a hand contract beside the printed ones.
-/
import Derived.Test.YtbpdpgigpooacaaHReads
import Derived.Test.YtbpdpgigpooacaaDel
import Derived.Deep.RegionWith
import Derived.Deep.WholeRow
namespace Go.Proofs.Ytbpdpgigpooacaa.PD
open Go.RowKit Go.Maps Go.Proofs.YtbpdpgigpooacaaW.PrintWords Go.Proofs.YtbpdpgigpooacaaW.PrintLast Go.Proofs.YtbpdpgigpooacaaW.PrintMore

/-- The row of block i: what plan l reads, but for i. -/
def edgeOf (b : Int) (m : Nat) (l : List S52) (i : Nat) : List Int := (readsOf l b m).filter (fun x => !(x == (i : Int)))

def edgesOf (ls : List (List S52)) (b : Int) : List (List Int) := ls.mapIdx (fun i l => edgeOf b ls.length l i)

/-- The rows, and no error; or none, and which. None outside the range that is needed. -/
def graph_Edges.f (l0 : List (List (S52))) (a1 : Int) : Option ((List (List Int)) × Int) :=
  if l0.length ≤ 100 ∧ ∀ l ∈ l0, l.length ≤ 100 then
    (if 128 ≤ a1 ∧ a1 ≤ 4096 then (if ∀ l ∈ l0, ∀ s ∈ l, Right s then some (edgesOf l0 a1, 0) else some ([], 3)) else some ([], 1))
  else none

theorem graph_may_no {b m : Int} (h : ¬ (128 ≤ b ∧ b ≤ 4096)) : graph_may.f b m = some false := by
  unfold graph_may.f
  split
  · rw [if_neg (by omega)]
  · rfl

/-- The rows so far, and empty ones. -/
def edgesPart (ls : List (List S52)) (b : Int) (k : Nat) : List (List Int) := (edgesOf ls b).take k ++ List.replicate (ls.length - k) []

theorem edgesOf_length (ls : List (List S52)) (b : Int) : (edgesOf ls b).length = ls.length := by simp [edgesOf]

theorem edgesPart_length (ls : List (List S52)) (b : Int) (k : Nat) (h : k ≤ ls.length) : (edgesPart ls b k).length = ls.length := by
  unfold edgesPart
  rw [List.length_append, List.length_take, List.length_replicate, edgesOf_length]
  omega

theorem edgesPart_zero (ls : List (List S52)) (b : Int) : edgesPart ls b 0 = List.replicate (ls.length : Int).toNat [] := by simp [edgesPart]

theorem edgesPart_all (ls : List (List S52)) (b : Int) : edgesPart ls b ls.length = edgesOf ls b := by
  unfold edgesPart
  rw [← edgesOf_length ls b, List.take_length]
  simp

theorem edgesPart_set {ls : List (List S52)} {b : Int} {k : Nat} {l : List S52} (h : k < ls.length) (hs : rd_L4 ls k = l) : (edgesPart ls b k).set k (edgeOf b ls.length l k) = edgesPart ls b (k + 1) := by
  have hl : (edgesOf ls b)[k]? = some (edgeOf b ls.length l k) := by
    unfold edgesOf
    rw [List.getElem?_mapIdx, ← hs]
    simp [rd_L4, h]
  unfold edgesPart
  rw [List.set_append_right _ _ (by rw [List.length_take]; omega), List.length_take, edgesOf_length, show k - min k ls.length = 0 by omega, List.take_add_one, hl, show ls.length - k = (ls.length - (k + 1)) + 1 by omega, List.replicate_succ]
  simp

theorem take_row {ls : List (List S52)} {k : Nat} {l : List S52} (h : k < ls.length) (hs : rd_L4 ls k = l) : ls.take (k + 1) = ls.take k ++ [l] := by
  rw [List.take_add_one, ← hs]
  simp [rd_L4, h]

theorem row_mem {ls : List (List S52)} {k : Nat} {l : List S52} (h : k < ls.length) (hs : rd_L4 ls k = l) : l ∈ ls := by
  rw [← hs]
  simp [rd_L4, h]

theorem reads_yes {l : List S52} {b : Int} {m : Nat} (hl : l.length ≤ 100) (h1 : 128 ≤ b) (h2 : b ≤ 4096) (hm : m ≤ 100) (h : ∀ s ∈ l, Right s) : graph_Reads.f l b m = some (readsOf l b m, 0) := by
  unfold graph_Reads.f
  rw [if_pos (by omega), if_pos h, Int.toNat_natCast]

theorem reads_no {l : List S52} {b : Int} {m : Nat} (hl : l.length ≤ 100) (h1 : 128 ≤ b) (h2 : b ≤ 4096) (hm : m ≤ 100) (h : ¬ ∀ s ∈ l, Right s) : graph_Reads.f l b m = some ([], 3) := by
  unfold graph_Reads.f
  rw [if_pos (by omega), if_neg h]

theorem edges_snoc {ls : List (List S52)} {l : List S52} (h : ∀ t ∈ ls, ∀ s ∈ t, Right s) (hs : ∀ s ∈ l, Right s) : ∀ t ∈ ls ++ [l], ∀ s ∈ t, Right s := fun t ht => by
  rcases List.mem_append.1 ht with h1 | h1
  · exact h t h1
  · rw [List.mem_singleton.1 h1]; exact hs

theorem edges_box {w3 w4 : World} {B : Nat} {u : Value} {row : Option Nat} (h : w3.cell? ⟨B, 0, none⟩ = some u) (hB : B < w3.heap.size) (hg : w3.drew.grownBy w4 row) (hne : some B ≠ row) : w4.cell? ⟨B, 0, none⟩ = some u := by
  have hb := hg.block B hB hne
  have e : w4.cell? ⟨B, 0, none⟩ = w3.drew.cell? ⟨B, 0, none⟩ := by simp only [World.cell?, hb]
  exact e.trans h

/-- A row of one's own is laid into the row of rows. -/
theorem edges_store {w wr w3 w4 : World} {g n n' cap m c : Nat} {A : Option Addr} {rv : Value} {xs : List (List Int)} {ys : List Int} (hn : n' = n)
    (HS : Kd.S (Kd.slice 3 (Kd.int .i64)) 35 wr w.heap.size (fun _ => True) (.slice (some ⟨g, 0, none⟩) n' cap) xs) (HB : Below w.heap.size w wr) (hb : Below wr.heap.size wr w3)
    (hr : Kd.R (Kd.int .i64) 3 w4 wr.heap.size (fun _ => True) (.slice A m c) ys) (hob : (Value.slice A m c).ownBlock = rv.ownBlock) (hgr : w3.grownBy w4 rv.ownBlock) (hrv : ∀ j, rv.ownBlock = some j → wr.heap.size < j) (k : Nat) (hk : k < n) :
    w4.frozen? ⟨g, k, none⟩ = false ∧ (∃ u, w4.cell? ⟨g, k, none⟩ = some u) ∧ Kd.S (Kd.slice 3 (Kd.int .i64)) 35 (w4.setCell ⟨g, k, none⟩ (.slice A m c)) w.heap.size (fun _ => True) (.slice (some ⟨g, 0, none⟩) n cap) (xs.set k ys) ∧ Below w.heap.size w (w4.setCell ⟨g, k, none⟩ (.slice A m c)) := by
  subst hn
  have h1 := Kd.S_old HS hb
  have h2 := Kd.S_grown h1 hgr (fun j hj e => by have := hrv j e.symm; omega)
  have h3 : Kd.S (Kd.slice 3 (Kd.int .i64)) 35 w4 w.heap.size (fun j => True ∧ ¬ (some j = (Value.slice A m c).ownBlock)) (.slice (some ⟨g, 0, none⟩) n' cap) xs := Kd.S_mono h2 (fun j hj => ⟨trivial, fun e => by have := hrv j (by rw [← hob, ← e]); omega⟩)
  have hgw : g < wr.heap.size := Kd.S_lt HS g (by simp [Value.ownBlock])
  have hgb : w.heap.size ≤ g := Kd.S_base HS g (by simp [Value.ownBlock])
  obtain ⟨oki, cc, hcl, hM, hcc, hfr, hoki, hH⟩ := Kd.S_elem h3 [] k (by omega) (by omega)
  have hcl' : cc.length = 1 := hcl
  obtain ⟨u, rfl⟩ : ∃ u, cc = [u] := by
    match cc, hcl' with
    | [u], _ => exact ⟨u, rfl⟩
  have hc0 := hcc 0 u rfl
  have hf0 := hfr 0
  have hsz : (Kd.slice 3 (Kd.int .i64)).sz = 1 := rfl
  rw [hsz, Nat.mul_one, Nat.add_zero, Int.toNat_natCast] at hc0 hf0
  have hrow : Kd.R (Kd.int .i64) 3 w4 w.heap.size (fun j => some j = (Value.slice A m c).ownBlock) (.slice A m c) ys := Kd.R_mono (Kd.R_lower (Kd.R_tight rfl hr) HB.size) (fun _ hk => hk)
  have hs := Kd.S_seg (okg := fun j => some j = (Value.slice A m c).ownBlock) (okp := fun j => some j = (Value.slice A m c).ownBlock) (seg := [.slice A m c]) (j := 0) (x' := ys) hH (by omega) (by omega) (by simp [hsz]) ⟨_, by simp, hrow⟩ (fun j hj => .inr hj) (fun j hj => ⟨trivial, fun e => by have := hrv j (by rw [← hob, ← hj]); omega⟩)
  rw [hsz, Nat.mul_one, Nat.add_zero, Int.toNat_natCast] at hs
  have e : w4.setCells g k [.slice A m c] = w4.setCell ⟨g, k, none⟩ (.slice A m c) := by simp [World.setCells]
  rw [e] at hs
  exact ⟨hf0, ⟨_, hc0⟩, hs.1, ((HB.trans (hb.mono HB.size)).grown hgr (Nat.le_trans HB.size hb.size) (fun j e => by have := hrv j e; have := HB.size; omega)).grown hs.2 (Nat.le_trans (Nat.le_trans HB.size hb.size) hgr.size) (fun j e => by cases e; exact hgb)⟩

set_option maxHeartbeats 8000000 in
set_option maxRecDepth 100000 in
theorem graph_Edges.calls (A0 : Option Addr) (c0 : Nat) (l0 : List (List (S52))) (a1 : Int) (r1 : List (List Int)) (r2 : Int) (w : World) (hr0 : Kd.C (Kd.slice 52 k52) w A0 l0.length l0) (hc0 : l0.length ≤ c0) (h : graph_Edges.f l0 a1 = some (r1, r2)) :
    Calls Try.prog 9 #[.slice A0 l0.length c0, .int .i64 a1] w fun e w' => ∃ v0_ : Value, e = .returned (.tuple #[v0_, .int .i64 r2]) ∧ Kd.S (Kd.slice 3 (Kd.int .i64)) 35 w' w.heap.size (fun _ => True) v0_ r1 ∧ Below w.heap.size w w' := by
  unfold graph_Edges.f at h
  split at h
  case isFalse => cases h
  case isTrue hc =>
  obtain ⟨hl, hl2⟩ := hc
  by_cases hb : 128 ≤ a1 ∧ a1 ≤ 4096
  case neg =>
    rw [if_neg hb] at h
    cases h
    have hmay := graph_may_no (b := a1) (m := (l0.length : Int)) hb
    go_enter Try.func9, Try.ntmps9
    go_wp2_with (first
      | (go_at_call 23; refine (graph_may.calls _ _ _ _ hmay).mono ?_; rintro e w1 ⟨rfl, ⟨m, rfl⟩⟩))
    go_ret2
    exact ⟨_, rfl, Kd.S_nil _ _ _ _ _, pw_below_drewN (Below.refl _ _) m⟩
  case pos =>
  rw [if_pos hb] at h
  obtain ⟨h1, h2⟩ := hb
  have hmay := graph_may_eq (b := a1) (m := (l0.length : Int)) (by omega)
  go_enter Try.func9, Try.ntmps9
  go_wp2_with (first
    | (go_at_call 23; refine (graph_may.calls _ _ _ _ hmay).mono ?_; rintro e w1 ⟨rfl, ⟨m, rfl⟩⟩)
    | ((with_reducible refine gate_dst (N := 18) rfl ?_); refine Kd.S_make (Kd.slice 3 (Kd.int .i64)) _ 35 rfl (N := 18) rfl 25 _ _ rfl (l0.length : Int) rfl rfl Try.underlying25 (.slice none 0 0) 24 info35 rfl (by decide) (by omega) [] (ok := fun _ => True) (okp := fun _ => True) ⟨_, rfl, Kd.R_nil _ _ _ _ _⟩ (fun _ hk => hk) trivial (by omega) (by omega) (Below.refl _ _) (Nat.le_refl _) ?_; intro v w2 ho hb hg hnew))
  have HB : Aside0 (Below w.heap.size w w2) := ⟨(pw_below_drewN (Below.refl _ _) m).trans hb⟩
  have HS : Aside0 (Kd.S (Kd.slice 3 (Kd.int .i64)) 35 w2 w.heap.size (fun _ => True) v (edgesPart l0 a1 0)) := ⟨by rw [edgesPart_zero]; exact ho⟩
  clear hb hg hnew ho hmay
  go_wp2
  go_loopw [21] (fun i wr => ∃ k : Nat, k ≤ l0.length ∧ i = .int .i64 k ∧ Aside0 (∀ l ∈ l0.take k, ∀ s ∈ l, Right s) ∧ Aside0 (Kd.S (Kd.slice 3 (Kd.int .i64)) 35 wr w.heap.size (fun _ => True) v (edgesPart l0 a1 k)) ∧ Aside0 (Below w.heap.size w wr))
    (fun i _ => l0.length - (intOf i).toNat)
  case atStart => exact ⟨0, Nat.zero_le _, rfl, ⟨by simp⟩, HS, HB⟩
  case round =>
    clear HS HB
    obtain ⟨k, hk, rfl, hR, HS, HB⟩ := hrel
    by_cases hlt : k < l0.length
    · obtain ⟨ad, A1, c1, rfl, hx0, hl3, hi3⟩ := at_L4 hr0 k (by omega) (by omega)
      replace hx0 := (HB.out.cell (World.block_lt_of_cell? w _ hx0)).trans hx0
      obtain ⟨l, hs⟩ : ∃ l, rd_L4 l0 k = l := ⟨_, rfl⟩
      rw [hs] at hx0 hl3 hi3
      simp only [Int.toNat_natCast] at hx0
      have hTk := Aside0.mk (take_row hlt hs)
      have hmem := Aside0.mk (row_mem hlt hs)
      have hle : l.length ≤ 100 := hl2 l hmem.out
      obtain ⟨g, cap, hv, hgb, hgl, -⟩ := Kd.S_form HS.out (by rw [edgesPart_length _ _ _ hk]; omega)
      rw [edgesPart_length _ _ _ hk] at hv
      subst hv
      by_cases hrt : ∀ s ∈ l, Right s
      · have hRE := Aside0.mk (reads_yes (m := l0.length) hle h1 h2 hl hrt)
        have hRT := Aside0.mk hrt
        clear hrt
        go_wp2_with (first
            | (go_at_call 22; refine (graph_Reads.calls _ _ _ _ _ _ _ _ (Kd.C_below hi3 (reads_box HB.out _)) hl3 hRE.out).mono ?_; rintro e w3 ⟨rv, rfl, hrr, hw3⟩))
        have hw3' : Below wr.heap.size wr w3 := ((Below.refl _ wr).alloc (Nat.le_refl _) _).trans (hw3.mono (by simp))
        have hbox : w3.cell? ⟨wr.heap.size, 0, none⟩ = some (.int .i64 k) := (blk_cell (blk_below (blk_new wr (.cells #[.int .i64 k] 3)) hw3) 0).trans rfl
        have hrvb : ∀ j, rv.ownBlock = some j → wr.heap.size < j := fun j hj => by have := Kd.R_base hrr j hj; simp at this; omega
        have hrr' := Kd.R_mono (Kd.R_lower hrr (show wr.heap.size ≤ _ by simp)) (fun _ _ => trivial)
        have hsz3 : wr.heap.size < w3.heap.size := by have := hw3.size; simp at this; omega
        have HR3 := Aside0.mk hrr'
        have HV3 := Aside0.mk hrvb
        have HW3 := Aside0.mk hw3'
        clear hrr hrr' hrvb hw3' hw3
        have hD := Del.calls k wr.heap.size wr.heap.size rv _ w3.drew (Kd.R_below HR3.out (below_drew (Below.refl _ _))) hsz3 (fun e => Nat.lt_irrefl _ (HV3.out _ e.symm)) hbox
        go_region_with (go_at_call 24; refine hD.mono ?_; rintro e w4 ⟨v4, rfl, hr4, hob, hgr⟩; obtain ⟨A4, c4, rfl⟩ := Kd.R_slice hr4; obtain ⟨hfz, ⟨u4, hcu⟩, hS5, hB5⟩ := edges_store rfl HS.out HB.out (below_drew HW3.out) hr4 hob hgr HV3.out k hlt; have hbox4 := edges_box hbox hsz3 hgr (fun e => Nat.lt_irrefl _ (HV3.out _ e.symm)))
        all_goals
          have hS6 := Aside0.mk hS5
          have hB6 := Aside0.mk hB5
          clear hS5 hB5 hcu hfz hr4 hob hgr hD
          go_wp2
          refine ⟨⟨k + 1, by omega, by simp, ⟨by rw [hTk.out]; exact edges_snoc hR.out hRT.out⟩, ⟨by rw [← edgesPart_set hlt hs]; exact hS6.out⟩, hB6⟩, ?_⟩
          simp [intOf]
          omega
      · have hRE := Aside0.mk (reads_no (m := l0.length) hle h1 h2 hl hrt)
        have hRT := Aside0.mk hrt
        clear hrt
        go_wp2_with (first
            | (go_at_call 22; refine (graph_Reads.calls _ _ _ _ _ _ _ _ (Kd.C_below hi3 (reads_box HB.out _)) hl3 hRE.out).mono ?_; rintro e w3 ⟨rv, rfl, hrr, hw3⟩))
        go_ret2
        rw [if_neg (fun hh => hRT.out (hh l hmem.out))] at h
        cases h
        exact ⟨_, rfl, Kd.S_nil _ _ _ _ _, HB.out.trans ((((Below.refl _ _).alloc (Nat.le_refl _) _).trans (hw3.mono (by simp))).mono HB.out.size)⟩
    · obtain rfl : k = l0.length := by omega
      have hR' := hR.out
      have hS' := HS.out
      rw [List.take_length] at hR'
      rw [edgesPart_all] at hS'
      rw [if_pos hR'] at h
      cases h
      clear hR'
      go_wp2
      go_ret2
      exact ⟨_, rfl, hS', HB.out⟩
end Go.Proofs.Ytbpdpgigpooacaa.PD
