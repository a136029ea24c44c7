/-
  The law of the edges, in plain words: no program in sight.
-/
import Derived.Test.YtbpdpgigpooacaaPDx8
import Derived.Test.YtbpdpgigpooacaaLoops
namespace Go.Proofs.Ytbpdpgigpooacaa.PD
open Go.RowKit Go.Proofs.YtbpdpgigpooacaaW.PrintWords Go.Proofs.YtbpdpgigpooacaaW.PrintLast Go.Proofs.YtbpdpgigpooacaaW.PrintMore

theorem awake18 : drogherlaw18_awake.f = some true := by
  unfold drogherlaw18_awake.f graph_Reads.f
  decide

theorem edge_bound {b : Int} {m : Nat} {l : List S52} {i : Nat} : (edgeOf b m l i).length ≤ m := by
  unfold edgeOf readsOf
  exact Nat.le_trans (List.length_filter_le _ _) (Nat.le_trans (List.length_filter_le _ _) (by rw [upFrom_length]; omega))

/-- The document's inner loop: a row without i. -/
theorem ref_edges_l1 (ls : List (List S52)) (b : Int) (out : List (List Int)) (i : Nat) (row : List Int) (e : Int) (hrow : row.length ≤ 1000) (ho : out.length ≤ 1000) (R : Option (List (List Int) × Int)) (K : Nat)
    (hK : ∀ k, K ≤ k → drogherref18_Edges.l0 k ls b [] (out ++ [row.filter (fun x => !(x == (i : Int)))]) ls.length (wrap64 (i + 1)) = R) : ∀ (n j k : Nat), j + n = row.length → n + 1 + K ≤ k →
    drogherref18_Edges.l1 k ls b [] out i row ((row.take j).filter (fun x => !(x == (i : Int)))) ls.length i row.length j = R
  | 0, j, k + 1, h, hk => by
    rw [List.take_of_length_le (by omega)]
    simp only [drogherref18_Edges.l1]
    rw [if_neg (by omega), if_pos (by omega)]
    exact hK k (by omega)
  | n + 1, j, k + 1, h, hk => by
    have ih := ref_edges_l1 ls b out i row e hrow ho R K hK n (j + 1) k (by omega) (by omega)
    have hf : ((row.take j).filter (fun x => !(x == (i : Int)))).length ≤ 1000 := Nat.le_trans (List.length_filter_le _ _) (by rw [List.length_take]; omega)
    simp only [drogherref18_Edges.l1]
    rw [if_pos (by omega), if_pos (by omega), if_pos (by omega), rdI (by omega), wrs j (by omega)]
    rw [List.take_add_one, List.getElem?_eq_getElem (by omega), List.filter_append] at ih
    by_cases hq : row[j] = (i : Int)
    · rw [if_pos hq]
      rw [show List.filter (fun x => !(x == (i : Int))) (some row[j]).toList = [] by simp [hq], List.append_nil] at ih
      exact ih
    · rw [if_neg hq, if_pos (by omega)]
      rw [show List.filter (fun x => !(x == (i : Int))) (some row[j]).toList = [row[j]] by simp [hq]] at ih
      exact ih
  | 0, _, 0, _, hk => by omega
  | _ + 1, _, 0, _, hk => by omega

theorem edgesOf_take {ls : List (List S52)} {b : Int} {i : Nat} (h : i < ls.length) : (edgesOf ls b).take (i + 1) = (edgesOf ls b).take i ++ [edgeOf b ls.length ls[i] i] := by
  rw [List.take_add_one]
  congr 1
  unfold edgesOf
  rw [List.getElem?_mapIdx, List.getElem?_eq_getElem h]
  rfl

set_option maxRecDepth 100000 in
theorem ref_edges_l0 (ls : List (List S52)) (b : Int) (hb : 128 ≤ b ∧ b ≤ 4096) (hm : ls.length ≤ 100) (hl : ∀ l ∈ ls, l.length ≤ 100) : ∀ (n i k : Nat), i + n = ls.length → (∀ l ∈ ls.take i, ∀ s ∈ l, Right s) → n * 200 + 400 ≤ k →
    drogherref18_Edges.l0 k ls b [] ((edgesOf ls b).take i) ls.length i = some (if ∀ l ∈ ls, ∀ s ∈ l, Right s then (edgesOf ls b, 0) else ([], 3))
  | 0, i, k + 1, h, hj, hk => by
    have hR : ∀ l ∈ ls, ∀ s ∈ l, Right s := by rwa [show i = ls.length by omega, List.take_length] at hj
    rw [if_pos hR]
    simp only [drogherref18_Edges.l0]
    rw [if_neg (by omega), List.take_of_length_le (by rw [edgesOf_length]; omega)]
  | n + 1, i, k + 1, h, hj, hk => by
    simp only [drogherref18_Edges.l0]
    rw [if_pos (by omega), if_pos (by omega), if_pos (by omega), rdL4 (by omega), ref_reads _ _ _ hb hm (hl _ (List.getElem_mem _)) (by omega), Option.bind_some]
    by_cases hR : ∀ s ∈ ls[i], Right s
    · rw [if_pos hR]
      simp only [if_true]
      refine ref_edges_l1 ls b _ i _ 0 ?_ ?_ _ (n * 200 + 400) (fun k' hk' => ?_) (readsOf ls[i] b ls.length).length 0 k (by omega) ?_
      · exact Nat.le_trans (List.length_filter_le _ _) (by rw [upFrom_length]; omega)
      · rw [List.length_take, edgesOf_length]; omega
      · rw [wrs i (by omega)]
        have ih := ref_edges_l0 ls b hb hm hl n (i + 1) k' (by omega) (by
          rw [List.take_add_one, List.getElem?_eq_getElem (by omega)]
          intro l hl'
          rcases List.mem_append.1 hl' with h1 | h1
          · exact hj l h1
          · simp at h1; rw [h1]; exact hR) (by omega)
        rw [edgesOf_take (by omega)] at ih
        exact ih
      · have : (readsOf ls[i] b ls.length).length ≤ ls.length := Nat.le_trans (List.length_filter_le _ _) (by rw [upFrom_length]; omega)
        omega
    · rw [if_neg hR, if_neg (show ¬ ((([] : List Int), (3 : Int)).2 = 0) by simp), if_neg (fun hh => hR (hh _ (List.getElem_mem _)))]
  | 0, _, 0, _, _, hk => by omega
  | _ + 1, _, 0, _, _, hk => by omega

theorem ref_edges (ls : List (List S52)) (b : Int) (hm : ls.length ≤ 100) (hl : ∀ l ∈ ls, l.length ≤ 100) {k : Nat} (hk : 20402 ≤ k) :
    drogherref18_Edges.f k ls b = some (if 128 ≤ b ∧ b ≤ 4096 then (if ∀ l ∈ ls, ∀ s ∈ l, Right s then (edgesOf ls b, 0) else ([], 3)) else ([], 1)) := by
  obtain ⟨k', rfl⟩ : ∃ k', k = k' + 1 := ⟨k - 1, by omega⟩
  unfold drogherref18_Edges.f
  rw [Option.bind_some]
  by_cases h1 : b < 128
  · rw [if_pos h1, if_neg (by omega)]
    simp [drogherref18_Edges.j0]
  by_cases h2 : b > 4096
  · rw [if_neg h1, if_pos h2, if_neg (by omega)]
    simp [drogherref18_Edges.j0]
  rw [if_neg h1, if_neg h2, decide_eq_false (by omega), if_pos (by omega)]
  simp only [drogherref18_Edges.j0]
  rw [if_neg (by simp)]
  exact ref_edges_l0 ls b (by omega) hm hl ls.length 0 k' (by omega) (by simp) (by omega)

/-! ### turned round -/
/-- Lists tell of blocks: each goes up, each number is a block, none is the list's own. -/
def Tells (E : List (List Int)) : Prop := E.length ≤ 100 ∧ ∀ (i : Nat) (h : i < E.length), ((E[i]).Pairwise (fun x y => x < y) ∧ ∀ x ∈ E[i], 0 ≤ x ∧ x < E.length ∧ x ≠ i) ∧ (E[i]).length ≤ 100

theorem edges_tell (ls : List (List S52)) (b : Int) (hm : ls.length ≤ 100) : Tells (edgesOf ls b) := by
  refine ⟨by rw [edgesOf_length]; exact hm, fun i h => ?_⟩
  rw [edgesOf_length] at h
  have e : (edgesOf ls b)[i]'(by rw [edgesOf_length]; exact h) = edgeOf b ls.length ls[i] i := by unfold edgesOf; rw [List.getElem_mapIdx]
  rw [e, edgesOf_length]
  refine ⟨?_, Nat.le_trans edge_bound hm⟩
  unfold edgeOf
  refine ⟨(readsOf_up _ _ _).filter _, fun x hx => ?_⟩
  rw [List.mem_filter, mem_readsOf] at hx
  exact ⟨hx.1.1.1, hx.1.1.2, by simpa using hx.2⟩

theorem row_le {E : List (List Int)} (hE : Tells E) {i : Nat} (h : i < E.length) : (E[i]).length ≤ 100 := (hE.2 i h).2

theorem right_l1 (E : List (List Int)) (hE : Tells E) (i : Nat) (hi : i < E.length) (R : Option Bool) (K : Nat) (hK : ∀ k, K ≤ k → graph_right.l0 k E E E.length (wrap64 (i + 1)) = R) : ∀ (n j k : Nat), j + n = (E[i]).length → n + 1 + K ≤ k →
    graph_right.l1 k E i E[i] E E.length i E[i] (E[i]).length j = R
  | 0, j, k + 1, h, hk => by
    simp only [graph_right.l1]
    rw [if_neg (by omega)]
    exact hK k (by omega)
  | n + 1, j, k + 1, h, hk => by
    have ih := right_l1 E hE i hi R K hK n (j + 1) k (by omega) (by omega)
    have hb := row_le hE hi
    obtain ⟨⟨hp, hx⟩, -⟩ := hE.2 i hi
    have hj : j < (E[i]).length := by omega
    have hxj := hx _ (List.getElem_mem hj)
    simp only [graph_right.l1]
    rw [if_pos (by omega), if_pos (by omega), if_pos (by omega), rdI hj, if_neg (by omega), if_neg (by omega), if_neg (by omega), wrs j (by omega), ih]
    by_cases h0 : (j : Int) > 0
    · rw [if_pos h0]
      have e : wrap64 ((j : Int) - 1) = ((j - 1 : Nat) : Int) := by unfold wrap64; omega
      have hlt : (E[i])[j - 1] < (E[i])[j] := (List.pairwise_iff_getElem.1 hp) (j - 1) j (by omega) hj (by omega)
      rw [e, if_pos (by omega), if_pos (by omega), rdI (by omega), if_neg (by omega)]
    · rw [if_neg h0]
  | 0, _, 0, _, hk => by omega
  | _ + 1, _, 0, _, hk => by omega

set_option maxRecDepth 100000 in
theorem right_l0 (E : List (List Int)) (hE : Tells E) : ∀ (n i k : Nat), i + n = E.length → n * 200 + 1 ≤ k → graph_right.l0 k E E E.length i = some true
  | 0, i, k + 1, h, hk => by
    simp only [graph_right.l0]
    have := hE.1
    rw [if_neg (by omega), decide_eq_true (by omega)]
  | n + 1, i, k + 1, h, hk => by
    have hE1 := hE.1
    simp only [graph_right.l0]
    rw [if_pos (by omega), if_pos (by omega), if_pos (by omega), rdL5 (by omega)]
    have hb := row_le hE (show i < E.length by omega)
    exact right_l1 E hE i (by omega) _ (n * 200 + 1) (fun k' hk' => by rw [wrs i (by omega)]; exact right_l0 E hE n (i + 1) k' (by omega) hk') (E[i]).length 0 k (by omega) (by omega)
  | 0, _, 0, _, hk => by omega
  | _ + 1, _, 0, _, hk => by omega

/-- Who is read by whom, the rows ahead of i and the first j of row i having been gone through. -/
def turnPart (E : List (List Int)) (i j : Nat) : List (List Int) :=
  (upFrom E.length).map (fun x => (upFrom i).filter (fun y => decide (x ∈ rd_L5 E y)) ++ (if x ∈ (rd_L5 E i).take j then [(i : Int)] else []))

def turned (E : List (List Int)) : List (List Int) := (upFrom E.length).map (fun x => (upFrom E.length).filter (fun y => decide (x ∈ rd_L5 E y)))

theorem turnPart_length (E : List (List Int)) (i j : Nat) : (turnPart E i j).length = E.length := by unfold turnPart; rw [List.length_map, upFrom_length]

theorem upFrom_getE {n j : Nat} (h : j < (upFrom n).length) : (upFrom n)[j] = (j : Int) := by simp [upFrom]

theorem turnPart_get (E : List (List Int)) (i j : Nat) {t : Nat} (h : t < E.length) : (turnPart E i j)[t]'(by rw [turnPart_length]; exact h) = (upFrom i).filter (fun y => decide ((t : Int) ∈ rd_L5 E y)) ++ (if (t : Int) ∈ (rd_L5 E i).take j then [(i : Int)] else []) := by
  unfold turnPart
  rw [List.getElem_map, upFrom_getE]

theorem turnPart_next (E : List (List Int)) (i : Nat) : turnPart E i (rd_L5 E i).length = turnPart E (i + 1) 0 := by
  unfold turnPart
  apply List.map_congr_left
  intro x _
  rw [List.take_length, upFrom_succ, List.filter_append, List.take_zero]
  by_cases h : x ∈ rd_L5 E i <;> simp [h, List.filter]

theorem turnPart_all (E : List (List Int)) : turnPart E E.length 0 = turned E := by
  unfold turnPart turned
  apply List.map_congr_left
  intro x _
  simp

theorem turnPart_set (E : List (List Int)) (hE : Tells E) (i j : Nat) (hi : i < E.length) (hj : j < (E[i]).length) (v : Nat) (hv : (E[i])[j] = (v : Int)) (hv2 : v < E.length) :
    (turnPart E i j).set v ((rd_L5 (turnPart E i j) v) ++ [(i : Int)]) = turnPart E i (j + 1) := by
  have hp := (hE.2 i hi).1.1
  have hrow : rd_L5 E (i : Int) = E[i] := rdL5 hi
  have hnew : (v : Int) ∉ (E[i]).take j := by
    intro hm
    obtain ⟨j', hj', e⟩ := List.mem_iff_getElem.1 hm
    rw [List.length_take] at hj'
    rw [List.getElem_take] at e
    rw [← hv] at e
    have := (List.pairwise_iff_getElem.1 hp) j' j (by omega) hj (by omega)
    omega
  have hrd : rd_L5 (turnPart E i j) (v : Int) = (upFrom i).filter (fun y => decide ((v : Int) ∈ rd_L5 E y)) ++ (if (v : Int) ∈ (rd_L5 E i).take j then [(i : Int)] else []) :=
    (rdL5 (by rw [turnPart_length]; exact hv2)).trans (turnPart_get E i j hv2)
  apply List.ext_getElem
  · rw [List.length_set, turnPart_length, turnPart_length]
  · intro t h1 h2
    rw [turnPart_length] at h2
    by_cases e : v = t
    · subst e
      rw [List.getElem_set_self]
      refine Eq.trans ?_ (turnPart_get E i (j + 1) h2).symm
      rw [hrd, hrow, List.take_add_one, List.getElem?_eq_getElem hj, hv, if_neg hnew, if_pos (by simp), List.append_nil]
    · rw [List.getElem_set_ne e]
      refine (turnPart_get E i j h2).trans (Eq.trans ?_ (turnPart_get E i (j + 1) h2).symm)
      rw [hrow, List.take_add_one, List.getElem?_eq_getElem hj, hv]
      congr 1
      have : (t : Int) ∈ (E[i]).take j ++ (some (v : Int)).toList ↔ (t : Int) ∈ (E[i]).take j := by
        rw [List.mem_append]
        simp
        omega
      by_cases hm : (t : Int) ∈ (E[i]).take j
      · rw [if_pos hm, if_pos (this.2 hm)]
      · rw [if_neg hm, if_neg (fun h => hm (this.1 h))]

theorem turned_l1 (E : List (List Int)) (hE : Tells E) (i : Nat) (hi : i < E.length) (R : Option (List (List Int) × Int)) (K : Nat) (hK : ∀ k, K ≤ k → graph_Turned.l0 k (turnPart E (i + 1) 0) E E.length (wrap64 (i + 1)) = R) : ∀ (n j k : Nat), j + n = (E[i]).length → n + 1 + K ≤ k →
    graph_Turned.l1 k (turnPart E i j) i E E.length i E[i] (E[i]).length j = R
  | 0, j, k + 1, h, hk => by
    simp only [graph_Turned.l1]
    rw [if_neg (by omega)]
    have e := turnPart_next E i
    rw [rdL5 hi, ← show j = (E[i]).length by omega] at e
    rw [e]
    exact hK k (by omega)
  | n + 1, j, k + 1, h, hk => by
    have ih := turned_l1 E hE i hi R K hK n (j + 1) k (by omega) (by omega)
    have hb := row_le hE hi
    have hE1 := hE.1
    obtain ⟨⟨hp, hx⟩, -⟩ := hE.2 i hi
    have hj : j < (E[i]).length := by omega
    have hxj := hx _ (List.getElem_mem hj)
    obtain ⟨v, hv⟩ : ∃ v : Nat, (E[i])[j] = (v : Int) := ⟨(E[i])[j].toNat, by omega⟩
    simp only [graph_Turned.l1]
    rw [if_pos (by omega), if_pos (by omega), if_pos (by omega), rdI hj, if_pos (by omega), if_pos (by rw [turnPart_length]; omega), wrs j (by omega)]
    rw [hv] at hxj ⊢
    have hlen : (rd_L5 (turnPart E i j) (v : Int)).length < 17592186044416 := by
      rw [rdL5 (by rw [turnPart_length]; omega), turnPart_get E i j (by omega), List.length_append]
      have h1 := List.length_filter_le (fun y => decide ((v : Int) ∈ rd_L5 E y)) (upFrom i)
      rw [upFrom_length] at h1
      have h2 : (if (v : Int) ∈ (rd_L5 E i).take j then [(i : Int)] else []).length ≤ 1 := by split <;> simp
      omega
    rw [if_pos hlen, Int.toNat_natCast, turnPart_set E hE i j hi hj v hv (by omega)]
    exact ih
  | 0, _, 0, _, hk => by omega
  | _ + 1, _, 0, _, hk => by omega

set_option maxRecDepth 100000 in
theorem turned_l0 (E : List (List Int)) (hE : Tells E) : ∀ (n i k : Nat), i + n = E.length → n * 200 + 1 ≤ k → graph_Turned.l0 k (turnPart E i 0) E E.length i = some (turned E, 0)
  | 0, i, k + 1, h, hk => by
    simp only [graph_Turned.l0]
    rw [if_neg (by omega), show i = E.length by omega, turnPart_all]
  | n + 1, i, k + 1, h, hk => by
    have hE1 := hE.1
    simp only [graph_Turned.l0]
    rw [if_pos (by omega), if_pos (by omega), if_pos (by omega), rdL5 (by omega)]
    have hb := row_le hE (show i < E.length by omega)
    exact turned_l1 E hE i (by omega) _ (n * 200 + 1) (fun k' hk' => by rw [wrs i (by omega)]; exact turned_l0 E hE n (i + 1) k' (by omega) hk') (E[i]).length 0 k (by omega) (by omega)
  | 0, _, 0, _, hk => by omega
  | _ + 1, _, 0, _, hk => by omega

theorem turnPart_zero (E : List (List Int)) : turnPart E 0 0 = List.replicate E.length [] := by
  unfold turnPart
  apply List.ext_getElem
  · simp [upFrom_length]
  · intro i h1 h2
    simp [upFrom]

theorem graph_turned (E : List (List Int)) (hE : Tells E) {k : Nat} (hk : 20001 ≤ k) : graph_Turned.f k E = some (turned E, 0) := by
  have hE1 := hE.1
  unfold graph_Turned.f graph_right.f
  rw [show graph_right.l0 k E E E.length 0 = some true from right_l0 E hE E.length 0 k (by omega) (by omega), Option.bind_some, if_pos rfl, if_pos (by omega), if_pos (by omega), Int.toNat_natCast, ← turnPart_zero]
  exact turned_l0 E hE E.length 0 k (by omega) (by omega)

theorem has_l (l : List Int) (x : Int) (hl : l.length ≤ 1000) : ∀ (n i k : Nat), i + n = l.length → n + 1 ≤ k → drogherref18_has.l0 k l x l.length i = some (decide (x ∈ l.drop i))
  | 0, i, k + 1, h, hk => by
    rw [List.drop_of_length_le (by omega)]
    simp only [drogherref18_has.l0]
    rw [if_neg (by omega)]
    simp
  | n + 1, i, k + 1, h, hk => by
    have ih := has_l l x hl n (i + 1) k (by omega) (by omega)
    rw [List.drop_eq_getElem_cons (by omega : i < l.length)]
    simp only [drogherref18_has.l0]
    rw [if_pos (by omega), if_pos (by omega), if_pos (by omega), rdI (by omega), wrs i (by omega), ih]
    by_cases hq : l[i] = x
    · rw [if_pos hq]; simp [hq]
    · rw [if_neg hq]; exact congrArg some (decide_eq_decide.2 ⟨fun h => List.mem_cons_of_mem _ h, fun h => (List.mem_cons.1 h).resolve_left (fun e => hq e.symm)⟩)
  | 0, _, 0, _, hk => by omega
  | _ + 1, _, 0, _, hk => by omega

theorem has_f (l : List Int) (x : Int) (hl : l.length ≤ 1000) {k : Nat} (hk : 1001 ≤ k) : drogherref18_has.f k l x = some (decide (x ∈ l)) := has_l l x hl l.length 0 k (by omega) (by omega)

theorem ref_turned_l1 (E : List (List Int)) (hE : Tells E) (x : Nat) (hx : x < E.length) (out : List (List Int)) (ho : out.length ≤ 1000) (R : Option (List (List Int))) (K : Nat)
    (hK : ∀ k, K ≤ k → drogherref18_Turned.l0 k E (out ++ [(upFrom E.length).filter (fun y => decide ((x : Int) ∈ rd_L5 E y))]) E.length (wrap64 (x + 1)) = R) : ∀ (n i k : Nat), i + n = E.length → n + 1002 + K ≤ k →
    drogherref18_Turned.l1 k E out x ((upFrom i).filter (fun y => decide ((x : Int) ∈ rd_L5 E y))) E.length x E.length i = R
  | 0, i, k + 1, h, hk => by
    simp only [drogherref18_Turned.l1]
    rw [if_neg (by omega), if_pos (by omega), show i = E.length by omega]
    exact hK k (by omega)
  | n + 1, i, k + 1, h, hk => by
    have ih := ref_turned_l1 E hE x hx out ho R K hK n (i + 1) k (by omega) (by omega)
    have hE1 := hE.1
    have hb := row_le hE (show i < E.length by omega)
    have hf : ((upFrom i).filter (fun y => decide ((x : Int) ∈ rd_L5 E y))).length ≤ i := Nat.le_trans (List.length_filter_le _ _) (by rw [upFrom_length]; omega)
    simp only [drogherref18_Turned.l1]
    rw [if_pos (by omega), if_pos (by omega), if_pos (by omega), rdL5 (by omega), has_f _ _ (by omega) (by omega), Option.bind_some, wrs i (by omega)]
    rw [upFrom_succ, List.filter_append] at ih
    have hrow : rd_L5 E (i : Int) = E[i] := rdL5 (by omega)
    by_cases hq : (x : Int) ∈ E[i]
    · rw [decide_eq_true hq, if_pos rfl, if_pos (by omega)]
      rw [show List.filter (fun y => decide ((x : Int) ∈ rd_L5 E y)) [(i : Int)] = [(i : Int)] by simp [hrow, hq]] at ih
      exact ih
    · rw [decide_eq_false hq, if_neg (by simp)]
      rw [show List.filter (fun y => decide ((x : Int) ∈ rd_L5 E y)) [(i : Int)] = [] by simp [hrow, hq], List.append_nil] at ih
      exact ih
  | 0, _, 0, _, hk => by omega
  | _ + 1, _, 0, _, hk => by omega

set_option maxRecDepth 100000 in
theorem ref_turned_l0 (E : List (List Int)) (hE : Tells E) (K : Nat → Nat) (hK : ∀ n, K n + 1200 ≤ K (n + 1)) : ∀ (n x k : Nat), x + n = E.length → K n + 1 ≤ k → drogherref18_Turned.l0 k E ((turned E).take x) E.length x = some (turned E)
  | 0, x, k + 1, h, hk => by
    simp only [drogherref18_Turned.l0]
    rw [if_neg (by omega), List.take_of_length_le (by unfold turned; rw [List.length_map, upFrom_length]; omega)]
  | n + 1, x, k + 1, h, hk => by
    have hE1 := hE.1
    have hKn := hK n
    simp only [drogherref18_Turned.l0]
    rw [if_pos (by omega)]
    refine ref_turned_l1 E hE x (by omega) _ (by rw [List.length_take]; unfold turned; rw [List.length_map, upFrom_length]; omega) _ (K n + 1) (fun k' hk' => ?_) E.length 0 k (by omega) (by omega)
    rw [wrs x (by omega)]
    have ih := ref_turned_l0 E hE K hK n (x + 1) k' (by omega) hk'
    rw [List.take_add_one] at ih
    have e : (turned E)[x]? = some ((upFrom E.length).filter (fun y => decide ((x : Int) ∈ rd_L5 E y))) := by
      unfold turned
      rw [List.getElem?_map, List.getElem?_eq_getElem (by rw [upFrom_length]; omega), upFrom_getE]
      rfl
    rw [e] at ih
    exact ih
  | 0, _, 0, _, hk => by omega
  | _ + 1, _, 0, _, hk => by omega

theorem ref_turned (E : List (List Int)) (hE : Tells E) {k : Nat} (hk : 120001 ≤ k) : drogherref18_Turned.f k E = some (turned E) := by
  have hE1 := hE.1
  exact ref_turned_l0 E hE (fun n => 1200 * n) (fun n => by omega) E.length 0 k (by omega) (by omega)

theorem graph_edges_law (ls : List (List S52)) (b : Int) : drogherlaw18_GraphEdges.f 200000 ls b = some true := by
  unfold drogherlaw18_GraphEdges.f
  rw [greats_f _ (by omega), Option.bind_some]
  cases hg : greats ls with
  | true => rw [if_pos rfl, awake18, Option.bind_some]
  | false =>
    obtain ⟨hn, hl⟩ := not_greats hg
    have hl' : ∀ l ∈ ls, l.length ≤ 100 := fun l h => by have := (hl l h).1; omega
    rw [if_neg (by simp), ref_edges ls b (by omega) hl' (by omega)]
    unfold graph_Edges.f
    rw [if_pos ⟨by omega, hl'⟩]
    by_cases hb : 128 ≤ b ∧ b ≤ 4096
    · rw [if_pos hb, if_pos hb]
      by_cases hR : ∀ l ∈ ls, ∀ s ∈ l, Right s
      · have hT := edges_tell ls b (by omega)
        have hrl : ∀ r ∈ edgesOf ls b, r.length ≤ 1000 := fun r hr => by
          obtain ⟨i, hi, rfl⟩ := List.mem_iff_getElem.1 hr
          have := row_le hT hi
          omega
        rw [if_pos hR, if_pos hR, Option.bind_some, Option.bind_some, sameAll_refl _ (by rw [edgesOf_length]; omega) hrl (by omega), Option.bind_some, if_pos rfl]
        simp only [drogherlaw18_GraphEdges.j0]
        rw [if_neg (by simp), if_pos trivial, graph_turned _ hT (by omega), Option.bind_some, if_pos rfl, ref_turned _ hT (by omega), Option.bind_some, sameAll_refl _ ?_ ?_ (by omega), Option.bind_some, if_pos rfl, awake18, Option.bind_some]
        · unfold turned; rw [List.length_map, upFrom_length, edgesOf_length]; omega
        · intro r hr
          unfold turned at hr
          obtain ⟨x, _, rfl⟩ := List.mem_map.1 hr
          exact Nat.le_trans (List.length_filter_le _ _) (by rw [upFrom_length, edgesOf_length]; omega)
      · rw [if_neg hR, if_neg hR, Option.bind_some, Option.bind_some, sameAll_refl _ (by simp) (by simp) (by omega), Option.bind_some, if_pos rfl]
        simp [drogherlaw18_GraphEdges.j0, awake18]
    · rw [if_neg hb, if_neg hb, Option.bind_some, Option.bind_some, sameAll_refl _ (by simp) (by simp) (by omega), Option.bind_some, if_pos rfl]
      simp [drogherlaw18_GraphEdges.j0, awake18]
end Go.Proofs.Ytbpdpgigpooacaa.PD
