/-
  What plans make in place: a hand contract beside the printed ones.
-/
import Derived.Test.YtbpdpgigpooacaaEval
import Derived.Test.YtbpdpgigpooacaaHCheck
import Derived.Laws.IdiomCopy
import Derived.Test.YtbpdpgigpooacaaHBlock
namespace Go.Proofs.Ytbpdpgigpooacaa.PD
open Go.RowKit Go.Proofs.YtbpdpgigpooacaaW.PrintWords Go.Proofs.YtbpdpgigpooacaaW.PrintLast Go.Proofs.YtbpdpgigpooacaaW.PrintMore

/-- Bytes laid into an image. -/
def layAt (image : List Int) (at_ : Nat) (x : List Int) : List Int := image.take at_ ++ x ++ image.drop (at_ + x.length)

/-- What plans make in place, block by block. -/
def foldE (plans : List (List S52)) (b new : Int) (old : Nat) : List Int → List Int → List Int × Int
  | [], image => (image.take new.toNat, 0)
  | i :: rest, image => if (evalE (rd_L4 plans i) (image.take old) (sizeOf i b new)).2 = 0 then foldE plans b new old rest (layAt image (i * b).toNat (evalE (rd_L4 plans i) (image.take old) (sizeOf i b new)).1) else ([], (evalE (rd_L4 plans i) (image.take old) (sizeOf i b new)).2)

/-- The image as it begins: the old one, and zeros behind it. -/
def image0 (l0 : List Int) (new : Int) : List Int := l0 ++ List.replicate (new.toNat - l0.length) 0

/-- None outside the range that is needed. -/
def safe_Fold.f (l0 : List Int) (l1 : List (List (S52))) (l2 : List Int) (a3 : Int) (a4 : Int) : Option (List Int × Int) :=
  if l0.length ≤ 5000 ∧ l1.length ≤ 100 ∧ (∀ l ∈ l1, l.length ≤ 100) ∧ l2.length ≤ 1000 ∧ a4 ≤ 5000 then
    some (if aheadE l1.length l2 a3 l0.length a4 = 0 then foldE l1 a3 a4 l0.length l2 (image0 l0 a4) else ([], aheadE l1.length l2 a3 l0.length a4))
  else none

theorem evalFold_length {old : List Int} : ∀ {l : List S52} {acc out : List Int}, (∀ s ∈ l, Right s) → evalFold old l acc = some out → (out.length : Int) = acc.length + sumLen l
  | [], acc, out, _, h => by
    injection h with h
    subst h
    simp [sumLen]
  | s :: l, acc, out, hR, h => by
    have hs := hR s (by simp)
    have hsum : sumLen (s :: l) = s.f2 + sumLen l := by simp [sumLen]
    unfold evalFold at h
    by_cases h1 : s.f0 = 1
    · rw [if_pos h1] at h
      have := evalFold_length (fun t ht => hR t (by simp [ht])) h
      rw [List.length_append] at this
      unfold Right at hs
      omega
    · rw [if_neg h1] at h
      by_cases h2 : s.f1 + s.f2 > old.length
      · rw [if_pos h2] at h; cases h
      · rw [if_neg h2] at h
        have := evalFold_length (fun t ht => hR t (by simp [ht])) h
        rw [List.length_append] at this
        have hb : ((stepBytes old s).length : Int) = s.f2 := by
          unfold stepBytes
          unfold Right at hs
          split
          · rw [List.length_zipWith, List.length_take, List.length_drop]; omega
          · rw [List.length_take, List.length_drop]; omega
        omega

theorem evalE_length {l : List S52} {old : List Int} {want : Int} (h : (evalE l old want).2 = 0) : ((evalE l old want).1.length : Int) = want := by
  unfold evalE at h ⊢
  split at h
  · rename_i hR
    split at h
    · rename_i hs
      rw [if_pos hR, if_pos hs]
      cases hf : evalFold old l [] with
      | some out =>
        have := evalFold_length hR hf
        show (out.length : Int) = want
        simp at this
        omega
      | none => rw [hf] at h; cases h
    · cases h
  · cases h

/-- copy(v[lo:], ys), v a row of bytes of one's own, all of ys fitting. -/
theorem copy_at {P : Program} {ops : Array Oper} {rest : List Oper} {o : Oper} {a : Act} {Q : Exit → Act → World → Prop} {w0 W : World} (base : Nat) (hgd : o.guard = none) (s x : Operand) (t : TypeId)
    (ho : o.op = .call { callee := .builtin .copy, args := #[s, x], argTypes := #[t, t] }) (ht : P.underlying t = some (.slice 5)) (hinfo : (P.info? 5).map (·.size) = some 1)
    {g n cap lo m c : Nat} {A : Option Addr} {xs ys : List Int} {dl dc : Nat} (hs : a.eval s = .slice (some ⟨g, lo, none⟩) dl dc) (hdl : dl = n - lo) (hx : a.eval x = .slice A m c)
    (HO : Kd.R (Kd.int .u8) 5 W base (fun _ => True) (.slice (some ⟨g, 0, none⟩) n cap) xs) (HR : Kd.C (Kd.int .u8) W A m ys) (hle : lo + m ≤ n) (HB : Below base w0 W) (hbase : base ≤ W.heap.size)
    (h : ∀ w1, Kd.R (Kd.int .u8) 5 w1 base (fun _ => True) (.slice (some ⟨g, 0, none⟩) n cap) (layAt xs lo ys) → Below base w0 w1 → W.grownBy w1 (some g) → wpList P ops Q rest (a.put o.dst (.int .i64 (m : Int))) w1) :
    wpList P ops Q (o :: rest) a W := by
  subst hdl
  have hR := Kd.reads_of_C (enc := Value.int .u8) (d := 0) (h1 := fun _ => rfl) HR
  have hm : ys.length = m := hR.1
  have hown := Kd.own_of_R HO
  have hn : xs.length = n := (Kd.R_reads' HO).1.symm
  have fin : ∀ w1, (Builtin.copy_ #[t, t] o.type #[.slice (some ⟨g, lo, none⟩) (n - lo) dc, .slice A m c]).run P W = .ok (goInt (m : Int)) w1 → Kd.R (Kd.int .u8) 5 w1 base (fun _ => True) (.slice (some ⟨g, 0, none⟩) n cap) (layAt xs lo ys) → W.grownBy w1 (some g) → wpList P ops Q (o :: rest) a W := by
    intro w1 hr hrow hg
    refine wpList_plain hgd fun K hK => ?_
    unfold Oper.wp execOp
    simp only [ho, resolve, invoke, builtin, Sem.run_bind, Sem.run_pure, Result.andThen_ok, List.map_toArray, List.map_cons, List.map_nil, hs, hx, hr]
    exact hK _ _ (h w1 hrow (HB.grown hg hbase (fun k hk => own_base hown k (by cases hk; rfl))) hg)
  rcases Nat.eq_zero_or_pos m with h0 | hp
  · subst h0
    obtain rfl : ys = [] := List.eq_nil_of_length_eq_zero hm
    refine fin W ?_ ?_ (World.grownBy.refl W _)
    · exact run_copy_none W t t o.type 5 (some ⟨g, lo, none⟩) A (n - lo) dc 0 c ht hinfo (by simp)
    · unfold layAt
      rw [List.append_nil, List.length_nil, Nat.add_zero, List.take_append_drop]
      exact HO
  · obtain ⟨ad, hA, hc⟩ := hR.2.2 hp
    rcases hown.2 with ⟨hv, hx0⟩ | ⟨g', cap', cur, hv, hb, hh, hnc, hcm, hcs, htake⟩
    · cases hv
    injection hv with hv1 hv2 hv3
    injection hv1 with hv1
    injection hv1 with hv1
    subst hv1 hv3
    rw [hn] at htake hnc
    have hcs1 : cur.size = cap := by omega
    have hsrc : ∀ j u, (encs (Value.int .u8) ys)[j]? = some u → W.cell? (ad.add j) = some u := by
      intro j u hu
      have hj : j < ys.length := by
        rcases Nat.lt_or_ge j ys.length with h | h
        · exact h
        · rw [List.getElem?_eq_none (by rw [encs_length]; exact h)] at hu
          cases hu
      rw [encs_get (d := (0 : Int)) _ j hj] at hu
      rw [hc j (by omega), ← hu]
    have hkl : (encs (Value.int .u8) ys).length = m := by rw [encs_length]; exact hm
    have hr := run_copy_cells (P := P) W t t o.type 5 g lo (n - lo) dc ad m c (encs (Value.int .u8) ys) ht hinfo (by rw [hkl]; exact (Nat.min_eq_left (by omega)).symm) hsrc
      (fun j hj => by rw [cell_of_row W g _ cur 5 (0, 0) hh]; simp; omega) (fun j _ => blk_frozen hh _) (by intro u hu; simp only [encs, List.mem_map] at hu; obtain ⟨q, _, rfl⟩ := hu; rfl)
    obtain ⟨cur', h3, h4, h5⟩ := setCells_row (encs (Value.int .u8) ys) lo W cur hh (by rw [hkl]; omega)
    obtain ⟨s1, s2, s3, s4⟩ := setCells_same g (encs (Value.int .u8) ys) lo W
    have hln : (layAt xs lo ys).length = n := by
      unfold layAt
      rw [List.length_append, List.length_append, List.length_take, List.length_drop]
      omega
    refine fin _ (by rw [hA, hr, hkl]) (Kd.R_of_own ?_ (fun _ _ => trivial)) ⟨s1, s2, s3, by rw [s4]; exact Nat.le_refl _, fun k _ hk => setCells_far _ _ k (fun he => hk (by rw [he]))⟩
    rw [hln]
    refine ⟨by rw [encs_length, hln, Nat.mul_one], .inr ⟨g, cap, cur', rfl, hb, h3, hnc, hcm, by rw [h4, hcs], ?_⟩⟩
    have htk : cur.toList.take n = encs (Value.int .u8) xs := by rw [← htake, Nat.mul_one]
    unfold layAt
    rw [h5, hkl, hm, encs_append, encs_append, Nat.mul_one]
    have e1 : encs (Value.int .u8) (xs.take lo) = cur.toList.take lo := by
      have : encs (Value.int .u8) (xs.take lo) = (encs (Value.int .u8) xs).take lo := by simp [encs, List.map_take]
      rw [this, ← htk, List.take_take, Nat.min_eq_left (by omega)]
    have e2 : encs (Value.int .u8) (xs.drop (lo + m)) = (cur.toList.drop (lo + m)).take (n - (lo + m)) := by
      have : encs (Value.int .u8) (xs.drop (lo + m)) = (encs (Value.int .u8) xs).drop (lo + m) := by simp [encs, List.map_drop]
      rw [this, ← htk, List.drop_take]
    rw [e1, e2]
    have hl1 : (cur.toList.take lo ++ encs (Value.int .u8) ys).length = lo + m := by
      rw [List.length_append, hkl, List.length_take, Array.length_toList]
      omega
    rw [List.take_append, hl1, List.take_of_length_le (by rw [hl1]; omega)]

theorem block_in {x n b new : Int} (hb : 1 ≤ b) (hn : n = blocksOf new b) (h0 : 0 ≤ x) (hx : x < n) : x * b < new ∧ 1 ≤ new := by
  unfold blocksOf at hn
  split at hn
  · omega
  · have h1 : x ≤ (new - 1) / b := by omega
    have h2 := (Int.le_ediv_iff_mul_le (by omega : 0 < b)).1 h1
    omega

theorem layAt_length {xs ys : List Int} {lo : Nat} (h : lo + ys.length ≤ xs.length) : (layAt xs lo ys).length = xs.length := by
  unfold layAt
  rw [List.length_append, List.length_append, List.length_take, List.length_drop]
  omega

theorem image0_eq {l0 : List Int} {a4 : Int} {N : Nat} (h1 : l0.length ≤ N) (h2 : a4 ≤ N) (hN : (if (l0.length : Int) < a4 then a4 else (l0.length : Int)) = N) : l0.take (min l0.length (List.replicate N (0 : Int)).length) ++ (List.replicate N (0 : Int)).drop (min l0.length (List.replicate N (0 : Int)).length) = image0 l0 a4 := by
  unfold image0
  rw [List.length_replicate, Nat.min_eq_left h1, List.take_length, List.drop_replicate]
  congr 2
  split at hN <;> omega

theorem fold_last {W : World} {base : Nat} {ok : Nat → Prop} {A : Option Addr} {n c m : Nat} {im : List Int} (h : Kd.V (Kd.int .u8) 5 W base ok (.slice A n c) im) (hm : m ≤ im.length) : Kd.V (Kd.int .u8) 5 W base ok (.slice A m m) (im.take m) := by
  obtain ⟨hn, _, hF⟩ := Kd.V_at h
  have hl : (im.take m).length = m := by rw [List.length_take]; omega
  have := Kd.V_mk (e := 5) (base := base) (c := m) (by omega) (Kd.F_take hF hm)
  rw [hl] at this
  exact this

theorem info5s : (Try.prog.info? 5).map (·.size) = some 1 := by kernel_rfl

attribute [local go_sem] max2_int min2_int max_two min_two

set_option maxHeartbeats 8000000 in
set_option maxRecDepth 100000 in
theorem safe_Fold.calls (A0 : Option Addr) (c0 : Nat) (l0 : List Int) (A1 : Option Addr) (c1 : Nat) (l1 : List (List (S52))) (A2 : Option Addr) (c2 : Nat) (l2 : List Int) (a3 : Int) (a4 : Int) (r1 : List Int) (r2 : Int) (w : World) (hr0 : Kd.C (Kd.int .u8) w A0 l0.length l0) (hc0 : l0.length ≤ c0) (hr1 : Kd.C (Kd.slice 52 k52) w A1 l1.length l1) (hc1 : l1.length ≤ c1) (hr2 : Kd.C (Kd.int .i64) w A2 l2.length l2) (hc2 : l2.length ≤ c2) (h : safe_Fold.f l0 l1 l2 a3 a4 = some (r1, r2)) :
    Calls Try.prog 17 #[.slice A0 l0.length c0, .slice A1 l1.length c1, .slice A2 l2.length c2, .int .i64 a3, .int .i64 a4] w fun e w' => ∃ v0_ : Value, e = .returned (.tuple #[v0_, .int .i64 r2]) ∧ Kd.V (Kd.int .u8) 5 w' w.heap.size (fun k_ => (w.heap.size ≤ k_)) v0_ r1 ∧ Below w.heap.size w w' := by
  unfold safe_Fold.f at h
  split at h
  case isFalse => cases h
  case isTrue hc =>
  obtain ⟨hl0, hl1, hl, hl2, ha4⟩ := hc
  injection h with h
  have hA := Aside0.mk (ahead_eq 0 l1 l2 a3 l0.length a4 hl2)
  by_cases hz : aheadE l1.length l2 a3 l0.length a4 = 0
  case neg =>
    rw [if_neg hz] at h
    obtain ⟨E, hE⟩ : ∃ E, aheadE l1.length l2 a3 l0.length a4 = E := ⟨_, rfl⟩
    rw [hE] at hA hz h
    cases h
    have hzb : (r2 != 0) = true := bne_iff_ne.2 hz
    clear hz hE
    go_enter Try.func17, Try.ntmps17
    go_wp2_with (go_at_call 30; refine (safe_ahead.calls _ _ _ _ _ _ _ _ _ _ _ _ hr1 hc1 hr2 hc2 hA.out).mono ?_; rintro e w1 ⟨rfl, hw1⟩)
    go_ret2
    exact ⟨_, rfl, Kd.V_nil _ _ _ _ _, hw1⟩
  case pos =>
  rw [if_pos hz] at h
  rw [hz] at hA
  obtain ⟨⟨hb1, hb2, ho1, ho2, hn1, hn2⟩, hbl, hon⟩ : (128 ≤ a3 ∧ a3 ≤ 4096 ∧ 0 ≤ (l0.length : Int) ∧ (l0.length : Int) ≤ 2147483647 ∧ 0 ≤ a4 ∧ a4 ≤ 2147483647) ∧ (l1.length : Int) = blocksOf a4 a3 ∧ Once l2 l1.length := by
    unfold aheadE at hz
    split at hz
    · rename_i h1
      split at hz
      · rename_i h2; exact ⟨h1, h2.1, h2.2⟩
      · cases hz
    · cases hz
  have HH := Aside0.mk h
  have HO := Aside0.mk hon
  have HBL := Aside0.mk hbl
  obtain ⟨N, hN⟩ : ∃ N : Nat, (if (l0.length : Int) < a4 then a4 else (l0.length : Int)) = N := ⟨(if (l0.length : Int) < a4 then a4 else (l0.length : Int)).toNat, by split <;> omega⟩
  have hN1 : l0.length ≤ N ∧ a4 ≤ N ∧ N ≤ 5000 := by split at hN <;> omega
  clear h hz hbl hon
  go_enter Try.func17, Try.ntmps17
  go_wp2_with (first
    | (go_at_call 30; refine (safe_ahead.calls _ _ _ _ _ _ _ _ _ _ _ _ hr1 hc1 hr2 hc2 hA.out).mono ?_; rintro e w1 ⟨rfl, hw1⟩)
    | ((with_reducible refine gate_dst (N := 33) rfl ?_); refine Kd.R_make (Kd.int .u8) _ 5 rfl (N := 33) rfl 39 _ _ rfl (N : Int) rfl rfl Try.underlying39 (.int .u8 0) 1 info5 rfl (by decide) (by omega) 0 (ok := fun _ => True) (okp := fun _ => True) rfl (fun _ hk => hk) trivial (by omega) (by omega) (Below.refl _ _) (Nat.le_refl _) ?_; intro v w2 hrow hb hg hnew; simp only [Int.toNat_natCast] at hrow; have hvs := Kd.R_slice hrow; rw [List.length_replicate] at hvs; obtain ⟨Av, cv, rfl⟩ := hvs; have HR2 := Aside0.mk (Kd.R_lower hrow hw1.size); have HB2 := Aside0.mk (hw1.trans (hb.mono hw1.size)); clear hrow hb hg hnew hw1)
    | ((with_reducible refine gate_builtin (b := .copy) (xs := #[.tmp 34, .tmp 35]) rfl ?_); refine Kd.R_copy (enc := Value.int .u8) (h1 := fun _ => rfl) (0 : Int) (w0 := w) w.heap.size rfl (.tmp 34) (.tmp 35) 39 39 5 rfl Try.underlying39 info5s (.slice Av N cv) (List.replicate N 0) l0 A0 l0.length c0 (fun _ => True) rfl rfl HR2.out (Kd.C_below hr0 HB2.out) HB2.out HB2.out.size ?_; intro w3 hrow3 hb3 hg3))
  have HIM : Aside0 (Kd.R (Kd.int .u8) 5 w3 w.heap.size (fun _ => True) (.slice Av N cv) (image0 l0 a4)) := ⟨by rw [← image0_eq hN1.1 hN1.2.1 hN]; exact hrow3⟩
  have HB3 := Aside0.mk hb3
  have HLI : Aside0 ((image0 l0 a4).length = N) := ⟨(Kd.R_reads' HIM.out).1.symm⟩
  clear hrow3 hb3 hg3 HR2 HB2 hA
  go_loopw [39] (fun i wr => ∃ (k : Nat) (im : List Int), k ≤ l2.length ∧ i = .int .i64 k ∧ Aside0 (im.length = N) ∧ Aside0 (Kd.R (Kd.int .u8) 5 wr w.heap.size (fun _ => True) (.slice Av N cv) im) ∧ Aside0 (foldE l1 a3 a4 l0.length (l2.drop k) im = (r1, r2)) ∧ Aside0 (Below w.heap.size w wr))
    (fun i _ => l2.length - (intOf i).toNat)
  case atStart => exact ⟨0, _, Nat.zero_le _, rfl, HLI, HIM, HH, HB3⟩
  case round =>
    clear HIM HB3 HLI HH
    obtain ⟨k, im, hk, rfl, HL, HR, HE, HB⟩ := hrel
    by_cases hlt : k < l2.length
    · obtain ⟨ad, rfl, hcx⟩ := nums_at hr2 k hlt
      replace hcx := (HB.out.cell (World.block_lt_of_cell? w _ hcx)).trans hcx
      obtain ⟨hx0, hx1⟩ := once_mem HO.out (List.getElem_mem hlt)
      have HE2 := HE.out
      rw [List.drop_eq_getElem_cons hlt] at HE2
      clear HE
      obtain ⟨x, hx⟩ : ∃ x : Nat, l2[k] = (x : Int) := ⟨l2[k].toNat, by omega⟩
      rw [hx] at hcx HE2 hx0 hx1
      have hxl : x < l1.length := by omega
      obtain ⟨ad1, A3, c3, rfl, hy0, hl3, hi3⟩ := at_L4 hr1 x (by omega) (by omega)
      replace hy0 := (HB.out.cell (World.block_lt_of_cell? w _ hy0)).trans hy0
      simp only [Int.toNat_natCast] at hy0
      obtain ⟨l, hs⟩ : ∃ l, rd_L4 l1 x = l := ⟨_, rfl⟩
      have hll : l.length ≤ 100 := hl l (plan_mem hxl hs)
      unfold foldE at HE2
      rw [hs] at HE2
      rw [hs] at hy0 hl3 hi3
      obtain ⟨hxb, hnew1⟩ := block_in (by omega) HBL.out hx0 hx1
      have hxb0 : 0 ≤ (x : Int) * a3 := Int.mul_nonneg (by omega) (by omega)
      have hw64 : IntKind.i64.wrap ((x : Int) * a3) = (x : Int) * a3 := by simp only [i64_w]; unfold wrap64; omega
      have hsz := Aside0.mk (size_eq (i := x) (b := a3) (new := a4) ⟨hb1, hb2⟩ (by omega) ⟨hn1, hn2⟩)
      have hwr : 0 ≤ sizeOf x a3 a4 ∧ (x : Int) * a3 + sizeOf x a3 a4 ≤ a4 := by unfold sizeOf; omega
      obtain ⟨want, hwant⟩ : ∃ want, sizeOf x a3 a4 = want := ⟨_, rfl⟩
      rw [hwant] at HE2 hsz hwr
      obtain ⟨G, capG, hAv, hG1, hG2, -⟩ := Kd.R_form HR.out (by rw [HL.out]; omega)
      injection hAv with e1 e2 e3
      subst e1 e3
      clear e2
      obtain ⟨hLR1, hLR2, hCim⟩ := Kd.R_reads' HR.out
      have hold := Kd.C_take hCim (m := l0.length) (by omega)
      have holdl : (im.take l0.length).length = l0.length := by rw [List.length_take]; omega
      have hP : Aside0 (∀ W, Below wr.heap.size wr W → Calls Try.prog 36 #[.slice A3 l.length c3, .iface 69 (.slice (some ⟨G, 0, none⟩) l0.length cv), .int .i64 want] W fun e w' => ∃ v, e = .returned (.tuple #[v, .int .i64 (evalE l (im.take l0.length) want).2]) ∧ Kd.R (Kd.int .u8) 5 w' W.heap.size (fun _ => True) v (evalE l (im.take l0.length) want).1 ∧ Below W.heap.size W w') := ⟨fun W hW => by
        have := eval_calls G cv c3 A3 (im.take l0.length) l want W (by exact Kd.C_below hold hW) (by omega) (by omega) (Kd.C_below hi3 (HB.out.trans (hW.mono HB.out.size))) (by omega) hwr.1 hl3
        rw [holdl] at this
        exact this⟩
      have hEL := Aside0.mk (fun h => evalE_length (l := l) (old := im.take l0.length) (want := want) h)
      obtain ⟨E, hE⟩ : ∃ E, evalE l (im.take l0.length) want = E := ⟨_, rfl⟩
      rw [hE] at HE2 hP hEL
      obtain ⟨xs, er⟩ := E
      have HE3 := Aside0.mk HE2
      have HLR := Aside0.mk hLR2
      clear HE2 hE hwant hs hx hi3 hold holdl hCim hLR1 hLR2
      have hNcv : N ≤ cv := HLR.out
      go_wp2
      go_region_with (first
        | (go_at_call 32; refine (safe_size.calls _ _ _ _ _ hsz.out).mono ?_; rintro e w4 ⟨rfl, hw4⟩; have hw4' : Below wr.heap.size wr w4 := (below_drew (Below.refl _ _)).trans hw4; have hy3 := (hw4.cell (World.block_lt_of_cell? wr _ hy0)).trans hy0)
        | (go_at_call 36; refine (hP.out _ hw4').mono ?_; rintro e w5 ⟨vx, rfl, hrx, hw5⟩; obtain ⟨Ax, cx, rfl⟩ := Kd.R_slice hrx))
      all_goals
        have hW5 : Below wr.heap.size wr w5 := hw4'.trans (hw5.mono hw4'.size)
        have HB5 := Aside0.mk (HB.out.trans (hW5.mono HB.out.size))
        have HR5 := Aside0.mk (Kd.R_below HR.out hW5)
        have HC5 := Aside0.mk ((Kd.R_reads' hrx).2.2)
        clear hW5 hw5 hw4 hw4' hy3 hy0 hcx hrx
        by_cases he : er = 0
        · subst he
          have hxl : (xs.length : Int) = want := hEL.out rfl
          have HE4 := HE3.out
          rw [if_pos rfl] at HE4
          have HE5 := Aside0.mk HE4
          clear HE3 HE4
          go_wp2_with ((with_reducible refine gate_builtin (b := .copy) (xs := #[.tmp 66, .tmp 67]) rfl ?_); refine copy_at w.heap.size rfl (.tmp 66) (.tmp 67) 39 rfl Try.underlying39 info5s (w0 := w) (n := N) (cap := cv) (lo := ((x : Int) * a3).toNat) (xs := im) (ys := xs) rfl rfl rfl HR5.out HC5.out (by omega) HB5.out HB5.out.size ?_; intro w6 hr6 hb6 hg6)
          have hlen6 : (layAt im ((x : Int) * a3).toNat xs).length = N := by rw [layAt_length (by have := HL.out; omega)]; exact HL.out
          exact ⟨⟨k + 1, layAt im ((x : Int) * a3).toNat xs, by omega, by simp, ⟨hlen6⟩, ⟨hr6⟩, HE5, ⟨hb6⟩⟩, by simp [intOf]; omega⟩
        · have heb : (er != 0) = true := bne_iff_ne.2 he
          have HE4 := HE3.out
          rw [if_neg he] at HE4
          clear HE3 he
          cases HE4
          go_wp2
          go_ret2
          exact ⟨_, rfl, Kd.V_nil _ _ _ _ _, HB5.out⟩
    · obtain rfl : k = l2.length := by omega
      have HE2 := HE.out
      rw [List.drop_of_length_le (Nat.le_refl _)] at HE2
      unfold foldE at HE2
      cases HE2
      have hV := Kd.R_V (base' := w.heap.size) (Kd.R_mono (Kd.R_bound HR.out) (fun k hk => hk.2.1))
      have HV := Aside0.mk hV
      have hNcv : N ≤ cv := (Kd.R_reads' HR.out).2.1
      clear hV HE
      go_wp2
      go_ret2
      exact ⟨_, rfl, fold_last HV.out (by have := HL.out; omega), HB.out⟩
end Go.Proofs.Ytbpdpgigpooacaa.PD
