/-
  What a plan makes, of bytes in memory: the program's own way, walked.
-/
import Derived.Test.YtbpdpgigpooacaaPlan
import Derived.Test.YtbpdpgigpooacaaPDx16
import Derived.Lib.BufferMore
import Derived.Lib.SmallJoins
namespace Go.Proofs.Ytbpdpgigpooacaa.PD
open Go.RowKit Go.Proofs.YtbpdpgigpooacaaW.PrintWords Go.Proofs.YtbpdpgigpooacaaW.PrintLast Go.Proofs.YtbpdpgigpooacaaW.PrintMore

theorem empty_row (w : World) : Kd.R (Kd.int .u8) 5 (w.alloc (.cells #[] 5)) w.heap.size (fun _ => True) (.slice (some ⟨w.heap.size, 0, none⟩) 0 0) [] :=
  Kd.R_of_own (enc := Value.int .u8) (h1 := fun _ => rfl) ⟨rfl, .inr ⟨w.heap.size, 0, #[], rfl, Nat.le_refl _, blk_new _ _, Nat.le_refl _, by simp [maxLen], rfl, rfl⟩⟩ (fun _ _ => trivial)

set_option maxHeartbeats 2000000 in
set_option maxRecDepth 100000 in
theorem clone_calls (ad : Addr) (c : Nat) (l : List Int) (w : World) (hC : Kd.C (Kd.int .u8) w (some ad) l.length l) (hlc : l.length ≤ c) (hl : l.length ≤ 100000) :
    Calls Try.prog 99 #[.slice (some ad) l.length c] w fun e w' => ∃ v, e = .returned v ∧ Kd.R (Kd.int .u8) 5 w' w.heap.size (fun _ => True) v l ∧ Below w.heap.size w w' := by
  have heq : ∀ W, (binOp .eql 69 (.slice (some ad) l.length c) (.slice none 0 0)).run Try.prog W = .ok (.bool false) W := fun W => Lib.run_eql_slice_some_nil W ad l.length c Try.underlying69
  go_enter Try.func99, Try.ntmps99
  go_wp2_with (at_builtin; refine Kd.R_append_rows (Kd.int .u8) (w0 := w) w.heap.size rfl (.tmp 5) (.tmp 6) 69 5 (.int .u8 0) 1 rfl Try.underlying69 info5 rfl (by decide) (by omega) (.slice (some ⟨w.heap.size, 0, none⟩) 0 0) [] l (some ad) l.length c (fun _ => True) (fun _ => False) rfl rfl (empty_row w) (Kd.C_below hC ((Below.refl _ _).alloc (Nat.le_refl _) _)) (fun _ _ h => h) (fun _ h => h.elim) (fun _ _ => trivial) ((Below.refl _ _).alloc (Nat.le_refl _) _) (by simp) (by simp; omega) ?_; intro v1 w1 hr hb hg hat)
  go_ret
  exact ⟨v1, rfl, by simpa using hr, hb⟩

theorem range_cut {l : List Int} {a b : Int} (h : 0 ≤ a ∧ 0 ≤ b) : (l.take (a + b).toNat).drop a.toNat = (l.drop a.toNat).take b.toNat := by
  rw [List.take_drop, show a.toNat + b.toNat = (a + b).toNat by omega]

/-- What a source of bytes in memory answers. -/
def askE (old : List Int) (s : S52) : List Int × Int := if s.f1 + s.f2 > old.length then ([], 5) else ((old.drop s.f1.toNat).take s.f2.toNat, 0)

set_option maxHeartbeats 2000000 in
set_option maxRecDepth 100000 in
theorem range_calls (G c : Nat) (old : List Int) (s : S52) (w : World) (hC : Kd.C (Kd.int .u8) w (some ⟨G, 0, none⟩) old.length old) (hlc : old.length ≤ c) (hl : old.length ≤ 100000) (hr : Right s) :
    Calls Try.prog 98 #[.slice (some ⟨G, 0, none⟩) old.length c, .int .i64 s.f1, .int .i64 s.f2] w fun e w' => ∃ v, e = .returned (.tuple #[v, .int .i64 (askE old s).2]) ∧ Kd.R (Kd.int .u8) 5 w' w.heap.size (fun _ => True) v (askE old s).1 ∧ Below w.heap.size w w' := by
  obtain ⟨hf2a, hf2b, hf1a, hf1b, _⟩ := hr
  by_cases h1 : s.f1 + s.f2 > old.length
  · have e : askE old s = ([], 5) := by unfold askE; rw [if_pos h1]
    rw [e]
    clear e
    go_enter Try.func98, Try.ntmps98
    go_wp2
    all_goals (go_ret2; exact ⟨_, rfl, Kd.R_nil _ _ _ _ _, Below.refl _ _⟩)
  · have e : askE old s = ((old.drop s.f1.toNat).take s.f2.toNat, 0) := by unfold askE; rw [if_neg h1]
    rw [e]
    clear e
    have hn := Kd.C_mid hC (lo := s.f1.toNat) (hi := (s.f1 + s.f2).toNat) (by omega) (by omega) hlc
    rw [if_neg (by omega), range_cut (by omega)] at hn
    have hln : ((old.drop s.f1.toNat).take s.f2.toNat).length = s.f2.toNat := by rw [List.length_take, List.length_drop]; omega
    have hcl : ∀ W, Below w.heap.size w W → Calls Try.prog 99 #[.slice (some ⟨G, s.f1.toNat, none⟩) ((s.f1 + s.f2).toNat - s.f1.toNat) (c - s.f1.toNat)] W fun e w' => ∃ v, e = .returned v ∧ Kd.R (Kd.int .u8) 5 w' W.heap.size (fun _ => True) v ((old.drop s.f1.toNat).take s.f2.toNat) ∧ Below W.heap.size W w' := fun W hW => by
      have := clone_calls ⟨G, s.f1.toNat, none⟩ (c - s.f1.toNat) ((old.drop s.f1.toNat).take s.f2.toNat) W (Kd.C_below (by
        have e : ((⟨G, 0, none⟩ : Addr).add (s.f1.toNat * (Kd.int .u8).sz)) = ⟨G, s.f1.toNat, none⟩ := by
          rw [show s.f1.toNat * (Kd.int .u8).sz = s.f1.toNat from Nat.mul_one _]
          unfold Addr.add
          split
          · rename_i h0; rw [h0]
          · simp
        have hn' := hn
        simp only [Option.map_some] at hn'
        rw [e] at hn'
        exact hn') hW) (by omega) (by omega)
      rw [hln, show s.f2.toNat = (s.f1 + s.f2).toNat - s.f1.toNat by omega] at this
      rw [show s.f2.toNat = (s.f1 + s.f2).toNat - s.f1.toNat by omega]
      exact this
    go_enter Try.func98, Try.ntmps98
    clear hn hC
    go_wp2_with (go_at_call 99; refine (hcl _ (Below.refl _ _)).mono ?_; rintro e w1 ⟨v, rfl, hr, hb⟩)
    all_goals (go_ret2; exact ⟨v, rfl, hr, hb⟩)

/-- The interface's method is that of the bytes. -/
theorem method_range (A : Option Addr) (n c : Nat) (w : World) : (method 236 69 (.slice A n c) "Range").run Try.prog w = .ok (98, .slice A n c) w := by kernel_rfl

set_option maxHeartbeats 2000000 in
set_option maxRecDepth 100000 in
theorem ask_calls (G c : Nat) (old : List Int) (s : S52) (w : World) (hC : Kd.C (Kd.int .u8) w (some ⟨G, 0, none⟩) old.length old) (hlc : old.length ≤ c) (hl : old.length ≤ 100000) (hr : Right s) :
    Calls Try.prog 54 #[.iface 69 (.slice (some ⟨G, 0, none⟩) old.length c), .int .i64 s.f1, .int .i64 s.f2] w fun e w' => ∃ v, e = .returned (.tuple #[v, .int .i64 (askE old s).2]) ∧ Kd.R (Kd.int .u8) 5 w' w.heap.size (fun _ => True) v (askE old s).1 ∧ Below w.heap.size w w' := by
  have hrc := range_calls G c old s w hC hlc hl hr
  have hm := method_range (some ⟨G, 0, none⟩) old.length c
  have hlen : (askE old s).2 = 0 → ((askE old s).1.length : Int) = s.f2 := fun h => by
    obtain ⟨hf2a, hf2b, hf1a, hf1b, _⟩ := hr
    unfold askE at h ⊢
    split at h
    · cases h
    · rename_i h1
      rw [if_neg h1]
      show ((((old.drop s.f1.toNat).take s.f2.toNat).length : Nat) : Int) = s.f2
      rw [List.length_take, List.length_drop]
      omega
  have h2 : (askE old s).2 = 0 ∨ (askE old s).2 = 5 := by unfold askE; split; exact .inr rfl; exact .inl rfl
  obtain ⟨E, hE⟩ : ∃ E, askE old s = E := ⟨_, rfl⟩
  rw [hE] at hrc hlen h2 ⊢
  obtain ⟨xs, e⟩ := E
  clear hE hC hr
  rcases h2 with rfl | rfl
  · have hl0 : (xs.length : Int) = s.f2 := hlen rfl
    clear hlen
    go_enter Try.func54, Try.ntmps54
    go_wp2_with (go_at_call 98; refine hrc.mono ?_; rintro e w1 ⟨v, rfl, hrr, hb⟩; obtain ⟨Av, cv, rfl⟩ := Kd.R_slice hrr)
    all_goals (go_ret2; exact ⟨_, rfl, hrr, hb⟩)
  · clear hlen
    go_enter Try.func54, Try.ntmps54
    go_wp2_with (go_at_call 98; refine hrc.mono ?_; rintro e w1 ⟨v, rfl, hrr, hb⟩; obtain ⟨Av, cv, rfl⟩ := Kd.R_slice hrr)
    all_goals (go_ret2; exact ⟨_, rfl, hrr, hb⟩)

/-! ### the sum, and what a plan makes -/
theorem plan_sum_l (l : List S52) (hl : l.length ≤ 1000) : ∀ (n i k : Nat), i + n = l.length → (∀ s ∈ l.take i, Right s) → n + 2 ≤ k → plan_sum.l0 k (sumLen (l.take i)) l l.length i = some (if ∀ s ∈ l, Right s then sumLen l else -1)
  | 0, i, k + 1, h, hj, hk => by
    rw [List.take_of_length_le (by omega)] at hj ⊢
    rw [if_pos hj]
    simp only [plan_sum.l0]
    rw [if_neg (by omega)]
  | n + 1, i, k + 1, h, hj, hk => by
    simp only [plan_sum.l0]
    obtain ⟨k', rfl⟩ : ∃ k', k = k' + 1 := ⟨k - 1, by omega⟩
    have e : rd_T52 l i = l[i]'(by omega) := by simp [rd_T52, show i < l.length by omega]
    rw [if_pos (by omega), if_pos (by omega), if_pos (by omega), e, plan_Right_eq, Option.bind_some]
    have ew : wrap64 ((i : Int) + 1) = ((i + 1 : Nat) : Int) := by unfold wrap64; omega
    rw [ew]
    by_cases hR : Right l[i]
    · rw [decide_eq_true hR, if_pos rfl]
      have hbd := sumLen_bound hj
      rw [List.length_take] at hbd
      have hst := sumLen_take (l := l) (k := i) (by omega)
      have ew2 : wrap64 (sumLen (l.take i) + l[i].f2) = sumLen (l.take i) + l[i].f2 := by unfold Right at hR; unfold wrap64; omega
      rw [ew2, ← hst]
      refine plan_sum_l l hl n (i + 1) _ (by omega) ?_ (by omega)
      rw [List.take_add_one, List.getElem?_eq_getElem (by omega)]
      intro s hs
      rcases List.mem_append.1 hs with h1 | h1
      · exact hj s h1
      · simp at h1; rw [h1]; exact hR
    · rw [decide_eq_false hR, if_neg (by simp), if_neg (fun hh => hR (hh _ (List.getElem_mem _)))]
  | 0, _, 0, _, _, hk => by omega
  | _ + 1, _, 0, _, _, hk => by omega

theorem plan_sum_eq (l : List S52) (hl : l.length ≤ 1000) : plan_sum.f 2000 l = some (if ∀ s ∈ l, Right s then sumLen l else -1) := by
  unfold plan_sum.f
  exact plan_sum_l l hl l.length 0 2000 (by omega) (by simp) (by omega)

/-- What a step makes. -/
def stepBytes (old : List Int) (s : S52) : List Int :=
  if s.f0 = 3 then List.zipWith (fun x y => (x + y) % 256) ((old.drop s.f1.toNat).take s.f2.toNat) s.f3 else (old.drop s.f1.toNat).take s.f2.toNat

/-- What steps make behind what is made; none: out of range. -/
def evalFold (old : List Int) : List S52 → List Int → Option (List Int)
  | [], acc => some acc
  | s :: r, acc => if s.f0 = 1 then evalFold old r (acc ++ s.f3) else if s.f1 + s.f2 > old.length then none else evalFold old r (acc ++ stepBytes old s)

def evalRes : Option (List Int) → List Int × Int
  | some out => (out, 0)
  | none => ([], 5)

/-- What a plan makes; the error's number. -/
def evalE (l : List S52) (old : List Int) (want : Int) : List Int × Int :=
  if ∀ s ∈ l, Right s then (if sumLen l = want then (evalRes (evalFold old l [])) else ([], 13)) else ([], 3)

/-- The first j of data put to bytes. -/
def addUpTo (bs data : List Int) (j : Nat) : List Int := (List.zipWith (fun x y => (x + y) % 256) bs data).take j ++ bs.drop j

theorem step_add (old : List Int) (s : S52) (hr : Right s) (h1 : s.f0 ≠ 1) (hl : ((old.drop s.f1.toNat).take s.f2.toNat).length = s.f2.toNat) : addUpTo ((old.drop s.f1.toNat).take s.f2.toNat) s.f3 s.f3.length = stepBytes old s := by
  unfold addUpTo stepBytes
  unfold Right at hr
  generalize (old.drop s.f1.toNat).take s.f2.toNat = bs at hl ⊢
  by_cases h3 : s.f0 = 3
  · rw [if_pos h3]
    have hd : (s.f3.length : Int) = s.f2 := by omega
    rw [List.take_of_length_le (by rw [List.length_zipWith]; omega), List.drop_of_length_le (by omega), List.append_nil]
  · rw [if_neg h3]
    have hd : s.f3.length = 0 := by omega
    rw [hd]
    simp

theorem addUpTo_length {bs d : List Int} {m : Nat} (h : m ≤ d.length) (hd : d.length ≤ bs.length) : (addUpTo bs d m).length = bs.length := by
  unfold addUpTo
  rw [List.length_append, List.length_take, List.length_zipWith, List.length_drop]
  omega

theorem addUpTo_get {bs d : List Int} {m : Nat} (h : m < d.length) (hd : d.length ≤ bs.length) : (addUpTo bs d m).getD m 0 = bs[m] := by
  unfold addUpTo
  rw [List.getD_eq_getElem?_getD, List.getElem?_append_right (by rw [List.length_take, List.length_zipWith]; omega), List.length_take, List.length_zipWith, show m - min m (min bs.length d.length) = 0 by omega, List.getElem?_drop, Nat.add_zero, List.getElem?_eq_getElem (by omega)]
  rfl

theorem addUpTo_set {bs d : List Int} {m : Nat} (h : m < d.length) (hd : d.length ≤ bs.length) : (addUpTo bs d m).set m ((bs[m] + d[m]) % 256) = addUpTo bs d (m + 1) := by
  unfold addUpTo
  rw [List.set_append_right _ _ (by rw [List.length_take, List.length_zipWith]; omega), List.length_take, List.length_zipWith, show m - min m (min bs.length d.length) = 0 by omega, List.drop_eq_getElem_cons (by omega : m < bs.length), List.set_cons_zero, List.take_add_one, List.getElem?_zipWith, List.getElem?_eq_getElem (by omega : m < bs.length), List.getElem?_eq_getElem h]
  simp

theorem u8wrap (x : Int) : IntKind.u8.wrap x = x % 256 := by simp [IntKind.wrap, IntKind.signed, IntKind.bits]

theorem byte_store {W : World} {base g n cap : Nat} {ok : Nat → Prop} {xs : List Int} (h : Kd.R (Kd.int .u8) 5 W base ok (.slice (some ⟨g, 0, none⟩) n cap) xs) (i : Nat) (hi : i < n) :
    W.cell? ⟨g, i, none⟩ = some (.int .u8 (xs.getD i 0)) ∧ W.frozen? ⟨g, i, none⟩ = false ∧ ∀ y, Kd.R (Kd.int .u8) 5 (W.setCell ⟨g, i, none⟩ (.int .u8 y)) base ok (.slice (some ⟨g, 0, none⟩) n cap) (xs.set i y) ∧ W.grownBy (W.setCell ⟨g, i, none⟩ (.int .u8 y)) (some g) := by
  obtain ⟨cc, hcl, hM, hcc, hfr⟩ := Kd.R_elem h 0 i (by omega) (by omega)
  have hM' : cc = [Value.int .u8 (xs.getD (i : Int).toNat 0)] := hM
  rw [Int.toNat_natCast] at hM'
  subst hM'
  have hc0 := hcc 0 _ rfl
  have hf0 := hfr 0
  have hsz : (Kd.int .u8).sz = 1 := rfl
  rw [hsz, Nat.mul_one, Nat.add_zero, Int.toNat_natCast] at hc0 hf0
  refine ⟨hc0, hf0, fun y => ?_⟩
  have hs := Kd.R_putg h i y
  rw [Int.toNat_natCast] at hs
  exact hs

theorem nums_at8 {w : World} {A : Option Addr} {l : List Int} (h : Kd.C (Kd.int .u8) w A l.length l) (i : Nat) (hi : i < l.length) : ∃ ad, A = some ad ∧ w.cell? (ad.add i) = some (.int .u8 l[i]) := by
  obtain ⟨ad, e, hc⟩ := Kd.at_int h i (by omega) (by omega)
  refine ⟨ad, e, ?_⟩
  rw [Int.toNat_natCast] at hc
  have e2 : rd l i = l[i] := by simp [rd, hi]
  rw [e2] at hc
  exact hc

set_option maxHeartbeats 8000000 in
set_option maxRecDepth 100000 in
theorem eval_calls (G c cl : Nat) (Al : Option Addr) (old : List Int) (l : List S52) (want : Int) (w : World) (hC : Kd.C (Kd.int .u8) w (some ⟨G, 0, none⟩) old.length old) (hlc : old.length ≤ c) (hl : old.length ≤ 100000) (hr0 : Kd.C k52 w Al l.length l) (hll : l.length ≤ 1000) (hw : 0 ≤ want) (hcl : l.length ≤ cl) :
    Calls Try.prog 36 #[.slice Al l.length cl, .iface 69 (.slice (some ⟨G, 0, none⟩) old.length c), .int .i64 want] w fun e w' => ∃ v, e = .returned (.tuple #[v, .int .i64 (evalE l old want).2]) ∧ Kd.R (Kd.int .u8) 5 w' w.heap.size (fun _ => True) v (evalE l old want).1 ∧ Below w.heap.size w w' := by
  have hu52 := Try.underlying52
  obtain ⟨r, hre⟩ : ∃ r, evalE l old want = r := ⟨_, rfl⟩
  rw [hre]
  have hsum := plan_sum_eq l hll
  by_cases hR : ∀ s ∈ l, Right s
  case neg =>
    rw [if_neg hR] at hsum
    have hr : r = ([], 3) := by rw [← hre]; unfold evalE; rw [if_neg hR]
    have HS := Aside0.mk hsum
    subst hr
    clear hsum hR hre
    go_enter Try.func36, Try.ntmps36
    go_wp2_with (go_at_call 53; refine (plan_sum.calls 2000 _ cl _ _ _ hr0 hcl HS.out).mono ?_; rintro e w1 ⟨rfl, hb⟩)
    go_ret2
    exact ⟨_, rfl, Kd.R_nil _ _ _ _ _, hb⟩
  case pos =>
  rw [if_pos hR] at hsum
  have hbd := sumLen_bound hR
  by_cases hsw : sumLen l = want
  case neg =>
    have hr : r = ([], 13) := by rw [← hre]; unfold evalE; rw [if_pos hR, if_neg hsw]
    subst hr
    have hswb : (sumLen l != want) = true := bne_iff_ne.2 hsw
    have hneg : ¬ sumLen l < 0 := by omega
    have HS := Aside0.mk hsum
    clear hsum hR hre hsw
    obtain ⟨n0, hn0⟩ : ∃ n0, sumLen l = n0 := ⟨_, rfl⟩
    rw [hn0] at hbd hswb hneg HS
    clear hn0
    go_enter Try.func36, Try.ntmps36
    go_wp2_with (go_at_call 53; refine (plan_sum.calls 2000 _ cl _ _ _ hr0 hcl HS.out).mono ?_; rintro e w1 ⟨rfl, hb⟩)
    go_ret2
    exact ⟨_, rfl, Kd.R_nil _ _ _ _ _, hb⟩
  case pos =>
  rw [hsw] at hsum
  have HS := Aside0.mk hsum
  have hr : r = evalRes (evalFold old l []) := by rw [← hre]; unfold evalE; rw [if_pos hR, if_pos hsw]
  have HE0 := Aside0.mk hr
  have HR := Aside0.mk hR
  have HC := Aside0.mk hC
  clear hsum hre hr hR hsw hC hbd
  go_enter Try.func36, Try.ntmps36
  go_wp2_with (go_at_call 53; refine (plan_sum.calls 2000 _ cl _ _ _ hr0 hcl HS.out).mono ?_; rintro e w1 ⟨rfl, hb⟩)
  have HB0 := Aside0.mk hb
  have HE := HE0
  clear hb HS HE0
  go_loopw [9, 26] (fun v i wr => ∃ (k : Nat) (acc : List Int), k ≤ l.length ∧ i = .int .i64 k ∧ acc.length ≤ 5000 * k ∧ Aside0 (Kd.R (Kd.int .u8) 5 wr w.heap.size (fun _ => True) v acc) ∧ Aside0 (r = evalRes (evalFold old (l.drop k) acc)) ∧ Aside0 (Below w.heap.size w wr))
    (fun _ i _ => l.length - (intOf i).toNat)
  case atStart => exact ⟨0, [], Nat.zero_le _, rfl, by simp, ⟨Kd.R_nil _ _ _ _ _⟩, ⟨by rw [HE.out]; rfl⟩, HB0⟩
  case round =>
    clear HB0 HE
    obtain ⟨k, acc, hk, rfl, hacc, HO, HE, HB⟩ := hrel
    by_cases hlt : k < l.length
    · obtain ⟨ad, A3, c3, rfl, hx0, hx1, hx2, hx3, hl3, hi3⟩ := step_at hr0 HB.out hlt
      have hRT := Aside0.mk (HR.out _ (List.getElem_mem hlt))
      have HE2 := HE.out
      rw [List.drop_eq_getElem_cons hlt] at HE2
      obtain ⟨s, hs⟩ : ∃ s, l[k] = s := ⟨_, rfl⟩
      rw [hs] at hx0 hx1 hx2 hx3 hl3 hi3 hRT HE2
      unfold evalFold at HE2
      have h3 : s.f3.length ≤ 4096 := by have := hRT.out; unfold Right at this; omega
      have HIB := Aside0.mk (reads_box HB.out (.cells #[.int .u8 s.f0, .int .i64 s.f1, .int .i64 s.f2, .slice A3 s.f3.length c3] 52))
      clear HE hs
      by_cases hk1 : s.f0 = 1
      · have hk1b : (s.f0 == 1) = true := by rw [hk1]; rfl
        rw [if_pos hk1] at HE2
        have HE3 := Aside0.mk HE2
        clear HE2 hk1
        go_wp2_with (at_builtin; refine Kd.R_append_rows (Kd.int .u8) (w0 := w) w.heap.size rfl (.tmp 33) (.tmp 35) 39 5 (.int .u8 0) 1 rfl Try.underlying39 info5 rfl (by decide) (by omega) _ acc s.f3 A3 s.f3.length c3 (fun _ => True) (fun _ => False) rfl rfl (Kd.R_alloc HO.out _) (Kd.C_below hi3 HIB.out) (fun _ _ h => h) (fun _ h => h.elim) (fun _ _ => trivial) HIB.out HIB.out.size (by omega) ?_; intro v1 w1 hr1 hb1 hg1 hat1)
        exact ⟨⟨k + 1, acc ++ s.f3, by omega, by simp, by rw [List.length_append]; omega, ⟨hr1⟩, HE3, ⟨hb1⟩⟩, by simp [intOf]; omega⟩
      · have hk1b : (s.f0 == 1) = false := by simpa using hk1
        rw [if_neg hk1] at HE2
        have hask := ask_calls G c old s _ (Kd.C_below HC.out HIB.out) hlc hl hRT.out
        by_cases hoor : s.f1 + s.f2 > old.length
        · rw [if_pos hoor] at HE2
          have ea : askE old s = ([], 5) := by unfold askE; rw [if_pos hoor]
          rw [ea] at hask
          have HE3 : r = ([], 5) := HE2
          subst HE3
          clear HE2 hk1 ea hoor
          go_wp2_with (go_at_call 54; refine hask.mono ?_; rintro e w2 ⟨vb, rfl, hrb, hw2⟩)
          go_ret2
          exact ⟨_, rfl, Kd.R_nil _ _ _ _ _, HIB.out.trans (hw2.mono HIB.out.size)⟩
        · rw [if_neg hoor] at HE2
          have ea : askE old s = ((old.drop s.f1.toNat).take s.f2.toNat, 0) := by unfold askE; rw [if_neg hoor]
          rw [ea] at hask
          have hbl : ((old.drop s.f1.toNat).take s.f2.toNat).length = s.f2.toNat := by
            have := hRT.out
            unfold Right at this
            rw [List.length_take, List.length_drop]
            omega
          have hsb := step_add old s hRT.out hk1 hbl
          obtain ⟨bs, hbs⟩ : ∃ bs, (old.drop s.f1.toNat).take s.f2.toNat = bs := ⟨_, rfl⟩
          rw [hbs] at hask hbl hsb
          rw [← hsb] at HE2
          have HE3 := Aside0.mk HE2
          have hkd : s.f3.length = 0 ∨ (s.f3.length : Int) = s.f2 := by have := hRT.out; unfold Right at this; omega
          have hf2 : 1 ≤ s.f2 ∧ s.f2 ≤ 4096 := by have := hRT.out; unfold Right at this; omega
          have HLN : Aside0 (s.f3.length ≤ bs.length ∧ 0 < bs.length ∧ bs.length ≤ 4096 ∧ (s.f3.length = 0 ∨ s.f3.length = bs.length)) := ⟨by omega⟩
          clear HE2 hk1 ea hoor hsb hbs hbl hkd hf2
          go_wp2_with (go_at_call 54; refine hask.mono ?_; rintro e w2 ⟨vb, rfl, hrb, hw2⟩; obtain ⟨gb, cb, rfl, hgb1, hgb2, -⟩ := Kd.R_form hrb HLN.out.2.1; obtain ⟨BK, GE⟩ := box_after hw2; have hc3 := (blk_cell BK.out 3).trans rfl; clear hx0 hx1 hx2 hx3)
          have hgb : wr.heap.size < gb := by simp at hgb1; omega
          have HI0 := Aside0.mk (Kd.R_old HO.out GE.out)
          have HW2 := Aside0.mk (HIB.out.trans (hw2.mono HIB.out.size))
          have HRB : Aside0 (Kd.R (Kd.int .u8) 5 w2 (wr.heap.size + 1) (fun _ => True) (.slice (some ⟨gb, 0, none⟩) bs.length cb) (addUpTo bs s.f3 0)) := ⟨by
            have e : addUpTo bs s.f3 0 = bs := by simp [addUpTo]
            rw [e]
            have := hrb
            simpa using this⟩
          obtain ⟨gx, hgx⟩ : ∃ gx, wr.heap.size = gx := ⟨_, rfl⟩
          have hwx : w.heap.size ≤ gx := by rw [← hgx]; exact HB.out.size
          rw [hgx] at BK hgb HI0 HRB ⊢
          clear hc3 hgb1 hgb2 hw2 hrb GE hask
          go_loopw [52] (fun j wi => ∃ m : Nat, m ≤ s.f3.length ∧ j = .int .i64 m ∧ Aside0 (Kd.R (Kd.int .u8) 5 wi (gx + 1) (fun _ => True) (.slice (some ⟨gb, 0, none⟩) bs.length cb) (addUpTo bs s.f3 m)) ∧
              Aside0 (Kd.R (Kd.int .u8) 5 wi w.heap.size (fun k => True ∧ k < gx) u9 acc) ∧ Aside0 (wi.heap[gx]? = some (.cells #[.int .u8 s.f0, .int .i64 s.f1, .int .i64 s.f2, .slice A3 s.f3.length c3] 52 (0, 0))) ∧ Aside0 (Below w.heap.size w wi))
            (fun j _ => s.f3.length - (intOf j).toNat)
          case atStart => exact ⟨0, Nat.zero_le _, rfl, HRB, HI0, BK, HW2⟩
          case round =>
            clear HRB HI0 BK HW2
            obtain ⟨m, hm, rfl, HRB, HI, BK, HW⟩ := hrel
            have hc3 := (blk_cell BK.out 3).trans rfl
            by_cases hml : m < s.f3.length
            · have hmb : m < bs.length := by have := HLN.out; omega
              obtain ⟨ad3, rfl, hd⟩ := nums_at8 hi3 m hml
              replace hd := (HW.out.cell (World.block_lt_of_cell? w _ hd)).trans hd
              obtain ⟨hcb, hfb, hst⟩ := byte_store HRB.out m hmb
              rw [addUpTo_get hml HLN.out.1] at hcb
              have HS1 := Aside0.mk (addUpTo_set (bs := bs) hml HLN.out.1)
              have HST := Aside0.mk hst
              clear hst
              obtain ⟨x, hx⟩ : ∃ x, bs[m] = x := ⟨_, rfl⟩
              obtain ⟨y, hy⟩ : ∃ y, s.f3[m] = y := ⟨_, rfl⟩
              rw [hx] at hcb HS1
              rw [hy] at hd HS1
              clear hx hy
              go_wp2
              go_region_with (fail)
              all_goals
                have hH := HST.out (IntKind.u8.wrap (x + y))
                rw [show (addUpTo bs s.f3 m).set m (IntKind.u8.wrap (x + y)) = addUpTo bs s.f3 (m + 1) by rw [u8wrap]; exact HS1.out] at hH
                have HH := Aside0.mk hH
                clear hH hcb hfb hd hc3
                go_wp2
                exact ⟨⟨m + 1, by omega, by simp, ⟨Kd.R_drew HH.out.1⟩, ⟨Kd.R_drew (Kd.R_far (p := ⟨gb, m, none⟩) HI.out (fun k hk => by show k ≠ gb; omega) _)⟩, ⟨blk_drew (blk_grown BK.out HH.out.2 (fun e => by injection e with e; omega))⟩, ⟨below_drew (HW.out.grown HH.out.2 HW.out.size (fun k e => by cases e; omega))⟩⟩, by simp [intOf]; omega⟩
            · obtain rfl : m = s.f3.length := by omega
              obtain ⟨Ab, cb2, eb, hle2, hCb⟩ := Kd.R_reads HRB.out
              rw [addUpTo_length (Nat.le_refl _) HLN.out.1] at eb hle2 hCb
              injection eb with eb1 eb2 eb3
              subst eb1 eb3
              have HCb := Aside0.mk hCb
              clear hCb eb2 hle2
              go_wp2_with (at_builtin; refine Kd.R_append_rows (Kd.int .u8) (w0 := w) w.heap.size rfl (.tmp 67) (.tmp 68) 39 5 (.int .u8 0) 1 rfl Try.underlying39 info5 rfl (by decide) (by omega) _ acc (addUpTo bs s.f3 s.f3.length) (some ⟨gb, 0, none⟩) bs.length cb (fun _ => True) (fun _ => False) rfl rfl (Kd.R_mono HI.out (fun _ _ => trivial)) HCb.out (fun _ _ h => h) (fun _ h => h.elim) (fun _ _ => trivial) HW.out HW.out.size (by have := HLN.out; omega) ?_; intro v1 w1 hr1 hb1 hg1 hat1)
              exact ⟨⟨k + 1, acc ++ addUpTo bs s.f3 s.f3.length, by omega, by simp, by rw [List.length_append, addUpTo_length (Nat.le_refl _) HLN.out.1]; have := HLN.out; omega, ⟨hr1⟩, HE3, ⟨hb1⟩⟩, by simp [intOf]; omega⟩
    · obtain rfl : k = l.length := by omega
      have HE2 := HE.out
      rw [List.drop_of_length_le (Nat.le_refl _)] at HE2
      have HE3 : r = (acc, 0) := HE2
      subst HE3
      clear HE2 HE
      go_wp2
      go_ret2
      exact ⟨_, rfl, HO.out, HB.out⟩
end Go.Proofs.Ytbpdpgigpooacaa.PD
