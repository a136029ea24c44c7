/-
  What comes in at a law's call, told in the print's words: rows of plans, of numbers.
-/
import Derived.Test.YtbpdpgigpooacaaPDx0
import Derived.Deep.Slices
import Derived.Lib.SmallJoins
import Derived.ChangeSlices
namespace Go.Proofs.Ytbpdpgigpooacaa.PD
open Go.RowKit Go.Proofs.YtbpdpgigpooacaaW.PrintWords Go.WideShapes Go.ChangeShapes Go.Deep Go.Joins

section
variable {H : Type} {enc : TypeId × Value → H} {w : World} {base : Nat} {spare : Nat → Bool} {held : Bool}

/-- What reads at type t is of the kind d. -/
def Opens {α : Type} (enc : TypeId × Value → H) (w : World) (base : Nat) (spare : Nat → Bool) (held : Bool) (d : Kd α) (t : TypeId) : Prop :=
  ∀ (fuel : Nat) (cs : List Value) (x : DataW H × List MemPlace), DataW.trod enc Try.prog w base spare held fuel t cs = some x → ∃ a, d.K w a cs

theorem opens_int {t : TypeId} {k : IntKind} (ht : Try.prog.underlying t = some (.int k)) : Opens enc w base spare held (Kd.int k) t := fun fuel cs x h => by
  obtain ⟨n, rfl, -⟩ := DataW.trod_int ht h
  exact ⟨n, rfl⟩

theorem opens_slice {α : Type} {d : Kd α} {t e : TypeId} {e' : Nat} (ht : Try.prog.underlying t = some (.slice e)) (hc : Try.prog.cellsOf e = d.sz) (ho : Opens enc w base spare held d e) : Opens enc w base spare held (Kd.slice e' d) t := fun fuel cs x h => by
  rcases open_slice ht h with ⟨rfl, _⟩ | ⟨a, len, cap, m, n, D, Pl, rfl, hb, hl, hm, hmm, rfl, hx⟩
  · exact ⟨[], none, 0, rfl, Nat.le_refl _, rfl, by simp, fun h => absurd h (by simp)⟩
  · have hlm : len ≤ m := by rw [hmm]; split <;> omega
    rw [hc] at hx
    by_cases h0 : len = 0
    · subst h0
      exact ⟨[], some a, cap, rfl, by simp, rfl, by simp, fun h => absurd h (by simp)⟩
    · have hx' : ∀ i, i < len → ∃ z : α, ∃ cs', w.cells? base (a.add (i * d.sz)) d.sz = some cs' ∧ d.K w z cs' := fun i hi => by
        obtain ⟨cs', h1, h2⟩ := hx i (by omega)
        obtain ⟨z, hz⟩ := ho _ _ _ h2
        exact ⟨z, cs', h1, hz⟩
      obtain ⟨z0, _⟩ := hx' 0 (by omega)
      haveI : Inhabited α := ⟨z0⟩
      obtain ⟨f, hf⟩ := choose_lt hx'
      refine ⟨(List.range len).map f, some a, cap, by simp, by simpa using hl, by simp, ?_, fun _ => ⟨a, rfl, fun j p hj => ?_⟩⟩
      · have : cap ≤ 9223372036854775807 := by simpa [maxLen] using hm
        simp
        omega
      · rw [List.getElem?_map] at hj
        by_cases hjl : j < len
        · rw [List.getElem?_range hjl] at hj
          injection hj with hj
          subst hj
          obtain ⟨cs', h1, h2⟩ := hf j hjl
          obtain ⟨_, hlen, hcell⟩ := World.cells?_some h1
          refine ⟨cs', hlen, h2, fun i u hu => ?_⟩
          have hi : i < d.sz := by rw [← hlen]; exact (List.getElem?_eq_some_iff.1 hu).1
          rw [← Deep.add_add, hcell i hi]
          exact hu
        · rw [List.getElem?_eq_none (by simpa using hjl)] at hj
          cases hj

theorem cells5 : Try.prog.cellsOf 5 = 1 := by kernel_rfl
theorem cells3 : Try.prog.cellsOf 3 = 1 := by kernel_rfl
theorem cells39 : Try.prog.cellsOf 39 = 1 := by kernel_rfl
theorem cells47 : Try.prog.cellsOf 47 = 1 := by kernel_rfl
theorem cells52 : Try.prog.cellsOf 52 = 4 := by kernel_rfl

theorem opens39 : Opens enc w base spare held (Kd.slice 5 (Kd.int .u8)) 39 := opens_slice Try.underlying39 cells5 (opens_int Try.underlying5)

theorem list4 {α : Type} {cs : List α} (h : cs.length = 4) : ∃ c0 c1 c2 c3, cs = [c0, c1, c2, c3] := by
  match cs, h with
  | [c0, c1, c2, c3], _ => exact ⟨c0, c1, c2, c3, rfl⟩

theorem opens52 : Opens enc w base spare held k52 52 := fun fuel cs x h => by
  obtain ⟨y0, y1, y2, y3, n, rfl, hl, h0, h1, h2, h3⟩ := trod_struct4 Try.underlying52 h
  rw [cells52] at hl
  obtain ⟨c0, c1, c2, c3, rfl⟩ := list4 hl
  · clear hl
    simp only [cells5, cells3, cells39, List.drop_zero, List.drop_succ_cons, List.take_succ_cons, List.take_zero] at h0 h1 h2 h3
    obtain ⟨a0, e0⟩ := opens_int Try.underlying5 _ _ _ h0
    obtain ⟨a1, e1⟩ := opens_int Try.underlying3 _ _ _ h1
    obtain ⟨a2, e2⟩ := opens_int Try.underlying3 _ _ _ h2
    obtain ⟨a3, A3, cc3, e3, l3, g3⟩ := opens39 _ _ _ h3
    have e0' : [c0] = [Value.int .u8 a0] := e0
    have e1' : [c1] = [Value.int .i64 a1] := e1
    have e2' : [c2] = [Value.int .i64 a2] := e2
    have e3' : [c3] = [Value.slice A3 a3.length cc3] := e3
    injection e0' with e0'
    injection e1' with e1'
    injection e2' with e2'
    injection e3' with e3'
    subst e0' e1' e2' e3'
    exact ⟨⟨a0, a1, a2, a3⟩, k52_mk w ⟨a0, a1, a2, a3⟩ l3 g3⟩

theorem opens47 : Opens enc w base spare held (Kd.slice 52 k52) 47 := opens_slice Try.underlying47 cells52 opens52
theorem opens22 : Opens enc w base spare held (Kd.slice 47 (Kd.slice 52 k52)) 22 := opens_slice Try.underlying22 cells47 opens47
theorem opens35 : Opens enc w base spare held (Kd.slice 3 (Kd.int .i64)) 35 := opens_slice Try.underlying35 cells3 (opens_int Try.underlying3)

/-- Plans that came in. -/
theorem open_plans {a : Option Addr} {len cap : Nat} {dd : DataW H} {p : List MemPlace} (h : DataW.Trod enc Try.prog w base spare held 22 (.slice a len cap) dd p) : ∃ l : List (List S52), l.length = len ∧ len ≤ cap ∧ Kd.C (Kd.slice 52 k52) w a l.length l := by
  obtain ⟨fuel, hf⟩ := h
  obtain ⟨l, A, c, e, hl, hC⟩ := opens22 _ _ _ hf
  have e' : [Value.slice a len cap] = [Value.slice A l.length c] := e
  injection e' with e'
  injection e' with ha hn hc
  subst ha hn hc
  exact ⟨l, rfl, hl, hC⟩

/-- Numbers that came in. -/
theorem open_nums {t e : TypeId} {k : IntKind} {a : Option Addr} {len cap : Nat} {dd : DataW H} {p : List MemPlace} (ht : Try.prog.underlying t = some (.slice e)) (he : Try.prog.underlying e = some (.int k)) (hc : Try.prog.cellsOf e = 1) (h : DataW.Trod enc Try.prog w base spare held t (.slice a len cap) dd p) :
    ∃ l : List Int, l.length = len ∧ len ≤ cap ∧ Kd.C (Kd.int k) w a l.length l := by
  obtain ⟨fuel, hf⟩ := h
  obtain ⟨l, A, c, e', hl, hC⟩ := opens_slice (e' := 0) (d := Kd.int k) ht hc (opens_int he) _ _ _ hf
  have e'' : [Value.slice a len cap] = [Value.slice A l.length c] := e'
  injection e'' with e''
  injection e'' with ha hn hc
  subst ha hn hc
  exact ⟨l, rfl, hl, hC⟩
end
end Go.Proofs.Ytbpdpgigpooacaa.PD
