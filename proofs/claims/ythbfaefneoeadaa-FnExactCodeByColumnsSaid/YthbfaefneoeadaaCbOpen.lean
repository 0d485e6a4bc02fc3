/- Arguments of struct type, opened: the value written out, each slice with its list, each number within its kind. No condition. -/
import Derived.Test.YthbfaefneoeadaaRows
import Derived.Test.YthbfaefneoeadaaCbWWords
import Derived.WalkKit
import Derived.ProofKit
import Derived.OpenShut
import Derived.ChangeOld
import Derived.Below
import Derived.SizedLaws
import Derived.Lib.SmallJoins
namespace Go.Proofs.Ythbfaefneoeadaa.Open
open Go Go.ChangeShapes Go.WideShapes Go.ChangeAt Go.RowKit Go.Joins Go.Proofs.YthbfaefneoeadaaW.PrintWords
set_option linter.unusedVariables false
set_option linter.unusedSimpArgs false
theorem array1 {α : Type} {cs : Array α} (h : cs.size = 1) : ∃ c0, cs = #[c0] := by
  obtain ⟨l⟩ := cs
  match l, h with
  | [c0], _ => exact ⟨c0, rfl⟩
theorem array7 {α : Type} {cs : Array α} (h : cs.size = 7) : ∃ b0 b1 b2 b3 b4 b5 b6, cs = #[b0, b1, b2, b3, b4, b5, b6] := by
  obtain ⟨l⟩ := cs
  match l, h with
  | [b0, b1, b2, b3, b4, b5, b6], _ => exact ⟨b0, b1, b2, b3, b4, b5, b6, rfl⟩
variable {H : Type} {enc : TypeId × Value → H} {W : World} {n : Nat} {cs : List Value} {y : DataW H × List MemPlace}
theorem int_at (h : DataW.trod enc Try.prog W 0 (fun _ => true) true n 2 cs = some y) : ∃ a : Int, cs = [.int .i64 a] ∧ (Lit.int .i64 a).wf = true := by
  obtain ⟨a, e, _, w⟩ := DataW.trod_int Try.underlying2 h
  exact ⟨a, e, w⟩
theorem slice_at (h : DataW.trod enc Try.prog W 0 (fun _ => true) true n 22 cs = some y) : ∃ (a : Option Addr) (c : Nat) (l : List Int), cs = [.slice a l.length c] ∧ Kd.C (Kd.int .i64) W a l.length l ∧ l.length ≤ c ∧ l.length ≤ maxLen ∧ ∀ x ∈ l, (Lit.int .i64 x).wf = true := by
  obtain ⟨a, len, cap, rfl⟩ := slice_form Try.underlying22 h
  have key : ∃ zs : List Int, (a = none ∧ len = 0 ∧ cap = 0 ∧ zs = []) ∨ ∃ x, a = some x ∧ len ≤ cap ∧ cap ≤ maxLen ∧ zs.length = cap ∧ (∀ i, i < zs.length → W.cell? (x.add i) = some (.int .i64 (zs.getD i 0))) ∧ ∀ n ∈ zs, (Lit.int .i64 n).wf = true := by
    rcases open_ints Try.underlying22 Try.underlying2 (by kernel_rfl) h with ⟨hcs, _⟩ | ⟨x, l, c, zs, hcs, _, hl, hm, hz, _, hcell, hwz⟩
    · simp at hcs
      exact ⟨[], .inl ⟨hcs.1, hcs.2.1, hcs.2.2, rfl⟩⟩
    · simp at hcs
      obtain ⟨rfl, rfl, rfl⟩ := hcs
      exact ⟨zs, .inr ⟨_, rfl, hl, hm, by simpa using hz, hcell, hwz⟩⟩
  obtain ⟨zs, hz⟩ := key
  obtain ⟨l, rfl, hr, hm, hw, hc⟩ := ReadsInt.ofRowC hz
  exact ⟨a, cap, l, rfl, Kd.C_of_reads (d := (0 : Int)) (h1 := fun _ => rfl) hr, hc, hm, hw⟩
theorem cellsSL : Try.prog.cellsOf 22 = 1 := by kernel_rfl
theorem cellsSP : Try.prog.cellsOf 24 = 1 := by kernel_rfl
theorem space_at {c0 : Value} (h : DataW.trod enc Try.prog W 0 (fun _ => true) true n 24 [c0] = some y) : ∃ (a : Option Addr) (c : Nat) (l : List Int), c0 = .slice a l.length c ∧ Kd.C (Kd.int .i64) W a l.length l ∧ l.length ≤ c ∧ l.length ≤ maxLen ∧ ∀ x ∈ l, (Lit.int .i64 x).wf = true := by
  obtain ⟨y0, m, _, _, h0⟩ := trod_struct1 Try.underlying24 h
  simp [cellsSL] at h0
  obtain ⟨a, c, l, e, r⟩ := slice_at h0
  simp at e
  exact ⟨a, c, l, e, r⟩
set_option maxRecDepth 100000 in
theorem open_space {r : Reach} {b0 : Nat} {v : Value} {d : DataW H} {p : List MemPlace} (hv : Value.okWide Try.prog W r b0 24 v) (h : DataW.Trod enc Try.prog W 0 (fun _ => true) true 24 v d p) : ∃ (a : Option Addr) (c : Nat) (l : List Int), v = .agg #[.slice a l.length c] ∧ Kd.C (Kd.int .i64) W a l.length l ∧ l.length ≤ c ∧ l.length ≤ maxLen ∧ ∀ x ∈ l, (Lit.int .i64 x).wf = true := by
  obtain ⟨cs, rfl, hsz⟩ := okWide_struct Try.underlying24 hv
  rw [cellsSP] at hsz
  obtain ⟨c0, rfl⟩ := array1 hsz
  obtain ⟨fuel, hf⟩ := h
  obtain ⟨a, c, l, rfl, r⟩ := space_at (by simpa [Value.cells] using hf)
  exact ⟨a, c, l, rfl, r⟩
theorem cellsSL2 : Try.prog.cellsOf 22 = 1 := by kernel_rfl
theorem list_of (Q : Nat → List Int → Prop) : ∀ m : Nat, (∀ i, i < m → ∃ r, Q i r) → ∃ l : List (List Int), l.length = m ∧ ∀ i (h : i < l.length), Q i l[i]
  | 0, _ => ⟨[], rfl, fun i h => absurd h (Nat.not_lt_zero _)⟩
  | m + 1, h => by
    obtain ⟨l, hl, hQ⟩ := list_of Q m (fun i hi => h i (Nat.lt_succ_of_lt hi))
    obtain ⟨r, hr⟩ := h m (Nat.lt_succ_self m)
    refine ⟨l ++ [r], by simp [hl], fun i hi => ?_⟩
    by_cases hil : i < l.length
    · rw [List.getElem_append_left hil]; exact hQ i hil
    · have : i = m := by simp at hi; omega
      subst this
      rw [List.getElem_append_right (by omega)]
      simpa [hl] using hr
theorem rows_at (h : DataW.trod enc Try.prog W 0 (fun _ => true) true n 25 cs = some y) : ∃ (a : Option Addr) (c : Nat) (l : List (List Int)), cs = [.slice a l.length c] ∧ Kd.C (Kd.slice 2 (Kd.int .i64)) W a l.length l ∧ l.length ≤ c ∧ l.length ≤ maxLen ∧ ∀ r ∈ l, r.length ≤ maxLen ∧ ∀ x ∈ r, (Lit.int .i64 x).wf = true := by
  rcases DataW.trod_slice Try.underlying25 h with ⟨hcs, _⟩ | ⟨a, len, cap, elems, rest, m, _, hcs, _, _, hl, hm, hlen, hel, _⟩
  · exact ⟨none, 0, [], hcs, ⟨rfl, by simp, fun h0 => absurd h0 (Nat.lt_irrefl _)⟩, Nat.le_refl _, Nat.zero_le _, fun r hr => by simp at hr⟩
  · obtain ⟨l, hll, hQ⟩ := list_of (fun i r => ∃ (b : Option Addr) (c : Nat), W.cell? (a.add i) = some (.slice b r.length c) ∧ Kd.C (Kd.int .i64) W b r.length r ∧ r.length ≤ c ∧ r.length ≤ maxLen ∧ ∀ x ∈ r, (Lit.int .i64 x).wf = true) len (fun i hi => by
      have hE := hel i hi
      rw [cellsSL2, Nat.mul_one] at hE
      have hle : i < elems.length := by rw [hlen]; exact hi
      rw [List.getElem?_eq_getElem hle] at hE
      obtain ⟨cs', h1, h2⟩ := Option.bind_eq_some_iff.1 hE
      obtain ⟨b, c, r, e, hC, hc, hmx, hw⟩ := slice_at h2
      subst e
      exact ⟨r, b, c, cell_of_cells?_one h1, hC, hc, hmx, hw⟩)
    refine ⟨some a, cap, l, by rw [hll]; exact hcs, ⟨rfl, by rw [hll]; unfold maxLen at hm; omega, fun _ => ⟨a, rfl, fun j p hj => ?_⟩⟩, by omega, by omega, fun r hr => ?_⟩
    · obtain ⟨hjl, rfl⟩ := List.getElem?_eq_some_iff.1 hj
      obtain ⟨b, c, hx, hC, hc, _⟩ := hQ j hjl
      refine ⟨[.slice b l[j].length c], rfl, ⟨b, c, rfl, hc, hC⟩, fun i u hu => ?_⟩
      cases i with
      | zero =>
        have : Value.slice b l[j].length c = u := by simpa using hu
        subst this
        have e : a.add (j * 1 + 0) = a.add j := by rw [Nat.mul_one, Nat.add_zero]
        exact (congrArg W.cell? e).trans hx
      | succ i => simp at hu
    · obtain ⟨j, hjl, rfl⟩ := List.mem_iff_getElem.1 hr
      obtain ⟨b, c, _, _, _, hmx, hw⟩ := hQ j hjl
      exact ⟨hmx, hw⟩
set_option maxRecDepth 100000 in
theorem open_rows {r : Reach} {b0 : Nat} {v : Value} {d : DataW H} {p : List MemPlace} (hv : Value.okWide Try.prog W r b0 25 v) (h : DataW.Trod enc Try.prog W 0 (fun _ => true) true 25 v d p) : ∃ (a : Option Addr) (c : Nat) (l : List (List Int)), v = .slice a l.length c ∧ Kd.C (Kd.slice 2 (Kd.int .i64)) W a l.length l ∧ l.length ≤ c ∧ l.length ≤ maxLen ∧ ∀ r ∈ l, r.length ≤ maxLen ∧ ∀ x ∈ r, (Lit.int .i64 x).wf = true := by
  obtain ⟨a0, n0, c0, rfl⟩ := okWide_slice Try.underlying25 hv
  obtain ⟨fuel, hf⟩ := h
  obtain ⟨a, c, l, e, r⟩ := rows_at (by simpa [Value.cells] using hf)
  simp at e
  obtain ⟨rfl, rfl, rfl⟩ := e
  exact ⟨_, _, l, rfl, r⟩
end Go.Proofs.Ythbfaefneoeadaa.Open
