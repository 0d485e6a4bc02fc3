/- Arguments of struct type, opened: the value written out, each slice with its list, each number within its kind. No condition. -/
import Derived.Test.YthbfaefneoeadaaRows
import Derived.Test.YthbfaefneoeadaaWWords
import Derived.WalkKit
import Derived.ProofKit
import Derived.OpenShut
import Derived.ChangeOld
import Derived.Below
import Derived.SizedLaws
import Derived.Lib.SmallJoins
namespace Go.Proofs.Ythbfaefneoeadaa.Open
open Go Go.ChangeShapes Go.WideShapes Go.ChangeAt Go.RowKit Go.Joins Go.Proofs.YthbfaefneoeadaaW.PrintWords
set_option linter.unusedVariables false
set_option linter.unusedSimpArgs false
theorem array1 {α : Type} {cs : Array α} (h : cs.size = 1) : ∃ c0, cs = #[c0] := by
  obtain ⟨l⟩ := cs
  match l, h with
  | [c0], _ => exact ⟨c0, rfl⟩
theorem array7 {α : Type} {cs : Array α} (h : cs.size = 7) : ∃ b0 b1 b2 b3 b4 b5 b6, cs = #[b0, b1, b2, b3, b4, b5, b6] := by
  obtain ⟨l⟩ := cs
  match l, h with
  | [b0, b1, b2, b3, b4, b5, b6], _ => exact ⟨b0, b1, b2, b3, b4, b5, b6, rfl⟩
variable {H : Type} {enc : TypeId × Value → H} {W : World} {n : Nat} {cs : List Value} {y : DataW H × List MemPlace}
theorem int_at (h : DataW.trod enc Try.prog W 0 (fun _ => true) true n 2 cs = some y) : ∃ a : Int, cs = [.int .i64 a] ∧ (Lit.int .i64 a).wf = true := by
  obtain ⟨a, e, _, w⟩ := DataW.trod_int Try.underlying2 h
  exact ⟨a, e, w⟩
theorem slice_at (h : DataW.trod enc Try.prog W 0 (fun _ => true) true n 22 cs = some y) : ∃ (a : Option Addr) (c : Nat) (l : List Int), cs = [.slice a l.length c] ∧ Kd.C (Kd.int .i64) W a l.length l ∧ l.length ≤ c ∧ l.length ≤ maxLen ∧ ∀ x ∈ l, (Lit.int .i64 x).wf = true := by
  obtain ⟨a, len, cap, rfl⟩ := slice_form Try.underlying22 h
  have key : ∃ zs : List Int, (a = none ∧ len = 0 ∧ cap = 0 ∧ zs = []) ∨ ∃ x, a = some x ∧ len ≤ cap ∧ cap ≤ maxLen ∧ zs.length = cap ∧ (∀ i, i < zs.length → W.cell? (x.add i) = some (.int .i64 (zs.getD i 0))) ∧ ∀ n ∈ zs, (Lit.int .i64 n).wf = true := by
    rcases open_ints Try.underlying22 Try.underlying2 (by kernel_rfl) h with ⟨hcs, _⟩ | ⟨x, l, c, zs, hcs, _, hl, hm, hz, _, hcell, hwz⟩
    · simp at hcs
      exact ⟨[], .inl ⟨hcs.1, hcs.2.1, hcs.2.2, rfl⟩⟩
    · simp at hcs
      obtain ⟨rfl, rfl, rfl⟩ := hcs
      exact ⟨zs, .inr ⟨_, rfl, hl, hm, by simpa using hz, hcell, hwz⟩⟩
  obtain ⟨zs, hz⟩ := key
  obtain ⟨l, rfl, hr, hm, hw, hc⟩ := ReadsInt.ofRowC hz
  exact ⟨a, cap, l, rfl, Kd.C_of_reads (d := (0 : Int)) (h1 := fun _ => rfl) hr, hc, hm, hw⟩
theorem cellsSL : Try.prog.cellsOf 22 = 1 := by kernel_rfl
theorem cellsSP : Try.prog.cellsOf 24 = 1 := by kernel_rfl
theorem space_at {c0 : Value} (h : DataW.trod enc Try.prog W 0 (fun _ => true) true n 24 [c0] = some y) : ∃ (a : Option Addr) (c : Nat) (l : List Int), c0 = .slice a l.length c ∧ Kd.C (Kd.int .i64) W a l.length l ∧ l.length ≤ c ∧ l.length ≤ maxLen ∧ ∀ x ∈ l, (Lit.int .i64 x).wf = true := by
  obtain ⟨y0, m, _, _, h0⟩ := trod_struct1 Try.underlying24 h
  simp [cellsSL] at h0
  obtain ⟨a, c, l, e, r⟩ := slice_at h0
  simp at e
  exact ⟨a, c, l, e, r⟩
set_option maxRecDepth 100000 in
theorem open_space {r : Reach} {b0 : Nat} {v : Value} {d : DataW H} {p : List MemPlace} (hv : Value.okWide Try.prog W r b0 24 v) (h : DataW.Trod enc Try.prog W 0 (fun _ => true) true 24 v d p) : ∃ (a : Option Addr) (c : Nat) (l : List Int), v = .agg #[.slice a l.length c] ∧ Kd.C (Kd.int .i64) W a l.length l ∧ l.length ≤ c ∧ l.length ≤ maxLen ∧ ∀ x ∈ l, (Lit.int .i64 x).wf = true := by
  obtain ⟨cs, rfl, hsz⟩ := okWide_struct Try.underlying24 hv
  rw [cellsSP] at hsz
  obtain ⟨c0, rfl⟩ := array1 hsz
  obtain ⟨fuel, hf⟩ := h
  obtain ⟨a, c, l, rfl, r⟩ := space_at (by simpa [Value.cells] using hf)
  exact ⟨a, c, l, rfl, r⟩
end Go.Proofs.Ythbfaefneoeadaa.Open
