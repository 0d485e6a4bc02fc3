/- Arguments of struct type, opened: the value written out, each slice with its list, each number within its kind. No condition. -/
import Derived.Test.YtpmhfkjaijcioaaRows
import Derived.Test.YtpmhfkjaijcioaaWWords
import Derived.WalkKit
import Derived.ProofKit
import Derived.OpenShut
import Derived.ChangeOld
import Derived.Below
import Derived.SizedLaws
import Derived.Lib.SmallJoins
namespace Go.Proofs.Ytpmhfkjaijcioaa.Open
open Go Go.ChangeShapes Go.WideShapes Go.ChangeAt Go.RowKit Go.Joins Go.Proofs.YtpmhfkjaijcioaaW.PrintWords
set_option linter.unusedVariables false
set_option linter.unusedSimpArgs false
theorem array1 {α : Type} {cs : Array α} (h : cs.size = 1) : ∃ c0, cs = #[c0] := by
  obtain ⟨l⟩ := cs
  match l, h with
  | [c0], _ => exact ⟨c0, rfl⟩
theorem array7 {α : Type} {cs : Array α} (h : cs.size = 7) : ∃ b0 b1 b2 b3 b4 b5 b6, cs = #[b0, b1, b2, b3, b4, b5, b6] := by
  obtain ⟨l⟩ := cs
  match l, h with
  | [b0, b1, b2, b3, b4, b5, b6], _ => exact ⟨b0, b1, b2, b3, b4, b5, b6, rfl⟩
variable {H : Type} {enc : TypeId × Value → H} {W : World} {n : Nat} {cs : List Value} {y : DataW H × List MemPlace}
theorem int_at (h : DataW.trod enc Try.prog W 0 (fun _ => true) true n 2 cs = some y) : ∃ a : Int, cs = [.int .i64 a] ∧ (Lit.int .i64 a).wf = true := by
  obtain ⟨a, e, _, w⟩ := DataW.trod_int Try.underlying2 h
  exact ⟨a, e, w⟩
theorem slice_at (h : DataW.trod enc Try.prog W 0 (fun _ => true) true n 22 cs = some y) : ∃ (a : Option Addr) (c : Nat) (l : List Int), cs = [.slice a l.length c] ∧ Kd.C (Kd.int .i64) W a l.length l ∧ l.length ≤ c ∧ l.length ≤ maxLen ∧ ∀ x ∈ l, (Lit.int .i64 x).wf = true := by
  obtain ⟨a, len, cap, rfl⟩ := slice_form Try.underlying22 h
  have key : ∃ zs : List Int, (a = none ∧ len = 0 ∧ cap = 0 ∧ zs = []) ∨ ∃ x, a = some x ∧ len ≤ cap ∧ cap ≤ maxLen ∧ zs.length = cap ∧ (∀ i, i < zs.length → W.cell? (x.add i) = some (.int .i64 (zs.getD i 0))) ∧ ∀ n ∈ zs, (Lit.int .i64 n).wf = true := by
    rcases open_ints Try.underlying22 Try.underlying2 (by kernel_rfl) h with ⟨hcs, _⟩ | ⟨x, l, c, zs, hcs, _, hl, hm, hz, _, hcell, hwz⟩
    · simp at hcs
      exact ⟨[], .inl ⟨hcs.1, hcs.2.1, hcs.2.2, rfl⟩⟩
    · simp at hcs
      obtain ⟨rfl, rfl, rfl⟩ := hcs
      exact ⟨zs, .inr ⟨_, rfl, hl, hm, by simpa using hz, hcell, hwz⟩⟩
  obtain ⟨zs, hz⟩ := key
  obtain ⟨l, rfl, hr, hm, hw, hc⟩ := ReadsInt.ofRowC hz
  exact ⟨a, cap, l, rfl, Kd.C_of_reads (d := (0 : Int)) (h1 := fun _ => rfl) hr, hc, hm, hw⟩
theorem cellsI : Try.prog.cellsOf 2 = 1 := by kernel_rfl
theorem lot_at {c0 c1 c2 c3 : Value} (h : DataW.trod enc Try.prog W 0 (fun _ => true) true n 61 [c0, c1, c2, c3] = some y) : ∃ a b c d : Int, c0 = .int .i64 a ∧ c1 = .int .i64 b ∧ c2 = .int .i64 c ∧ c3 = .int .i64 d ∧ (Lit.int .i64 a).wf = true ∧ (Lit.int .i64 b).wf = true ∧ (Lit.int .i64 c).wf = true ∧ (Lit.int .i64 d).wf = true := by
  obtain ⟨y0, y1, y2, y3, m, _, _, h0, h1, h2, h3⟩ := trod_struct4 Try.underlying61 h
  simp [cellsI] at h0 h1 h2 h3
  obtain ⟨a, e0, w0⟩ := int_at h0
  obtain ⟨b, e1, w1⟩ := int_at h1
  obtain ⟨c, e2, w2⟩ := int_at h2
  obtain ⟨d, e3, w3⟩ := int_at h3
  simp at e0 e1 e2 e3
  exact ⟨a, b, c, d, e0, e1, e2, e3, w0, w1, w2, w3⟩
theorem cellsSL : Try.prog.cellsOf 22 = 1 := by kernel_rfl
theorem cellsSP : Try.prog.cellsOf 36 = 1 := by kernel_rfl
theorem space_at {c0 : Value} (h : DataW.trod enc Try.prog W 0 (fun _ => true) true n 36 [c0] = some y) : ∃ (a : Option Addr) (c : Nat) (l : List Int), c0 = .slice a l.length c ∧ Kd.C (Kd.int .i64) W a l.length l ∧ l.length ≤ c ∧ l.length ≤ maxLen ∧ ∀ x ∈ l, (Lit.int .i64 x).wf = true := by
  obtain ⟨y0, m, _, _, h0⟩ := trod_struct1 Try.underlying36 h
  simp [cellsSL] at h0
  obtain ⟨a, c, l, e, r⟩ := slice_at h0
  simp at e
  exact ⟨a, c, l, e, r⟩
set_option maxRecDepth 100000 in
theorem open_space {r : Reach} {b0 : Nat} {v : Value} {d : DataW H} {p : List MemPlace} (hv : Value.okWide Try.prog W r b0 36 v) (h : DataW.Trod enc Try.prog W 0 (fun _ => true) true 36 v d p) : ∃ (a : Option Addr) (c : Nat) (l : List Int), v = .agg #[.slice a l.length c] ∧ Kd.C (Kd.int .i64) W a l.length l ∧ l.length ≤ c ∧ l.length ≤ maxLen ∧ ∀ x ∈ l, (Lit.int .i64 x).wf = true := by
  obtain ⟨cs, rfl, hsz⟩ := okWide_struct Try.underlying36 hv
  rw [cellsSP] at hsz
  obtain ⟨c0, rfl⟩ := array1 hsz
  obtain ⟨fuel, hf⟩ := h
  obtain ⟨a, c, l, rfl, r⟩ := space_at (by simpa [Value.cells] using hf)
  exact ⟨a, c, l, rfl, r⟩
theorem cellsLOT : Try.prog.cellsOf 61 = 4 := by kernel_rfl
theorem cellsDK : Try.prog.cellsOf 63 = 7 := by kernel_rfl
set_option maxRecDepth 100000 in
theorem open_desk {r : Reach} {b0 : Nat} {v : Value} {d : DataW H} {p : List MemPlace} (hv : Value.okWide Try.prog W r b0 63 v) (h : DataW.Trod enc Try.prog W 0 (fun _ => true) true 63 v d p) :
    ∃ (a0 : Option Addr) (c0 : Nat) (l0 : List Int) (a1 : Option Addr) (c1 : Nat) (l1 : List Int) (x2 x3 x4 x5 : Int) (a6 : Option Addr) (c6 : Nat) (l6 : List Int), v = .agg #[.slice a0 l0.length c0, .slice a1 l1.length c1, .int .i64 x2, .int .i64 x3, .int .i64 x4, .int .i64 x5, .slice a6 l6.length c6] ∧
      Kd.C (Kd.int .i64) W a0 l0.length l0 ∧ l0.length ≤ c0 ∧ l0.length ≤ maxLen ∧ (∀ x ∈ l0, (Lit.int .i64 x).wf = true) ∧ Kd.C (Kd.int .i64) W a1 l1.length l1 ∧ l1.length ≤ c1 ∧ l1.length ≤ maxLen ∧ (∀ x ∈ l1, (Lit.int .i64 x).wf = true) ∧
      (Lit.int .i64 x2).wf = true ∧ (Lit.int .i64 x3).wf = true ∧ (Lit.int .i64 x4).wf = true ∧ (Lit.int .i64 x5).wf = true ∧ Kd.C (Kd.int .i64) W a6 l6.length l6 ∧ l6.length ≤ c6 ∧ l6.length ≤ maxLen ∧ (∀ x ∈ l6, (Lit.int .i64 x).wf = true) := by
  obtain ⟨cs, rfl, hsz⟩ := okWide_struct Try.underlying63 hv
  rw [cellsDK] at hsz
  obtain ⟨b0, b1, b2, b3, b4, b5, b6, rfl⟩ := array7 hsz
  obtain ⟨fuel, hf⟩ := h
  obtain ⟨y0, y1, y2, y3, m, _, _, h0, h1, h2, h3⟩ := trod_struct4 Try.underlying63 hf
  simp [Value.cells, cellsSP, cellsSL, cellsLOT] at h0 h1 h2 h3
  obtain ⟨a0, c0, l0, rfl, r0⟩ := space_at h0
  obtain ⟨a1, c1, l1, e1, r1⟩ := slice_at h1
  simp at e1
  obtain ⟨x2, x3, x4, x5, rfl, rfl, rfl, rfl, w2, w3, w4, w5⟩ := lot_at h2
  obtain ⟨a6, c6, l6, e6, r6⟩ := slice_at h3
  simp at e6
  subst e1 e6
  exact ⟨a0, c0, l0, a1, c1, l1, x2, x3, x4, x5, a6, c6, l6, rfl, r0.1, r0.2.1, r0.2.2.1, r0.2.2.2, r1.1, r1.2.1, r1.2.2.1, r1.2.2.2, w2, w3, w4, w5, r6.1, r6.2.1, r6.2.2.1, r6.2.2.2⟩
end Go.Proofs.Ytpmhfkjaijcioaa.Open
