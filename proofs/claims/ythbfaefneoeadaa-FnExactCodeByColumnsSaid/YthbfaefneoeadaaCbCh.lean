/- Choices of places and digits: their numbers, forth and back. Spaces of at most 8 places of sizes 2 to 4. -/
import Derived.Test.YthbfaefneoeadaaCbDg2
import Derived.Laws.CopyOwn
namespace Go.Proofs.Ythbfaefneoeadaa.DG
open Go Go.RowKit Go.Proofs.YthbfaefneoeadaaW.PrintWords Go.Proofs.YthbfaefneoeadaaW.PrintLast Go.Proofs.YthbfaefneoeadaaW.PrintMore
set_option linter.unusedVariables false
set_option linter.unusedSimpArgs false
/-- Digits within sizes. -/
def Within : List Int → List Int → Prop
  | [], [] => True
  | q :: z, d :: y => (0 ≤ d ∧ d < q) ∧ Within z y
  | _, _ => False
theorem within_len : ∀ {z y : List Int}, Within z y → y.length = z.length
  | [], [], _ => rfl
  | q :: z, d :: y, h => by simp [within_len h.2]
  | [], _ :: _, h => h.elim
  | _ :: _, [], h => h.elim
theorem within_dig : ∀ (z : List Int), (∀ q ∈ z, 2 ≤ q ∧ q ≤ 4) → ∀ v, Within z (digL z v)
  | [], _, v => trivial
  | q :: z, h, v => by
    have hq := h q (by simp)
    exact ⟨⟨Int.emod_nonneg _ (by omega), Int.emod_lt_of_pos _ (by omega)⟩, within_dig z (fun x hx => h x (by simp [hx])) v⟩
theorem word_lin : ∀ (z y : List Int) (acc : Int), y.length = z.length → wordI acc z y = acc * prodI z + wordI 0 z y
  | [], y, acc, h => by simp [wordI, prodI]
  | q :: z, [], acc, h => by simp at h
  | q :: z, d :: y, acc, h => by
    have hl : y.length = z.length := by simpa using h
    simp only [wordI, prodI]
    rw [word_lin z y _ hl, word_lin z y (0 * q + d) hl]
    rw [Int.zero_mul, Int.zero_add, Int.add_mul, Int.mul_assoc, Int.add_assoc]
theorem word_bound : ∀ (z y : List Int), (∀ q ∈ z, 2 ≤ q ∧ q ≤ 4) → Within z y → 0 ≤ wordI 0 z y ∧ wordI 0 z y < prodI z
  | [], [], _, _ => by simp [wordI, prodI]
  | q :: z, d :: y, h, hw => by
    have hz := fun x hx => h x (List.mem_cons_of_mem q hx)
    obtain ⟨i0, i1⟩ := word_bound z y hz hw.2
    obtain ⟨h0, h1⟩ := hw.1
    have hp := prodI_pos z hz
    have e : wordI 0 (q :: z) (d :: y) = d * prodI z + wordI 0 z y := by
      show wordI (0 * q + d) z y = _
      rw [word_lin z y _ (within_len hw.2), Int.zero_mul, Int.zero_add]
    rw [e]
    have h2 : 0 ≤ d * prodI z := Int.mul_nonneg h0 (by omega)
    have h3 : d * prodI z + prodI z ≤ q * prodI z := by
      have : (d + 1) * prodI z ≤ q * prodI z := Int.mul_le_mul_of_nonneg_right (by omega) (by omega)
      rw [Int.add_mul, Int.one_mul] at this; exact this
    simp only [prodI]
    omega
  | [], _ :: _, _, h => h.elim
  | _ :: _, [], _, h => h.elim
theorem dig_mod : ∀ (z : List Int), (∀ q ∈ z, 2 ≤ q ∧ q ≤ 4) → ∀ a v : Int, digL z (a * prodI z + v) = digL z v
  | [], _, a, v => rfl
  | q :: z, h, a, v => by
    have hz := fun x hx => h x (List.mem_cons_of_mem q hx)
    have hp := prodI_pos z hz
    simp only [digL, prodI]
    have e1 : (a * (q * prodI z) + v) / prodI z % q = v / prodI z % q := by
      rw [show a * (q * prodI z) + v = v + (a * q) * prodI z by rw [← Int.mul_assoc]; omega, Int.add_mul_ediv_right _ _ (by omega)]
      exact Int.add_mul_emod_self_right _ _ _
    rw [e1, show a * (q * prodI z) + v = (a * q) * prodI z + v by rw [← Int.mul_assoc], dig_mod z hz]
theorem dig_word : ∀ (z y : List Int), (∀ q ∈ z, 2 ≤ q ∧ q ≤ 4) → Within z y → digL z (wordI 0 z y) = y
  | [], [], _, _ => rfl
  | q :: z, d :: y, h, hw => by
    have hz := fun x hx => h x (List.mem_cons_of_mem q hx)
    have hp := prodI_pos z hz
    obtain ⟨i0, i1⟩ := word_bound z y hz hw.2
    obtain ⟨h0, h1⟩ := hw.1
    have e : wordI 0 (q :: z) (d :: y) = d * prodI z + wordI 0 z y := by
      show wordI (0 * q + d) z y = _
      rw [word_lin z y _ (within_len hw.2), Int.zero_mul, Int.zero_add]
    rw [e]
    simp only [digL]
    rw [dig_mod z hz, dig_word z y hz hw.2]
    congr 1
    rw [Int.add_comm, Int.add_mul_ediv_right _ _ (by omega), Int.ediv_eq_zero_of_lt i0 i1, Int.zero_add]
    exact Int.emod_eq_of_lt h0 h1
  | [], _ :: _, _, h => h.elim
  | _ :: _, [], _, h => h.elim
theorem word_dig : ∀ (z : List Int), (∀ q ∈ z, 2 ≤ q ∧ q ≤ 4) → ∀ v, 0 ≤ v → v < prodI z → wordI 0 z (digL z v) = v
  | [], _, v, h0, h1 => by simp [prodI] at h1; simp [wordI]; omega
  | q :: z, h, v, h0, h1 => by
    have hz := fun x hx => h x (List.mem_cons_of_mem q hx)
    have hp := prodI_pos z hz
    have hq := h q (by simp)
    show wordI (0 * q + v / prodI z % q) z (digL z v) = v
    rw [word_lin z _ _ (digL_len z v), Int.zero_mul, Int.zero_add]
    have e1 : digL z v = digL z (v % prodI z) := by
      have := dig_mod z hz (v / prodI z) (v % prodI z)
      rw [Int.mul_comm, Int.mul_ediv_add_emod] at this
      exact this
    rw [e1, word_dig z hz (v % prodI z) (Int.emod_nonneg _ (by omega)) (Int.emod_lt_of_pos _ (by omega))]
    have e2 : v / prodI z % q = v / prodI z := Int.emod_eq_of_lt (Int.ediv_nonneg h0 (by omega)) (Int.ediv_lt_of_lt_mul (by omega) (by simpa [prodI] using h1))
    rw [e2, Int.mul_comm, Int.mul_ediv_add_emod]
end Go.Proofs.Ythbfaefneoeadaa.DG
