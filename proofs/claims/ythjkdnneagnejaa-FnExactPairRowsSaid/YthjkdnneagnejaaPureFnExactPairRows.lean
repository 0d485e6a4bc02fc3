/- Rows of pairs are told alike, and each call's memory is new. For every number of places: 1 to 8 by the kernel's own reckoning, all others by the answer that they get. -/
import Derived.Test.YthjkdnneagnejaaPFnExactPairRowsx4
import Derived.KernelRfl
namespace Go.Proofs.Ythjkdnneagnejaa.Pure
open Go.RowKit Go.Proofs.Ythjkdnneagnejaa.PFnExactPairRows Go.Proofs.YthjkdnneagnejaaW.PrintWords Go.Proofs.YthjkdnneagnejaaW.PrintLast Go.Proofs.Ythjkdnneagnejaa.DG
theorem spec_bad (a : Int) (h : ¬ (1 ≤ a ∧ a ≤ 8)) (k : Nat) : spec_PairRows.f k a = some ([], [], 2) := by
  have e : spec_l01In.f a 1 8 = some false := by
    unfold spec_l01In.f
    by_cases h1 : a ≥ 1
    · rw [if_pos h1]; simp; omega
    · rw [if_neg h1]
  unfold spec_PairRows.f
  rw [e]; rfl
theorem impl_bad (a : Int) (h : ¬ (1 ≤ a ∧ a ≤ 8)) (k : Nat) : impl_PairRows.f k a = some ([], [], 2) := by
  unfold impl_PairRows.f
  by_cases h1 : a < 1
  · rw [if_pos h1]
  · rw [if_neg h1, if_pos (by omega)]
theorem row1 : laws_FnExactPairRows.f 100 1 = some true := by kernel_rfl
theorem row2 : laws_FnExactPairRows.f 100 2 = some true := by kernel_rfl
theorem row3 : laws_FnExactPairRows.f 100 3 = some true := by kernel_rfl
theorem row4 : laws_FnExactPairRows.f 100 4 = some true := by kernel_rfl
theorem row5 : laws_FnExactPairRows.f 100 5 = some true := by kernel_rfl
theorem row6 : laws_FnExactPairRows.f 100 6 = some true := by kernel_rfl
theorem row7 : laws_FnExactPairRows.f 100 7 = some true := by kernel_rfl
theorem row8 : laws_FnExactPairRows.f 100 8 = some true := by kernel_rfl
theorem FnExactPairRows : laws_FnExactPairRows.Pure := by
  intro a _
  by_cases h : 1 ≤ a ∧ a ≤ 8
  · have : a = 1 ∨ a = 2 ∨ a = 3 ∨ a = 4 ∨ a = 5 ∨ a = 6 ∨ a = 7 ∨ a = 8 := by omega
    rcases this with rfl | rfl | rfl | rfl | rfl | rfl | rfl | rfl
    · exact ⟨100, row1⟩
    · exact ⟨100, row2⟩
    · exact ⟨100, row3⟩
    · exact ⟨100, row4⟩
    · exact ⟨100, row5⟩
    · exact ⟨100, row6⟩
    · exact ⟨100, row7⟩
    · exact ⟨100, row8⟩
  · refine ⟨10, ?_⟩
    unfold laws_FnExactPairRows.f
    rw [spec_bad a h, impl_bad a h]
    have e1 : laws_eqSpace.f 10 [] [] = some true := rfl
    have e2 : laws_eqInt64S.f 10 [] [] = some true := rfl
    simp only [Option.bind_some]
    rw [e1, Option.bind_some, if_pos rfl, e2, Option.bind_some, if_pos rfl]
    have e3 : laws_markSpace.f 9 [] 1 = some (1, []) := rfl
    have e4 : laws_markInt64S.f 9 [] 1 = some (1, []) := rfl
    have e5 : laws_heldSpace.f 9 [] 1 = some 1 := rfl
    have e6 : laws_heldInt64S.f 9 [] 1 = some 1 := rfl
    have e7 : laws_eqSpace.f 9 [] [] = some true := rfl
    have e8 : laws_eqInt64S.f 9 [] [] = some true := rfl
    simp only [laws_FnExactPairRows.j0, bne_self_eq_false, Bool.false_eq_true, if_false, e3, e4, e5, e6, Option.bind_some, impl_bad a h, e7, e8]
    rfl
end Go.Proofs.Ythjkdnneagnejaa.Pure
