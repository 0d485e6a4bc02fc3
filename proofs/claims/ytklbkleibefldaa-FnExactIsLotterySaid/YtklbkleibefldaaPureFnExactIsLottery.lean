/- IsLottery of the program and of the reference answer alike for every four numbers. No condition. -/
import Derived.Test.YtklbkleibefldaaPFnExactIsLotteryx1
namespace Go.Proofs.Ytklbkleibefldaa.Pure
open Go.RowKit Go.Proofs.Ytklbkleibefldaa.PFnExactIsLottery Go.Proofs.YtklbkleibefldaaW.PrintWords Go.Proofs.YtklbkleibefldaaW.PrintLast
theorem FnExactIsLottery (a b c d : Int) (_ : (Lit.int .i64 a).wf = true) (_ : (Lit.int .i64 b).wf = true) (_ : (Lit.int .i64 c).wf = true) (_ : (Lit.int .i64 d).wf = true) : laws_FnExactIsLottery.f a b c d = some true := by
  have e : spec_IsLottery.f a b c d = impl_IsLottery.f a b c d := by
    unfold spec_IsLottery.f spec_l08Is.f spec_l01In.f impl_IsLottery.f mn
    repeat' split
    all_goals simp_all
    all_goals omega
  have h : ∃ r, impl_IsLottery.f a b c d = some r := by
    unfold impl_IsLottery.f
    repeat' split
    all_goals exact ⟨_, rfl⟩
  obtain ⟨r, h⟩ := h
  unfold laws_FnExactIsLottery.f laws_toLottery.f
  simp [e, h]
end Go.Proofs.Ytklbkleibefldaa.Pure
