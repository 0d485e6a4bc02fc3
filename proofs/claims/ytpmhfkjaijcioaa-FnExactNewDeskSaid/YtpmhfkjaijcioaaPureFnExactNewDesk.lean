/- The new desks of the program and of the reference are alike, and each call's desk is new. There is no argument. -/
import Derived.Test.YtpmhfkjaijcioaaNd2
import Derived.KernelRfl
namespace Go.Proofs.Ytpmhfkjaijcioaa.Pure
open Go Go.RowKit Go.Proofs.Ytpmhfkjaijcioaa.PFnExactNewDesk
theorem FnExactNewDesk : ∃ k, laws_FnExactNewDesk.f k = some true := ⟨20, by kernel_rfl⟩
end Go.Proofs.Ytpmhfkjaijcioaa.Pure
