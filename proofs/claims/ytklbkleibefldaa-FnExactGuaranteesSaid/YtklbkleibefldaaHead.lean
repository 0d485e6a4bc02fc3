/- Three facts on the head of this seat's translation: the program may be entered, its lifts are final, its make is a cut. No condition. -/
import Derived.Test.YtklbkleibefldaaRows
import Derived.KernelRfl
import Derived.JoinedOf
namespace Go.Proofs.Ytklbkleibefldaa.Head
open Go
set_option linter.unusedSimpArgs false
theorem signs_word : ∀ (x r : List Char), (x.all fun c => !(c == Char.ofNat 32)) = true → wordsSigns (x ++ Char.ofNat 32 :: r) = x :: wordsSigns r
  | [], r, _ => by simp [wordsSigns]
  | c :: x, r, h => by
    rw [List.all_cons, Bool.and_eq_true] at h
    have ih := signs_word x r h.2
    have hc : c ≠ Char.ofNat 32 := by
      intro he
      rw [he] at h
      exact absurd h.1 (by decide)
    rw [List.cons_append, wordsSigns.eq_3 _ _ (fun he => hc he), ih]
def main1 : List Char := List.map Char.ofNat [104, 97, 114, 110, 101, 115, 115]
def sum1 : List Char := List.map Char.ofNat [49, 52, 53, 53, 102, 100, 97, 101, 49, 51, 57, 57, 49, 99, 51, 57, 52, 54, 57, 102, 52, 53, 98, 49, 53, 55, 102, 49, 101, 48, 97, 101, 53, 48, 49, 49, 50, 102, 99, 50, 52, 98, 102, 55, 53, 99, 102, 49, 50, 101, 48, 49, 57, 52, 54, 100, 102, 97, 50, 54, 99, 56, 55, 52]
def cut1 : List Char := List.map Char.ofNat [99, 117, 116]
def rest1 : List Char := List.map Char.ofNat [97, 116, 32, 108, 111, 111, 112, 46, 101, 120, 97, 109, 112, 108, 101, 47, 103, 48, 49, 52, 49, 49, 47, 108, 97, 119, 115, 46, 70, 110, 69, 120, 97, 99, 116, 73, 115, 76, 111, 116, 116, 101, 114, 121, 32, 108, 111, 111, 112, 46, 101, 120, 97, 109, 112, 108, 101, 47, 103, 48, 49, 52, 49, 49, 47, 108, 97, 119, 115, 46, 70, 110, 69, 120, 97, 99, 116, 84, 105, 99, 107, 101, 116, 79, 102, 32, 108, 111, 111, 112, 46, 101, 120, 97, 109, 112, 108, 101, 47, 103, 48, 49, 52, 49, 49, 47, 108, 97, 119, 115, 46, 70, 110, 69, 120, 97, 99, 116, 78, 117, 109, 98, 101, 114, 115, 79, 102, 32, 108, 111, 111, 112, 46, 101, 120, 97, 109, 112, 108, 101, 47, 103, 48, 49, 52, 49, 49, 47, 108, 97, 119, 115, 46, 70, 110, 69, 120, 97, 99, 116, 67, 111, 117, 110, 116, 68, 114, 97, 119, 115, 32, 108, 111, 111, 112, 46, 101, 120, 97, 109, 112, 108, 101, 47, 103, 48, 49, 52, 49, 49, 47, 108, 97, 119, 115, 46, 70, 110, 69, 120, 97, 99, 116, 67, 111, 117, 110, 116, 84, 105, 99, 107, 101, 116, 115, 32, 108, 111, 111, 112, 46, 101, 120, 97, 109, 112, 108, 101, 47, 103, 48, 49, 52, 49, 49, 47, 108, 97, 119, 115, 46, 70, 110, 69, 120, 97, 99, 116, 67, 111, 109, 109, 111, 110, 78, 117, 109, 98, 101, 114, 115, 32, 108, 111, 111, 112, 46, 101, 120, 97, 109, 112, 108, 101, 47, 103, 48, 49, 52, 49, 49, 47, 108, 97, 119, 115, 46, 70, 110, 69, 120, 97, 99, 116, 68, 114, 97, 119, 115, 72, 105, 116, 32, 108, 111, 111, 112, 46, 101, 120, 97, 109, 112, 108, 101, 47, 103, 48, 49, 52, 49, 49, 47, 108, 97, 119, 115, 46, 70, 110, 69, 120, 97, 99, 116, 84, 105, 99, 107, 101, 116, 66, 111, 117, 110, 100, 32, 108, 111, 111, 112, 46, 101, 120, 97, 109, 112, 108, 101, 47, 103, 48, 49, 52, 49, 49, 47, 108, 97, 119, 115, 46, 70, 110, 69, 120, 97, 99, 116, 84, 105, 99, 107, 101, 116, 79, 102, 82, 97, 110, 107, 32, 108, 111, 111, 112, 46, 101, 120, 97, 109, 112, 108, 101, 47, 103, 48, 49, 52, 49, 49, 47, 108, 97, 119, 115, 46, 70, 110, 69, 120, 97, 99, 116, 82, 97, 110, 107, 79, 102, 84, 105, 99, 107, 101, 116, 32, 108, 111, 111, 112, 46, 101, 120, 97, 109, 112, 108, 101, 47, 103, 48, 49, 52, 49, 49, 47, 108, 97, 119, 115, 46, 70, 110, 69, 120, 97, 99, 116, 80, 114, 105, 122, 101, 115, 79, 102, 32, 108, 111, 111, 112, 46, 101, 120, 97, 109, 112, 108, 101, 47, 103, 48, 49, 52, 49, 49, 47, 108, 97, 119, 115, 46, 70, 110, 69, 120, 97, 99, 116, 67, 111, 117, 110, 116, 77, 105, 115, 115, 101, 100, 32, 108, 111, 111, 112, 46, 101, 120, 97, 109, 112, 108, 101, 47, 103, 48, 49, 52, 49, 49, 47, 108, 97, 119, 115, 46, 70, 110, 69, 120, 97, 99, 116, 71, 117, 97, 114, 97, 110, 116, 101, 101, 115, 32, 108, 111, 111, 112, 46, 101, 120, 97, 109, 112, 108, 101, 47, 103, 48, 49, 52, 49, 49, 47, 108, 97, 119, 115, 46, 70, 110, 69, 120, 97, 99, 116, 70, 105, 114, 115, 116, 77, 105, 115, 115, 101, 100, 32, 108, 111, 111, 112, 46, 101, 120, 97, 109, 112, 108, 101, 47, 103, 48, 49, 52, 49, 49, 47, 108, 97, 119, 115, 46, 70, 110, 69, 120, 97, 99, 116, 78, 101, 101, 100, 101, 100, 84, 105, 99, 107, 101, 116, 115, 32, 108, 111, 111, 112, 46, 101, 120, 97, 109, 112, 108, 101, 47, 103, 48, 49, 52, 49, 49, 47, 108, 97, 119, 115, 46, 70, 110, 69, 120, 97, 99, 116, 76, 101, 97, 115, 116, 84, 105, 99, 107, 101, 116, 115, 32, 108, 111, 111, 112, 46, 101, 120, 97, 109, 112, 108, 101, 47, 103, 48, 49, 52, 49, 49, 47, 108, 97, 119, 115, 46, 70, 110, 69, 120, 97, 99, 116, 71, 114, 101, 101, 100, 121, 84, 105, 99, 107, 101, 116, 115, 32, 108, 111, 111, 112, 46, 101, 120, 97, 109, 112, 108, 101, 47, 103, 48, 49, 52, 49, 49, 47, 108, 97, 119, 115, 46, 70, 110, 84, 105, 99, 107, 101, 116, 115, 32, 108, 111, 111, 112, 46, 101, 120, 97, 109, 112, 108, 101, 47, 103, 48, 49, 52, 49, 49, 47, 108, 97, 119, 115, 46, 70, 110, 71, 117, 97, 114, 97, 110, 116, 101, 101, 115]
theorem head_is0 : Try.prog.initOrder = "harness 1455fdae13991c39469f45b157f1e0ae50112fc24bf75cf12e01946dfa26c874 cut at loop.example/g01411/laws.FnExactIsLottery loop.example/g01411/laws.FnExactTicketOf loop.example/g01411/laws.FnExactNumbersOf loop.example/g01411/laws.FnExactCountDraws loop.example/g01411/laws.FnExactCountTickets loop.example/g01411/laws.FnExactCommonNumbers loop.example/g01411/laws.FnExactDrawsHit loop.example/g01411/laws.FnExactTicketBound loop.example/g01411/laws.FnExactTicketOfRank loop.example/g01411/laws.FnExactRankOfTicket loop.example/g01411/laws.FnExactPrizesOf loop.example/g01411/laws.FnExactCountMissed loop.example/g01411/laws.FnExactGuarantees loop.example/g01411/laws.FnExactFirstMissed loop.example/g01411/laws.FnExactNeededTickets loop.example/g01411/laws.FnExactLeastTickets loop.example/g01411/laws.FnExactGreedyTickets loop.example/g01411/laws.FnTickets loop.example/g01411/laws.FnGuarantees" := rfl
theorem head_is1 : "harness 1455fdae13991c39469f45b157f1e0ae50112fc24bf75cf12e01946dfa26c874 cut at loop.example/g01411/laws.FnExactIsLottery loop.example/g01411/laws.FnExactTicketOf loop.example/g01411/laws.FnExactNumbersOf loop.example/g01411/laws.FnExactCountDraws loop.example/g01411/laws.FnExactCountTickets loop.example/g01411/laws.FnExactCommonNumbers loop.example/g01411/laws.FnExactDrawsHit loop.example/g01411/laws.FnExactTicketBound loop.example/g01411/laws.FnExactTicketOfRank loop.example/g01411/laws.FnExactRankOfTicket loop.example/g01411/laws.FnExactPrizesOf loop.example/g01411/laws.FnExactCountMissed loop.example/g01411/laws.FnExactGuarantees loop.example/g01411/laws.FnExactFirstMissed loop.example/g01411/laws.FnExactNeededTickets loop.example/g01411/laws.FnExactLeastTickets loop.example/g01411/laws.FnExactGreedyTickets loop.example/g01411/laws.FnTickets loop.example/g01411/laws.FnGuarantees" = String.ofList (main1 ++ Char.ofNat 32 :: (sum1 ++ Char.ofNat 32 :: (cut1 ++ Char.ofNat 32 :: rest1))) := by kernel_rfl
theorem head_list : Try.prog.initOrder.toList = main1 ++ Char.ofNat 32 :: (sum1 ++ Char.ofNat 32 :: (cut1 ++ Char.ofNat 32 :: rest1)) := by rw [head_is0, head_is1, String.toList_ofList]
theorem words_are : ∃ R, behindMainWord (wordsSigns Try.prog.initOrder.toList) = cut1 :: R := by
  rw [head_list, signs_word _ _ (by kernel_rfl), signs_word _ _ (by kernel_rfl), signs_word _ _ (by kernel_rfl)]
  generalize wordsSigns rest1 = R
  exact ⟨R, by kernel_rfl⟩
theorem cutWord : ∀ R, stripLifts liftWords (cut1 :: R) = ([], cut1 :: R) := fun R => by kernel_rfl
theorem isGc : (cut1 == "gc".toList) = false := by kernel_rfl
theorem isSpec : (cut1 == "spec".toList) = false := by kernel_rfl
theorem isCut : (cut1 == "cut".toList) = true := by kernel_rfl
theorem isCut3 : (some cut1 == some "cut".toList) = true := by kernel_rfl
theorem isCarried2 : (some cut1 == some "carried".toList) = false := by kernel_rfl
theorem isCarried : (cut1 == "carried".toList) = false := by kernel_rfl
theorem mayEnter_of (P : Program) (R : List (List Char)) (h : behindMainWord (wordsSigns P.initOrder.toList) = cut1 :: R) (h1 : P.laysLater = false) (h2 : P.bearsReflect = false) (h3 : P.doorFits [] = true) : P.mayEnter = true := by
  unfold Program.mayEnter
  rw [h]
  simp only [cutWord, isGc, isSpec, isCarried, h1, h2, h3, List.head?_cons, isCut3, Bool.or_self, Bool.false_and, Bool.false_or, Bool.true_and, Bool.not_false, Bool.or_true, Bool.and_true, List.contains_nil]
theorem liftsFinal_of (P : Program) (R : List (List Char)) (h : behindMainWord (wordsSigns P.initOrder.toList) = cut1 :: R) : P.liftsFinal = false := by
  unfold Program.liftsFinal Program.headLifts
  rw [h]
  simp only [cutWord, List.head?_cons, isCarried2, Bool.false_and, Bool.false_or, isCut3, if_true, List.contains_nil]
theorem make_of (P : Program) (R : List (List Char)) (h : behindMainWord (wordsSigns P.initOrder.toList) = cut1 :: R) : P.make = some .cut := by
  unfold Program.make
  rw [h]
  simp only [isGc, isSpec, isCut, Bool.or_self, Bool.true_or, if_true, Bool.false_eq_true, if_false]
theorem laysLater : Try.prog.laysLater = false := by kernel_rfl
theorem bearsReflect : Try.prog.bearsReflect = false := by kernel_rfl
theorem doorFits : Try.prog.doorFits [] = true := by kernel_rfl
theorem mayEnter : Try.prog.mayEnter = true := by
  obtain ⟨R, h⟩ := words_are
  exact mayEnter_of _ R h laysLater bearsReflect doorFits
theorem liftsFinal : Try.prog.liftsFinal = false := by
  obtain ⟨R, h⟩ := words_are
  exact liftsFinal_of _ R h
theorem make : Try.prog.make = some .cut := by
  obtain ⟨R, h⟩ := words_are
  exact make_of _ R h
end Go.Proofs.Ytklbkleibefldaa.Head
