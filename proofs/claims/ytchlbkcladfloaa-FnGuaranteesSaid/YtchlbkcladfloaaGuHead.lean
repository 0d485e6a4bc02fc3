/- Three facts on the head of this seat's translation: the program may be entered, its lifts are final, its make is a cut. No condition. -/
import Derived.Test.YtchlbkcladfloaaRows
import Derived.KernelRfl
import Derived.JoinedOf
namespace Go.Proofs.Ytchlbkcladfloaa.Head
open Go
set_option linter.unusedSimpArgs false
theorem signs_word : ∀ (x r : List Char), (x.all fun c => !(c == Char.ofNat 32)) = true → wordsSigns (x ++ Char.ofNat 32 :: r) = x :: wordsSigns r
  | [], r, _ => by simp [wordsSigns]
  | c :: x, r, h => by
    rw [List.all_cons, Bool.and_eq_true] at h
    have ih := signs_word x r h.2
    have hc : c ≠ Char.ofNat 32 := by
      intro he
      rw [he] at h
      exact absurd h.1 (by decide)
    rw [List.cons_append, wordsSigns.eq_3 _ _ (fun he => hc he), ih]
def main1 : List Char := List.map Char.ofNat [104, 97, 114, 110, 101, 115, 115]
def sum1 : List Char := List.map Char.ofNat [97, 49, 54, 97, 100, 51, 101, 57, 102, 52, 52, 51, 48, 56, 53, 99, 53, 101, 98, 100, 56, 98, 57, 55, 56, 55, 51, 51, 57, 54, 52, 56, 55, 97, 97, 102, 102, 99, 51, 101, 97, 54, 102, 50, 100, 99, 48, 53, 57, 100, 52, 56, 49, 98, 54, 102, 98, 49, 57, 55, 54, 54, 55, 55]
def cut1 : List Char := List.map Char.ofNat [99, 117, 116]
def rest1 : List Char := List.map Char.ofNat [97, 116, 32, 108, 111, 111, 112, 46, 101, 120, 97, 109, 112, 108, 101, 47, 103, 48, 49, 52, 49, 49, 47, 108, 97, 119, 115, 46, 70, 110, 69, 120, 97, 99, 116, 71, 114, 101, 101, 100, 121, 84, 105, 99, 107, 101, 116, 115, 32, 108, 111, 111, 112, 46, 101, 120, 97, 109, 112, 108, 101, 47, 103, 48, 49, 52, 49, 49, 47, 108, 97, 119, 115, 46, 70, 110, 69, 120, 97, 99, 116, 76, 101, 97, 115, 116, 84, 105, 99, 107, 101, 116, 115, 32, 108, 111, 111, 112, 46, 101, 120, 97, 109, 112, 108, 101, 47, 103, 48, 49, 52, 49, 49, 47, 108, 97, 119, 115, 46, 70, 110, 84, 105, 99, 107, 101, 116, 115, 32, 108, 111, 111, 112, 46, 101, 120, 97, 109, 112, 108, 101, 47, 103, 48, 49, 52, 49, 49, 47, 108, 97, 119, 115, 46, 70, 110, 71, 117, 97, 114, 97, 110, 116, 101, 101, 115]
theorem head_is0 : Try.prog.initOrder = "harness a16ad3e9f443085c5ebd8b97873396487aaffc3ea6f2dc059d481b6fb1976677 cut at loop.example/g01411/laws.FnExactGreedyTickets loop.example/g01411/laws.FnExactLeastTickets loop.example/g01411/laws.FnTickets loop.example/g01411/laws.FnGuarantees" := rfl
theorem head_is1 : "harness a16ad3e9f443085c5ebd8b97873396487aaffc3ea6f2dc059d481b6fb1976677 cut at loop.example/g01411/laws.FnExactGreedyTickets loop.example/g01411/laws.FnExactLeastTickets loop.example/g01411/laws.FnTickets loop.example/g01411/laws.FnGuarantees" = String.ofList (main1 ++ Char.ofNat 32 :: (sum1 ++ Char.ofNat 32 :: (cut1 ++ Char.ofNat 32 :: rest1))) := by kernel_rfl
theorem head_list : Try.prog.initOrder.toList = main1 ++ Char.ofNat 32 :: (sum1 ++ Char.ofNat 32 :: (cut1 ++ Char.ofNat 32 :: rest1)) := by rw [head_is0, head_is1, String.toList_ofList]
theorem words_are : ∃ R, behindMainWord (wordsSigns Try.prog.initOrder.toList) = cut1 :: R := by
  rw [head_list, signs_word _ _ (by kernel_rfl), signs_word _ _ (by kernel_rfl), signs_word _ _ (by kernel_rfl)]
  generalize wordsSigns rest1 = R
  exact ⟨R, by kernel_rfl⟩
theorem cutWord : ∀ R, stripLifts liftWords (cut1 :: R) = ([], cut1 :: R) := fun R => by kernel_rfl
theorem isGc : (cut1 == "gc".toList) = false := by kernel_rfl
theorem isSpec : (cut1 == "spec".toList) = false := by kernel_rfl
theorem isCut : (cut1 == "cut".toList) = true := by kernel_rfl
theorem isCut3 : (some cut1 == some "cut".toList) = true := by kernel_rfl
theorem isCarried2 : (some cut1 == some "carried".toList) = false := by kernel_rfl
theorem isCarried : (cut1 == "carried".toList) = false := by kernel_rfl
theorem mayEnter_of (P : Program) (R : List (List Char)) (h : behindMainWord (wordsSigns P.initOrder.toList) = cut1 :: R) (h1 : P.laysLater = false) (h2 : P.bearsReflect = false) (h3 : P.doorFits [] = true) : P.mayEnter = true := by
  unfold Program.mayEnter
  rw [h]
  simp only [cutWord, isGc, isSpec, isCarried, h1, h2, h3, List.head?_cons, isCut3, Bool.or_self, Bool.false_and, Bool.false_or, Bool.true_and, Bool.not_false, Bool.or_true, Bool.and_true, List.contains_nil]
theorem liftsFinal_of (P : Program) (R : List (List Char)) (h : behindMainWord (wordsSigns P.initOrder.toList) = cut1 :: R) : P.liftsFinal = false := by
  unfold Program.liftsFinal Program.headLifts
  rw [h]
  simp only [cutWord, List.head?_cons, isCarried2, Bool.false_and, Bool.false_or, isCut3, if_true, List.contains_nil]
theorem make_of (P : Program) (R : List (List Char)) (h : behindMainWord (wordsSigns P.initOrder.toList) = cut1 :: R) : P.make = some .cut := by
  unfold Program.make
  rw [h]
  simp only [isGc, isSpec, isCut, Bool.or_self, Bool.true_or, if_true, Bool.false_eq_true, if_false]
theorem laysLater : Try.prog.laysLater = false := by kernel_rfl
theorem bearsReflect : Try.prog.bearsReflect = false := by kernel_rfl
theorem doorFits : Try.prog.doorFits [] = true := by kernel_rfl
theorem mayEnter : Try.prog.mayEnter = true := by
  obtain ⟨R, h⟩ := words_are
  exact mayEnter_of _ R h laysLater bearsReflect doorFits
theorem liftsFinal : Try.prog.liftsFinal = false := by
  obtain ⟨R, h⟩ := words_are
  exact liftsFinal_of _ R h
theorem make : Try.prog.make = some .cut := by
  obtain ⟨R, h⟩ := words_are
  exact make_of _ R h
end Go.Proofs.Ytchlbkcladfloaa.Head
