-- WALKS, by a program and by hand
import Derived.Test.YtchlbkcladfloaaPFnGuaranteesx0
namespace Go.Proofs.Ytchlbkcladfloaa.PFnGuarantees
open Go.RowKit Go.Proofs.Ytchlbkcladfloaa.DG Go.Proofs.YtchlbkcladfloaaW.PrintWords Go.Proofs.YtchlbkcladfloaaW.PrintLast Go.Proofs.YtchlbkcladfloaaW.PrintMore
attribute [local go_sem] max2_int min2_int max_two min_two max_three min_three max_four min_four   -- for this text's walks alone
set_option linter.unusedVariables false
set_option linter.unusedSimpArgs false

-- HAND {"own": [[0, 0]]}
def slices_Sort_int64_int64.f (k : Nat) (l0 : List Int) : Option (List Int) := if l0.length ≤ 17592186044415 then some (l0.mergeSort fun x y => decide (x ≤ y)) else none
theorem slices_Sort_int64_int64.calls (k : Nat) (P0_ : Nat → Prop) (u9000_ : Value) (l0 : List Int) (r : List Int) (w0 w : World) (hB : Below w0.heap.size w0 w) (ho0 : Kd.R (Kd.int .i64) 2 w w0.heap.size P0_ u9000_ l0) (h : slices_Sort_int64_int64.f k l0 = some r) :
  Calls Try.prog 67 #[u9000_] w fun e w' => e = .returned (.tuple #[]) ∧ Kd.R (Kd.int .i64) 2 w' w0.heap.size (fun k_ => (P0_ k_ ∨ w.heap.size ≤ k_)) u9000_ r ∧ Below w0.heap.size w0 w' ∧ Kept w w' (fun k_ => P0_ k_) := by
 unfold slices_Sort_int64_int64.f at h
 by_cases h1 : l0.length ≤ 17592186044415
 ·rw [if_pos h1] at h
  obtain rfl := Option.some.inj h
  have ho := Kd.own_of_R ho0
  rcases ho.2 with ⟨rfl, h0⟩ | ⟨gb, cap, cur, rfl, hb, hh, hn, hm, hcs, htake⟩
  ·obtain rfl : l0 = [] := List.eq_nil_of_length_eq_zero h0
   refine (AnyM.slices_Sort_int_none mSort none 0 w).mono ?_
   rintro e w' ⟨rfl, rfl⟩
   exact ⟨rfl, (by simpa using Kd.R_nil _ _ _ _ _), hB, Kept.refl _ _⟩
  ·have hokk := ho0.1 gb rfl
   have htk : cur.toList.take l0.length = l0.map (Value.int .i64) := by rw [Nat.mul_one] at htake; exact htake
   have hsz : gb < w.heap.size := (Array.getElem?_eq_some_iff.1 hh).1
   refine (AnyM.slices_Sort_int mSort gb 0 cap l0 w (holds_of_blockI hh htk) hsz (by omega)).mono ?_
   rintro e w' ⟨rfl, n, os, rfl⟩
   have hl : (l0.mergeSort fun x y => decide (x ≤ y)).length = l0.length := List.length_mergeSort _
   have hg := grownBy_sortedI (w := w) (g := gb) (n := n) (os := os) (l0.mergeSort fun x y => decide (x ≤ y)).toArray
   have hw := ownsRow_sortedI (n := n) (os := os) hl hb hh hn hm (by omega)
   refine ⟨rfl, ?_, hB.grown hg hB.size (fun k_ hk => by cases hk; exact hb), ?_⟩
   ·refine Kd.R_of_own (h1 := fun _ => rfl) ?_ (fun k_ hk => .inl (by cases hk; exact hokk))
    rw [hl]
    exact hw
   ·exact Kept.of_grown hg (Kept.refl _ _) (fun k_ hk => by cases hk; exact .inl hokk)
 ·rw [if_neg h1] at h; cases h

end Go.Proofs.Ytchlbkcladfloaa.PFnGuarantees
