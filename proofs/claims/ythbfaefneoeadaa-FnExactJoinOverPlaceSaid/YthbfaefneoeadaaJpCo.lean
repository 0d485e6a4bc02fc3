/- The library's Concat at []int64, over lists that are not all empty. -/
import Derived.Test.YthbfaefneoeadaaJpChC
import Derived.Test.YthbfaefneoeadaaJpGrowL
namespace Go.Proofs.Ythbfaefneoeadaa.DG
open Go Go.RowKit Go.Proofs.YthbfaefneoeadaaW.PrintWords Go.Proofs.YthbfaefneoeadaaW.PrintLast Go.Proofs.YthbfaefneoeadaaW.PrintMore
set_option linter.unusedVariables false
set_option linter.unusedSimpArgs false
def lenS : List (List Int) → Nat
  | [] => 0
  | x :: xs => x.length + lenS xs
theorem lenS_flat : ∀ xs : List (List Int), xs.flatten.length = lenS xs
  | [] => rfl
  | x :: xs => by simp only [List.flatten_cons, List.length_append, lenS]; rw [lenS_flat xs]
theorem lenS_next (xs : List (List Int)) (j : Nat) (hj : j < xs.length) : lenS (xs.drop j) = (rdL xs j).length + lenS (xs.drop (j + 1)) := by
  rw [List.drop_eq_getElem_cons hj, rdL_eq xs j hj]; rfl
theorem flat_next (xs : List (List Int)) (j : Nat) (hj : j < xs.length) : (xs.take (j + 1)).flatten = (xs.take j).flatten ++ rdL xs j := by
  rw [List.take_succ_eq_append_getElem hj, List.flatten_append, rdL_eq xs j hj]; simp
theorem lenS_drop (xs : List (List Int)) : ∀ j, lenS (xs.drop j) ≤ lenS xs := by
  induction xs with
  | nil => intro j; simp [lenS]
  | cons x xs ih =>
    intro j
    cases j with
    | zero => exact Nat.le_refl _
    | succ j => have := ih j; simp only [List.drop_succ_cons, lenS]; omega
/-- Grow of nil: a row of no elements with room. -/
theorem grow_nil (n : Nat) (hn : 0 < n) (hm : n ≤ 1000000) (w : World) : Calls Try.prog 72 #[.slice none 0 0, .int .i64 n] w fun e w' => ∃ v0_ : Value, e = .returned v0_ ∧ Kd.R (Kd.int .i64) 2 w' w.heap.size (fun _ => True) v0_ [] ∧ Below w.heap.size w w' := by
  obtain ⟨i0, hi0, hi1⟩ := Option.map_eq_some_iff.1 of_info
  simp only [Prod.mk.injEq] at hi1
  obtain ⟨hz, hs, hbt⟩ := hi1
  refine (Any8.slices_Grow_grow mGrow i0 (.int .i64 0) hi0 hz (by omega) none 0 0 n [] w (Nat.le_refl _) (by omega) (by rw [hbt]; omega) (by omega) (by simp) (fun _ => rfl) (fun a h => by cases h)).mono ?_
  rintro e w' ⟨rfl, rfl⟩
  have et : mGrow_ren.t 25 = 2 := rfl
  have hc : (0 : Nat) + n ≤ grownCap w (0 + n) 0 2 := grownCap_ge w _ _ _
  have hx : grownCap w (0 + n) 0 2 ≤ maxLen := grownCap_le_maxLen w _ _ _ (by unfold maxLen; omega)
  rw [et]
  generalize grownCap w (0 + n) 0 2 = G at hc hx ⊢
  refine ⟨_, rfl, ?_, below_alloc (below_drew (Below.refl _ _)) _⟩
  refine Kd.R_of_own (h1 := fun _ => rfl) ⟨rfl, .inr ⟨w.heap.size, G, _, rfl, Nat.le_refl _, blk_new w.drew _, Nat.zero_le _, hx, ?_, ?_⟩⟩ (fun _ _ => trivial)
  · simp [Builtin.zeroCells, Value.cells]
    omega
  · rfl
set_option maxHeartbeats 2000000 in
set_option maxRecDepth 100000 in
theorem concat_walk (A : Option Addr) (c : Nat) (xs : List (List Int)) (w : World) (hC : Kd.C (Kd.slice 2 (Kd.int .i64)) w A xs.length xs) (hl : xs.length ≤ 1000) (h0 : 0 < lenS xs) (hm : lenS xs ≤ 1000000) :
    Calls Try.prog 45 #[.slice A xs.length c] w fun e w' => ∃ v0_ : Value, e = .returned v0_ ∧ Kd.R (Kd.int .i64) 2 w' w.heap.size (fun _ => True) v0_ xs.flatten ∧ Below w.heap.size w w' := by
  have HC := Aside0.mk hC
  clear hC
  go_enter Try.func45, Try.ntmps45
  go_wp2
  go_loopg [3, 11] xs.length (fun gg s3 s11 wr => ∃ (j n : Nat), s3 = .int .i64 n ∧ s11 = .int .i64 j ∧ j ≤ xs.length ∧ xs.length - j ≤ gg ∧ Aside0 (n + lenS (xs.drop j) = lenS xs) ∧ Aside0 (Below w.heap.size w wr))
  case atStart => exact ⟨0, 0, rfl, rfl, by omega, by omega, ⟨by simp⟩, ⟨Below.refl _ _⟩⟩
  case round =>
    obtain ⟨j, n, rfl, rfl, hj, hgg, HN, HB⟩ := hrel
    by_cases hlt : j < xs.length
    · have hlt1 : (j : Int) < (xs.length : Int) := by omega
      have hj0 : (0 : Int) ≤ (j : Int) := by omega
      obtain ⟨ad, Ap, cp, e, hx, hlp, hCp⟩ := at_rows HC.out j hlt
      cases e
      replace hx := cell_blk_ne hx HB.out
      have HNN := Aside0.mk (lenS_next xs j hlt)
      have hd := lenS_drop xs j
      have hb1 : n ≤ 1000000 := by have := HN.out; omega
      have hb2 : (rdL xs j).length ≤ 1000000 := by have := HNN.out; omega
      obtain ⟨p, hpe⟩ : ∃ p, p = rdL xs j := ⟨_, rfl⟩
      rw [← hpe] at hx hlp HNN hb2
      clear hpe hd hCp
      have hneg : ¬ ((n : Int) + (p.length : Int) < 0) := by omega
      have hnw : IntKind.i64.wrap ((n : Int) + (p.length : Int)) = (n : Int) + (p.length : Int) := by rw [IntKind.wrap_i64]; omega
      go_wp2
      go_roundg (xs.length - (j + 1))
      case measure => omega
      case rel => exact ⟨j + 1, n + p.length, by go_num, by go_num, by omega, by omega, ⟨by have h1 := HN.out; have h2 := HNN.out; omega⟩, HB⟩
    · obtain rfl : j = xs.length := by omega
      have hlt1 : ¬ (xs.length : Int) < (xs.length : Int) := by omega
      have HNE := HN.out
      rw [List.drop_of_length_le (Nat.le_refl _)] at HNE
      have hn : n = lenS xs := by simpa [lenS] using HNE
      subst hn
      clear HN HNE
      have HG := Aside0.mk (grow_nil (lenS xs) h0 hm wr)
      go_wp2_with fail
      refine HG.out.mono ?_
      rintro e w2 ⟨v2, rfl, hR2, hb2⟩
      obtain ⟨A2, c2, rfl⟩ := Kd.R_slice hR2
      have HR2 := Aside0.mk (Kd.R_lower hR2 HB.out.size)
      have HB2 := Aside0.mk (below_step HB.out hb2)
      clear hR2 hb2 HG
      have HF2 := Aside0.mk (show Kd.R (Kd.int .i64) 2 w2 w.heap.size (fun _ => True) (.slice A2 ([] : List Int).length c2) (xs.take 0).flatten from by simpa using HR2.out)
      clear HR2
      go_wp2
      go_loopg [6, 27] xs.length (fun gg s6 s27 wr => ∃ (j : Nat) (v : Value), s6 = v ∧ s27 = .int .i64 j ∧ j ≤ xs.length ∧ xs.length - j ≤ gg ∧ Aside0 (Kd.R (Kd.int .i64) 2 wr w.heap.size (fun _ => True) v (xs.take j).flatten) ∧ Aside0 (Below w.heap.size w wr))
      case atStart => exact ⟨0, _, rfl, rfl, by omega, by omega, HF2, HB2⟩
      case round =>
        obtain ⟨j, v, rfl, rfl, hj, hgg, HV, HBr⟩ := hrel
        by_cases hlt : j < xs.length
        · have hlt1 : (j : Int) < (xs.length : Int) := by omega
          have hj0 : (0 : Int) ≤ (j : Int) := by omega
          obtain ⟨ad, Ap, cp, e, hx, hlp, hCp⟩ := at_rows HC.out j hlt
          cases e
          replace hx := cell_blk_ne hx HBr.out
          have HCp := Aside0.mk (Kd.C_below hCp HBr.out)
          have HFN := Aside0.mk (flat_next xs j hlt)
          have hfl : (xs.take j).flatten.length + (rdL xs j).length ≤ 1000000 := by
            have h1 := HFN.out
            have h2 := congrArg List.length h1
            rw [List.length_append] at h2
            have h3 := lenS_flat (xs.take (j + 1))
            have h4 : lenS (xs.take (j + 1)) ≤ lenS xs := by
              have h5 := lenS_flat xs
              have h6 : xs.flatten = (xs.take (j + 1)).flatten ++ (xs.drop (j + 1)).flatten := by
                rw [← List.flatten_append, List.take_append_drop]
              have h7 := congrArg List.length h6
              rw [List.length_append] at h7
              omega
            omega
          obtain ⟨p, hpe⟩ : ∃ p, p = rdL xs j := ⟨_, rfl⟩
          rw [← hpe] at hx hlp HFN hfl HCp
          clear hpe hCp
          go_wp2_with (at_builtin; refine Kd.R_append_rows (Kd.int .i64) (w0 := w) w.heap.size rfl (.tmp 31) (.tmp 32) 22 2 (.int .i64 0) 8 rfl Try.underlying22 of_info rfl (by decide) (by omega) _ (xs.take j).flatten p _ _ _ (fun _ => True) (fun _ => False) rfl rfl HV.out HCp.out (fun _ _ h => h) (fun _ h => h.elim) (fun _ _ => trivial) HBr.out HBr.out.size (by omega) ?_; intro v1 w9 ho hb hg hat)
          go_roundg (xs.length - (j + 1))
          case measure => omega
          case rel => exact ⟨j + 1, _, rfl, by go_num, by omega, by omega, ⟨by rw [HFN.out]; exact ho⟩, ⟨hb⟩⟩
        · obtain rfl : j = xs.length := by omega
          have hlt1 : ¬ (xs.length : Int) < (xs.length : Int) := by omega
          go_wp2
          go_ret
          refine ⟨_, rfl, ?_, HBr.out⟩
          have h := HV.out
          rwa [List.take_length] at h
end Go.Proofs.Ythbfaefneoeadaa.DG
