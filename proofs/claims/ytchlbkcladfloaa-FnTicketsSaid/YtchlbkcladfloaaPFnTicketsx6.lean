-- WALKS, by a program and by hand
import Derived.Test.YtchlbkcladfloaaPFnTicketsx0
import Derived.Test.YtchlbkcladfloaaPFnTicketsx1
import Derived.Test.YtchlbkcladfloaaPFnTicketsx2
import Derived.Test.YtchlbkcladfloaaPFnTicketsx3
namespace Go.Proofs.Ytchlbkcladfloaa.PFnTickets
open Go.RowKit Go.Proofs.Ytchlbkcladfloaa.DG Go.Proofs.YtchlbkcladfloaaW.PrintWords Go.Proofs.YtchlbkcladfloaaW.PrintLast Go.Proofs.YtchlbkcladfloaaW.PrintMore
attribute [local go_sem] max2_int min2_int max_two min_two max_three min_three max_four min_four   -- for this text's walks alone
set_option linter.unusedVariables false
set_option linter.unusedSimpArgs false

/-! ### impl_TicketOf: function 23 -/
def impl_TicketOf.l0 : Nat → List Int → Int → List Int → Int → Int → Int → Int → Int → Int → Option (Int × Int)
  | 0, _, _, _, _, _, _, _, _, _ => none
  | k + 1, x1, x6, x12, x13, x14, x366000, x366001, x366002, x366003 => if x14 < x13 then (if 0 ≤ x14 then (if x14 < (x12.length : Int) then (if (rd x12 x14) < 0 then (some (0, 2)) else (if (rd x12 x14) ≥ x366000 then (some (0, 2)) else (if x14 > 0 then (if 0 ≤ (wrap64 (x14 - 1)) then (if (wrap64 (x14 - 1)) < (x1.length : Int) then (if (rd x12 x14) ≤ (rd x1 (wrap64 (x14 - 1))) then (some (0, 2)) else (if 0 ≤ (rd x12 x14) then (impl_TicketOf.l0 k x1 (Go.bits .or .i64 x6 (shl .i64 1 (rd x12 x14))) x12 x13 (wrap64 (x14 + 1)) x366000 x366001 x366002 x366003) else (none))) else (none)) else (none)) else (if 0 ≤ (rd x12 x14) then (impl_TicketOf.l0 k x1 (Go.bits .or .i64 x6 (shl .i64 1 (rd x12 x14))) x12 x13 (wrap64 (x14 + 1)) x366000 x366001 x366002 x366003) else (none))))) else (none)) else (none)) else (if (x1.length : Int) = x366001 then (some (x6, 0)) else (some (0, 2)))
def impl_TicketOf.f (k : Nat) (a0_0 : Int) (a0_1 : Int) (a0_2 : Int) (a0_3 : Int) (l1 : List Int) : Option (Int × Int) := (impl_IsLottery.f a0_0 a0_1 a0_2 a0_3).bind fun t100 => (if t100 = true then (impl_TicketOf.l0 k l1 0 l1 (l1.length : Int) 0 a0_0 a0_1 a0_2 a0_3) else (some (0, 1)))
theorem impl_TicketOf.mono_l : ∀ k, (∀ y0 y1 y2 y3 y4 y5 y6 y7 y8, LeO (impl_TicketOf.l0 k y0 y1 y2 y3 y4 y5 y6 y7 y8) (impl_TicketOf.l0 (k + 1) y0 y1 y2 y3 y4 y5 y6 y7 y8))
  | 0 => fun _ _ _ _ _ _ _ _ _ r h => by simp [impl_TicketOf.l0] at h
  | k + 1 => by
    have ih0 := impl_TicketOf.mono_l k
    · intro y0 y1 y2 y3 y4 y5 y6 y7 y8
      unfold impl_TicketOf.l0
      repeat' first
      | (with_reducible exact ih0 _ _ _ _ _ _ _ _ _)
      | (with_reducible exact LeO.refl _)
      | (with_reducible exact LeO.none _)
      | (with_reducible refine LeO.ite ?_ ?_)
      | (with_reducible refine LeO.bind ?_ (fun _ => ?_))
theorem impl_TicketOf.mono : ∀ a0 a1 a2 a3 a4 k, LeO (impl_TicketOf.f k a0 a1 a2 a3 a4) (impl_TicketOf.f (k + 1) a0 a1 a2 a3 a4) := by
  intro a0 a1 a2 a3 a4 k
  have ih0 := impl_TicketOf.mono_l k
  unfold impl_TicketOf.f
  repeat' first
      | (with_reducible exact ih0 _ _ _ _ _ _ _ _ _)
      | (with_reducible exact LeO.refl _)
      | (with_reducible exact LeO.none _)
      | (with_reducible refine LeO.ite ?_ ?_)
      | (with_reducible refine LeO.bind ?_ (fun _ => ?_))
set_option maxHeartbeats 8000000 in
set_option maxRecDepth 100000 in
theorem impl_TicketOf.calls (k : Nat) (a0_0 : Int) (a0_1 : Int) (a0_2 : Int) (a0_3 : Int) (A1 : Option Addr) (c1 : Nat) (l1 : List Int) (r1 : Int) (r2 : Int) (w : World) (hr1 : Kd.C (Kd.int .i64) w A1 l1.length l1) (hc1 : l1.length ≤ c1) (h : impl_TicketOf.f k a0_0 a0_1 a0_2 a0_3 l1 = some (r1, r2)) :
    Calls Try.prog 23 #[.agg #[.int .i64 a0_0, .int .i64 a0_1, .int .i64 a0_2, .int .i64 a0_3], .slice A1 l1.length c1] w fun e w' => e = .returned (.tuple #[.int .i64 r1, .int .i64 r2]) ∧ Below w.heap.size w w' := by
  have hu27 := Try.underlying27
  have HR1 := Aside0.mk hr1
  have HC1 := Aside0.mk hc1
  clear hr1 hc1
  have HB := Aside0.mk (Below.refl w.heap.size w)
  have H := h
  unfold impl_TicketOf.f at H
  (try dsimp -simprocs only at H)
  clear h
  replace H := Option.bind_eq_some_iff.mp H
  obtain ⟨t100, A30, H⟩ := H
  (try dsimp -simprocs only at H)
  have A3 := Aside0.mk A30
  clear A30
  by_cases c4 : t100 = true
  · subst c4
    have H1 : (impl_TicketOf.l0 k l1 0 l1 (l1.length : Int) 0 a0_0 a0_1 a0_2 a0_3) = some (r1, r2) := by rw [if_pos rfl] at H; exact H
    clear H
    have H := H1
    clear H1
    have H' := Aside0.mk H
    clear H
    go_enter Try.func23, Try.ntmps23
    go_wp2_with (first | ((with_reducible refine gate_dst (N := 2) rfl ?_); refine box_event ?hg (N := 2) ?hd (cs := #[.int .i64 a0_0, .int .i64 a0_1, .int .i64 a0_2, .int .i64 a0_3]) (t := 27) ?hr ?_; (case hd => rfl); (case hg => rfl); (case hr => first | (go_simp; done) | (go_simp; rfl)); intro gb101 hg w5 hbox hb; have n0_ := Aside0.mk (below_step z1 hb); have n1_ := Aside0.mk (hbox); have n2_ := Aside0.mk ((z122 : w.heap.size ≤ gb101)); have n3_ := Aside0.mk ((z122 : w.heap.size ≤ gb101)); clear HB; have HB := n0_; have BK101 := n1_; have GW101 := n2_; have GE101 := n3_; clear n0_ n1_ n2_ n3_; clear hb hbox hg; obtain ⟨hcz6_0, hcz6_1, hcz6_2, hcz6_3, hfz6_0, hfz6_1, hfz6_2, hfz6_3⟩ := zC4 BK101.out) | ((with_reducible refine gate_callee (f := 37) rfl ?_); refine goesL_ (some 10) rfl rfl Try.func37 (by kernel_rfl) rfl #[.agg #[.int .i64 a0_0, .int .i64 a0_1, .int .i64 a0_2, .int .i64 a0_3]] rfl z2 ?_; (with_reducible refine (impl_IsLottery.calls a0_0 a0_1 a0_2 a0_3 true _ A3.out).mono ?_); rintro e w7 ⟨rfl, hb⟩; refine ⟨_, rfl, ?_⟩; have n0_ := zBB BK101 hb; have n1_ := Aside0.mk (below_step z17 hb); clear BK101 HB; have BK101 := n0_; have HB := n1_; clear n0_ n1_; (try clear hb); (try clear hb2); (try clear hk); (try clear hi)))
    go_loopg [6, 14] k (fun kq v6 v14 w' => ∃ (x6_1 : Int) (x14_1 : Int), v6 = .int .i64 x6_1 ∧ v14 = .int .i64 x14_1 ∧ Aside0 (impl_TicketOf.l0 kq l1 x6_1 l1 (l1.length : Int) x14_1 a0_0 a0_1 a0_2 a0_3 = some (r1, r2)) ∧ Aside0 (kq ≤ k) ∧ Aside0 (w'.heap[gb101]? = some (.cells #[.int .i64 a0_0, .int .i64 a0_1, .int .i64 a0_2, .int .i64 a0_3] 27 (0, 0))) ∧ Aside0 (Below w.heap.size w w'))
    case atStart => exact ⟨(0), (0), z16, z16, H', ⟨Nat.le_refl _⟩, ⟨z76⟩, ⟨z17⟩⟩
    case round =>
      clear H'
      try clear c1
      try clear c2
      try clear p2
      try clear c3
      try clear c4
      try clear hcz6_0
      try clear hcz6_1
      try clear hcz6_2
      try clear hcz6_3
      try clear hfz6_0
      try clear hfz6_1
      try clear hfz6_2
      try clear hfz6_3
      obtain ⟨x6_1, x14_1, rfl, rfl, HA, HK1, BK101, HB⟩ := hrel
      cases gk with
      | zero => exact absurd HA.out (by simp [impl_TicketOf.l0])
      | succ k1 =>
        have H := HA.out
        clear HA
        simp only [impl_TicketOf.l0] at H
        by_cases c8 : x14_1 < (l1.length : Int)
        · rw [if_pos c8] at H
          have c8b0 : decide (x14_1 < (l1.length : Int)) = true := decide_eq_true c8
          clear c8
          by_cases c9 : 0 ≤ x14_1
          · rw [if_pos c9] at H
            have c9b0 : decide (0 ≤ x14_1) = true := decide_eq_true c9
            clear c9
            by_cases c10 : x14_1 < (l1.length : Int)
            · rw [if_pos c10] at H
              have c10b0 : decide (x14_1 < (l1.length : Int)) = true := decide_eq_true c10
              clear c10
              by_cases c11 : (rd l1 x14_1) < 0
              · rw [if_pos c11] at H
                have c11b0 : decide ((rd l1 x14_1) < 0) = true := decide_eq_true c11
                clear c11
                simp only [Option.some.injEq, Prod.mk.injEq] at H
                obtain ⟨rfl, rfl⟩ := H
                have p367 : 0 ≤ (x14_1 : Int) := of_decide_eq_true z9
                have q367 : x14_1 < (l1.length : Int) := of_decide_eq_true z9
                obtain ⟨ad367, e367, hx367_0⟩ := Kd.at_int HR1.out x14_1 p367 q367
                cases e367
                try replace hx367_0 := (HB.out.cell (World.block_lt_of_cell? w _ hx367_0)).trans hx367_0
                replace p367 := eq_true p367
                replace q367 := eq_true q367
                go_wp2
                go_ret2
                exact ⟨z6, z17⟩
              · rw [if_neg c11] at H
                have c11b0 : decide ((rd l1 x14_1) < 0) = false := decide_eq_false c11
                clear c11
                by_cases c12 : (rd l1 x14_1) ≥ a0_0
                · rw [if_pos c12] at H
                  have c12b0 : decide (a0_0 ≤ (rd l1 x14_1)) = true := decide_eq_true c12
                  clear c12
                  simp only [Option.some.injEq, Prod.mk.injEq] at H
                  obtain ⟨rfl, rfl⟩ := H
                  have p367 : 0 ≤ (x14_1 : Int) := of_decide_eq_true z9
                  have q367 : x14_1 < (l1.length : Int) := of_decide_eq_true z9
                  obtain ⟨ad367, e367, hx367_0⟩ := Kd.at_int HR1.out x14_1 p367 q367
                  cases e367
                  try replace hx367_0 := (HB.out.cell (World.block_lt_of_cell? w _ hx367_0)).trans hx367_0
                  replace p367 := eq_true p367
                  replace q367 := eq_true q367
                  obtain ⟨hcz13_0, hcz13_1, hcz13_2, hcz13_3, hfz13_0, hfz13_1, hfz13_2, hfz13_3⟩ := zC4 BK101.out
                  go_wp2
                  go_ret2
                  exact ⟨z6, z17⟩
                · rw [if_neg c12] at H
                  have c12b0 : decide (a0_0 ≤ (rd l1 x14_1)) = false := decide_eq_false c12
                  clear c12
                  by_cases c14 : x14_1 > 0
                  · rw [if_pos c14] at H
                    have c14b0 : decide (0 < x14_1) = true := decide_eq_true c14
                    clear c14
                    obtain ⟨ji15, hji15⟩ : ∃ j_ : Int, (wrap64 (x14_1 - 1)) = j_ := ⟨_, rfl⟩
                    replace H : (if 0 ≤ (ji15) then (if (ji15) < (l1.length : Int) then (if (rd l1 x14_1) ≤ (rd l1 (ji15)) then (some (0, 2)) else (if 0 ≤ (rd l1 x14_1) then (impl_TicketOf.l0 k1 l1 (Go.bits .or .i64 x6_1 (shl .i64 1 (rd l1 x14_1))) l1 (l1.length : Int) (wrap64 (x14_1 + 1)) a0_0 a0_1 a0_2 a0_3) else (none))) else (none)) else (none)) = some (r1, r2) := by first | (rw [hji15] at H; exact H) | (simp only [hji15] at H ⊢; exact H)
                    have hji15w : (IntKind.i64.wrap (x14_1 - 1)) = ji15 := (i64_w _).trans hji15
                    by_cases c16 : 0 ≤ (ji15)
                    · rw [if_pos c16] at H
                      have c16b0 : decide (0 ≤ (ji15)) = true := decide_eq_true c16
                      clear c16
                      by_cases c17 : (ji15) < (l1.length : Int)
                      · rw [if_pos c17] at H
                        have c17b0 : decide ((ji15) < (l1.length : Int)) = true := decide_eq_true c17
                        clear c17
                        by_cases c18 : (rd l1 x14_1) ≤ (rd l1 (ji15))
                        · rw [if_pos c18] at H
                          have c18b0 : decide ((rd l1 x14_1) ≤ (rd l1 (ji15))) = true := decide_eq_true c18
                          clear c18
                          simp only [Option.some.injEq, Prod.mk.injEq] at H
                          obtain ⟨rfl, rfl⟩ := H
                          have p367 : 0 ≤ (x14_1 : Int) := of_decide_eq_true z9
                          have q367 : x14_1 < (l1.length : Int) := of_decide_eq_true z9
                          obtain ⟨ad367, e367, hx367_0⟩ := Kd.at_int HR1.out x14_1 p367 q367
                          cases e367
                          try replace hx367_0 := (HB.out.cell (World.block_lt_of_cell? w _ hx367_0)).trans hx367_0
                          replace p367 := eq_true p367
                          replace q367 := eq_true q367
                          obtain ⟨hcz19_0, hcz19_1, hcz19_2, hcz19_3, hfz19_0, hfz19_1, hfz19_2, hfz19_3⟩ := zC4 BK101.out
                          have p368 : 0 ≤ ((ji15) : Int) := of_decide_eq_true z9
                          have q368 : (ji15) < (l1.length : Int) := of_decide_eq_true z9
                          obtain ⟨ad368, e368, hx368_0⟩ := Kd.at_int HR1.out (ji15) p368 q368
                          obtain rfl : ad367 = ad368 := (by injection e368)
                          try replace hx368_0 := (HB.out.cell (World.block_lt_of_cell? w _ hx368_0)).trans hx368_0
                          replace p368 := eq_true p368
                          replace q368 := eq_true q368
                          go_wp2
                          go_ret2
                          exact ⟨(by first | rfl | (simp [errW_none, errW_some] <;> rfl) | (simp only [← hji15]; first | rfl | (simp [errW_none, errW_some] <;> rfl)) | (simp [*, errW_none, errW_some] <;> rfl)), z17⟩
                        · rw [if_neg c18] at H
                          have c18b0 : decide ((rd l1 x14_1) ≤ (rd l1 (ji15))) = false := decide_eq_false c18
                          clear c18
                          by_cases c20 : 0 ≤ (rd l1 x14_1)
                          · rw [if_pos c20] at H
                            have c20b0 := eq_true c20
                            have c20b1 : decide (0 ≤ (rd l1 x14_1)) = true := decide_eq_true c20
                            clear c20
                            obtain ⟨ji21, hji21⟩ : ∃ j_ : Int, (shl .i64 1 (rd l1 x14_1)) = j_ := ⟨_, rfl⟩
                            replace H : (impl_TicketOf.l0 k1 l1 (Go.bits .or .i64 x6_1 (ji21)) l1 (l1.length : Int) (wrap64 (x14_1 + 1)) a0_0 a0_1 a0_2 a0_3) = some (r1, r2) := by first | (rw [hji21] at H; exact H) | (simp only [hji21] at H ⊢; exact H)
                            have hji21_ : (IntKind.i64.wrap (1 * 2 ^ min (rd l1 x14_1).toNat 64)) = ji21 := hji21
                            have hji21z : (rd l1 x14_1) ≤ 64 → (IntKind.i64.wrap (1 * 2 ^ (rd l1 x14_1).toNat)) = ji21 := shl_small hji21
                            have hji21u : (IntKind.i64.wrap (2 ^ min (rd l1 x14_1).toNat 64)) = ji21 := by have h_ := hji21_; rw [Int.one_mul] at h_; exact h_
                            have hji21v : (rd l1 x14_1) ≤ 64 → (IntKind.i64.wrap (2 ^ (rd l1 x14_1).toNat)) = ji21 := fun hle_ => by have h_ := hji21z hle_; rw [Int.one_mul] at h_; exact h_
                            have hji21y : (wrap64 (1 * 2 ^ min (rd l1 x14_1).toNat 64)) = ji21 := (i64_w _).symm.trans hji21_
                            have hji21x : (rd l1 x14_1) ≤ 64 → (wrap64 (1 * 2 ^ (rd l1 x14_1).toNat)) = ji21 := fun h_ => (i64_w _).symm.trans (hji21z h_)
                            have H' := Aside0.mk H
                            clear H
                            have p367 : 0 ≤ (x14_1 : Int) := of_decide_eq_true z9
                            have q367 : x14_1 < (l1.length : Int) := of_decide_eq_true z9
                            obtain ⟨ad367, e367, hx367_0⟩ := Kd.at_int HR1.out x14_1 p367 q367
                            cases e367
                            try replace hx367_0 := (HB.out.cell (World.block_lt_of_cell? w _ hx367_0)).trans hx367_0
                            replace p367 := eq_true p367
                            replace q367 := eq_true q367
                            obtain ⟨hcz22_0, hcz22_1, hcz22_2, hcz22_3, hfz22_0, hfz22_1, hfz22_2, hfz22_3⟩ := zC4 BK101.out
                            have p368 : 0 ≤ ((ji15) : Int) := of_decide_eq_true z9
                            have q368 : (ji15) < (l1.length : Int) := of_decide_eq_true z9
                            obtain ⟨ad368, e368, hx368_0⟩ := Kd.at_int HR1.out (ji15) p368 q368
                            obtain rfl : ad367 = ad368 := (by injection e368)
                            try replace hx368_0 := (HB.out.cell (World.block_lt_of_cell? w _ hx368_0)).trans hx368_0
                            replace p368 := eq_true p368
                            replace q368 := eq_true q368
                            go_wp2
                            go_roundg k1
                            case measure => have := HK1.out; omega
                            case rel => exact ⟨(Go.bits .or .i64 x6_1 (ji21)), (wrap64 (x14_1 + 1)), (by first | rfl | (simp; done) | (simp only [← hji21] <;> (first | rfl | simp)) | (simp [*]; done)), z16, H', ⟨z79⟩, ⟨z76⟩, ⟨z17⟩⟩
                          · rw [if_neg c20] at H
                            exact absurd H (by simp)
                      · rw [if_neg c17] at H
                        exact absurd H (by simp)
                    · rw [if_neg c16] at H
                      exact absurd H (by simp)
                  · rw [if_neg c14] at H
                    have c14b0 : decide (0 < x14_1) = false := decide_eq_false c14
                    clear c14
                    by_cases c23 : 0 ≤ (rd l1 x14_1)
                    · rw [if_pos c23] at H
                      have c23b0 := eq_true c23
                      have c23b1 : decide (0 ≤ (rd l1 x14_1)) = true := decide_eq_true c23
                      clear c23
                      obtain ⟨ji24, hji24⟩ : ∃ j_ : Int, (shl .i64 1 (rd l1 x14_1)) = j_ := ⟨_, rfl⟩
                      replace H : (impl_TicketOf.l0 k1 l1 (Go.bits .or .i64 x6_1 (ji24)) l1 (l1.length : Int) (wrap64 (x14_1 + 1)) a0_0 a0_1 a0_2 a0_3) = some (r1, r2) := by first | (rw [hji24] at H; exact H) | (simp only [hji24] at H ⊢; exact H)
                      have hji24_ : (IntKind.i64.wrap (1 * 2 ^ min (rd l1 x14_1).toNat 64)) = ji24 := hji24
                      have hji24z : (rd l1 x14_1) ≤ 64 → (IntKind.i64.wrap (1 * 2 ^ (rd l1 x14_1).toNat)) = ji24 := shl_small hji24
                      have hji24u : (IntKind.i64.wrap (2 ^ min (rd l1 x14_1).toNat 64)) = ji24 := by have h_ := hji24_; rw [Int.one_mul] at h_; exact h_
                      have hji24v : (rd l1 x14_1) ≤ 64 → (IntKind.i64.wrap (2 ^ (rd l1 x14_1).toNat)) = ji24 := fun hle_ => by have h_ := hji24z hle_; rw [Int.one_mul] at h_; exact h_
                      have hji24y : (wrap64 (1 * 2 ^ min (rd l1 x14_1).toNat 64)) = ji24 := (i64_w _).symm.trans hji24_
                      have hji24x : (rd l1 x14_1) ≤ 64 → (wrap64 (1 * 2 ^ (rd l1 x14_1).toNat)) = ji24 := fun h_ => (i64_w _).symm.trans (hji24z h_)
                      have H' := Aside0.mk H
                      clear H
                      have p367 : 0 ≤ (x14_1 : Int) := of_decide_eq_true z9
                      have q367 : x14_1 < (l1.length : Int) := of_decide_eq_true z9
                      obtain ⟨ad367, e367, hx367_0⟩ := Kd.at_int HR1.out x14_1 p367 q367
                      cases e367
                      try replace hx367_0 := (HB.out.cell (World.block_lt_of_cell? w _ hx367_0)).trans hx367_0
                      replace p367 := eq_true p367
                      replace q367 := eq_true q367
                      obtain ⟨hcz25_0, hcz25_1, hcz25_2, hcz25_3, hfz25_0, hfz25_1, hfz25_2, hfz25_3⟩ := zC4 BK101.out
                      go_wp2
                      go_roundg k1
                      case measure => have := HK1.out; omega
                      case rel => exact ⟨(Go.bits .or .i64 x6_1 (ji24)), (wrap64 (x14_1 + 1)), z120, z16, H', ⟨z79⟩, ⟨z76⟩, ⟨z17⟩⟩
                    · rw [if_neg c23] at H
                      exact absurd H (by simp)
            · rw [if_neg c10] at H
              exact absurd H (by simp)
          · rw [if_neg c9] at H
            exact absurd H (by simp)
        · rw [if_neg c8] at H
          have c8b0 : decide (x14_1 < (l1.length : Int)) = false := decide_eq_false c8
          clear c8
          by_cases c26 : (l1.length : Int) = a0_1
          · rw [if_pos c26] at H
            have c26b0 : ((l1.length : Int) == a0_1) = true := beq_iff_eq.mpr c26
            have c26b1 : ((l1.length : Int) != a0_1) = false := bne_eq_false_iff_eq.mpr c26
            clear c26
            simp only [Option.some.injEq, Prod.mk.injEq] at H
            obtain ⟨rfl, rfl⟩ := H
            obtain ⟨hcz27_0, hcz27_1, hcz27_2, hcz27_3, hfz27_0, hfz27_1, hfz27_2, hfz27_3⟩ := zC4 BK101.out
            go_wp2
            go_ret2
            exact ⟨z6, z17⟩
          · rw [if_neg c26] at H
            have c26b0 : ((l1.length : Int) == a0_1) = false := beq_eq_false_iff_ne.mpr c26
            have c26b1 : ((l1.length : Int) != a0_1) = true := bne_iff_ne.mpr c26
            simp only [Option.some.injEq, Prod.mk.injEq] at H
            obtain ⟨rfl, rfl⟩ := H
            obtain ⟨hcz28_0, hcz28_1, hcz28_2, hcz28_3, hfz28_0, hfz28_1, hfz28_2, hfz28_3⟩ := zC4 BK101.out
            go_wp2
            go_ret2
            exact ⟨z6, z17⟩
  · replace c4 := Bool.eq_false_iff.mpr c4
    subst c4
    have H1 : (some (0, 1)) = some (r1, r2) := by rw [if_neg (show ¬ (false = true) by decide)] at H; exact H
    clear H
    have H := H1
    clear H1
    simp only [Option.some.injEq, Prod.mk.injEq] at H
    obtain ⟨rfl, rfl⟩ := H
    go_enter Try.func23, Try.ntmps23
    go_wp2_with (first | ((with_reducible refine gate_dst (N := 2) rfl ?_); refine box_event ?hg (N := 2) ?hd (cs := #[.int .i64 a0_0, .int .i64 a0_1, .int .i64 a0_2, .int .i64 a0_3]) (t := 27) ?hr ?_; (case hd => rfl); (case hg => rfl); (case hr => first | (go_simp; done) | (go_simp; rfl)); intro gb101 hg w29 hbox hb; have n0_ := Aside0.mk (below_step z1 hb); have n1_ := Aside0.mk (hbox); have n2_ := Aside0.mk ((z122 : w.heap.size ≤ gb101)); have n3_ := Aside0.mk ((z122 : w.heap.size ≤ gb101)); clear HB; have HB := n0_; have BK101 := n1_; have GW101 := n2_; have GE101 := n3_; clear n0_ n1_ n2_ n3_; clear hb hbox hg; obtain ⟨hcz30_0, hcz30_1, hcz30_2, hcz30_3, hfz30_0, hfz30_1, hfz30_2, hfz30_3⟩ := zC4 BK101.out) | ((with_reducible refine gate_callee (f := 37) rfl ?_); refine goesL_ (some 10) rfl rfl Try.func37 (by kernel_rfl) rfl #[.agg #[.int .i64 a0_0, .int .i64 a0_1, .int .i64 a0_2, .int .i64 a0_3]] rfl z2 ?_; (with_reducible refine (impl_IsLottery.calls a0_0 a0_1 a0_2 a0_3 false _ A3.out).mono ?_); rintro e w31 ⟨rfl, hb⟩; refine ⟨_, rfl, ?_⟩; have n0_ := zBB BK101 hb; have n1_ := Aside0.mk (below_step z17 hb); clear BK101 HB; have BK101 := n0_; have HB := n1_; clear n0_ n1_; (try clear hb); (try clear hb2); (try clear hk); (try clear hi)))
    go_ret2
    exact ⟨z6, z17⟩

/-! ### spec_TicketOf: function 24 -/
def spec_TicketOf.l0 : Nat → List Int → Int → Int → Int → Int → Int → Int → Option (Int × Int)
  | 0, _, _, _, _, _, _, _ => none
  | k + 1, x1, x6, x7, x370000, x370001, x370002, x370003 => if x7 < (x1.length : Int) then (if 0 ≤ x7 then ((spec_l01In.f (rd x1 x7) 0 (wrap64 (x370000 - 1))).bind fun t100 => (if t100 = true then (if x7 > 0 then (if 0 ≤ (wrap64 (x7 - 1)) then (if (wrap64 (x7 - 1)) < (x1.length : Int) then (if (rd x1 (wrap64 (x7 - 1))) ≥ (rd x1 x7) then (some (0, 2)) else (if 0 ≤ (IntKind.u64.wrap (rd x1 x7)) then (spec_TicketOf.l0 k x1 (Go.bits .or .i64 x6 (shl .i64 1 (IntKind.u64.wrap (rd x1 x7)))) (wrap64 (x7 + 1)) x370000 x370001 x370002 x370003) else (none))) else (none)) else (none)) else (if 0 ≤ (IntKind.u64.wrap (rd x1 x7)) then (spec_TicketOf.l0 k x1 (Go.bits .or .i64 x6 (shl .i64 1 (IntKind.u64.wrap (rd x1 x7)))) (wrap64 (x7 + 1)) x370000 x370001 x370002 x370003) else (none))) else (some (0, 2)))) else (none)) else (if (x1.length : Int) = x370001 then (some (x6, 0)) else (some (0, 2)))
def spec_TicketOf.f (k : Nat) (a0_0 : Int) (a0_1 : Int) (a0_2 : Int) (a0_3 : Int) (l1 : List Int) : Option (Int × Int) := (spec_l08Is.f a0_0 a0_1 a0_2 a0_3).bind fun t101 => (if t101 = true then (spec_TicketOf.l0 k l1 0 0 a0_0 a0_1 a0_2 a0_3) else (some (0, 1)))
theorem spec_TicketOf.mono_l : ∀ k, (∀ y0 y1 y2 y3 y4 y5 y6, LeO (spec_TicketOf.l0 k y0 y1 y2 y3 y4 y5 y6) (spec_TicketOf.l0 (k + 1) y0 y1 y2 y3 y4 y5 y6))
  | 0 => fun _ _ _ _ _ _ _ r h => by simp [spec_TicketOf.l0] at h
  | k + 1 => by
    have ih0 := spec_TicketOf.mono_l k
    · intro y0 y1 y2 y3 y4 y5 y6
      unfold spec_TicketOf.l0
      repeat' first
      | (with_reducible exact ih0 _ _ _ _ _ _ _)
      | (with_reducible exact LeO.refl _)
      | (with_reducible exact LeO.none _)
      | (with_reducible refine LeO.ite ?_ ?_)
      | (with_reducible refine LeO.bind ?_ (fun _ => ?_))
theorem spec_TicketOf.mono : ∀ a0 a1 a2 a3 a4 k, LeO (spec_TicketOf.f k a0 a1 a2 a3 a4) (spec_TicketOf.f (k + 1) a0 a1 a2 a3 a4) := by
  intro a0 a1 a2 a3 a4 k
  have ih0 := spec_TicketOf.mono_l k
  unfold spec_TicketOf.f
  repeat' first
      | (with_reducible exact ih0 _ _ _ _ _ _ _)
      | (with_reducible exact LeO.refl _)
      | (with_reducible exact LeO.none _)
      | (with_reducible refine LeO.ite ?_ ?_)
      | (with_reducible refine LeO.bind ?_ (fun _ => ?_))
set_option maxHeartbeats 8000000 in
set_option maxRecDepth 100000 in
theorem spec_TicketOf.calls (k : Nat) (a0_0 : Int) (a0_1 : Int) (a0_2 : Int) (a0_3 : Int) (A1 : Option Addr) (c1 : Nat) (l1 : List Int) (r1 : Int) (r2 : Int) (w : World) (hr1 : Kd.C (Kd.int .i64) w A1 l1.length l1) (hc1 : l1.length ≤ c1) (h : spec_TicketOf.f k a0_0 a0_1 a0_2 a0_3 l1 = some (r1, r2)) :
    Calls Try.prog 24 #[.agg #[.int .i64 a0_0, .int .i64 a0_1, .int .i64 a0_2, .int .i64 a0_3], .slice A1 l1.length c1] w fun e w' => e = .returned (.tuple #[.int .i64 r1, .int .i64 r2]) ∧ Below w.heap.size w w' := by
  have hu27 := Try.underlying27
  have HR1 := Aside0.mk hr1
  have HC1 := Aside0.mk hc1
  clear hr1 hc1
  have HB := Aside0.mk (Below.refl w.heap.size w)
  have H : ((spec_l08Is.f a0_0 a0_1 a0_2 a0_3).bind fun t101 => (if t101 = true then (spec_TicketOf.l0 k l1 0 0 a0_0 a0_1 a0_2 a0_3) else (some (0, 1)))) = some (r1, r2) := h
  clear h
  replace H := Option.bind_eq_some_iff.mp H
  obtain ⟨t101, A30, H⟩ := H
  (try dsimp -simprocs only at H)
  have A3 := Aside0.mk A30
  clear A30
  by_cases c4 : t101 = true
  · subst c4
    have H1 : (spec_TicketOf.l0 k l1 0 0 a0_0 a0_1 a0_2 a0_3) = some (r1, r2) := by rw [if_pos rfl] at H; exact H
    clear H
    have H := H1
    clear H1
    have H' := Aside0.mk H
    clear H
    go_enter Try.func24, Try.ntmps24
    go_wp2_with (first | ((with_reducible refine gate_dst (N := 2) rfl ?_); refine box_event ?hg (N := 2) ?hd (cs := #[.int .i64 a0_0, .int .i64 a0_1, .int .i64 a0_2, .int .i64 a0_3]) (t := 27) ?hr ?_; (case hd => rfl); (case hg => rfl); (case hr => first | (go_simp; done) | (go_simp; rfl)); intro gb102 hg w5 hbox hb; have n0_ := Aside0.mk (below_step z1 hb); have n1_ := Aside0.mk (hbox); have n2_ := Aside0.mk ((z122 : w.heap.size ≤ gb102)); have n3_ := Aside0.mk ((z122 : w.heap.size ≤ gb102)); clear HB; have HB := n0_; have BK102 := n1_; have GW102 := n2_; have GE102 := n3_; clear n0_ n1_ n2_ n3_; clear hb hbox hg; obtain ⟨hcz6_0, hcz6_1, hcz6_2, hcz6_3, hfz6_0, hfz6_1, hfz6_2, hfz6_3⟩ := zC4 BK102.out) | (go_at_call 58; (with_reducible refine (spec_l08Is.calls a0_0 a0_1 a0_2 a0_3 true _ A3.out).mono ?_); rintro e w7 ⟨rfl, hb⟩; have n0_ := zBB BK102 hb; have n1_ := Aside0.mk (below_step z3 hb); clear BK102 HB; have BK102 := n0_; have HB := n1_; clear n0_ n1_; (try clear hb); (try clear hb2); (try clear hk); (try clear hi)))
    repeat (go_quiet (first | ((with_reducible refine gate_dst (N := 2) rfl ?_); refine box_event ?hg (N := 2) ?hd (cs := #[.int .i64 a0_0, .int .i64 a0_1, .int .i64 a0_2, .int .i64 a0_3]) (t := 27) ?hr ?_; (case hd => rfl); (case hg => rfl); (case hr => first | (go_simp; done) | (go_simp; rfl)); intro gb102 hg w5 hbox hb; have n0_ := Aside0.mk (below_step z1 hb); have n1_ := Aside0.mk (hbox); have n2_ := Aside0.mk ((z122 : w.heap.size ≤ gb102)); have n3_ := Aside0.mk ((z122 : w.heap.size ≤ gb102)); clear HB; have HB := n0_; have BK102 := n1_; have GW102 := n2_; have GE102 := n3_; clear n0_ n1_ n2_ n3_; clear hb hbox hg; obtain ⟨hcz6_0, hcz6_1, hcz6_2, hcz6_3, hfz6_0, hfz6_1, hfz6_2, hfz6_3⟩ := zC4 BK102.out) | (go_at_call 58; (with_reducible refine (spec_l08Is.calls a0_0 a0_1 a0_2 a0_3 true _ A3.out).mono ?_); rintro e w7 ⟨rfl, hb⟩; have n0_ := zBB BK102 hb; have n1_ := Aside0.mk (below_step z3 hb); clear BK102 HB; have BK102 := n0_; have HB := n1_; clear n0_ n1_; (try clear hb); (try clear hb2); (try clear hk); (try clear hi))); try go_wp2_with (first | ((with_reducible refine gate_dst (N := 2) rfl ?_); refine box_event ?hg (N := 2) ?hd (cs := #[.int .i64 a0_0, .int .i64 a0_1, .int .i64 a0_2, .int .i64 a0_3]) (t := 27) ?hr ?_; (case hd => rfl); (case hg => rfl); (case hr => first | (go_simp; done) | (go_simp; rfl)); intro gb102 hg w5 hbox hb; have n0_ := Aside0.mk (below_step z1 hb); have n1_ := Aside0.mk (hbox); have n2_ := Aside0.mk ((z122 : w.heap.size ≤ gb102)); have n3_ := Aside0.mk ((z122 : w.heap.size ≤ gb102)); clear HB; have HB := n0_; have BK102 := n1_; have GW102 := n2_; have GE102 := n3_; clear n0_ n1_ n2_ n3_; clear hb hbox hg; obtain ⟨hcz6_0, hcz6_1, hcz6_2, hcz6_3, hfz6_0, hfz6_1, hfz6_2, hfz6_3⟩ := zC4 BK102.out) | (go_at_call 58; (with_reducible refine (spec_l08Is.calls a0_0 a0_1 a0_2 a0_3 true _ A3.out).mono ?_); rintro e w7 ⟨rfl, hb⟩; have n0_ := zBB BK102 hb; have n1_ := Aside0.mk (below_step z3 hb); clear BK102 HB; have BK102 := n0_; have HB := n1_; clear n0_ n1_; (try clear hb); (try clear hb2); (try clear hk); (try clear hi))))
    go_loopg [6, 7] k (fun kq v6 v7 w' => ∃ (x6_1 : Int) (x7_1 : Int), v6 = .int .i64 x6_1 ∧ v7 = .int .i64 x7_1 ∧ Aside0 (spec_TicketOf.l0 kq l1 x6_1 x7_1 a0_0 a0_1 a0_2 a0_3 = some (r1, r2)) ∧ Aside0 (kq ≤ k) ∧ Aside0 (w'.heap[gb102]? = some (.cells #[.int .i64 a0_0, .int .i64 a0_1, .int .i64 a0_2, .int .i64 a0_3] 27 (0, 0))) ∧ Aside0 (Below w.heap.size w w'))
    case atStart => exact ⟨(0), (0), z16, z16, H', ⟨Nat.le_refl _⟩, ⟨z57⟩, ⟨z3⟩⟩
    case round =>
      clear H'
      try clear c1
      try clear c2
      try clear p2
      try clear c4
      try clear hcz6_0
      try clear hcz6_1
      try clear hcz6_2
      try clear hcz6_3
      try clear hfz6_0
      try clear hfz6_1
      try clear hfz6_2
      try clear hfz6_3
      obtain ⟨x6_1, x7_1, rfl, rfl, HA, HK1, BK102, HB⟩ := hrel
      cases gk with
      | zero => exact absurd HA.out (by simp [spec_TicketOf.l0])
      | succ k1 =>
        have H := HA.out
        clear HA
        simp only [spec_TicketOf.l0] at H
        by_cases c8 : x7_1 < (l1.length : Int)
        · rw [if_pos c8] at H
          have c8b0 : decide (x7_1 < (l1.length : Int)) = true := decide_eq_true c8
          clear c8
          by_cases c9 : 0 ≤ x7_1
          · rw [if_pos c9] at H
            have c9b0 : decide (0 ≤ x7_1) = true := decide_eq_true c9
            clear c9
            replace H := Option.bind_eq_some_iff.mp H
            obtain ⟨t100, A100, H⟩ := H
            (try dsimp -simprocs only at H)
            have A10 := Aside0.mk A100
            clear A100
            by_cases c11 : t100 = true
            · subst c11
              obtain ⟨jn0, hjn0⟩ : ∃ j_ : Int, wrap64 (a0_0 - 1) = j_ := ⟨_, rfl⟩
              rw [hjn0] at A10
              have hjn0w : IntKind.i64.wrap (a0_0 - 1) = jn0 := (i64_w _).trans hjn0
              have H1 : (if x7_1 > 0 then (if 0 ≤ (wrap64 (x7_1 - 1)) then (if (wrap64 (x7_1 - 1)) < (l1.length : Int) then (if (rd l1 (wrap64 (x7_1 - 1))) ≥ (rd l1 x7_1) then (some (0, 2)) else (if 0 ≤ (IntKind.u64.wrap (rd l1 x7_1)) then (spec_TicketOf.l0 k1 l1 (Go.bits .or .i64 x6_1 (shl .i64 1 (IntKind.u64.wrap (rd l1 x7_1)))) (wrap64 (x7_1 + 1)) a0_0 a0_1 a0_2 a0_3) else (none))) else (none)) else (none)) else (if 0 ≤ (IntKind.u64.wrap (rd l1 x7_1)) then (spec_TicketOf.l0 k1 l1 (Go.bits .or .i64 x6_1 (shl .i64 1 (IntKind.u64.wrap (rd l1 x7_1)))) (wrap64 (x7_1 + 1)) a0_0 a0_1 a0_2 a0_3) else (none))) = some (r1, r2) := by rw [if_pos rfl] at H; exact H
              clear H
              have H := H1
              clear H1
              by_cases c12 : x7_1 > 0
              · rw [if_pos c12] at H
                have c12b0 : decide (0 < x7_1) = true := decide_eq_true c12
                clear c12
                obtain ⟨ji13, hji13⟩ : ∃ j_ : Int, (wrap64 (x7_1 - 1)) = j_ := ⟨_, rfl⟩
                replace H : (if 0 ≤ (ji13) then (if (ji13) < (l1.length : Int) then (if (rd l1 (ji13)) ≥ (rd l1 x7_1) then (some (0, 2)) else (if 0 ≤ (IntKind.u64.wrap (rd l1 x7_1)) then (spec_TicketOf.l0 k1 l1 (Go.bits .or .i64 x6_1 (shl .i64 1 (IntKind.u64.wrap (rd l1 x7_1)))) (wrap64 (x7_1 + 1)) a0_0 a0_1 a0_2 a0_3) else (none))) else (none)) else (none)) = some (r1, r2) := by first | (rw [hji13] at H; exact H) | (simp only [hji13] at H ⊢; exact H)
                (try rw [hji13] at A10)
                have hji13w : (IntKind.i64.wrap (x7_1 - 1)) = ji13 := (i64_w _).trans hji13
                by_cases c14 : 0 ≤ (ji13)
                · rw [if_pos c14] at H
                  have c14b0 : decide (0 ≤ (ji13)) = true := decide_eq_true c14
                  clear c14
                  by_cases c15 : (ji13) < (l1.length : Int)
                  · rw [if_pos c15] at H
                    have c15b0 : decide ((ji13) < (l1.length : Int)) = true := decide_eq_true c15
                    clear c15
                    by_cases c16 : (rd l1 (ji13)) ≥ (rd l1 x7_1)
                    · rw [if_pos c16] at H
                      have c16b0 : decide ((rd l1 x7_1) ≤ (rd l1 (ji13))) = true := decide_eq_true c16
                      clear c16
                      simp only [Option.some.injEq, Prod.mk.injEq] at H
                      obtain ⟨rfl, rfl⟩ := H
                      have p371 : 0 ≤ (x7_1 : Int) := of_decide_eq_true z9
                      have q371 : x7_1 < (l1.length : Int) := of_decide_eq_true z9
                      obtain ⟨ad371, e371, hx371_0⟩ := Kd.at_int HR1.out x7_1 p371 q371
                      cases e371
                      try replace hx371_0 := (HB.out.cell (World.block_lt_of_cell? w _ hx371_0)).trans hx371_0
                      replace p371 := eq_true p371
                      replace q371 := eq_true q371
                      obtain ⟨hcz17_0, hcz17_1, hcz17_2, hcz17_3, hfz17_0, hfz17_1, hfz17_2, hfz17_3⟩ := zC4 BK102.out
                      go_wp2_with (first | (go_at_call 85; (with_reducible refine (spec_l01In.calls (rd l1 x7_1) 0 jn0 true _ A10.out).mono ?_); rintro e w' ⟨rfl, ⟨nd, rfl⟩⟩; (try first | exact ⟨rfl, _, World.drewN_drewN _ _ _⟩ | exact ⟨rfl, _, Eq.trans (World.drewN_drewN _ _ _) (congrArg (World.drewN _) (Nat.add_assoc _ _ _))⟩); have p373 : 0 ≤ ((ji13) : Int) := of_decide_eq_true z9; have q373 : (ji13) < (l1.length : Int) := of_decide_eq_true z9; obtain ⟨ad373, e373, hx373_0⟩ := Kd.at_int HR1.out (ji13) p373 q373; obtain rfl : ad371 = ad373 := (by injection e373); try replace hx373_0 := (HB.out.cell (World.block_lt_of_cell? w _ hx373_0)).trans hx373_0; replace p373 := eq_true p373; replace q373 := eq_true q373; have p374 : 0 ≤ (x7_1 : Int) := of_decide_eq_true z9; have q374 : x7_1 < (l1.length : Int) := of_decide_eq_true z9; obtain ⟨ad374, e374, hx374_0⟩ := Kd.at_int HR1.out x7_1 p374 q374; obtain rfl : ad371 = ad374 := (by injection e374); try replace hx374_0 := (HB.out.cell (World.block_lt_of_cell? w _ hx374_0)).trans hx374_0; replace p374 := eq_true p374; replace q374 := eq_true q374))
                      repeat (go_quiet (first | (go_at_call 85; (with_reducible refine (spec_l01In.calls (rd l1 x7_1) 0 jn0 true _ A10.out).mono ?_); rintro e w' ⟨rfl, ⟨nd, rfl⟩⟩; (try first | exact ⟨rfl, _, World.drewN_drewN _ _ _⟩ | exact ⟨rfl, _, Eq.trans (World.drewN_drewN _ _ _) (congrArg (World.drewN _) (Nat.add_assoc _ _ _))⟩); have p373 : 0 ≤ ((ji13) : Int) := of_decide_eq_true z9; have q373 : (ji13) < (l1.length : Int) := of_decide_eq_true z9; obtain ⟨ad373, e373, hx373_0⟩ := Kd.at_int HR1.out (ji13) p373 q373; obtain rfl : ad371 = ad373 := (by injection e373); try replace hx373_0 := (HB.out.cell (World.block_lt_of_cell? w _ hx373_0)).trans hx373_0; replace p373 := eq_true p373; replace q373 := eq_true q373; have p374 : 0 ≤ (x7_1 : Int) := of_decide_eq_true z9; have q374 : x7_1 < (l1.length : Int) := of_decide_eq_true z9; obtain ⟨ad374, e374, hx374_0⟩ := Kd.at_int HR1.out x7_1 p374 q374; obtain rfl : ad371 = ad374 := (by injection e374); try replace hx374_0 := (HB.out.cell (World.block_lt_of_cell? w _ hx374_0)).trans hx374_0; replace p374 := eq_true p374; replace q374 := eq_true q374)); try go_wp2_with (first | (go_at_call 85; (with_reducible refine (spec_l01In.calls (rd l1 x7_1) 0 jn0 true _ A10.out).mono ?_); rintro e w' ⟨rfl, ⟨nd, rfl⟩⟩; (try first | exact ⟨rfl, _, World.drewN_drewN _ _ _⟩ | exact ⟨rfl, _, Eq.trans (World.drewN_drewN _ _ _) (congrArg (World.drewN _) (Nat.add_assoc _ _ _))⟩); have p373 : 0 ≤ ((ji13) : Int) := of_decide_eq_true z9; have q373 : (ji13) < (l1.length : Int) := of_decide_eq_true z9; obtain ⟨ad373, e373, hx373_0⟩ := Kd.at_int HR1.out (ji13) p373 q373; obtain rfl : ad371 = ad373 := (by injection e373); try replace hx373_0 := (HB.out.cell (World.block_lt_of_cell? w _ hx373_0)).trans hx373_0; replace p373 := eq_true p373; replace q373 := eq_true q373; have p374 : 0 ≤ (x7_1 : Int) := of_decide_eq_true z9; have q374 : x7_1 < (l1.length : Int) := of_decide_eq_true z9; obtain ⟨ad374, e374, hx374_0⟩ := Kd.at_int HR1.out x7_1 p374 q374; obtain rfl : ad371 = ad374 := (by injection e374); try replace hx374_0 := (HB.out.cell (World.block_lt_of_cell? w _ hx374_0)).trans hx374_0; replace p374 := eq_true p374; replace q374 := eq_true q374)))
                      go_ret2
                      exact ⟨(by first | rfl | (simp [errW_none, errW_some] <;> rfl) | (simp only [← hji13]; first | rfl | (simp [errW_none, errW_some] <;> rfl)) | (simp [*, errW_none, errW_some] <;> rfl)), z3⟩
                    · rw [if_neg c16] at H
                      have c16b0 : decide ((rd l1 x7_1) ≤ (rd l1 (ji13))) = false := decide_eq_false c16
                      clear c16
                      obtain ⟨ji18, hji18⟩ : ∃ j_ : Int, (IntKind.u64.wrap (rd l1 x7_1)) = j_ := ⟨_, rfl⟩
                      replace H : (if 0 ≤ (ji18) then (spec_TicketOf.l0 k1 l1 (Go.bits .or .i64 x6_1 (shl .i64 1 (ji18))) (wrap64 (x7_1 + 1)) a0_0 a0_1 a0_2 a0_3) else (none)) = some (r1, r2) := by first | (rw [hji18] at H; exact H) | (simp only [hji18] at H ⊢; exact H)
                      (try rw [hji18] at A10)
                      by_cases c19 : 0 ≤ (ji18)
                      · rw [if_pos c19] at H
                        have c19b0 := eq_true c19
                        have c19b1 : decide (0 ≤ (ji18)) = true := decide_eq_true c19
                        clear c19
                        obtain ⟨ji20, hji20⟩ : ∃ j_ : Int, (shl .i64 1 (ji18)) = j_ := ⟨_, rfl⟩
                        replace H : (spec_TicketOf.l0 k1 l1 (Go.bits .or .i64 x6_1 (ji20)) (wrap64 (x7_1 + 1)) a0_0 a0_1 a0_2 a0_3) = some (r1, r2) := by first | (rw [hji20] at H; exact H) | (simp only [hji20] at H ⊢; exact H)
                        (try rw [hji20] at A10)
                        have hji20_ : (IntKind.i64.wrap (1 * 2 ^ min (ji18).toNat 64)) = ji20 := hji20
                        have hji20z : (ji18) ≤ 64 → (IntKind.i64.wrap (1 * 2 ^ (ji18).toNat)) = ji20 := shl_small hji20
                        have hji20u : (IntKind.i64.wrap (2 ^ min (ji18).toNat 64)) = ji20 := by have h_ := hji20_; rw [Int.one_mul] at h_; exact h_
                        have hji20v : (ji18) ≤ 64 → (IntKind.i64.wrap (2 ^ (ji18).toNat)) = ji20 := fun hle_ => by have h_ := hji20z hle_; rw [Int.one_mul] at h_; exact h_
                        have hji20y : (wrap64 (1 * 2 ^ min (ji18).toNat 64)) = ji20 := (i64_w _).symm.trans hji20_
                        have hji20x : (ji18) ≤ 64 → (wrap64 (1 * 2 ^ (ji18).toNat)) = ji20 := fun h_ => (i64_w _).symm.trans (hji20z h_)
                        have H' := Aside0.mk H
                        clear H
                        have p371 : 0 ≤ (x7_1 : Int) := of_decide_eq_true z9
                        have q371 : x7_1 < (l1.length : Int) := of_decide_eq_true z9
                        obtain ⟨ad371, e371, hx371_0⟩ := Kd.at_int HR1.out x7_1 p371 q371
                        cases e371
                        try replace hx371_0 := (HB.out.cell (World.block_lt_of_cell? w _ hx371_0)).trans hx371_0
                        replace p371 := eq_true p371
                        replace q371 := eq_true q371
                        obtain ⟨hcz21_0, hcz21_1, hcz21_2, hcz21_3, hfz21_0, hfz21_1, hfz21_2, hfz21_3⟩ := zC4 BK102.out
                        go_wp2_with (first | (go_at_call 85; (with_reducible refine (spec_l01In.calls (rd l1 x7_1) 0 jn0 true _ A10.out).mono ?_); rintro e w' ⟨rfl, ⟨nd, rfl⟩⟩; (try first | exact ⟨rfl, _, World.drewN_drewN _ _ _⟩ | exact ⟨rfl, _, Eq.trans (World.drewN_drewN _ _ _) (congrArg (World.drewN _) (Nat.add_assoc _ _ _))⟩); have p373 : 0 ≤ ((ji13) : Int) := of_decide_eq_true z9; have q373 : (ji13) < (l1.length : Int) := of_decide_eq_true z9; obtain ⟨ad373, e373, hx373_0⟩ := Kd.at_int HR1.out (ji13) p373 q373; obtain rfl : ad371 = ad373 := (by injection e373); try replace hx373_0 := (HB.out.cell (World.block_lt_of_cell? w _ hx373_0)).trans hx373_0; replace p373 := eq_true p373; replace q373 := eq_true q373; have p374 : 0 ≤ (x7_1 : Int) := of_decide_eq_true z9; have q374 : x7_1 < (l1.length : Int) := of_decide_eq_true z9; obtain ⟨ad374, e374, hx374_0⟩ := Kd.at_int HR1.out x7_1 p374 q374; obtain rfl : ad371 = ad374 := (by injection e374); try replace hx374_0 := (HB.out.cell (World.block_lt_of_cell? w _ hx374_0)).trans hx374_0; replace p374 := eq_true p374; replace q374 := eq_true q374; have p375 : 0 ≤ (x7_1 : Int) := of_decide_eq_true z9; have q375 : x7_1 < (l1.length : Int) := of_decide_eq_true z9; obtain ⟨ad375, e375, hx375_0⟩ := Kd.at_int HR1.out x7_1 p375 q375; obtain rfl : ad371 = ad375 := (by injection e375); try replace hx375_0 := (HB.out.cell (World.block_lt_of_cell? w _ hx375_0)).trans hx375_0; replace p375 := eq_true p375; replace q375 := eq_true q375))
                        repeat (go_quiet (first | (go_at_call 85; (with_reducible refine (spec_l01In.calls (rd l1 x7_1) 0 jn0 true _ A10.out).mono ?_); rintro e w' ⟨rfl, ⟨nd, rfl⟩⟩; (try first | exact ⟨rfl, _, World.drewN_drewN _ _ _⟩ | exact ⟨rfl, _, Eq.trans (World.drewN_drewN _ _ _) (congrArg (World.drewN _) (Nat.add_assoc _ _ _))⟩); have p373 : 0 ≤ ((ji13) : Int) := of_decide_eq_true z9; have q373 : (ji13) < (l1.length : Int) := of_decide_eq_true z9; obtain ⟨ad373, e373, hx373_0⟩ := Kd.at_int HR1.out (ji13) p373 q373; obtain rfl : ad371 = ad373 := (by injection e373); try replace hx373_0 := (HB.out.cell (World.block_lt_of_cell? w _ hx373_0)).trans hx373_0; replace p373 := eq_true p373; replace q373 := eq_true q373; have p374 : 0 ≤ (x7_1 : Int) := of_decide_eq_true z9; have q374 : x7_1 < (l1.length : Int) := of_decide_eq_true z9; obtain ⟨ad374, e374, hx374_0⟩ := Kd.at_int HR1.out x7_1 p374 q374; obtain rfl : ad371 = ad374 := (by injection e374); try replace hx374_0 := (HB.out.cell (World.block_lt_of_cell? w _ hx374_0)).trans hx374_0; replace p374 := eq_true p374; replace q374 := eq_true q374; have p375 : 0 ≤ (x7_1 : Int) := of_decide_eq_true z9; have q375 : x7_1 < (l1.length : Int) := of_decide_eq_true z9; obtain ⟨ad375, e375, hx375_0⟩ := Kd.at_int HR1.out x7_1 p375 q375; obtain rfl : ad371 = ad375 := (by injection e375); try replace hx375_0 := (HB.out.cell (World.block_lt_of_cell? w _ hx375_0)).trans hx375_0; replace p375 := eq_true p375; replace q375 := eq_true q375)); try go_wp2_with (first | (go_at_call 85; (with_reducible refine (spec_l01In.calls (rd l1 x7_1) 0 jn0 true _ A10.out).mono ?_); rintro e w' ⟨rfl, ⟨nd, rfl⟩⟩; (try first | exact ⟨rfl, _, World.drewN_drewN _ _ _⟩ | exact ⟨rfl, _, Eq.trans (World.drewN_drewN _ _ _) (congrArg (World.drewN _) (Nat.add_assoc _ _ _))⟩); have p373 : 0 ≤ ((ji13) : Int) := of_decide_eq_true z9; have q373 : (ji13) < (l1.length : Int) := of_decide_eq_true z9; obtain ⟨ad373, e373, hx373_0⟩ := Kd.at_int HR1.out (ji13) p373 q373; obtain rfl : ad371 = ad373 := (by injection e373); try replace hx373_0 := (HB.out.cell (World.block_lt_of_cell? w _ hx373_0)).trans hx373_0; replace p373 := eq_true p373; replace q373 := eq_true q373; have p374 : 0 ≤ (x7_1 : Int) := of_decide_eq_true z9; have q374 : x7_1 < (l1.length : Int) := of_decide_eq_true z9; obtain ⟨ad374, e374, hx374_0⟩ := Kd.at_int HR1.out x7_1 p374 q374; obtain rfl : ad371 = ad374 := (by injection e374); try replace hx374_0 := (HB.out.cell (World.block_lt_of_cell? w _ hx374_0)).trans hx374_0; replace p374 := eq_true p374; replace q374 := eq_true q374; have p375 : 0 ≤ (x7_1 : Int) := of_decide_eq_true z9; have q375 : x7_1 < (l1.length : Int) := of_decide_eq_true z9; obtain ⟨ad375, e375, hx375_0⟩ := Kd.at_int HR1.out x7_1 p375 q375; obtain rfl : ad371 = ad375 := (by injection e375); try replace hx375_0 := (HB.out.cell (World.block_lt_of_cell? w _ hx375_0)).trans hx375_0; replace p375 := eq_true p375; replace q375 := eq_true q375)))
                        go_roundg k1
                        case measure => have := HK1.out; omega
                        case rel => exact ⟨(Go.bits .or .i64 x6_1 (ji20)), (wrap64 (x7_1 + 1)), (by first | rfl | (simp; done) | (simp only [← hji20] <;> (first | rfl | simp)) | (simp [*]; done)), z16, H', ⟨z79⟩, ⟨z57⟩, ⟨z3⟩⟩
                      · rw [if_neg c19] at H
                        exact absurd H (by simp)
                  · rw [if_neg c15] at H
                    exact absurd H (by simp)
                · rw [if_neg c14] at H
                  exact absurd H (by simp)
              · rw [if_neg c12] at H
                have c12b0 : decide (0 < x7_1) = false := decide_eq_false c12
                clear c12
                obtain ⟨ji22, hji22⟩ : ∃ j_ : Int, (IntKind.u64.wrap (rd l1 x7_1)) = j_ := ⟨_, rfl⟩
                replace H : (if 0 ≤ (ji22) then (spec_TicketOf.l0 k1 l1 (Go.bits .or .i64 x6_1 (shl .i64 1 (ji22))) (wrap64 (x7_1 + 1)) a0_0 a0_1 a0_2 a0_3) else (none)) = some (r1, r2) := by first | (rw [hji22] at H; exact H) | (simp only [hji22] at H ⊢; exact H)
                (try rw [hji22] at A10)
                by_cases c23 : 0 ≤ (ji22)
                · rw [if_pos c23] at H
                  have c23b0 := eq_true c23
                  have c23b1 : decide (0 ≤ (ji22)) = true := decide_eq_true c23
                  clear c23
                  obtain ⟨ji24, hji24⟩ : ∃ j_ : Int, (shl .i64 1 (ji22)) = j_ := ⟨_, rfl⟩
                  replace H : (spec_TicketOf.l0 k1 l1 (Go.bits .or .i64 x6_1 (ji24)) (wrap64 (x7_1 + 1)) a0_0 a0_1 a0_2 a0_3) = some (r1, r2) := by first | (rw [hji24] at H; exact H) | (simp only [hji24] at H ⊢; exact H)
                  (try rw [hji24] at A10)
                  have hji24_ : (IntKind.i64.wrap (1 * 2 ^ min (ji22).toNat 64)) = ji24 := hji24
                  have hji24z : (ji22) ≤ 64 → (IntKind.i64.wrap (1 * 2 ^ (ji22).toNat)) = ji24 := shl_small hji24
                  have hji24u : (IntKind.i64.wrap (2 ^ min (ji22).toNat 64)) = ji24 := by have h_ := hji24_; rw [Int.one_mul] at h_; exact h_
                  have hji24v : (ji22) ≤ 64 → (IntKind.i64.wrap (2 ^ (ji22).toNat)) = ji24 := fun hle_ => by have h_ := hji24z hle_; rw [Int.one_mul] at h_; exact h_
                  have hji24y : (wrap64 (1 * 2 ^ min (ji22).toNat 64)) = ji24 := (i64_w _).symm.trans hji24_
                  have hji24x : (ji22) ≤ 64 → (wrap64 (1 * 2 ^ (ji22).toNat)) = ji24 := fun h_ => (i64_w _).symm.trans (hji24z h_)
                  have H' := Aside0.mk H
                  clear H
                  have p371 : 0 ≤ (x7_1 : Int) := of_decide_eq_true z9
                  have q371 : x7_1 < (l1.length : Int) := of_decide_eq_true z9
                  obtain ⟨ad371, e371, hx371_0⟩ := Kd.at_int HR1.out x7_1 p371 q371
                  cases e371
                  try replace hx371_0 := (HB.out.cell (World.block_lt_of_cell? w _ hx371_0)).trans hx371_0
                  replace p371 := eq_true p371
                  replace q371 := eq_true q371
                  obtain ⟨hcz25_0, hcz25_1, hcz25_2, hcz25_3, hfz25_0, hfz25_1, hfz25_2, hfz25_3⟩ := zC4 BK102.out
                  go_wp2_with (first | (go_at_call 85; (with_reducible refine (spec_l01In.calls (rd l1 x7_1) 0 jn0 true _ A10.out).mono ?_); rintro e w' ⟨rfl, ⟨nd, rfl⟩⟩; (try first | exact ⟨rfl, _, World.drewN_drewN _ _ _⟩ | exact ⟨rfl, _, Eq.trans (World.drewN_drewN _ _ _) (congrArg (World.drewN _) (Nat.add_assoc _ _ _))⟩)))
                  repeat (go_quiet (first | (go_at_call 85; (with_reducible refine (spec_l01In.calls (rd l1 x7_1) 0 jn0 true _ A10.out).mono ?_); rintro e w' ⟨rfl, ⟨nd, rfl⟩⟩; (try first | exact ⟨rfl, _, World.drewN_drewN _ _ _⟩ | exact ⟨rfl, _, Eq.trans (World.drewN_drewN _ _ _) (congrArg (World.drewN _) (Nat.add_assoc _ _ _))⟩))); try go_wp2_with (first | (go_at_call 85; (with_reducible refine (spec_l01In.calls (rd l1 x7_1) 0 jn0 true _ A10.out).mono ?_); rintro e w' ⟨rfl, ⟨nd, rfl⟩⟩; (try first | exact ⟨rfl, _, World.drewN_drewN _ _ _⟩ | exact ⟨rfl, _, Eq.trans (World.drewN_drewN _ _ _) (congrArg (World.drewN _) (Nat.add_assoc _ _ _))⟩))))
                  go_roundg k1
                  case measure => have := HK1.out; omega
                  case rel => exact ⟨(Go.bits .or .i64 x6_1 (ji24)), (wrap64 (x7_1 + 1)), z120, z16, H', ⟨z79⟩, ⟨z57⟩, ⟨z3⟩⟩
                · rw [if_neg c23] at H
                  exact absurd H (by simp)
            · replace c11 := Bool.eq_false_iff.mpr c11
              subst c11
              have H1 : (some (0, 2)) = some (r1, r2) := by rw [if_neg (show ¬ (false = true) by decide)] at H; exact H
              clear H
              have H := H1
              clear H1
              simp only [Option.some.injEq, Prod.mk.injEq] at H
              obtain ⟨rfl, rfl⟩ := H
              have p371 : 0 ≤ (x7_1 : Int) := of_decide_eq_true z9
              have q371 : x7_1 < (l1.length : Int) := of_decide_eq_true z9
              obtain ⟨ad371, e371, hx371_0⟩ := Kd.at_int HR1.out x7_1 p371 q371
              cases e371
              try replace hx371_0 := (HB.out.cell (World.block_lt_of_cell? w _ hx371_0)).trans hx371_0
              replace p371 := eq_true p371
              replace q371 := eq_true q371
              obtain ⟨hcz26_0, hcz26_1, hcz26_2, hcz26_3, hfz26_0, hfz26_1, hfz26_2, hfz26_3⟩ := zC4 BK102.out
              go_wp2_with (first | (go_at_call 85; (with_reducible refine (spec_l01In.calls (rd l1 x7_1) 0 (wrap64 (a0_0 - 1)) false _ A10.out).mono ?_); rintro e w' ⟨rfl, ⟨nd, rfl⟩⟩; (try first | exact ⟨rfl, _, World.drewN_drewN _ _ _⟩ | exact ⟨rfl, _, Eq.trans (World.drewN_drewN _ _ _) (congrArg (World.drewN _) (Nat.add_assoc _ _ _))⟩)))
              repeat (go_quiet (first | (go_at_call 85; (with_reducible refine (spec_l01In.calls (rd l1 x7_1) 0 (wrap64 (a0_0 - 1)) false _ A10.out).mono ?_); rintro e w' ⟨rfl, ⟨nd, rfl⟩⟩; (try first | exact ⟨rfl, _, World.drewN_drewN _ _ _⟩ | exact ⟨rfl, _, Eq.trans (World.drewN_drewN _ _ _) (congrArg (World.drewN _) (Nat.add_assoc _ _ _))⟩))); try go_wp2_with (first | (go_at_call 85; (with_reducible refine (spec_l01In.calls (rd l1 x7_1) 0 (wrap64 (a0_0 - 1)) false _ A10.out).mono ?_); rintro e w' ⟨rfl, ⟨nd, rfl⟩⟩; (try first | exact ⟨rfl, _, World.drewN_drewN _ _ _⟩ | exact ⟨rfl, _, Eq.trans (World.drewN_drewN _ _ _) (congrArg (World.drewN _) (Nat.add_assoc _ _ _))⟩))))
              go_ret2
              exact ⟨z6, z3⟩
          · rw [if_neg c9] at H
            exact absurd H (by simp)
        · rw [if_neg c8] at H
          have c8b0 : decide (x7_1 < (l1.length : Int)) = false := decide_eq_false c8
          clear c8
          by_cases c27 : (l1.length : Int) = a0_1
          · rw [if_pos c27] at H
            have c27b0 : ((l1.length : Int) == a0_1) = true := beq_iff_eq.mpr c27
            have c27b1 : ((l1.length : Int) != a0_1) = false := bne_eq_false_iff_eq.mpr c27
            clear c27
            simp only [Option.some.injEq, Prod.mk.injEq] at H
            obtain ⟨rfl, rfl⟩ := H
            obtain ⟨hcz28_0, hcz28_1, hcz28_2, hcz28_3, hfz28_0, hfz28_1, hfz28_2, hfz28_3⟩ := zC4 BK102.out
            go_wp2
            repeat (go_quiet (fail); try go_wp2)
            go_ret2
            exact ⟨z6, z3⟩
          · rw [if_neg c27] at H
            have c27b0 : ((l1.length : Int) == a0_1) = false := beq_eq_false_iff_ne.mpr c27
            have c27b1 : ((l1.length : Int) != a0_1) = true := bne_iff_ne.mpr c27
            simp only [Option.some.injEq, Prod.mk.injEq] at H
            obtain ⟨rfl, rfl⟩ := H
            obtain ⟨hcz29_0, hcz29_1, hcz29_2, hcz29_3, hfz29_0, hfz29_1, hfz29_2, hfz29_3⟩ := zC4 BK102.out
            go_wp2
            repeat (go_quiet (fail); try go_wp2)
            go_ret2
            exact ⟨z6, z3⟩
  · replace c4 := Bool.eq_false_iff.mpr c4
    subst c4
    have H1 : (some (0, 1)) = some (r1, r2) := by rw [if_neg (show ¬ (false = true) by decide)] at H; exact H
    clear H
    have H := H1
    clear H1
    simp only [Option.some.injEq, Prod.mk.injEq] at H
    obtain ⟨rfl, rfl⟩ := H
    go_enter Try.func24, Try.ntmps24
    go_wp2_with (first | ((with_reducible refine gate_dst (N := 2) rfl ?_); refine box_event ?hg (N := 2) ?hd (cs := #[.int .i64 a0_0, .int .i64 a0_1, .int .i64 a0_2, .int .i64 a0_3]) (t := 27) ?hr ?_; (case hd => rfl); (case hg => rfl); (case hr => first | (go_simp; done) | (go_simp; rfl)); intro gb102 hg w30 hbox hb; have n0_ := Aside0.mk (below_step z1 hb); have n1_ := Aside0.mk (hbox); have n2_ := Aside0.mk ((z122 : w.heap.size ≤ gb102)); have n3_ := Aside0.mk ((z122 : w.heap.size ≤ gb102)); clear HB; have HB := n0_; have BK102 := n1_; have GW102 := n2_; have GE102 := n3_; clear n0_ n1_ n2_ n3_; clear hb hbox hg; obtain ⟨hcz31_0, hcz31_1, hcz31_2, hcz31_3, hfz31_0, hfz31_1, hfz31_2, hfz31_3⟩ := zC4 BK102.out) | (go_at_call 58; (with_reducible refine (spec_l08Is.calls a0_0 a0_1 a0_2 a0_3 false _ A3.out).mono ?_); rintro e w32 ⟨rfl, hb⟩; have n0_ := zBB BK102 hb; have n1_ := Aside0.mk (below_step z3 hb); clear BK102 HB; have BK102 := n0_; have HB := n1_; clear n0_ n1_; (try clear hb); (try clear hb2); (try clear hk); (try clear hi)))
    repeat (go_quiet (first | ((with_reducible refine gate_dst (N := 2) rfl ?_); refine box_event ?hg (N := 2) ?hd (cs := #[.int .i64 a0_0, .int .i64 a0_1, .int .i64 a0_2, .int .i64 a0_3]) (t := 27) ?hr ?_; (case hd => rfl); (case hg => rfl); (case hr => first | (go_simp; done) | (go_simp; rfl)); intro gb102 hg w30 hbox hb; have n0_ := Aside0.mk (below_step z1 hb); have n1_ := Aside0.mk (hbox); have n2_ := Aside0.mk ((z122 : w.heap.size ≤ gb102)); have n3_ := Aside0.mk ((z122 : w.heap.size ≤ gb102)); clear HB; have HB := n0_; have BK102 := n1_; have GW102 := n2_; have GE102 := n3_; clear n0_ n1_ n2_ n3_; clear hb hbox hg; obtain ⟨hcz31_0, hcz31_1, hcz31_2, hcz31_3, hfz31_0, hfz31_1, hfz31_2, hfz31_3⟩ := zC4 BK102.out) | (go_at_call 58; (with_reducible refine (spec_l08Is.calls a0_0 a0_1 a0_2 a0_3 false _ A3.out).mono ?_); rintro e w32 ⟨rfl, hb⟩; have n0_ := zBB BK102 hb; have n1_ := Aside0.mk (below_step z3 hb); clear BK102 HB; have BK102 := n0_; have HB := n1_; clear n0_ n1_; (try clear hb); (try clear hb2); (try clear hk); (try clear hi))); try go_wp2_with (first | ((with_reducible refine gate_dst (N := 2) rfl ?_); refine box_event ?hg (N := 2) ?hd (cs := #[.int .i64 a0_0, .int .i64 a0_1, .int .i64 a0_2, .int .i64 a0_3]) (t := 27) ?hr ?_; (case hd => rfl); (case hg => rfl); (case hr => first | (go_simp; done) | (go_simp; rfl)); intro gb102 hg w30 hbox hb; have n0_ := Aside0.mk (below_step z1 hb); have n1_ := Aside0.mk (hbox); have n2_ := Aside0.mk ((z122 : w.heap.size ≤ gb102)); have n3_ := Aside0.mk ((z122 : w.heap.size ≤ gb102)); clear HB; have HB := n0_; have BK102 := n1_; have GW102 := n2_; have GE102 := n3_; clear n0_ n1_ n2_ n3_; clear hb hbox hg; obtain ⟨hcz31_0, hcz31_1, hcz31_2, hcz31_3, hfz31_0, hfz31_1, hfz31_2, hfz31_3⟩ := zC4 BK102.out) | (go_at_call 58; (with_reducible refine (spec_l08Is.calls a0_0 a0_1 a0_2 a0_3 false _ A3.out).mono ?_); rintro e w32 ⟨rfl, hb⟩; have n0_ := zBB BK102 hb; have n1_ := Aside0.mk (below_step z3 hb); clear BK102 HB; have BK102 := n0_; have HB := n1_; clear n0_ n1_; (try clear hb); (try clear hb2); (try clear hk); (try clear hi))))
    go_ret2
    exact ⟨z6, z3⟩

/-! ### spec_DrawNumbersOf: function 25 -/
def spec_DrawNumbersOf.f (k : Nat) (l0 : List Int) : Option (Int × Int × Int × Int × Int) := (spec_l01From.f k l0).bind fun bt100 => ((spec_l08Draw.f k l0).bind fun bt101 => ((spec_l01Pick.f bt100.1 bt100.2.1 bt100.2.2 (([30, 255, 4095] : List Int))).bind fun bt102 => ((spec_l01Near.f bt100.1 bt102.2.1 bt102.2.2 bt102.1).bind fun bt103 => (some (bt101.1, bt101.2.1, bt101.2.2.1, bt101.2.2.2, bt103.1)))))
theorem spec_DrawNumbersOf.mono : ∀ a0 k, LeO (spec_DrawNumbersOf.f k a0) (spec_DrawNumbersOf.f (k + 1) a0) := by
  intro a0 k
  unfold spec_DrawNumbersOf.f
  repeat' first
      | (with_reducible exact spec_l01From.mono _ _)
      | (with_reducible exact spec_l08Draw.mono _ _)
      | (with_reducible exact LeO.refl _)
      | (with_reducible exact LeO.none _)
      | (with_reducible refine LeO.ite ?_ ?_)
      | (with_reducible refine LeO.bind ?_ (fun _ => ?_))
def spec_DrawNumbersOf.T3 : Bool × List (List Nat × List Nat) := (true, [([], []), ([], []), ([], []), ([], []), ([2, 3], [2, 3]), ([1, 4, 4], [1, 4]), ([0, 5, 0], [0]), ([5, 6, 0, 1, 2, 3, 4, 5, 6], [5])])
def spec_DrawNumbersOf.B3 : List Nat := [0, 0, 0, 0, 12, 30, 63, 127]
theorem spec_DrawNumbersOf.tab3 : rtab .any (opsOf Try.f25 3) = spec_DrawNumbersOf.T3 := by kernel_rfl
theorem spec_DrawNumbersOf.bits3 : waitsOk spec_DrawNumbersOf.T3.2 spec_DrawNumbersOf.B3 = true := by kernel_rfl
set_option maxHeartbeats 8000000 in
set_option maxRecDepth 100000 in
theorem spec_DrawNumbersOf.calls (k : Nat) (A0 : Option Addr) (c0 : Nat) (l0 : List Int) (r1 : Int) (r2 : Int) (r3 : Int) (r4 : Int) (r5 : Int) (w : World) (hr0 : Kd.C (Kd.int .u8) w A0 l0.length l0) (hc0 : l0.length ≤ c0) (h : spec_DrawNumbersOf.f k l0 = some (r1, r2, r3, r4, r5)) :
    Calls Try.prog 25 #[.slice A0 l0.length c0] w fun e w' => e = .returned (.tuple #[.agg #[.int .i64 r1, .int .i64 r2, .int .i64 r3, .int .i64 r4], .int .i64 r5]) ∧ Below w.heap.size w w' := by
  have hu27 := Try.underlying27
  have HR0 := Aside0.mk hr0
  have HC0 := Aside0.mk hc0
  clear hr0 hc0
  have HB := Aside0.mk (Below.refl w.heap.size w)
  have H := h
  unfold spec_DrawNumbersOf.f at H
  (try dsimp -simprocs only at H)
  clear h
  replace H := Option.bind_eq_some_iff.mp H
  obtain ⟨⟨t100, t104, t105⟩, A20, H⟩ := H
  (try dsimp -simprocs only at H)
  have A2 := Aside0.mk A20
  clear A20
  replace H := Option.bind_eq_some_iff.mp H
  obtain ⟨⟨t101, t106, t107, t108⟩, A30, H⟩ := H
  (try dsimp -simprocs only at H)
  have A3 := Aside0.mk A30
  clear A30
  obtain ⟨y109, hy109⟩ : ∃ y_ : List Int, y_ = (([30, 255, 4095] : List Int)) := ⟨_, rfl⟩
  replace H : ((spec_l01Pick.f t100 t104 t105 y109).bind fun bt102 => ((spec_l01Near.f t100 bt102.2.1 bt102.2.2 bt102.1).bind fun bt103 => (some (t101, t106, t107, t108, bt103.1)))) = some (r1, r2, r3, r4, r5) := by first | (rw [hy109]; with_reducible exact H) | (have H2_ := (Option.bind_some _ _).symm.trans H; rw [hy109]; with_reducible exact H2_) | (have H2_ := (Option.bind_some _ _).symm.trans H; with_reducible exact H2_) | with_reducible exact H | (rw [hy109]; exact H) | exact H
  have Ny109 := Aside0.mk hy109
  clear hy109
  replace H := Option.bind_eq_some_iff.mp H
  obtain ⟨⟨t102, t110, t111⟩, A40, H⟩ := H
  (try dsimp -simprocs only at H)
  have A4 := Aside0.mk A40
  clear A40
  replace H := Option.bind_eq_some_iff.mp H
  obtain ⟨⟨t103, t112, t113⟩, A50, H⟩ := H
  (try dsimp -simprocs only at H)
  have A5 := Aside0.mk A50
  clear A50
  simp only [Option.some.injEq, Prod.mk.injEq] at H
  obtain ⟨rfl, rfl, rfl, rfl, rfl⟩ := H
  go_enter Try.func25, Try.ntmps25
  try go_wp2_with (first | ((with_reducible refine gate_dst (N := 2) rfl ?_); refine box_event ?hg (N := 2) ?hd (cs := #[.int .i64 0, .int .i64 0, .int .i64 0, .int .i64 0]) (t := 27) ?hr ?_; (case hd => rfl); (case hg => rfl); (case hr => first | (go_simp; done) | (go_simp; rfl)); intro gb114 hg w6 hbox hb; have n0_ := Aside0.mk (below_step z1 hb); have n1_ := Aside0.mk (hbox); have n2_ := Aside0.mk ((z122 : w.heap.size ≤ gb114)); have n3_ := Aside0.mk ((z122 : w.heap.size ≤ gb114)); clear HB; have HB := n0_; have BK114 := n1_; have GW114 := n2_; have GE114 := n3_; clear n0_ n1_ n2_ n3_; clear hb hbox hg) | ((with_reducible refine gate_callee (f := 72) rfl ?_); refine goesL_ (some 7) rfl rfl Try.func72 (by kernel_rfl) rfl #[.slice A0 l0.length c0] rfl z2 ?_; (with_reducible refine (spec_l01From.calls k _ _ l0 t100 t104 t105 w _ ?side1 ?side2 ?side3 A2.out).mono ?_); (case side1 => exact z81); (case side2 => exact HR0.out); (case side3 => exact HC0.out); rintro e w7 ⟨g381, rfl, hi, hb, hb2⟩; refine ⟨_, rfl, ?_⟩; have n0_ := zBB BK114 hb2; have n1_ := Aside0.mk (hb); have n2_ := Aside0.mk (hi); have n3_ := Aside0.mk (IsS93.ne_blk hi (blk_below (g := gb114) (o := .cells #[.int .i64 0, .int .i64 0, .int .i64 0, .int .i64 0] 27 (0, 0)) z42 hb2) (by decide)); have n4_ := Aside0.mk (Ne.symm (IsS93.ne_blk hi (blk_below (g := gb114) (o := .cells #[.int .i64 0, .int .i64 0, .int .i64 0, .int .i64 0] 27 (0, 0)) z42 hb2) (by decide))); clear BK114 HB; have BK114 := n0_; have HB := n1_; have HI115 := n2_; have NB115_114 := n3_; have NB114_115 := n4_; clear n0_ n1_ n2_ n3_ n4_; (try clear hb); (try clear hb2); (try clear hk); (try clear hi)) | ((with_reducible refine gate_callee (f := 82) rfl ?_); refine goesL_ (some 9) rfl rfl Try.func82 (by kernel_rfl) rfl #[.slice A0 l0.length c0] rfl z2 ?_; (with_reducible refine (spec_l08Draw.calls k _ _ l0 t101 t106 t107 t108 _ ?side1 ?side2 A3.out).mono ?_); (case side1 => exact z78); (case side2 => exact HC0.out); rintro e w8 ⟨rfl, hb⟩; refine ⟨_, rfl, ?_⟩; have n0_ := zBB BK114 hb; have n1_ := Aside0.mk (IsS93.below z24 hb); have n2_ := Aside0.mk (below_step z22 hb); clear BK114 HI115 HB; have BK114 := n0_; have HI115 := n1_; have HB := n2_; clear n0_ n1_ n2_; (try clear hb); (try clear hb2); (try clear hk); (try clear hi)) | ((with_reducible refine gate_dst (N := 5) rfl ?_); refine box_event ?hg (N := 5) ?hd (cs := #[.int .i64 0, .int .i64 0, .int .i64 0, .int .i64 0]) (t := 27) ?hr ?_; (case hd => rfl); (case hg => rfl); (case hr => first | (go_simp; done) | (go_simp; rfl)); intro gb116 hg w9 hbox hb; have n0_ := zBB BK114 hb; have n1_ := Aside0.mk (IsS93.below z24 hb); have n2_ := Aside0.mk (below_step z22 hb); have n3_ := Aside0.mk (hbox); have n4_ := Aside0.mk ((z134 : w.heap.size ≤ gb116)); have n5_ := Aside0.mk ((z134 : w.heap.size ≤ gb116)); have n6_ := Aside0.mk ((z125 : gb114 ≠ gb116)); have n7_ := Aside0.mk ((z126 : gb116 ≠ gb114)); have n8_ := Aside0.mk (((by rw [hg]; exact Nat.ne_of_lt (IsS93.lt (show IsS93 w _ g381 t100 t104 t105 from z24))) : g381 ≠ gb116)); have n9_ := Aside0.mk (((by rw [hg]; exact Nat.ne_of_gt (IsS93.lt (show IsS93 w _ g381 t100 t104 t105 from z24))) : gb116 ≠ g381)); clear BK114 HI115 HB; have BK114 := n0_; have HI115 := n1_; have HB := n2_; have BK116 := n3_; have GW116 := n4_; have GE116 := n5_; have NB114_116 := n6_; have NB116_114 := n7_; have NB115_116 := n8_; have NB116_115 := n9_; clear n0_ n1_ n2_ n3_ n4_ n5_ n6_ n7_ n8_ n9_; clear hb hbox hg; have hnb10 := NB116_114.out; have hnc10 := NB114_116.out; have hnb11 := NB116_115.out; have hnc11 := NB115_116.out; obtain ⟨hcz12_0, hcz12_1, hcz12_2, hcz12_3, hfz12_0, hfz12_1, hfz12_2, hfz12_3⟩ := zC4 BK116.out))
  have n0_ : Aside0 (((((w9.setCell ⟨gb116, 0, none⟩ (.int .i64 t101)).setCell ⟨gb116, 1, none⟩ (.int .i64 t106)).setCell ⟨gb116, 2, none⟩ (.int .i64 t107)).setCell ⟨gb116, 3, none⟩ (.int .i64 t108)).heap[gb114]? = some (.cells #[.int .i64 0, .int .i64 0, .int .i64 0, .int .i64 0] 27 (0, 0))) := ⟨z60⟩
  have n1_ : Aside0 (((((w9.setCell ⟨gb116, 0, none⟩ (.int .i64 t101)).setCell ⟨gb116, 1, none⟩ (.int .i64 t106)).setCell ⟨gb116, 2, none⟩ (.int .i64 t107)).setCell ⟨gb116, 3, none⟩ (.int .i64 t108)).heap[gb116]? = some (.cells #[.int .i64 t101, .int .i64 t106, .int .i64 t107, .int .i64 t108] 27 (0, 0))) := ⟨z49⟩
  have n2_ : Aside0 (IsS93 w ((((w9.setCell ⟨gb116, 0, none⟩ (.int .i64 t101)).setCell ⟨gb116, 1, none⟩ (.int .i64 t106)).setCell ⟨gb116, 2, none⟩ (.int .i64 t107)).setCell ⟨gb116, 3, none⟩ (.int .i64 t108)) g381 t100 t104 t105) := ⟨z26⟩
  have n3_ : Aside0 (Below w.heap.size w ((((w9.setCell ⟨gb116, 0, none⟩ (.int .i64 t101)).setCell ⟨gb116, 1, none⟩ (.int .i64 t106)).setCell ⟨gb116, 2, none⟩ (.int .i64 t107)).setCell ⟨gb116, 3, none⟩ (.int .i64 t108))) := ⟨z27⟩
  (try clear BK114)
  (try clear BK116)
  (try clear HI115)
  (try clear HB)
  generalize ((((w9.setCell ⟨gb116, 0, none⟩ (.int .i64 t101)).setCell ⟨gb116, 1, none⟩ (.int .i64 t106)).setCell ⟨gb116, 2, none⟩ (.int .i64 t107)).setCell ⟨gb116, 3, none⟩ (.int .i64 t108)) = w13 at n0_ n1_ n2_ n3_ ⊢
  have BK114 := n0_
  have BK116 := n1_
  have HI115 := n2_
  have HB := n3_
  clear n0_ n1_ n2_ n3_
  have n0_ := Aside0.mk (blk_drew BK114.out)
  have n1_ := Aside0.mk (blk_drew BK116.out)
  have n2_ := Aside0.mk (IsS93.drew HI115.out)
  have n3_ := Aside0.mk (below_drew1 HB.out)
  clear BK114 BK116 HI115 HB
  have BK114 := n0_
  have BK116 := n1_
  have HI115 := n2_
  have HB := n3_
  clear n0_ n1_ n2_ n3_
  refine start_ (n := 8) (S := fun w' => w'.cell? ⟨gb116, 0, none⟩ = some (.int .i64 t101) ∧ w'.cell? ⟨gb116, 1, none⟩ = some (.int .i64 t106) ∧ w'.cell? ⟨gb116, 2, none⟩ = some (.int .i64 t107) ∧ w'.cell? ⟨gb116, 3, none⟩ = some (.int .i64 t108)) (ds := []) #[false, false, false, false, false, false, false, false] (by kernel_rfl) rfl rfl ⟨(blk_cell BK116.out 0).trans rfl, (blk_cell BK116.out 1).trans rfl, (blk_cell BK116.out 2).trans rfl, (blk_cell BK116.out 3).trans rfl⟩ (fun hHeld => ?_); refine with_tabW spec_DrawNumbersOf.tab3 spec_DrawNumbersOf.bits3 (fun HT_ HW_ => ?_)
  generalize w13.drew = w14 at BK114 BK116 HI115 HB hHeld ⊢
  refine pure_ (i := 1) (N := some 11) (v := ?_) (a' := ?_) #[false, true, false, false, false, false, false, false] rfl rfl (any_of HT_.out (by kernel_rfl)) (fun _ _ _ h => h) (Or.inl ⟨(by rfl), ?_⟩) ?_ ?_
  rotate_left
  · exact z13
  rotate_left
  · exact z4
  refine pure_ (i := 2) (N := some 12) (v := ?_) (a' := ?_) #[false, true, true, false, false, false, false, false] rfl rfl (any_of HT_.out (by kernel_rfl)) (fun _ _ _ h => h) (Or.inl ⟨(by rfl), ?_⟩) ?_ ?_
  rotate_left
  · exact z13
  rotate_left
  · exact z4
  refine take_ (i := 0) (N := some 10) (v := ?_) (a' := ?_) #[true, true, true, false, false, false, false, false] rfl rfl (take_ofW HT_.out HW_.out (by kernel_rfl)) (fun _ _ _ h => h) (Or.inl ⟨(by rfl), ?_⟩) hHeld ?_ ?_
  rotate_left
  · rintro w' ⟨s0, s1, s2, s3⟩
    go_simp
    with_reducible rfl
  rotate_left
  · exact z4
  refine one_ (i := 3) (N := some 13) #[true, true, true, true, false, false, false, false] rfl rfl (one_of HT_.out (by kernel_rfl)) (by decide) (fun K hK => ?_)
  refine Kd.R_lit_step (Kd.int .i64) _ 2 ?hg (N := 13) ?hd (xs := ([30, 255, 4095] : List Int)) (inner := [.int .i64 30, .int .i64 255, .int .i64 4095]) (ok := fun _ => True) (okp := fun _ => True) ?hr ?hp (fun _ hk => hk) trivial (Below.refl _ _) (Nat.le_refl _) (by simp) ?_; (case hd => rfl); (case hg => rfl); (case hr => first | (go_simp; done) | (go_simp; rfl)); (case hp => exact (Reps.one (show Kd.M (Kd.int .i64) _ _ _ 30 [.int .i64 30] from rfl) (Reps.one (show Kd.M (Kd.int .i64) _ _ _ 255 [.int .i64 255] from rfl) (Reps.one (show Kd.M (Kd.int .i64) _ _ _ 4095 [.int .i64 4095] from rfl) (Reps.none _ _)))))
  intro v117 w15 ho16 hb hg_ hnew_
  clear hg_ hnew_
  (first | rw [← Ny109.out] at ho16 | (simp only [Int.reduceToNat] at ho16; rw [← Ny109.out] at ho16))
  have n0_ := Aside0.mk (Kd.R_lower ho16 (below_size z27))
  have n1_ := zBB BK114 hb
  have n2_ := Aside0.mk (IsS93.below z26 hb)
  have n3_ := zBB BK116 hb
  have n4_ := Aside0.mk (below_step z27 hb)
  clear BK114 HI115 BK116 HB
  have HO118 := n0_
  have BK114 := n1_
  have HI115 := n2_
  have BK116 := n3_
  have HB := n4_
  clear n0_ n1_ n2_ n3_ n4_
  clear hb ho16
  obtain ⟨Ao17, co17, eo17⟩ := Kd.R_slice HO118.out
  (first | subst eo17 | (injection eo17 with f1_ f2_ f3_; have f4_ := f1_.symm; have f5_ := f3_.symm; clear f1_ f2_ f3_; subst f4_; subst f5_))
  refine hK.out _ _ ⟨(blk_cell BK116.out 0).trans rfl, (blk_cell BK116.out 1).trans rfl, (blk_cell BK116.out 2).trans rfl, (blk_cell BK116.out 3).trans rfl⟩ (fun hHeld => ?_)
  clear hK K
  refine norm_ (a' := ?_) ?_ ?_
  rotate_left
  · show Act.put _ (some 13) _ = _
    simp only [Act.put, List.setIfInBounds_toArray, List.set_cons_zero, List.set_cons_succ, i64_w, i32_w]
    rfl
  refine one_ (i := 4) (N := some 14) #[true, true, true, true, true, false, false, false] rfl rfl (one_of HT_.out (by kernel_rfl)) (by decide) (fun K hK => ?_)
  refine goes_ Try.func76 (by kernel_rfl) rfl #[.pointer (some ⟨g381, 0, none⟩), .slice Ao17 y109.length co17] (by rfl) rfl rfl z2 ?_
  with_reducible refine (spec_l01Pick.calls g381 t100 t104 t105 _ _ y109 t102 t110 t111 w _ ?side1 ?side2 ?side3 ?side4 ?side5 A4.out).mono ?_
  (case side1 => exact z26)
  (case side2 => exact z27)
  (case side3 => exact z86)
  (case side4 => exact (Kd.R_reads' HO118.out).2.1)
  (case side5 => exact far_slice (IsS93.own_ne HI115.out HO118.out (by decide)))
  rintro e w18 ⟨rfl, hi, hb, hk⟩
  refine ⟨_, rfl, ?_⟩
  have n0_ := zKB BK114 hk NB114_115
  have n1_ := zKB BK116 hk NB116_115
  have n2_ := Aside0.mk (Kd.R_mono (Kd.R_keep (IsS93.apart (show IsS93 w _ g381 t100 t104 t105 from z26) z83 (by decide)) hk (fun _ h => h.2)) (fun _ h => h.1))
  have n3_ := Aside0.mk (hb)
  have n4_ := Aside0.mk (hi)
  clear BK114 BK116 HO118 HB HI115
  have BK114 := n0_
  have BK116 := n1_
  have HO118 := n2_
  have HB := n3_
  have HI115 := n4_
  clear n0_ n1_ n2_ n3_ n4_
  (try clear hb)
  (try clear hb2)
  (try clear hk)
  (try clear hi)
  refine hK.out _ _ ⟨(blk_cell BK116.out 0).trans rfl, (blk_cell BK116.out 1).trans rfl, (blk_cell BK116.out 2).trans rfl, (blk_cell BK116.out 3).trans rfl⟩ (fun hHeld => ?_)
  clear hK K
  refine norm_ (a' := ?_) ?_ ?_
  rotate_left
  · show Act.put _ (some 14) _ = _
    simp only [Act.put, List.setIfInBounds_toArray, List.set_cons_zero, List.set_cons_succ, i64_w, i32_w]
    rfl
  refine one_ (i := 5) (N := some 15) #[true, true, true, true, true, true, false, false] rfl rfl (one_of HT_.out (by kernel_rfl)) (by decide) (fun K hK => ?_)
  refine goes_ Try.func83 (by kernel_rfl) rfl #[.pointer (some ⟨g381, 0, none⟩), .int .i64 t102] (by rfl) rfl rfl z2 ?_
  with_reducible refine (spec_l01Near.calls g381 t100 t110 t111 t102 t103 t112 t113 w _ ?side1 ?side2 A5.out).mono ?_
  (case side1 => exact z26)
  (case side2 => exact z27)
  rintro e w19 ⟨rfl, hi, hb, hk⟩
  refine ⟨_, rfl, ?_⟩
  have n0_ := zKB BK114 hk NB114_115
  have n1_ := zKB BK116 hk NB116_115
  have n2_ := Aside0.mk (Kd.R_mono (Kd.R_keep (IsS93.apart (show IsS93 w _ g381 t100 t110 t111 from z26) z83 (by decide)) hk (fun _ h => h.2)) (fun _ h => h.1))
  have n3_ := Aside0.mk (hb)
  have n4_ := Aside0.mk (hi)
  clear BK114 BK116 HO118 HB HI115
  have BK114 := n0_
  have BK116 := n1_
  have HO118 := n2_
  have HB := n3_
  have HI115 := n4_
  clear n0_ n1_ n2_ n3_ n4_
  (try clear hb)
  (try clear hb2)
  (try clear hk)
  (try clear hi)
  refine hK.out _ _ ⟨(blk_cell BK116.out 0).trans rfl, (blk_cell BK116.out 1).trans rfl, (blk_cell BK116.out 2).trans rfl, (blk_cell BK116.out 3).trans rfl⟩ (fun hHeld => ?_)
  clear hK K
  refine norm_ (a' := ?_) ?_ ?_
  rotate_left
  · show Act.put _ (some 15) _ = _
    simp only [Act.put, List.setIfInBounds_toArray, List.set_cons_zero, List.set_cons_succ, i64_w, i32_w]
    rfl
  refine one_ (i := 6) (N := none) #[true, true, true, true, true, true, true, false] rfl rfl (one_of HT_.out (by kernel_rfl)) (by decide) (fun K hK => ?_)
  have hs20 : w19.cell? ⟨gb114, 0, none⟩ = some (.int .i64 0) := (blk_cell BK114.out 0).trans rfl
  have hfs20 := blk_frozen BK114.out 0
  have hns20_1 := NB116_114.out
  have hms20_1 := NB114_116.out
  have hs21 : w19.cell? ⟨gb114, 1, none⟩ = some (.int .i64 0) := (blk_cell BK114.out 1).trans rfl
  have hfs21 := blk_frozen BK114.out 1
  have hns21_1 := NB116_114.out
  have hms21_1 := NB114_116.out
  have hs22 : w19.cell? ⟨gb114, 2, none⟩ = some (.int .i64 0) := (blk_cell BK114.out 2).trans rfl
  have hfs22 := blk_frozen BK114.out 2
  have hns22_1 := NB116_114.out
  have hms22_1 := NB114_116.out
  have hs23 : w19.cell? ⟨gb114, 3, none⟩ = some (.int .i64 0) := (blk_cell BK114.out 3).trans rfl
  have hfs23 := blk_frozen BK114.out 3
  have hns23_1 := NB116_114.out
  have hms23_1 := NB114_116.out
  refine skip_ (w1 := ?_) (by rfl) rfl ?_ ?_
  rotate_left
  · go_simp
    rfl
  refine hK.out _ _ ⟨((cell_far (p := ⟨gb114, _, none⟩) NB116_114.out _).trans (((cell_far (p := ⟨gb114, _, none⟩) NB116_114.out _).trans (((cell_far (p := ⟨gb114, _, none⟩) NB116_114.out _).trans (((cell_far (p := ⟨gb114, _, none⟩) NB116_114.out _).trans (hHeld.1)))))))), ((cell_far (p := ⟨gb114, _, none⟩) NB116_114.out _).trans (((cell_far (p := ⟨gb114, _, none⟩) NB116_114.out _).trans (((cell_far (p := ⟨gb114, _, none⟩) NB116_114.out _).trans (((cell_far (p := ⟨gb114, _, none⟩) NB116_114.out _).trans (hHeld.2.1)))))))), ((cell_far (p := ⟨gb114, _, none⟩) NB116_114.out _).trans (((cell_far (p := ⟨gb114, _, none⟩) NB116_114.out _).trans (((cell_far (p := ⟨gb114, _, none⟩) NB116_114.out _).trans (((cell_far (p := ⟨gb114, _, none⟩) NB116_114.out _).trans (hHeld.2.2.1)))))))), ((cell_far (p := ⟨gb114, _, none⟩) NB116_114.out _).trans (((cell_far (p := ⟨gb114, _, none⟩) NB116_114.out _).trans (((cell_far (p := ⟨gb114, _, none⟩) NB116_114.out _).trans (((cell_far (p := ⟨gb114, _, none⟩) NB116_114.out _).trans (hHeld.2.2.2))))))))⟩ (fun hHeld => ?_)
  clear hK K
  refine pure_ (i := 7) (N := some 3) (v := ?_) (a' := ?_) #[true, true, true, true, true, true, true, true] rfl rfl (any_of HT_.out (by kernel_rfl)) (fun _ _ _ h => h) (Or.inl ⟨(by rfl), ?_⟩) ?_ ?_
  rotate_left
  · exact z13
  rotate_left
  · exact z4
  refine done_ (done_of HT_.out (by kernel_rfl)) ?_
  try go_wp2
  refine bodyPost_ret (results_ct rfl _ _ gb114 27 #[.int .i64 t101, .int .i64 t106, .int .i64 t107, .int .i64 t108] (0, 0) _ rfl z23 Try.underlying27 rfl (by kernel_rfl)) rfl ?_
  exact ⟨z6, z27⟩

end Go.Proofs.Ytchlbkcladfloaa.PFnTickets
