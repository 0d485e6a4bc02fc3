-- WALKS, by a program and by hand
import Derived.Test.YthjkdnneagnejaaPFnExactNewChoicesx0
import Derived.Test.YthjkdnneagnejaaPFnExactNewChoicesx6
namespace Go.Proofs.Ythjkdnneagnejaa.PFnExactNewChoices
open Go.RowKit Go.Proofs.Ythjkdnneagnejaa.DG Go.Proofs.YthjkdnneagnejaaW.PrintWords Go.Proofs.YthjkdnneagnejaaW.PrintLast Go.Proofs.YthjkdnneagnejaaW.PrintMore
attribute [local go_sem] max2_int min2_int max_two min_two max_three min_three max_four min_four   -- for this text's walks alone
set_option linter.unusedVariables false
set_option linter.unusedSimpArgs false

/-! ### impl_rowsCode: function 85 -/
def impl_rowsCode.f (k : Nat) (l0_0 : List Int) (l1 : List Int) (a2 : Int) : Option (Int) := (impl_IsSpace.f k l0_0).bind fun t262 => (if t262 = true then (if (l1.length : Int) > 200 then (some 2) else ((impl_areWords.f k l0_0 l1).bind fun t263 => (if t263 = true then ((impl_isStrength.f l0_0 a2).bind fun t264 => (if t264 = true then (some 0) else (some 2))) else (some 2)))) else (some 1))
theorem impl_rowsCode.mono : ∀ a0 a1 a2 k, LeO (impl_rowsCode.f k a0 a1 a2) (impl_rowsCode.f (k + 1) a0 a1 a2) := by
  intro a0 a1 a2 k
  unfold impl_rowsCode.f
  repeat' first
      | (with_reducible exact impl_IsSpace.mono _ _)
      | (with_reducible exact impl_areWords.mono _ _ _)
      | (with_reducible exact LeO.refl _)
      | (with_reducible exact LeO.none _)
      | (with_reducible refine LeO.ite ?_ ?_)
      | (with_reducible refine LeO.bind ?_ (fun _ => ?_))
set_option maxHeartbeats 8000000 in
set_option maxRecDepth 100000 in
theorem impl_rowsCode.calls (k : Nat) (A0_0 : Option Addr) (c0_0 : Nat) (l0_0 : List Int) (A1 : Option Addr) (c1 : Nat) (l1 : List Int) (a2 : Int) (r : Int) (w : World) (hr0_0 : Kd.C (Kd.int .i64) w A0_0 l0_0.length l0_0) (hc0_0 : l0_0.length ≤ c0_0) (hr1 : Kd.C (Kd.int .i64) w A1 l1.length l1) (hc1 : l1.length ≤ c1) (h : impl_rowsCode.f k l0_0 l1 a2 = some r) :
    Calls Try.prog 85 #[.agg #[.slice A0_0 l0_0.length c0_0], .slice A1 l1.length c1, .int .i64 a2] w fun e w' => e = .returned (.int .i64 r) ∧ Below w.heap.size w w' := by
  have hu28 := Try.underlying28
  have HR0_0 := Aside0.mk hr0_0
  have HC0_0 := Aside0.mk hc0_0
  clear hr0_0 hc0_0
  have HR1 := Aside0.mk hr1
  have HC1 := Aside0.mk hc1
  clear hr1 hc1
  have HB := Aside0.mk (Below.refl w.heap.size w)
  have H : ((impl_IsSpace.f k l0_0).bind fun t262 => (if t262 = true then (if (l1.length : Int) > 200 then (some 2) else ((impl_areWords.f k l0_0 l1).bind fun t263 => (if t263 = true then ((impl_isStrength.f l0_0 a2).bind fun t264 => (if t264 = true then (some 0) else (some 2))) else (some 2)))) else (some 1))) = some r := h
  clear h
  replace H := Option.bind_eq_some_iff.mp H
  obtain ⟨t262, A40, H⟩ := H
  replace H : (if t262 = true then (if (l1.length : Int) > 200 then (some 2) else ((impl_areWords.f k l0_0 l1).bind fun t263 => (if t263 = true then ((impl_isStrength.f l0_0 a2).bind fun t264 => (if t264 = true then (some 0) else (some 2))) else (some 2)))) else (some 1)) = some r := H
  have A4 := Aside0.mk A40
  clear A40
  by_cases c5 : t262 = true
  · subst c5
    have H1 : (if (l1.length : Int) > 200 then (some 2) else ((impl_areWords.f k l0_0 l1).bind fun t263 => (if t263 = true then ((impl_isStrength.f l0_0 a2).bind fun t264 => (if t264 = true then (some 0) else (some 2))) else (some 2)))) = some r := by rw [if_pos rfl] at H; exact H
    clear H
    have H := H1
    clear H1
    by_cases c6 : (l1.length : Int) > 200
    · rw [if_pos c6] at H
      have c6b0 : decide (200 < (l1.length : Int)) = true := decide_eq_true c6
      have c6b1 : decide (200 < l1.length) = true := decide_eq_true (by omega)
      clear c6
      obtain rfl := Option.some.inj H
      go_enter Try.func85, Try.ntmps85
      go_wp2_with (first | ((with_reducible refine gate_dst (N := 3) rfl ?_); refine box_event ?hg (N := 3) ?hd (cs := #[.slice A0_0 l0_0.length c0_0]) (t := 28) ?hr ?_; (case hd => rfl); (case hg => rfl); (case hr => first | (go_simp; done) | (go_simp; rfl)); intro gb261 hg w7 hbox hb; have n0_ := Aside0.mk (below_step (by repeat (first | (with_reducible first | exact HB.out | apply below_alloc | apply pw_below_drewN | apply below_drew1) | exact HB.out)) hb); have n1_ := Aside0.mk (hbox); have n2_ := Aside0.mk ((by rw [hg]; exact (below_size (by repeat (first | (with_reducible first | exact HB.out | apply below_alloc | apply pw_below_drewN | apply below_drew1) | exact HB.out))) : w.heap.size ≤ gb261)); have n3_ := Aside0.mk ((by rw [hg]; exact (below_size (by repeat (first | (with_reducible first | exact HB.out | apply below_alloc | apply pw_below_drewN | apply below_drew1) | exact HB.out))) : w.heap.size ≤ gb261)); clear HB; have HB := n0_; have BK261 := n1_; have GW261 := n2_; have GE261 := n3_; clear n0_ n1_ n2_ n3_; clear hb hbox hg; have hcz8_0 : w7.cell? ⟨gb261, 0, none⟩ = some (.slice A0_0 l0_0.length c0_0) := (blk_cell BK261.out 0).trans rfl; have hfz8_0 := blk_frozen BK261.out 0) | ((with_reducible refine gate_callee (f := 94) rfl ?_); refine goesL_ (some 9) rfl rfl Try.func94 (by kernel_rfl) rfl #[.agg #[.slice A0_0 l0_0.length c0_0]] rfl (by (try simp only [List.map_toArray, List.map_cons, List.map_nil]); first | done | rfl | (simp only [List.length_drop, List.length_take]; rfl)) ?_; (with_reducible refine (impl_IsSpace.calls k _ _ l0_0 true _ ?side1 ?side2 A4.out).mono ?_); (case side1 => repeat (first | exact (Kd.C_below HR0_0.out HB.out) | (with_reducible refine Kd.C_alloc ?_ _) | (with_reducible refine Kd.C_drewN ?_ _) | (with_reducible refine Kd.C_drew ?_))); (case side2 => exact HC0_0.out); rintro e w9 ⟨rfl, hb⟩; refine ⟨_, rfl, ?_⟩; have n0_ := Aside0.mk (blk_below (g := gb261) (o := .cells #[.slice A0_0 l0_0.length c0_0] 28 (0, 0)) (by (with_reducible repeat (first | refine blk_drewN ?_ _ | refine blk_drew ?_ | refine blk_alloc ?_ _)); exact BK261.out) hb); have n1_ := Aside0.mk (below_step (by repeat (first | (with_reducible first | exact HB.out | apply below_alloc | apply pw_below_drewN | apply below_drew1 | refine below_set ?_ GE261.out) | exact HB.out)) hb); clear BK261; clear HB; have BK261 := n0_; have HB := n1_; clear n0_ n1_; (try clear hb); (try clear hb2); (try clear hk); (try clear hi)))
      go_ret
      exact ⟨by first | rfl | (simp [errW_none, errW_some] <;> rfl) | (simp [*, errW_none, errW_some] <;> rfl), by repeat (first | (with_reducible first | exact HB.out | apply below_alloc | apply pw_below_drewN | apply below_drew1 | refine below_set ?_ GE261.out) | exact HB.out)⟩
    · rw [if_neg c6] at H
      have c6b0 : decide (200 < (l1.length : Int)) = false := decide_eq_false c6
      have c6b1 : decide (200 < l1.length) = false := decide_eq_false (by omega)
      clear c6
      replace H := Option.bind_eq_some_iff.mp H
      obtain ⟨t263, A100, H⟩ := H
      replace H : (if t263 = true then ((impl_isStrength.f l0_0 a2).bind fun t264 => (if t264 = true then (some 0) else (some 2))) else (some 2)) = some r := H
      have A10 := Aside0.mk A100
      clear A100
      by_cases c11 : t263 = true
      · subst c11
        have H1 : ((impl_isStrength.f l0_0 a2).bind fun t264 => (if t264 = true then (some 0) else (some 2))) = some r := by rw [if_pos rfl] at H; exact H
        clear H
        have H := H1
        clear H1
        replace H := Option.bind_eq_some_iff.mp H
        obtain ⟨t264, A120, H⟩ := H
        replace H : (if t264 = true then (some 0) else (some 2)) = some r := H
        have A12 := Aside0.mk A120
        clear A120
        by_cases c13 : t264 = true
        · subst c13
          have H1 : (some 0) = some r := by rw [if_pos rfl] at H; exact H
          clear H
          have H := H1
          clear H1
          obtain rfl := Option.some.inj H
          go_enter Try.func85, Try.ntmps85
          go_wp2_with (first | ((with_reducible refine gate_dst (N := 3) rfl ?_); refine box_event ?hg (N := 3) ?hd (cs := #[.slice A0_0 l0_0.length c0_0]) (t := 28) ?hr ?_; (case hd => rfl); (case hg => rfl); (case hr => first | (go_simp; done) | (go_simp; rfl)); intro gb261 hg w14 hbox hb; have n0_ := Aside0.mk (below_step (by repeat (first | (with_reducible first | exact HB.out | apply below_alloc | apply pw_below_drewN | apply below_drew1) | exact HB.out)) hb); have n1_ := Aside0.mk (hbox); have n2_ := Aside0.mk ((by rw [hg]; exact (below_size (by repeat (first | (with_reducible first | exact HB.out | apply below_alloc | apply pw_below_drewN | apply below_drew1) | exact HB.out))) : w.heap.size ≤ gb261)); have n3_ := Aside0.mk ((by rw [hg]; exact (below_size (by repeat (first | (with_reducible first | exact HB.out | apply below_alloc | apply pw_below_drewN | apply below_drew1) | exact HB.out))) : w.heap.size ≤ gb261)); clear HB; have HB := n0_; have BK261 := n1_; have GW261 := n2_; have GE261 := n3_; clear n0_ n1_ n2_ n3_; clear hb hbox hg; have hcz15_0 : w14.cell? ⟨gb261, 0, none⟩ = some (.slice A0_0 l0_0.length c0_0) := (blk_cell BK261.out 0).trans rfl; have hfz15_0 := blk_frozen BK261.out 0) | ((with_reducible refine gate_callee (f := 94) rfl ?_); refine goesL_ (some 9) rfl rfl Try.func94 (by kernel_rfl) rfl #[.agg #[.slice A0_0 l0_0.length c0_0]] rfl (by (try simp only [List.map_toArray, List.map_cons, List.map_nil]); first | done | rfl | (simp only [List.length_drop, List.length_take]; rfl)) ?_; (with_reducible refine (impl_IsSpace.calls k _ _ l0_0 true _ ?side1 ?side2 A4.out).mono ?_); (case side1 => repeat (first | exact (Kd.C_below HR0_0.out HB.out) | (with_reducible refine Kd.C_alloc ?_ _) | (with_reducible refine Kd.C_drewN ?_ _) | (with_reducible refine Kd.C_drew ?_))); (case side2 => exact HC0_0.out); rintro e w16 ⟨rfl, hb⟩; refine ⟨_, rfl, ?_⟩; have n0_ := Aside0.mk (blk_below (g := gb261) (o := .cells #[.slice A0_0 l0_0.length c0_0] 28 (0, 0)) (by (with_reducible repeat (first | refine blk_drewN ?_ _ | refine blk_drew ?_ | refine blk_alloc ?_ _)); exact BK261.out) hb); have n1_ := Aside0.mk (below_step (by repeat (first | (with_reducible first | exact HB.out | apply below_alloc | apply pw_below_drewN | apply below_drew1 | refine below_set ?_ GE261.out) | exact HB.out)) hb); clear BK261; clear HB; have BK261 := n0_; have HB := n1_; clear n0_ n1_; (try clear hb); (try clear hb2); (try clear hk); (try clear hi); have hcz17_0 : w16.cell? ⟨gb261, 0, none⟩ = some (.slice A0_0 l0_0.length c0_0) := (blk_cell BK261.out 0).trans rfl; have hfz17_0 := blk_frozen BK261.out 0) | (go_at_call 140; (with_reducible refine (impl_areWords.calls k _ _ l0_0 _ _ l1 true _ ?side1 ?side2 ?side3 ?side4 A10.out).mono ?_); (case side1 => repeat (first | exact (Kd.C_below HR0_0.out HB.out) | (with_reducible refine Kd.C_alloc ?_ _) | (with_reducible refine Kd.C_drewN ?_ _) | (with_reducible refine Kd.C_drew ?_))); (case side2 => exact HC0_0.out); (case side3 => repeat (first | exact (Kd.C_below HR1.out HB.out) | (with_reducible refine Kd.C_alloc ?_ _) | (with_reducible refine Kd.C_drewN ?_ _) | (with_reducible refine Kd.C_drew ?_))); (case side4 => exact HC1.out); rintro e w18 ⟨rfl, hb⟩; have n0_ := Aside0.mk (blk_below (g := gb261) (o := .cells #[.slice A0_0 l0_0.length c0_0] 28 (0, 0)) (by (with_reducible repeat (first | refine blk_drewN ?_ _ | refine blk_drew ?_ | refine blk_alloc ?_ _)); exact BK261.out) hb); have n1_ := Aside0.mk (below_step (by repeat (first | (with_reducible first | exact HB.out | apply below_alloc | apply pw_below_drewN | apply below_drew1 | refine below_set ?_ GE261.out) | exact HB.out)) hb); clear BK261; clear HB; have BK261 := n0_; have HB := n1_; clear n0_ n1_; (try clear hb); (try clear hb2); (try clear hk); (try clear hi); have hcz19_0 : w18.cell? ⟨gb261, 0, none⟩ = some (.slice A0_0 l0_0.length c0_0) := (blk_cell BK261.out 0).trans rfl; have hfz19_0 := blk_frozen BK261.out 0) | (go_at_call 80; (with_reducible refine (impl_isStrength.calls _ _ l0_0 a2 true _ ?side1 ?side2 A12.out).mono ?_); (case side1 => repeat (first | exact (Kd.C_below HR0_0.out HB.out) | (with_reducible refine Kd.C_alloc ?_ _) | (with_reducible refine Kd.C_drewN ?_ _) | (with_reducible refine Kd.C_drew ?_))); (case side2 => exact HC0_0.out); rintro e w20 ⟨rfl, hb⟩; have n0_ := Aside0.mk (blk_below (g := gb261) (o := .cells #[.slice A0_0 l0_0.length c0_0] 28 (0, 0)) (by (with_reducible repeat (first | refine blk_drewN ?_ _ | refine blk_drew ?_ | refine blk_alloc ?_ _)); exact BK261.out) hb); have n1_ := Aside0.mk (below_step (by repeat (first | (with_reducible first | exact HB.out | apply below_alloc | apply pw_below_drewN | apply below_drew1 | refine below_set ?_ GE261.out) | exact HB.out)) hb); clear BK261; clear HB; have BK261 := n0_; have HB := n1_; clear n0_ n1_; (try clear hb); (try clear hb2); (try clear hk); (try clear hi)))
          go_ret
          exact ⟨by first | rfl | (simp [errW_none, errW_some] <;> rfl) | (simp [*, errW_none, errW_some] <;> rfl), by repeat (first | (with_reducible first | exact HB.out | apply below_alloc | apply pw_below_drewN | apply below_drew1 | refine below_set ?_ GE261.out) | exact HB.out)⟩
        · replace c13 := Bool.eq_false_iff.mpr c13
          subst c13
          have H1 : (some 2) = some r := by rw [if_neg (show ¬ (false = true) by decide)] at H; exact H
          clear H
          have H := H1
          clear H1
          obtain rfl := Option.some.inj H
          go_enter Try.func85, Try.ntmps85
          go_wp2_with (first | ((with_reducible refine gate_dst (N := 3) rfl ?_); refine box_event ?hg (N := 3) ?hd (cs := #[.slice A0_0 l0_0.length c0_0]) (t := 28) ?hr ?_; (case hd => rfl); (case hg => rfl); (case hr => first | (go_simp; done) | (go_simp; rfl)); intro gb261 hg w21 hbox hb; have n0_ := Aside0.mk (below_step (by repeat (first | (with_reducible first | exact HB.out | apply below_alloc | apply pw_below_drewN | apply below_drew1) | exact HB.out)) hb); have n1_ := Aside0.mk (hbox); have n2_ := Aside0.mk ((by rw [hg]; exact (below_size (by repeat (first | (with_reducible first | exact HB.out | apply below_alloc | apply pw_below_drewN | apply below_drew1) | exact HB.out))) : w.heap.size ≤ gb261)); have n3_ := Aside0.mk ((by rw [hg]; exact (below_size (by repeat (first | (with_reducible first | exact HB.out | apply below_alloc | apply pw_below_drewN | apply below_drew1) | exact HB.out))) : w.heap.size ≤ gb261)); clear HB; have HB := n0_; have BK261 := n1_; have GW261 := n2_; have GE261 := n3_; clear n0_ n1_ n2_ n3_; clear hb hbox hg; have hcz22_0 : w21.cell? ⟨gb261, 0, none⟩ = some (.slice A0_0 l0_0.length c0_0) := (blk_cell BK261.out 0).trans rfl; have hfz22_0 := blk_frozen BK261.out 0) | ((with_reducible refine gate_callee (f := 94) rfl ?_); refine goesL_ (some 9) rfl rfl Try.func94 (by kernel_rfl) rfl #[.agg #[.slice A0_0 l0_0.length c0_0]] rfl (by (try simp only [List.map_toArray, List.map_cons, List.map_nil]); first | done | rfl | (simp only [List.length_drop, List.length_take]; rfl)) ?_; (with_reducible refine (impl_IsSpace.calls k _ _ l0_0 true _ ?side1 ?side2 A4.out).mono ?_); (case side1 => repeat (first | exact (Kd.C_below HR0_0.out HB.out) | (with_reducible refine Kd.C_alloc ?_ _) | (with_reducible refine Kd.C_drewN ?_ _) | (with_reducible refine Kd.C_drew ?_))); (case side2 => exact HC0_0.out); rintro e w23 ⟨rfl, hb⟩; refine ⟨_, rfl, ?_⟩; have n0_ := Aside0.mk (blk_below (g := gb261) (o := .cells #[.slice A0_0 l0_0.length c0_0] 28 (0, 0)) (by (with_reducible repeat (first | refine blk_drewN ?_ _ | refine blk_drew ?_ | refine blk_alloc ?_ _)); exact BK261.out) hb); have n1_ := Aside0.mk (below_step (by repeat (first | (with_reducible first | exact HB.out | apply below_alloc | apply pw_below_drewN | apply below_drew1 | refine below_set ?_ GE261.out) | exact HB.out)) hb); clear BK261; clear HB; have BK261 := n0_; have HB := n1_; clear n0_ n1_; (try clear hb); (try clear hb2); (try clear hk); (try clear hi); have hcz24_0 : w23.cell? ⟨gb261, 0, none⟩ = some (.slice A0_0 l0_0.length c0_0) := (blk_cell BK261.out 0).trans rfl; have hfz24_0 := blk_frozen BK261.out 0) | (go_at_call 140; (with_reducible refine (impl_areWords.calls k _ _ l0_0 _ _ l1 true _ ?side1 ?side2 ?side3 ?side4 A10.out).mono ?_); (case side1 => repeat (first | exact (Kd.C_below HR0_0.out HB.out) | (with_reducible refine Kd.C_alloc ?_ _) | (with_reducible refine Kd.C_drewN ?_ _) | (with_reducible refine Kd.C_drew ?_))); (case side2 => exact HC0_0.out); (case side3 => repeat (first | exact (Kd.C_below HR1.out HB.out) | (with_reducible refine Kd.C_alloc ?_ _) | (with_reducible refine Kd.C_drewN ?_ _) | (with_reducible refine Kd.C_drew ?_))); (case side4 => exact HC1.out); rintro e w25 ⟨rfl, hb⟩; have n0_ := Aside0.mk (blk_below (g := gb261) (o := .cells #[.slice A0_0 l0_0.length c0_0] 28 (0, 0)) (by (with_reducible repeat (first | refine blk_drewN ?_ _ | refine blk_drew ?_ | refine blk_alloc ?_ _)); exact BK261.out) hb); have n1_ := Aside0.mk (below_step (by repeat (first | (with_reducible first | exact HB.out | apply below_alloc | apply pw_below_drewN | apply below_drew1 | refine below_set ?_ GE261.out) | exact HB.out)) hb); clear BK261; clear HB; have BK261 := n0_; have HB := n1_; clear n0_ n1_; (try clear hb); (try clear hb2); (try clear hk); (try clear hi); have hcz26_0 : w25.cell? ⟨gb261, 0, none⟩ = some (.slice A0_0 l0_0.length c0_0) := (blk_cell BK261.out 0).trans rfl; have hfz26_0 := blk_frozen BK261.out 0) | (go_at_call 80; (with_reducible refine (impl_isStrength.calls _ _ l0_0 a2 false _ ?side1 ?side2 A12.out).mono ?_); (case side1 => repeat (first | exact (Kd.C_below HR0_0.out HB.out) | (with_reducible refine Kd.C_alloc ?_ _) | (with_reducible refine Kd.C_drewN ?_ _) | (with_reducible refine Kd.C_drew ?_))); (case side2 => exact HC0_0.out); rintro e w27 ⟨rfl, hb⟩; have n0_ := Aside0.mk (blk_below (g := gb261) (o := .cells #[.slice A0_0 l0_0.length c0_0] 28 (0, 0)) (by (with_reducible repeat (first | refine blk_drewN ?_ _ | refine blk_drew ?_ | refine blk_alloc ?_ _)); exact BK261.out) hb); have n1_ := Aside0.mk (below_step (by repeat (first | (with_reducible first | exact HB.out | apply below_alloc | apply pw_below_drewN | apply below_drew1 | refine below_set ?_ GE261.out) | exact HB.out)) hb); clear BK261; clear HB; have BK261 := n0_; have HB := n1_; clear n0_ n1_; (try clear hb); (try clear hb2); (try clear hk); (try clear hi)))
          go_ret
          exact ⟨by first | rfl | (simp [errW_none, errW_some] <;> rfl) | (simp [*, errW_none, errW_some] <;> rfl), by repeat (first | (with_reducible first | exact HB.out | apply below_alloc | apply pw_below_drewN | apply below_drew1 | refine below_set ?_ GE261.out) | exact HB.out)⟩
      · replace c11 := Bool.eq_false_iff.mpr c11
        subst c11
        have H1 : (some 2) = some r := by rw [if_neg (show ¬ (false = true) by decide)] at H; exact H
        clear H
        have H := H1
        clear H1
        obtain rfl := Option.some.inj H
        go_enter Try.func85, Try.ntmps85
        go_wp2_with (first | ((with_reducible refine gate_dst (N := 3) rfl ?_); refine box_event ?hg (N := 3) ?hd (cs := #[.slice A0_0 l0_0.length c0_0]) (t := 28) ?hr ?_; (case hd => rfl); (case hg => rfl); (case hr => first | (go_simp; done) | (go_simp; rfl)); intro gb261 hg w28 hbox hb; have n0_ := Aside0.mk (below_step (by repeat (first | (with_reducible first | exact HB.out | apply below_alloc | apply pw_below_drewN | apply below_drew1) | exact HB.out)) hb); have n1_ := Aside0.mk (hbox); have n2_ := Aside0.mk ((by rw [hg]; exact (below_size (by repeat (first | (with_reducible first | exact HB.out | apply below_alloc | apply pw_below_drewN | apply below_drew1) | exact HB.out))) : w.heap.size ≤ gb261)); have n3_ := Aside0.mk ((by rw [hg]; exact (below_size (by repeat (first | (with_reducible first | exact HB.out | apply below_alloc | apply pw_below_drewN | apply below_drew1) | exact HB.out))) : w.heap.size ≤ gb261)); clear HB; have HB := n0_; have BK261 := n1_; have GW261 := n2_; have GE261 := n3_; clear n0_ n1_ n2_ n3_; clear hb hbox hg; have hcz29_0 : w28.cell? ⟨gb261, 0, none⟩ = some (.slice A0_0 l0_0.length c0_0) := (blk_cell BK261.out 0).trans rfl; have hfz29_0 := blk_frozen BK261.out 0) | ((with_reducible refine gate_callee (f := 94) rfl ?_); refine goesL_ (some 9) rfl rfl Try.func94 (by kernel_rfl) rfl #[.agg #[.slice A0_0 l0_0.length c0_0]] rfl (by (try simp only [List.map_toArray, List.map_cons, List.map_nil]); first | done | rfl | (simp only [List.length_drop, List.length_take]; rfl)) ?_; (with_reducible refine (impl_IsSpace.calls k _ _ l0_0 true _ ?side1 ?side2 A4.out).mono ?_); (case side1 => repeat (first | exact (Kd.C_below HR0_0.out HB.out) | (with_reducible refine Kd.C_alloc ?_ _) | (with_reducible refine Kd.C_drewN ?_ _) | (with_reducible refine Kd.C_drew ?_))); (case side2 => exact HC0_0.out); rintro e w30 ⟨rfl, hb⟩; refine ⟨_, rfl, ?_⟩; have n0_ := Aside0.mk (blk_below (g := gb261) (o := .cells #[.slice A0_0 l0_0.length c0_0] 28 (0, 0)) (by (with_reducible repeat (first | refine blk_drewN ?_ _ | refine blk_drew ?_ | refine blk_alloc ?_ _)); exact BK261.out) hb); have n1_ := Aside0.mk (below_step (by repeat (first | (with_reducible first | exact HB.out | apply below_alloc | apply pw_below_drewN | apply below_drew1 | refine below_set ?_ GE261.out) | exact HB.out)) hb); clear BK261; clear HB; have BK261 := n0_; have HB := n1_; clear n0_ n1_; (try clear hb); (try clear hb2); (try clear hk); (try clear hi); have hcz31_0 : w30.cell? ⟨gb261, 0, none⟩ = some (.slice A0_0 l0_0.length c0_0) := (blk_cell BK261.out 0).trans rfl; have hfz31_0 := blk_frozen BK261.out 0) | (go_at_call 140; (with_reducible refine (impl_areWords.calls k _ _ l0_0 _ _ l1 false _ ?side1 ?side2 ?side3 ?side4 A10.out).mono ?_); (case side1 => repeat (first | exact (Kd.C_below HR0_0.out HB.out) | (with_reducible refine Kd.C_alloc ?_ _) | (with_reducible refine Kd.C_drewN ?_ _) | (with_reducible refine Kd.C_drew ?_))); (case side2 => exact HC0_0.out); (case side3 => repeat (first | exact (Kd.C_below HR1.out HB.out) | (with_reducible refine Kd.C_alloc ?_ _) | (with_reducible refine Kd.C_drewN ?_ _) | (with_reducible refine Kd.C_drew ?_))); (case side4 => exact HC1.out); rintro e w32 ⟨rfl, hb⟩; have n0_ := Aside0.mk (blk_below (g := gb261) (o := .cells #[.slice A0_0 l0_0.length c0_0] 28 (0, 0)) (by (with_reducible repeat (first | refine blk_drewN ?_ _ | refine blk_drew ?_ | refine blk_alloc ?_ _)); exact BK261.out) hb); have n1_ := Aside0.mk (below_step (by repeat (first | (with_reducible first | exact HB.out | apply below_alloc | apply pw_below_drewN | apply below_drew1 | refine below_set ?_ GE261.out) | exact HB.out)) hb); clear BK261; clear HB; have BK261 := n0_; have HB := n1_; clear n0_ n1_; (try clear hb); (try clear hb2); (try clear hk); (try clear hi)))
        go_ret
        exact ⟨by first | rfl | (simp [errW_none, errW_some] <;> rfl) | (simp [*, errW_none, errW_some] <;> rfl), by repeat (first | (with_reducible first | exact HB.out | apply below_alloc | apply pw_below_drewN | apply below_drew1 | refine below_set ?_ GE261.out) | exact HB.out)⟩
  · replace c5 := Bool.eq_false_iff.mpr c5
    subst c5
    have H1 : (some 1) = some r := by rw [if_neg (show ¬ (false = true) by decide)] at H; exact H
    clear H
    have H := H1
    clear H1
    obtain rfl := Option.some.inj H
    go_enter Try.func85, Try.ntmps85
    go_wp2_with (first | ((with_reducible refine gate_dst (N := 3) rfl ?_); refine box_event ?hg (N := 3) ?hd (cs := #[.slice A0_0 l0_0.length c0_0]) (t := 28) ?hr ?_; (case hd => rfl); (case hg => rfl); (case hr => first | (go_simp; done) | (go_simp; rfl)); intro gb261 hg w33 hbox hb; have n0_ := Aside0.mk (below_step (by repeat (first | (with_reducible first | exact HB.out | apply below_alloc | apply pw_below_drewN | apply below_drew1) | exact HB.out)) hb); have n1_ := Aside0.mk (hbox); have n2_ := Aside0.mk ((by rw [hg]; exact (below_size (by repeat (first | (with_reducible first | exact HB.out | apply below_alloc | apply pw_below_drewN | apply below_drew1) | exact HB.out))) : w.heap.size ≤ gb261)); have n3_ := Aside0.mk ((by rw [hg]; exact (below_size (by repeat (first | (with_reducible first | exact HB.out | apply below_alloc | apply pw_below_drewN | apply below_drew1) | exact HB.out))) : w.heap.size ≤ gb261)); clear HB; have HB := n0_; have BK261 := n1_; have GW261 := n2_; have GE261 := n3_; clear n0_ n1_ n2_ n3_; clear hb hbox hg; have hcz34_0 : w33.cell? ⟨gb261, 0, none⟩ = some (.slice A0_0 l0_0.length c0_0) := (blk_cell BK261.out 0).trans rfl; have hfz34_0 := blk_frozen BK261.out 0) | ((with_reducible refine gate_callee (f := 94) rfl ?_); refine goesL_ (some 9) rfl rfl Try.func94 (by kernel_rfl) rfl #[.agg #[.slice A0_0 l0_0.length c0_0]] rfl (by (try simp only [List.map_toArray, List.map_cons, List.map_nil]); first | done | rfl | (simp only [List.length_drop, List.length_take]; rfl)) ?_; (with_reducible refine (impl_IsSpace.calls k _ _ l0_0 false _ ?side1 ?side2 A4.out).mono ?_); (case side1 => repeat (first | exact (Kd.C_below HR0_0.out HB.out) | (with_reducible refine Kd.C_alloc ?_ _) | (with_reducible refine Kd.C_drewN ?_ _) | (with_reducible refine Kd.C_drew ?_))); (case side2 => exact HC0_0.out); rintro e w35 ⟨rfl, hb⟩; refine ⟨_, rfl, ?_⟩; have n0_ := Aside0.mk (blk_below (g := gb261) (o := .cells #[.slice A0_0 l0_0.length c0_0] 28 (0, 0)) (by (with_reducible repeat (first | refine blk_drewN ?_ _ | refine blk_drew ?_ | refine blk_alloc ?_ _)); exact BK261.out) hb); have n1_ := Aside0.mk (below_step (by repeat (first | (with_reducible first | exact HB.out | apply below_alloc | apply pw_below_drewN | apply below_drew1 | refine below_set ?_ GE261.out) | exact HB.out)) hb); clear BK261; clear HB; have BK261 := n0_; have HB := n1_; clear n0_ n1_; (try clear hb); (try clear hb2); (try clear hk); (try clear hi)))
    go_ret
    exact ⟨by first | rfl | (simp [errW_none, errW_some] <;> rfl) | (simp [*, errW_none, errW_some] <;> rfl), by repeat (first | (with_reducible first | exact HB.out | apply below_alloc | apply pw_below_drewN | apply below_drew1 | refine below_set ?_ GE261.out) | exact HB.out)⟩

/-! ### impl_NewChoices: function 49 -/
def impl_NewChoices.f (k : Nat) (l0 : List Int) (l1 : List Int) (a2 : Int) : Option (List Int × Int) := (impl_rowsCode.f k l0 l1 a2).bind fun c => if c = 0 then (if okS l0 = true then (if okRows l1 = true then (if 0 ≤ a2 then (if a2 ≤ 3 then some (newsT l0 l1 a2.toNat, 0) else none) else none) else none) else none) else some ([], c)
theorem impl_NewChoices.mono : ∀ a0 a1 a2 k, LeO (impl_NewChoices.f k a0 a1 a2) (impl_NewChoices.f (k + 1) a0 a1 a2) := by
  intro a0 a1 a2 k
  unfold impl_NewChoices.f
  exact LeO.bind (impl_rowsCode.mono _ _ _ k) (fun _ => LeO.refl _)
set_option maxHeartbeats 1000000 in
set_option maxRecDepth 100000 in
theorem nw_code (k : Nat) (A0 : Option Addr) (c0 : Nat) (l0 : List Int) (A1 : Option Addr) (c1 : Nat) (l1 : List Int) (a : Int) (w : World) (hr0 : Kd.C (Kd.int .i64) w A0 l0.length l0) (hc0 : l0.length ≤ c0) (hr1 : Kd.C (Kd.int .i64) w A1 l1.length l1) (hc1 : l1.length ≤ c1) (c : Int) (hw : impl_rowsCode.f k l0 l1 a = some c) (hn : c ≠ 0) :
    Calls Try.prog 49 #[.agg #[.slice A0 l0.length c0], .slice A1 l1.length c1, .int .i64 a] w fun e w' => ∃ v0_ : Value, e = .returned (.tuple #[v0_, .int .i64 c]) ∧ Kd.R (Kd.int .i64) 2 w' w.heap.size (fun _ => True) v0_ [] ∧ Below w.heap.size w w' := by
  have HR0 := Aside0.mk hr0
  have HC0 := Aside0.mk hc0
  have HR1 := Aside0.mk hr1
  have HC1 := Aside0.mk hc1
  have HWE := Aside0.mk hw
  clear hr0 hc0 hr1 hc1 hw
  go_enter Try.func49, Try.ntmps49
  go_wp2_with fail
  have hb1 : Below w.heap.size w (w.alloc (.cells #[.slice A0 l0.length c0] 28)) := below_alloc (Below.refl _ _) _
  generalize w.alloc (.cells #[.slice A0 l0.length c0] 28) = W1 at hb1 ⊢
  refine (impl_rowsCode.calls k A0 c0 l0 A1 c1 l1 a c W1 (Kd.C_below HR0.out hb1) HC0.out (Kd.C_below HR1.out hb1) HC1.out HWE.out).mono ?_
  rintro e w2 ⟨rfl, hb2⟩
  have HB2 := Aside0.mk (below_step hb1 hb2)
  clear hb1 hb2
  have hne : (c != 0) = true := bne_iff_ne.2 hn
  go_wp2
  go_ret2
  exact ⟨_, rfl, Kd.R_nil _ _ _ _ _, HB2.out⟩
theorem mark_next (L : List Int) (i : Nat) (hi : i < L.length) (h : List Bool) (c : Int) : markB h c (L.drop i) = if rdB h (rd L (i : Int)) = true then markB h c (L.drop (i + 1)) else markB (h.set (rd L (i : Int)).toNat true) (c + 1) (L.drop (i + 1)) := by
  rw [List.drop_eq_getElem_cons hi, rd_nat' L i hi]; rfl
theorem new_next (f : Int → List Int) (rows : List Int) (j : Nat) (hj : j < rows.length) (h : List Bool) : newV f h (rows.drop j) = (markB h 0 (f (rd rows (j : Int)))).2 :: newV f (markB h 0 (f (rd rows (j : Int)))).1 (rows.drop (j + 1)) := by
  rw [List.drop_eq_getElem_cons hj, rd_nat' rows j hj]; rfl
theorem R_own_b {w : World} {base : Nat} {ok : Nat → Prop} {v : Value} {xs : List Bool} (h : Kd.R Kd.bool 4 w base ok v xs) : Kd.R Kd.bool 4 w base (fun k => v.ownBlock = some k) v xs := Kd.R_of_own (Kd.own_of_R h) (fun _ hk => hk)
set_option maxHeartbeats 4000000 in
set_option maxRecDepth 100000 in
theorem nw_good (k : Nat) (A0 : Option Addr) (c0 : Nat) (l0 : List Int) (A1 : Option Addr) (c1 : Nat) (l1 : List Int) (tt : Nat) (w : World) (hr0 : Kd.C (Kd.int .i64) w A0 l0.length l0) (hc0 : l0.length ≤ c0) (hr1 : Kd.C (Kd.int .i64) w A1 l1.length l1) (hc1 : l1.length ≤ c1) (hw : impl_rowsCode.f k l0 l1 (tt : Int) = some 0) (h8 : l0.length ≤ 8) (hq : ∀ q ∈ l0, 2 ≤ q ∧ q ≤ 4) (hrl : l1.length ≤ 1000000) (hrr : ∀ r ∈ l1, 0 ≤ r ∧ r ≤ 1073741824) (ht : tt ≤ 3) :
    Calls Try.prog 49 #[.agg #[.slice A0 l0.length c0], .slice A1 l1.length c1, .int .i64 (tt : Int)] w fun e w' => ∃ v0_ : Value, e = .returned (.tuple #[v0_, .int .i64 0]) ∧ Kd.R (Kd.int .i64) 2 w' w.heap.size (fun _ => True) v0_ (newsT l0 l1 tt) ∧ Below w.heap.size w w' := by
  have HR0 := Aside0.mk hr0
  have HC0 := Aside0.mk hc0
  have HR1 := Aside0.mk hr1
  have HC1 := Aside0.mk hc1
  have HWE := Aside0.mk hw
  have HQ := Aside0.mk hq
  have HRR := Aside0.mk hrr
  clear hr0 hc0 hr1 hc1 hw hq hrr
  go_enter Try.func49, Try.ntmps49
  go_wp2_with fail
  have hb1 : Below w.heap.size w (w.alloc (.cells #[.slice A0 l0.length c0] 28)) := below_alloc (Below.refl _ _) _
  have hk1 := blk_new w (.cells #[.slice A0 l0.length c0] 28)
  generalize w.alloc (.cells #[.slice A0 l0.length c0] 28) = W1 at hb1 hk1 ⊢
  refine (impl_rowsCode.calls k A0 c0 l0 A1 c1 l1 (tt : Int) 0 W1 (Kd.C_below HR0.out hb1) HC0.out (Kd.C_below HR1.out hb1) HC1.out HWE.out).mono ?_
  rintro e w2 ⟨rfl, hb2⟩
  have HB2 := Aside0.mk (below_step hb1 hb2)
  have hbx : w2.cell? ⟨w.heap.size, 0, none⟩ = some (.slice A0 l0.length c0) := (blk_cell (blk_below hk1 hb2) 0).trans rfl
  clear hb1 hk1 hb2
  go_wp2_with fail
  refine (newChoices_walk A0 c0 l0 tt w2 (Kd.C_below HR0.out HB2.out) HC0.out h8 HQ.out ht).mono ?_
  rintro e w3 ⟨g, AP, cP, AF, cF, rfl, hch, hb3⟩
  obtain ⟨m, hm⟩ : ∃ m, m = manyC l0 (plc l0.length tt 0) := ⟨_, rfl⟩
  obtain ⟨hm0, hm1⟩ := plc_many l0 h8 HQ.out tt ht
  have HB3 := Aside0.mk (below_step HB2.out hb3)
  have HB4 := Aside0.mk (below_alloc (Below.refl w3.heap.size w3) (.cells #[] 2))
  have hch4 := hch.below (below_alloc (Below.refl _ _) (.cells #[] 2))
  have HCH := Aside0.mk hch
  have hg3 : (w3.alloc (.cells #[] 2)).cell? ⟨g, 3, none⟩ = some (.int .i64 m) := by rw [hm]; exact (blk_cell hch4.cell 3).trans rfl
  rw [← hm] at hm0 hm1
  have HM := Aside0.mk hm
  have HO4 := Aside0.mk (show Kd.R (Kd.int .i64) 2 (w3.alloc (.cells #[] 2)) w3.heap.size (fun _ => True) (.slice (some ⟨w3.heap.size, 0, none⟩) 0 0) [] from ⟨fun _ _ => trivial, OwnRow.lit w3 w3.heap.size (Reps.none _ _) (Nat.le_refl _) (by simp)⟩)
  clear hch hch4 hb3 hbx hm
  go_wp2_with ((with_reducible refine gate_dst (N := 32) rfl ?_); refine Kd.R_make Kd.bool w3.heap.size 4 rfl (N := 32) rfl 86 _ _ rfl m rfl rfl Try.underlying86 (.bool false) 1 bool_info rfl (by decide) (by omega) false (ok := fun _ => True) (okp := fun _ => True) rfl (fun _ hk => hk) trivial hm0 (by omega) HB4.out HB4.out.size ?_; intro vh w5 ho hb hg_ hnew_; have HH5 := Aside0.mk ho; have HB5 := Aside0.mk hb; have HG5 := Aside0.mk hg_; have HN5 := Aside0.mk hnew_; clear ho hb hg_ hnew_)
  have HO5 := Aside0.mk (show Kd.R (Kd.int .i64) 2 w5 w3.heap.size (fun k => some k ≠ vh.ownBlock) (.slice (some ⟨w3.heap.size, 0, none⟩) 0 0) [] from Kd.R_mono (Kd.R_grown (Kd.R_bound HO4.out) HG5.out (fun k hk => by simp)) (fun k hk he => by
    obtain ⟨b, hb1, hb2⟩ := HN5.out
    rw [hb1] at he
    have h1 := hk.2.2.1
    injection he with he
    omega))
  have HNV := Aside0.mk (show ([] : List Int) ++ newV (ofT l0 tt) (List.replicate m.toNat false) (l1.drop 0) = newsT l0 l1 tt by rw [HM.out]; rfl)
  clear hg3
  go_wp2
  go_loopg [10, 35] l1.length (fun gg s10 s35 wr => ∃ (j : Nat) (v : Value) (out : List Int) (h : List Bool), s10 = v ∧ s35 = .int .i64 j ∧ j ≤ l1.length ∧ l1.length - j ≤ gg ∧ out.length = j ∧ h.length = m.toNat ∧ Aside0 (out ++ newV (ofT l0 tt) h (l1.drop j) = newsT l0 l1 tt) ∧ Aside0 (Kd.R (Kd.int .i64) 2 wr w3.heap.size (fun k => some k ≠ vh.ownBlock) v out) ∧ Aside0 (Kd.R Kd.bool 4 wr w3.heap.size (fun _ => True) vh h) ∧ Aside0 (Below w3.heap.size w3 wr))
  case atStart => exact ⟨0, _, [], List.replicate m.toNat false, rfl, rfl, by omega, by omega, rfl, by simp, HNV, HO5, HH5, HB5⟩
  case round =>
    obtain ⟨j, v, out, h, rfl, rfl, hj, hgg, hol, hhl, HV, HO, HH, HB⟩ := hrel
    by_cases hlt : j < l1.length
    · have hlt1 : (j : Int) < (l1.length : Int) := by omega
      have hj0 : (0 : Int) ≤ (j : Int) := by omega
      obtain ⟨adR, eR, hxR⟩ := Kd.at_int (Kd.C_below HR1.out HB3.out) (j : Int) hj0 hlt1
      cases eR
      rw [Int.toNat_natCast] at hxR
      replace hxR := cell_blk_ne hxR HB.out
      have HNX := Aside0.mk (new_next (ofT l0 tt) l1 j hlt h)
      have hrj := HRR.out (rd l1 (j : Int)) (by rw [rd_nat' l1 j hlt]; exact List.getElem_mem hlt)
      obtain ⟨row, hrow⟩ : ∃ row, row = rd l1 (j : Int) := ⟨_, rfl⟩
      rw [← hrow] at hxR HNX hrj
      clear hrow
      have HW := Aside0.mk (of_plc g A0 c0 l0 tt AP cP AF cF row wr (HCH.out.below HB.out) h8 HQ.out ht hrj.1 hrj.2)
      have hLl := ofT_len l0 h8 tt ht row
      have HIN := Aside0.mk (ofT_in l0 HQ.out tt row)
      rw [← HM.out] at HIN
      obtain ⟨L, hLe⟩ : ∃ L, L = ofT l0 tt row := ⟨_, rfl⟩
      rw [← hLe] at HW hLl HIN HNX
      clear hLe hrj
      go_wp2_with (go_at_call 115; refine HW.out.mono ?_; rintro e w6 ⟨v6, rfl, hR6, hb6⟩; obtain ⟨A6, c6, rfl⟩ := Kd.R_slice hR6; have HR6 := Aside0.mk hR6; have HB6 := Aside0.mk hb6; clear hR6 hb6)
      have HSZ : ∀ k, vh.ownBlock = some k → k < wr.heap.size := fun k hk => (Kd.R_bound HH.out).1 k hk |>.2.2.1
      have HLI0 := Aside0.mk (show Kd.R (Kd.int .i64) 2 w6 wr.heap.size (fun k => some k ≠ vh.ownBlock) (.slice A6 L.length c6) L from Kd.R_mono (Kd.R_bound HR6.out) (fun k hk he => by have h1 := HSZ k he.symm; have h2 := hk.2.1; omega))
      have HO6 := Aside0.mk (Kd.R_below HO.out HB6.out)
      have HH6 := Aside0.mk (Kd.R_below HH.out HB6.out)
      have HBW := Aside0.mk (below_step HB.out HB6.out)
      have HMK := Aside0.mk (show markB h 0 (L.drop 0) = markB h 0 L from rfl)
      clear hxR
      go_loopg [14, 43] L.length (fun gi s14 s43 wi => ∃ (i : Nat) (c : Int) (h' : List Bool), s14 = .int .i64 c ∧ s43 = .int .i64 i ∧ i ≤ L.length ∧ L.length - i ≤ gi ∧ 0 ≤ c ∧ c ≤ (i : Int) ∧ h'.length = m.toNat ∧ Aside0 (markB h' c (L.drop i) = markB h 0 L) ∧ Aside0 (Kd.R (Kd.int .i64) 2 wi w3.heap.size (fun k => some k ≠ vh.ownBlock) u10 out) ∧ Aside0 (Kd.R Kd.bool 4 wi w3.heap.size (fun _ => True) vh h') ∧ Aside0 (Kd.R (Kd.int .i64) 2 wi wr.heap.size (fun k => some k ≠ vh.ownBlock) (.slice A6 L.length c6) L) ∧ Aside0 (Below w3.heap.size w3 wi))
      case atStart => exact ⟨0, 0, h, rfl, rfl, by omega, by omega, by omega, by omega, hhl, HMK, HO6, HH6, HLI0, HBW⟩
      case round =>
        obtain ⟨i, c, h', rfl, rfl, hi, hgi, hc1_, hc2_, hhl', HMi, HOi, HHi, HLi, HBi⟩ := hrel
        by_cases hil : i < L.length
        · have hil1 : (i : Int) < (L.length : Int) := by omega
          have hi0 : (0 : Int) ≤ (i : Int) := by omega
          obtain ⟨ad2, e2, hx2⟩ := Kd.at_int (Kd.R_reads' HLi.out).2.2 (i : Int) hi0 hil1
          cases e2
          rw [Int.toNat_natCast] at hx2
          have hn := HIN.out (rd L (i : Int)) (by rw [rd_nat' L i hil]; exact List.getElem_mem hil)
          have HTN := Aside0.mk ((mark_next L i hil h' c).symm.trans HMi.out)
          obtain ⟨n, hne⟩ : ∃ n, n = rd L (i : Int) := ⟨_, rfl⟩
          rw [← hne] at hx2 hn HTN
          clear hne
          obtain ⟨hn0, hn1⟩ := hn
          have hn2 : n < (h'.length : Int) := by omega
          obtain ⟨go9, co9, eo9, gb9, gl9, cl9, HG9⟩ := Kd.R_form HHi.out (by omega)
          cases eo9
          have GB9 := Aside0.mk gb9
          clear gb9 gl9 HG9
          obtain ⟨hx9, hf9⟩ := Kd.R_celln false HHi.out n hn0 hn2
          change _ = some (Value.bool (rdB h' n)) at hx9
          have HP := Aside0.mk (Kd.R_putg HHi.out n true).1
          by_cases hbt : rdB h' n = true
          · rw [if_pos hbt] at HTN
            rw [hbt] at hx9
            clear hbt
            go_wp2
            go_roundg (L.length - (i + 1))
            case measure => omega
            case rel => exact ⟨i + 1, c, h', rfl, by go_num, by omega, by omega, by omega, by omega, hhl', HTN, HOi, HHi, HLi, HBi⟩
          · rw [if_neg hbt] at HTN
            have hbf : rdB h' n = false := by simpa using hbt
            rw [hbf] at hx9
            clear hbt hbf
            go_wp2
            go_roundg (L.length - (i + 1))
            case measure => omega
            case rel =>
              exact ⟨i + 1, c + 1, h'.set n.toNat true, by go_num, by go_num, by omega, by omega, by omega, by omega, by rw [List.length_set]; exact hhl', HTN, ⟨Kd.R_far (p := ⟨go9, n.toNat, none⟩) HOi.out (fun k hk he => hk (by rw [he]; rfl)) _⟩, HP, ⟨Kd.R_far (p := ⟨go9, n.toNat, none⟩) HLi.out (fun k hk he => hk (by rw [he]; rfl)) _⟩, ⟨below_set HBi.out GB9.out⟩⟩
        · obtain rfl : i = L.length := by omega
          have hil1 : ¬ (L.length : Int) < (L.length : Int) := by omega
          have HME := Aside0.mk (show markB h 0 L = (h', c) by
            rw [← HMi.out, List.drop_of_length_le (Nat.le_refl _)]; rfl)
          have HSI : ∀ k, vh.ownBlock = some k → k < wr.heap.size := fun k hk => (Kd.R_bound HHi.out).1 k hk |>.2.2.1
          go_wp2_with (at_builtin; refine Kd.R_append (Kd.int .i64) (w0 := w3) w3.heap.size rfl (.tmp 58) (.tmp 60) 22 2 (.int .i64 0) 8 rfl Try.underlying22 of_info rfl (by decide) (by omega) u10 out c [.int .i64 c] (fun k => some k ≠ vh.ownBlock) (fun _ => False) rfl rfl rfl (fun _ h => h.elim) ?aF HOi.out HBi.out ?aS ?aL ?_; (case aF => exact fun k hk he => by have := HSI k he.symm; omega); (case aS => exact HBi.out.size); (case aL => omega); intro v9 w9 ho hb hg hat)
          have HH9 := Aside0.mk (show Kd.R Kd.bool 4 w9 w3.heap.size (fun _ => True) vh h' from Kd.R_mono (Kd.R_grown (R_own_b HHi.out) hg (fun k hk he => HOi.out.1 k he.symm hk.symm)) (fun _ _ => trivial))
          have HO9 := Aside0.mk ho
          have HB9 := Aside0.mk hb
          clear ho hb hg hat
          go_roundg (l1.length - (j + 1))
          case measure => omega
          case rel =>
            refine ⟨j + 1, _, out ++ [c], h', rfl, by go_num, by omega, by omega, by simp [hol], hhl', ⟨?_⟩, HO9, HH9, HB9⟩
            rw [← HV.out, HNX.out, HME.out, List.append_assoc]; rfl
    · obtain rfl : j = l1.length := by omega
      have hlt1 : ¬ (l1.length : Int) < (l1.length : Int) := by omega
      have HVE := Aside0.mk (show out = newsT l0 l1 tt by
        rw [← HV.out, List.drop_of_length_le (Nat.le_refl _)]; simp [newV])
      go_wp2
      go_ret2
      exact ⟨_, rfl, by rw [← HVE.out]; exact Kd.R_mono (Kd.R_lower HO.out HB3.out.size) (fun _ _ => trivial), below_step HB3.out HB.out⟩
theorem impl_NewChoices.calls (k : Nat) (A0_0 : Option Addr) (c0_0 : Nat) (l0_0 : List Int) (A1 : Option Addr) (c1 : Nat) (l1 : List Int) (a2 : Int) (r1 : List Int) (r2 : Int) (w : World) (hr0_0 : Kd.C (Kd.int .i64) w A0_0 l0_0.length l0_0) (hc0_0 : l0_0.length ≤ c0_0) (hr1 : Kd.C (Kd.int .i64) w A1 l1.length l1) (hc1 : l1.length ≤ c1) (h : impl_NewChoices.f k l0_0 l1 a2 = some (r1, r2)) :
    Calls Try.prog 49 #[.agg #[.slice A0_0 l0_0.length c0_0], .slice A1 l1.length c1, .int .i64 a2] w fun e w' => ∃ v0_ : Value, e = .returned (.tuple #[v0_, .int .i64 r2]) ∧ Kd.R (Kd.int .i64) 2 w' w.heap.size (fun _ => True) v0_ r1 ∧ Below w.heap.size w w' := by
  unfold impl_NewChoices.f at h
  rw [Option.bind_eq_some_iff] at h
  obtain ⟨c, hc, h⟩ := h
  by_cases h0 : c = 0
  · rw [if_pos h0] at h
    subst h0
    by_cases h1 : okS l0_0 = true
    · rw [if_pos h1] at h
      by_cases h2 : okRows l1 = true
      · rw [if_pos h2] at h
        by_cases h3 : 0 ≤ a2
        · rw [if_pos h3] at h
          by_cases h4 : a2 ≤ 3
          · rw [if_pos h4] at h
            obtain ⟨h8, hq⟩ := (okS_iff l0_0).1 h1
            obtain ⟨hrl, hrr⟩ := (okRows_iff l1).1 h2
            obtain ⟨tt, rfl⟩ : ∃ tt : Nat, a2 = tt := ⟨a2.toNat, by omega⟩
            injection h with h
            injection h with e1 e2
            subst e1 e2
            exact nw_good k A0_0 c0_0 l0_0 A1 c1 l1 tt w hr0_0 hc0_0 hr1 hc1 hc h8 hq hrl hrr (by omega)
          · rw [if_neg h4] at h; cases h
        · rw [if_neg h3] at h; cases h
      · rw [if_neg h2] at h; cases h
    · rw [if_neg h1] at h; cases h
  · rw [if_neg h0] at h
    injection h with h
    injection h with e1 e2
    subst e1 e2
    exact nw_code k A0_0 c0_0 l0_0 A1 c1 l1 a2 w hr0_0 hc0_0 hr1 hc1 c hc h0

end Go.Proofs.Ythjkdnneagnejaa.PFnExactNewChoices
