-- WALKS, by a program and by hand
import Derived.Test.YtchlbkcladfloaaPFnGuaranteesx0
import Derived.Test.YtchlbkcladfloaaPFnGuaranteesx3
import Derived.Test.YtchlbkcladfloaaPFnGuaranteesx6
import Derived.Test.YtchlbkcladfloaaPFnGuaranteesx10
import Derived.Test.YtchlbkcladfloaaPFnGuaranteesx13
namespace Go.Proofs.Ytchlbkcladfloaa.PFnGuarantees
open Go.RowKit Go.Proofs.Ytchlbkcladfloaa.DG Go.Proofs.YtchlbkcladfloaaW.PrintWords Go.Proofs.YtchlbkcladfloaaW.PrintLast Go.Proofs.YtchlbkcladfloaaW.PrintMore
attribute [local go_sem] max2_int min2_int max_two min_two max_three min_three max_four min_four   -- for this text's walks alone
set_option linter.unusedVariables false
set_option linter.unusedSimpArgs false

def spec_Guarantees.f (k : Nat) (a0_0 : Int) (a0_1 : Int) (a0_2 : Int) (a0_3 : Int) (l1 : List Int) : Option (Bool × Int) := (spec_l08Tickets.f k a0_0 a0_1 a0_2 a0_3 l1).bind fun t100 => (if t100 = 0 then ((spec_l08Missed.f k a0_0 a0_1 a0_2 a0_3 l1).bind fun t101 => (some (((t101.length : Int) == 0), 0))) else (some (false, t100)))
set_option maxHeartbeats 8000000 in
set_option maxRecDepth 100000 in
theorem spec_Guarantees.calls (k : Nat) (a0_0 : Int) (a0_1 : Int) (a0_2 : Int) (a0_3 : Int) (A1 : Option Addr) (c1 : Nat) (l1 : List Int) (r1 : Bool) (r2 : Int) (w : World) (hr1 : Kd.C (Kd.int .i64) w A1 l1.length l1) (hc1 : l1.length ≤ c1) (h : spec_Guarantees.f k a0_0 a0_1 a0_2 a0_3 l1 = some (r1, r2)) :
  Calls Try.prog 45 #[.agg #[.int .i64 a0_0, .int .i64 a0_1, .int .i64 a0_2, .int .i64 a0_3], .slice A1 l1.length c1] w fun e w' => e = .returned (.tuple #[.bool r1, .int .i64 r2]) ∧ Below w.heap.size w w' := by
 have hu27 := Try.underlying27
 have HR1 := zA hr1
 have HC1 := zA hc1
 clear hr1 hc1
 have HB := zA (Below.refl w.heap.size w)
 have H := h
 unfold spec_Guarantees.f at H
 (try dsimp -simprocs only at H)
 clear h
 replace H := zi H
 obtain ⟨t100, A30, H⟩ := H
 (try dsimp -simprocs only at H)
 have A3 := zA A30
 clear A30
 by_cases c4 : t100 = 0
 ·rw [if_pos c4] at H
  have c4b0 : (t100 == 0) = true := beq_iff_eq.mpr c4
  have c4b1 : (t100 != 0) = false := bne_eq_false_iff_eq.mpr c4
  clear c4
  replace H := zi H
  obtain ⟨t101, A50, H⟩ := H
  replace H : (some (((t101.length : Int) == 0), 0)) = some (r1, r2) := H
  have A5 := zA A50
  clear A50
  simp only [Option.some.injEq, Prod.mk.injEq] at H
  obtain ⟨rfl, rfl⟩ := H
  go_enter Try.func45, Try.ntmps45
  go_wp2_with (first | ((with_reducible refine gate_dst (N := 2) rfl ?_); refine zbox (N := 2) (cs := #[.int .i64 a0_0, .int .i64 a0_1, .int .i64 a0_2, .int .i64 a0_3]) (t := 27) ?_; intro gb102 hg w6 hbox hb; have BK102 := zA (hbox); have GW102 := zA ((z151 : w.heap.size ≤ gb102)); have GE102 := zA ((z151 : w.heap.size ≤ gb102)); replace HB := zA (below_step z1 hb); clear hb hbox hg; obtain ⟨hcz7_0, hcz7_1, hcz7_2, hcz7_3, hfz7_0, hfz7_1, hfz7_2, hfz7_3⟩ := zC4 BK102.out) | ((with_reducible refine gate_callee (f := 95) rfl ?_); refine goesL_ (some 9) rfl rfl Try.func95 (by kernel_rfl) rfl #[.agg #[.int .i64 a0_0, .int .i64 a0_1, .int .i64 a0_2, .int .i64 a0_3], .slice A1 l1.length c1] rfl z3 ?_; (with_reducible refine (spec_l08Tickets.calls k a0_0 a0_1 a0_2 a0_3 _ _ l1 t100 _ ?side1 ?side2 A3.out).mono ?_); (case side1 => exact z17); (case side2 => exact HC1.out); rintro e w8 ⟨rfl, hb⟩; refine ⟨_, rfl, ?_⟩; replace BK102 := zBB BK102 hb; replace HB := zA (below_step z4 hb); (try clear hb); (try clear hb2); (try clear hk); (try clear hi); obtain ⟨hcz9_0, hcz9_1, hcz9_2, hcz9_3, hfz9_0, hfz9_1, hfz9_2, hfz9_3⟩ := zC4 BK102.out) | ((with_reducible refine gate_callee (f := 96) rfl ?_); refine goesL_ (some 15) rfl rfl Try.func96 (by kernel_rfl) rfl #[.agg #[.int .i64 a0_0, .int .i64 a0_1, .int .i64 a0_2, .int .i64 a0_3], .slice A1 l1.length c1] rfl z3 ?_; (with_reducible refine (spec_l08Missed.calls k a0_0 a0_1 a0_2 a0_3 _ _ l1 t101 _ ?side1 ?side2 A5.out).mono ?_); (case side1 => exact z17); (case side2 => exact HC1.out); rintro e w10 ⟨v103, rfl, ho0, hb⟩; refine ⟨_, rfl, ?_⟩; have HO104 := zA (Kd.R_lower ho0 (below_size z4)); replace BK102 := zBB BK102 hb; replace HB := zA (below_step z4 hb); (try clear hb); (try clear hb2); (try clear hk); (try clear hi); (try clear ho0); obtain ⟨Ao11, co11, eo11⟩ := Kd.R_slice HO104.out; subst eo11))
  go_ret2
  exact ⟨z8, z4⟩
 ·rw [if_neg c4] at H
  have c4b0 : (t100 == 0) = false := beq_eq_false_iff_ne.mpr c4
  have c4b1 : (t100 != 0) = true := bne_iff_ne.mpr c4
  simp only [Option.some.injEq, Prod.mk.injEq] at H
  obtain ⟨rfl, rfl⟩ := H
  go_enter Try.func45, Try.ntmps45
  go_wp2_with (first | ((with_reducible refine gate_dst (N := 2) rfl ?_); refine zbox (N := 2) (cs := #[.int .i64 a0_0, .int .i64 a0_1, .int .i64 a0_2, .int .i64 a0_3]) (t := 27) ?_; intro gb102 hg w12 hbox hb; have BK102 := zA (hbox); have GW102 := zA ((z151 : w.heap.size ≤ gb102)); have GE102 := zA ((z151 : w.heap.size ≤ gb102)); replace HB := zA (below_step z1 hb); clear hb hbox hg; obtain ⟨hcz13_0, hcz13_1, hcz13_2, hcz13_3, hfz13_0, hfz13_1, hfz13_2, hfz13_3⟩ := zC4 BK102.out) | ((with_reducible refine gate_callee (f := 95) rfl ?_); refine goesL_ (some 9) rfl rfl Try.func95 (by kernel_rfl) rfl #[.agg #[.int .i64 a0_0, .int .i64 a0_1, .int .i64 a0_2, .int .i64 a0_3], .slice A1 l1.length c1] rfl z3 ?_; (with_reducible refine (spec_l08Tickets.calls k a0_0 a0_1 a0_2 a0_3 _ _ l1 t100 _ ?side1 ?side2 A3.out).mono ?_); (case side1 => exact z17); (case side2 => exact HC1.out); rintro e w14 ⟨rfl, hb⟩; refine ⟨_, rfl, ?_⟩; replace BK102 := zBB BK102 hb; replace HB := zA (below_step z4 hb); (try clear hb); (try clear hb2); (try clear hk); (try clear hi)))
  go_ret2
  exact ⟨z8, z4⟩

def impl_FirstMissed.f (k : Nat) (a0_0 : Int) (a0_1 : Int) (a0_2 : Int) (a0_3 : Int) (l1 : List Int) : Option (Int × Int) := (impl_ticketsCode.f k a0_0 a0_1 a0_2 a0_3 l1).bind fun t100 => (if t100 = 0 then ((impl_missed.f k a0_0 a0_1 a0_2 a0_3 l1).bind fun t101 => (if (t101.length : Int) = 0 then (some (0, 4)) else (if 0 < (t101.length : Int) then (some (rd t101 0, 0)) else (none)))) else (some (0, t100)))
set_option maxHeartbeats 8000000 in
set_option maxRecDepth 100000 in
theorem impl_FirstMissed.calls (k : Nat) (a0_0 : Int) (a0_1 : Int) (a0_2 : Int) (a0_3 : Int) (A1 : Option Addr) (c1 : Nat) (l1 : List Int) (r1 : Int) (r2 : Int) (w : World) (hr1 : Kd.C (Kd.int .i64) w A1 l1.length l1) (hc1 : l1.length ≤ c1) (h : impl_FirstMissed.f k a0_0 a0_1 a0_2 a0_3 l1 = some (r1, r2)) :
  Calls Try.prog 46 #[.agg #[.int .i64 a0_0, .int .i64 a0_1, .int .i64 a0_2, .int .i64 a0_3], .slice A1 l1.length c1] w fun e w' => e = .returned (.tuple #[.int .i64 r1, .int .i64 r2]) ∧ Below w.heap.size w w' := by
 have hu27 := Try.underlying27
 have HR1 := zA hr1
 have HC1 := zA hc1
 clear hr1 hc1
 have HB := zA (Below.refl w.heap.size w)
 have H := h
 unfold impl_FirstMissed.f at H
 (try dsimp -simprocs only at H)
 clear h
 replace H := zi H
 obtain ⟨t100, A30, H⟩ := H
 (try dsimp -simprocs only at H)
 have A3 := zA A30
 clear A30
 by_cases c4 : t100 = 0
 ·rw [if_pos c4] at H
  have c4b0 : (t100 == 0) = true := beq_iff_eq.mpr c4
  have c4b1 : (t100 != 0) = false := bne_eq_false_iff_eq.mpr c4
  clear c4
  replace H := zi H
  obtain ⟨t101, A50, H⟩ := H
  (try dsimp -simprocs only at H)
  have A5 := zA A50
  clear A50
  by_cases c6 : (t101.length : Int) = 0
  ·rw [if_pos c6] at H
   have c6b0 : ((t101.length : Int) == 0) = true := beq_iff_eq.mpr c6
   have c6b1 : ((t101.length : Int) != 0) = false := bne_eq_false_iff_eq.mpr c6
   clear c6
   simp only [Option.some.injEq, Prod.mk.injEq] at H
   obtain ⟨rfl, rfl⟩ := H
   go_enter Try.func46, Try.ntmps46
   go_wp2_with (first | ((with_reducible refine gate_dst (N := 2) rfl ?_); refine zbox (N := 2) (cs := #[.int .i64 a0_0, .int .i64 a0_1, .int .i64 a0_2, .int .i64 a0_3]) (t := 27) ?_; intro gb102 hg w7 hbox hb; have BK102 := zA (hbox); have GW102 := zA ((z151 : w.heap.size ≤ gb102)); have GE102 := zA ((z151 : w.heap.size ≤ gb102)); replace HB := zA (below_step z1 hb); clear hb hbox hg; obtain ⟨hcz8_0, hcz8_1, hcz8_2, hcz8_3, hfz8_0, hfz8_1, hfz8_2, hfz8_3⟩ := zC4 BK102.out) | ((with_reducible refine gate_callee (f := 93) rfl ?_); refine goesL_ (some 10) rfl rfl Try.func93 (by kernel_rfl) rfl #[.agg #[.int .i64 a0_0, .int .i64 a0_1, .int .i64 a0_2, .int .i64 a0_3], .slice A1 l1.length c1] rfl z3 ?_; (with_reducible refine (impl_ticketsCode.calls k a0_0 a0_1 a0_2 a0_3 _ _ l1 t100 _ ?side1 ?side2 A3.out).mono ?_); (case side1 => exact z17); (case side2 => exact HC1.out); rintro e w9 ⟨rfl, hb⟩; refine ⟨_, rfl, ?_⟩; replace BK102 := zBB BK102 hb; replace HB := zA (below_step z4 hb); (try clear hb); (try clear hb2); (try clear hk); (try clear hi); obtain ⟨hcz10_0, hcz10_1, hcz10_2, hcz10_3, hfz10_0, hfz10_1, hfz10_2, hfz10_3⟩ := zC4 BK102.out) | ((with_reducible refine gate_callee (f := 94) rfl ?_); refine goesL_ (some 16) rfl rfl Try.func94 (by kernel_rfl) rfl #[.agg #[.int .i64 a0_0, .int .i64 a0_1, .int .i64 a0_2, .int .i64 a0_3], .slice A1 l1.length c1] rfl z3 ?_; (with_reducible refine (impl_missed.calls k a0_0 a0_1 a0_2 a0_3 _ _ l1 t101 _ ?side1 ?side2 A5.out).mono ?_); (case side1 => exact z17); (case side2 => exact HC1.out); rintro e w11 ⟨v103, rfl, ho0, hb⟩; refine ⟨_, rfl, ?_⟩; have HO104 := zA (Kd.R_lower ho0 (below_size z4)); replace BK102 := zBB BK102 hb; replace HB := zA (below_step z4 hb); (try clear hb); (try clear hb2); (try clear hk); (try clear hi); (try clear ho0); obtain ⟨Ao12, co12, eo12⟩ := Kd.R_slice HO104.out; subst eo12))
   go_ret2
   exact ⟨z8, z4⟩
  ·rw [if_neg c6] at H
   have c6b0 : ((t101.length : Int) == 0) = false := beq_eq_false_iff_ne.mpr c6
   have c6b1 : ((t101.length : Int) != 0) = true := bne_iff_ne.mpr c6
   have c6b2 : ¬ (t101 = []) := fun h_ => c6 (by rw [h_]; rfl)
   by_cases c13 : 0 < (t101.length : Int)
   ·rw [if_pos c13] at H
    have c13b0 : decide (0 < (t101.length : Int)) = true := decide_eq_true c13
    have c13b1 : decide (0 < t101.length) = true := decide_eq_true (by omega)
    clear c13
    simp only [Option.some.injEq, Prod.mk.injEq] at H
    obtain ⟨rfl, rfl⟩ := H
    go_enter Try.func46, Try.ntmps46
    go_wp2_with (first | ((with_reducible refine gate_dst (N := 2) rfl ?_); refine zbox (N := 2) (cs := #[.int .i64 a0_0, .int .i64 a0_1, .int .i64 a0_2, .int .i64 a0_3]) (t := 27) ?_; intro gb102 hg w14 hbox hb; have BK102 := zA (hbox); have GW102 := zA ((z151 : w.heap.size ≤ gb102)); have GE102 := zA ((z151 : w.heap.size ≤ gb102)); replace HB := zA (below_step z1 hb); clear hb hbox hg; obtain ⟨hcz15_0, hcz15_1, hcz15_2, hcz15_3, hfz15_0, hfz15_1, hfz15_2, hfz15_3⟩ := zC4 BK102.out) | ((with_reducible refine gate_callee (f := 93) rfl ?_); refine goesL_ (some 10) rfl rfl Try.func93 (by kernel_rfl) rfl #[.agg #[.int .i64 a0_0, .int .i64 a0_1, .int .i64 a0_2, .int .i64 a0_3], .slice A1 l1.length c1] rfl z3 ?_; (with_reducible refine (impl_ticketsCode.calls k a0_0 a0_1 a0_2 a0_3 _ _ l1 t100 _ ?side1 ?side2 A3.out).mono ?_); (case side1 => exact z17); (case side2 => exact HC1.out); rintro e w16 ⟨rfl, hb⟩; refine ⟨_, rfl, ?_⟩; replace BK102 := zBB BK102 hb; replace HB := zA (below_step z4 hb); (try clear hb); (try clear hb2); (try clear hk); (try clear hi); obtain ⟨hcz17_0, hcz17_1, hcz17_2, hcz17_3, hfz17_0, hfz17_1, hfz17_2, hfz17_3⟩ := zC4 BK102.out) | ((with_reducible refine gate_callee (f := 94) rfl ?_); refine goesL_ (some 16) rfl rfl Try.func94 (by kernel_rfl) rfl #[.agg #[.int .i64 a0_0, .int .i64 a0_1, .int .i64 a0_2, .int .i64 a0_3], .slice A1 l1.length c1] rfl z3 ?_; (with_reducible refine (impl_missed.calls k a0_0 a0_1 a0_2 a0_3 _ _ l1 t101 _ ?side1 ?side2 A5.out).mono ?_); (case side1 => exact z17); (case side2 => exact HC1.out); rintro e w18 ⟨v103, rfl, ho0, hb⟩; refine ⟨_, rfl, ?_⟩; have HO104 := zA (Kd.R_lower ho0 (below_size z4)); replace BK102 := zBB BK102 hb; replace HB := zA (below_step z4 hb); (try clear hb); (try clear hb2); (try clear hk); (try clear hi); (try clear ho0); obtain ⟨Ao19, co19, eo19⟩ := Kd.R_slice HO104.out; subst eo19; have p492 : 0 ≤ (0 : Int) := (by omega); have q492 : 0 < (t101.length : Int) := of_decide_eq_true z7; obtain ⟨ad492, e492, hx492_0⟩ := Kd.at_int (Kd.R_reads' HO104.out).2.2 0 p492 q492; cases e492; have qi492 : (0 < t101.length) = True := eq_true (by omega); (try rw [show ((0 : Int)).toNat = 0 from rfl] at hx492_0); (try rw [Addr.add_zero'] at hx492_0); replace p492 := eq_true p492; replace q492 := eq_true q492))
    go_ret2
    exact ⟨z8, z4⟩
   ·rw [if_neg c13] at H
    exact absurd H (by simp)
 ·rw [if_neg c4] at H
  have c4b0 : (t100 == 0) = false := beq_eq_false_iff_ne.mpr c4
  have c4b1 : (t100 != 0) = true := bne_iff_ne.mpr c4
  simp only [Option.some.injEq, Prod.mk.injEq] at H
  obtain ⟨rfl, rfl⟩ := H
  go_enter Try.func46, Try.ntmps46
  go_wp2_with (first | ((with_reducible refine gate_dst (N := 2) rfl ?_); refine zbox (N := 2) (cs := #[.int .i64 a0_0, .int .i64 a0_1, .int .i64 a0_2, .int .i64 a0_3]) (t := 27) ?_; intro gb102 hg w20 hbox hb; have BK102 := zA (hbox); have GW102 := zA ((z151 : w.heap.size ≤ gb102)); have GE102 := zA ((z151 : w.heap.size ≤ gb102)); replace HB := zA (below_step z1 hb); clear hb hbox hg; obtain ⟨hcz21_0, hcz21_1, hcz21_2, hcz21_3, hfz21_0, hfz21_1, hfz21_2, hfz21_3⟩ := zC4 BK102.out) | ((with_reducible refine gate_callee (f := 93) rfl ?_); refine goesL_ (some 10) rfl rfl Try.func93 (by kernel_rfl) rfl #[.agg #[.int .i64 a0_0, .int .i64 a0_1, .int .i64 a0_2, .int .i64 a0_3], .slice A1 l1.length c1] rfl z3 ?_; (with_reducible refine (impl_ticketsCode.calls k a0_0 a0_1 a0_2 a0_3 _ _ l1 t100 _ ?side1 ?side2 A3.out).mono ?_); (case side1 => exact z17); (case side2 => exact HC1.out); rintro e w22 ⟨rfl, hb⟩; refine ⟨_, rfl, ?_⟩; replace BK102 := zBB BK102 hb; replace HB := zA (below_step z4 hb); (try clear hb); (try clear hb2); (try clear hk); (try clear hi)))
  go_ret2
  exact ⟨z8, z4⟩

def spec_FirstMissed.f (k : Nat) (a0_0 : Int) (a0_1 : Int) (a0_2 : Int) (a0_3 : Int) (l1 : List Int) : Option (Int × Int) := (spec_l08Tickets.f k a0_0 a0_1 a0_2 a0_3 l1).bind fun t100 => (if t100 = 0 then ((spec_l08Missed.f k a0_0 a0_1 a0_2 a0_3 l1).bind fun t101 => (if (t101.length : Int) = 0 then (some (0, 4)) else (if 0 < (t101.length : Int) then (some (rd t101 0, 0)) else (none)))) else (some (0, t100)))
set_option maxHeartbeats 8000000 in
set_option maxRecDepth 100000 in
theorem spec_FirstMissed.calls (k : Nat) (a0_0 : Int) (a0_1 : Int) (a0_2 : Int) (a0_3 : Int) (A1 : Option Addr) (c1 : Nat) (l1 : List Int) (r1 : Int) (r2 : Int) (w : World) (hr1 : Kd.C (Kd.int .i64) w A1 l1.length l1) (hc1 : l1.length ≤ c1) (h : spec_FirstMissed.f k a0_0 a0_1 a0_2 a0_3 l1 = some (r1, r2)) :
  Calls Try.prog 47 #[.agg #[.int .i64 a0_0, .int .i64 a0_1, .int .i64 a0_2, .int .i64 a0_3], .slice A1 l1.length c1] w fun e w' => e = .returned (.tuple #[.int .i64 r1, .int .i64 r2]) ∧ Below w.heap.size w w' := by
 have hu27 := Try.underlying27
 have HR1 := zA hr1
 have HC1 := zA hc1
 clear hr1 hc1
 have HB := zA (Below.refl w.heap.size w)
 have H := h
 unfold spec_FirstMissed.f at H
 (try dsimp -simprocs only at H)
 clear h
 replace H := zi H
 obtain ⟨t100, A30, H⟩ := H
 (try dsimp -simprocs only at H)
 have A3 := zA A30
 clear A30
 by_cases c4 : t100 = 0
 ·rw [if_pos c4] at H
  have c4b0 : (t100 == 0) = true := beq_iff_eq.mpr c4
  have c4b1 : (t100 != 0) = false := bne_eq_false_iff_eq.mpr c4
  clear c4
  replace H := zi H
  obtain ⟨t101, A50, H⟩ := H
  (try dsimp -simprocs only at H)
  have A5 := zA A50
  clear A50
  by_cases c6 : (t101.length : Int) = 0
  ·rw [if_pos c6] at H
   have c6b0 : ((t101.length : Int) == 0) = true := beq_iff_eq.mpr c6
   have c6b1 : ((t101.length : Int) != 0) = false := bne_eq_false_iff_eq.mpr c6
   clear c6
   simp only [Option.some.injEq, Prod.mk.injEq] at H
   obtain ⟨rfl, rfl⟩ := H
   go_enter Try.func47, Try.ntmps47
   go_wp2_with (first | ((with_reducible refine gate_dst (N := 2) rfl ?_); refine zbox (N := 2) (cs := #[.int .i64 a0_0, .int .i64 a0_1, .int .i64 a0_2, .int .i64 a0_3]) (t := 27) ?_; intro gb102 hg w7 hbox hb; have BK102 := zA (hbox); have GW102 := zA ((z151 : w.heap.size ≤ gb102)); have GE102 := zA ((z151 : w.heap.size ≤ gb102)); replace HB := zA (below_step z1 hb); clear hb hbox hg; obtain ⟨hcz8_0, hcz8_1, hcz8_2, hcz8_3, hfz8_0, hfz8_1, hfz8_2, hfz8_3⟩ := zC4 BK102.out) | ((with_reducible refine gate_callee (f := 95) rfl ?_); refine goesL_ (some 10) rfl rfl Try.func95 (by kernel_rfl) rfl #[.agg #[.int .i64 a0_0, .int .i64 a0_1, .int .i64 a0_2, .int .i64 a0_3], .slice A1 l1.length c1] rfl z3 ?_; (with_reducible refine (spec_l08Tickets.calls k a0_0 a0_1 a0_2 a0_3 _ _ l1 t100 _ ?side1 ?side2 A3.out).mono ?_); (case side1 => exact z17); (case side2 => exact HC1.out); rintro e w9 ⟨rfl, hb⟩; refine ⟨_, rfl, ?_⟩; replace BK102 := zBB BK102 hb; replace HB := zA (below_step z4 hb); (try clear hb); (try clear hb2); (try clear hk); (try clear hi); obtain ⟨hcz10_0, hcz10_1, hcz10_2, hcz10_3, hfz10_0, hfz10_1, hfz10_2, hfz10_3⟩ := zC4 BK102.out) | ((with_reducible refine gate_callee (f := 96) rfl ?_); refine goesL_ (some 16) rfl rfl Try.func96 (by kernel_rfl) rfl #[.agg #[.int .i64 a0_0, .int .i64 a0_1, .int .i64 a0_2, .int .i64 a0_3], .slice A1 l1.length c1] rfl z3 ?_; (with_reducible refine (spec_l08Missed.calls k a0_0 a0_1 a0_2 a0_3 _ _ l1 t101 _ ?side1 ?side2 A5.out).mono ?_); (case side1 => exact z17); (case side2 => exact HC1.out); rintro e w11 ⟨v103, rfl, ho0, hb⟩; refine ⟨_, rfl, ?_⟩; have HO104 := zA (Kd.R_lower ho0 (below_size z4)); replace BK102 := zBB BK102 hb; replace HB := zA (below_step z4 hb); (try clear hb); (try clear hb2); (try clear hk); (try clear hi); (try clear ho0); obtain ⟨Ao12, co12, eo12⟩ := Kd.R_slice HO104.out; subst eo12))
   go_ret2
   exact ⟨z8, z4⟩
  ·rw [if_neg c6] at H
   have c6b0 : ((t101.length : Int) == 0) = false := beq_eq_false_iff_ne.mpr c6
   have c6b1 : ((t101.length : Int) != 0) = true := bne_iff_ne.mpr c6
   have c6b2 : ¬ (t101 = []) := fun h_ => c6 (by rw [h_]; rfl)
   by_cases c13 : 0 < (t101.length : Int)
   ·rw [if_pos c13] at H
    have c13b0 : decide (0 < (t101.length : Int)) = true := decide_eq_true c13
    have c13b1 : decide (0 < t101.length) = true := decide_eq_true (by omega)
    clear c13
    simp only [Option.some.injEq, Prod.mk.injEq] at H
    obtain ⟨rfl, rfl⟩ := H
    go_enter Try.func47, Try.ntmps47
    go_wp2_with (first | ((with_reducible refine gate_dst (N := 2) rfl ?_); refine zbox (N := 2) (cs := #[.int .i64 a0_0, .int .i64 a0_1, .int .i64 a0_2, .int .i64 a0_3]) (t := 27) ?_; intro gb102 hg w14 hbox hb; have BK102 := zA (hbox); have GW102 := zA ((z151 : w.heap.size ≤ gb102)); have GE102 := zA ((z151 : w.heap.size ≤ gb102)); replace HB := zA (below_step z1 hb); clear hb hbox hg; obtain ⟨hcz15_0, hcz15_1, hcz15_2, hcz15_3, hfz15_0, hfz15_1, hfz15_2, hfz15_3⟩ := zC4 BK102.out) | ((with_reducible refine gate_callee (f := 95) rfl ?_); refine goesL_ (some 10) rfl rfl Try.func95 (by kernel_rfl) rfl #[.agg #[.int .i64 a0_0, .int .i64 a0_1, .int .i64 a0_2, .int .i64 a0_3], .slice A1 l1.length c1] rfl z3 ?_; (with_reducible refine (spec_l08Tickets.calls k a0_0 a0_1 a0_2 a0_3 _ _ l1 t100 _ ?side1 ?side2 A3.out).mono ?_); (case side1 => exact z17); (case side2 => exact HC1.out); rintro e w16 ⟨rfl, hb⟩; refine ⟨_, rfl, ?_⟩; replace BK102 := zBB BK102 hb; replace HB := zA (below_step z4 hb); (try clear hb); (try clear hb2); (try clear hk); (try clear hi); obtain ⟨hcz17_0, hcz17_1, hcz17_2, hcz17_3, hfz17_0, hfz17_1, hfz17_2, hfz17_3⟩ := zC4 BK102.out) | ((with_reducible refine gate_callee (f := 96) rfl ?_); refine goesL_ (some 16) rfl rfl Try.func96 (by kernel_rfl) rfl #[.agg #[.int .i64 a0_0, .int .i64 a0_1, .int .i64 a0_2, .int .i64 a0_3], .slice A1 l1.length c1] rfl z3 ?_; (with_reducible refine (spec_l08Missed.calls k a0_0 a0_1 a0_2 a0_3 _ _ l1 t101 _ ?side1 ?side2 A5.out).mono ?_); (case side1 => exact z17); (case side2 => exact HC1.out); rintro e w18 ⟨v103, rfl, ho0, hb⟩; refine ⟨_, rfl, ?_⟩; have HO104 := zA (Kd.R_lower ho0 (below_size z4)); replace BK102 := zBB BK102 hb; replace HB := zA (below_step z4 hb); (try clear hb); (try clear hb2); (try clear hk); (try clear hi); (try clear ho0); obtain ⟨Ao19, co19, eo19⟩ := Kd.R_slice HO104.out; subst eo19; have p498 : 0 ≤ (0 : Int) := (by omega); have q498 : 0 < (t101.length : Int) := of_decide_eq_true z7; obtain ⟨ad498, e498, hx498_0⟩ := Kd.at_int (Kd.R_reads' HO104.out).2.2 0 p498 q498; cases e498; have qi498 : (0 < t101.length) = True := eq_true (by omega); (try rw [show ((0 : Int)).toNat = 0 from rfl] at hx498_0); (try rw [Addr.add_zero'] at hx498_0); replace p498 := eq_true p498; replace q498 := eq_true q498))
    go_ret2
    exact ⟨z8, z4⟩
   ·rw [if_neg c13] at H
    exact absurd H (by simp)
 ·rw [if_neg c4] at H
  have c4b0 : (t100 == 0) = false := beq_eq_false_iff_ne.mpr c4
  have c4b1 : (t100 != 0) = true := bne_iff_ne.mpr c4
  simp only [Option.some.injEq, Prod.mk.injEq] at H
  obtain ⟨rfl, rfl⟩ := H
  go_enter Try.func47, Try.ntmps47
  go_wp2_with (first | ((with_reducible refine gate_dst (N := 2) rfl ?_); refine zbox (N := 2) (cs := #[.int .i64 a0_0, .int .i64 a0_1, .int .i64 a0_2, .int .i64 a0_3]) (t := 27) ?_; intro gb102 hg w20 hbox hb; have BK102 := zA (hbox); have GW102 := zA ((z151 : w.heap.size ≤ gb102)); have GE102 := zA ((z151 : w.heap.size ≤ gb102)); replace HB := zA (below_step z1 hb); clear hb hbox hg; obtain ⟨hcz21_0, hcz21_1, hcz21_2, hcz21_3, hfz21_0, hfz21_1, hfz21_2, hfz21_3⟩ := zC4 BK102.out) | ((with_reducible refine gate_callee (f := 95) rfl ?_); refine goesL_ (some 10) rfl rfl Try.func95 (by kernel_rfl) rfl #[.agg #[.int .i64 a0_0, .int .i64 a0_1, .int .i64 a0_2, .int .i64 a0_3], .slice A1 l1.length c1] rfl z3 ?_; (with_reducible refine (spec_l08Tickets.calls k a0_0 a0_1 a0_2 a0_3 _ _ l1 t100 _ ?side1 ?side2 A3.out).mono ?_); (case side1 => exact z17); (case side2 => exact HC1.out); rintro e w22 ⟨rfl, hb⟩; refine ⟨_, rfl, ?_⟩; replace BK102 := zBB BK102 hb; replace HB := zA (below_step z4 hb); (try clear hb); (try clear hb2); (try clear hk); (try clear hi)))
  go_ret2
  exact ⟨z8, z4⟩

def spec_CountMissed.f (k : Nat) (a0_0 : Int) (a0_1 : Int) (a0_2 : Int) (a0_3 : Int) (l1 : List Int) : Option (Int × Int) := (spec_l08Tickets.f k a0_0 a0_1 a0_2 a0_3 l1).bind fun t100 => (if t100 = 0 then ((spec_l08Missed.f k a0_0 a0_1 a0_2 a0_3 l1).bind fun t101 => (some ((t101.length : Int), 0))) else (some (0, t100)))
set_option maxHeartbeats 8000000 in
set_option maxRecDepth 100000 in
theorem spec_CountMissed.calls (k : Nat) (a0_0 : Int) (a0_1 : Int) (a0_2 : Int) (a0_3 : Int) (A1 : Option Addr) (c1 : Nat) (l1 : List Int) (r1 : Int) (r2 : Int) (w : World) (hr1 : Kd.C (Kd.int .i64) w A1 l1.length l1) (hc1 : l1.length ≤ c1) (h : spec_CountMissed.f k a0_0 a0_1 a0_2 a0_3 l1 = some (r1, r2)) :
  Calls Try.prog 48 #[.agg #[.int .i64 a0_0, .int .i64 a0_1, .int .i64 a0_2, .int .i64 a0_3], .slice A1 l1.length c1] w fun e w' => e = .returned (.tuple #[.int .i64 r1, .int .i64 r2]) ∧ Below w.heap.size w w' := by
 have hu27 := Try.underlying27
 have HR1 := zA hr1
 have HC1 := zA hc1
 clear hr1 hc1
 have HB := zA (Below.refl w.heap.size w)
 have H := h
 unfold spec_CountMissed.f at H
 (try dsimp -simprocs only at H)
 clear h
 replace H := zi H
 obtain ⟨t100, A30, H⟩ := H
 (try dsimp -simprocs only at H)
 have A3 := zA A30
 clear A30
 by_cases c4 : t100 = 0
 ·rw [if_pos c4] at H
  have c4b0 : (t100 == 0) = true := beq_iff_eq.mpr c4
  have c4b1 : (t100 != 0) = false := bne_eq_false_iff_eq.mpr c4
  clear c4
  replace H := zi H
  obtain ⟨t101, A50, H⟩ := H
  replace H : (some ((t101.length : Int), 0)) = some (r1, r2) := H
  have A5 := zA A50
  clear A50
  simp only [Option.some.injEq, Prod.mk.injEq] at H
  obtain ⟨rfl, rfl⟩ := H
  go_enter Try.func48, Try.ntmps48
  go_wp2_with (first | ((with_reducible refine gate_dst (N := 2) rfl ?_); refine zbox (N := 2) (cs := #[.int .i64 a0_0, .int .i64 a0_1, .int .i64 a0_2, .int .i64 a0_3]) (t := 27) ?_; intro gb102 hg w6 hbox hb; have BK102 := zA (hbox); have GW102 := zA ((z151 : w.heap.size ≤ gb102)); have GE102 := zA ((z151 : w.heap.size ≤ gb102)); replace HB := zA (below_step z1 hb); clear hb hbox hg; obtain ⟨hcz7_0, hcz7_1, hcz7_2, hcz7_3, hfz7_0, hfz7_1, hfz7_2, hfz7_3⟩ := zC4 BK102.out) | ((with_reducible refine gate_callee (f := 95) rfl ?_); refine goesL_ (some 9) rfl rfl Try.func95 (by kernel_rfl) rfl #[.agg #[.int .i64 a0_0, .int .i64 a0_1, .int .i64 a0_2, .int .i64 a0_3], .slice A1 l1.length c1] rfl z3 ?_; (with_reducible refine (spec_l08Tickets.calls k a0_0 a0_1 a0_2 a0_3 _ _ l1 t100 _ ?side1 ?side2 A3.out).mono ?_); (case side1 => exact z17); (case side2 => exact HC1.out); rintro e w8 ⟨rfl, hb⟩; refine ⟨_, rfl, ?_⟩; replace BK102 := zBB BK102 hb; replace HB := zA (below_step z4 hb); (try clear hb); (try clear hb2); (try clear hk); (try clear hi); obtain ⟨hcz9_0, hcz9_1, hcz9_2, hcz9_3, hfz9_0, hfz9_1, hfz9_2, hfz9_3⟩ := zC4 BK102.out) | ((with_reducible refine gate_callee (f := 96) rfl ?_); refine goesL_ (some 15) rfl rfl Try.func96 (by kernel_rfl) rfl #[.agg #[.int .i64 a0_0, .int .i64 a0_1, .int .i64 a0_2, .int .i64 a0_3], .slice A1 l1.length c1] rfl z3 ?_; (with_reducible refine (spec_l08Missed.calls k a0_0 a0_1 a0_2 a0_3 _ _ l1 t101 _ ?side1 ?side2 A5.out).mono ?_); (case side1 => exact z17); (case side2 => exact HC1.out); rintro e w10 ⟨v103, rfl, ho0, hb⟩; refine ⟨_, rfl, ?_⟩; have HO104 := zA (Kd.R_lower ho0 (below_size z4)); replace BK102 := zBB BK102 hb; replace HB := zA (below_step z4 hb); (try clear hb); (try clear hb2); (try clear hk); (try clear hi); (try clear ho0); obtain ⟨Ao11, co11, eo11⟩ := Kd.R_slice HO104.out; subst eo11))
  go_ret2
  exact ⟨z8, z4⟩
 ·rw [if_neg c4] at H
  have c4b0 : (t100 == 0) = false := beq_eq_false_iff_ne.mpr c4
  have c4b1 : (t100 != 0) = true := bne_iff_ne.mpr c4
  simp only [Option.some.injEq, Prod.mk.injEq] at H
  obtain ⟨rfl, rfl⟩ := H
  go_enter Try.func48, Try.ntmps48
  go_wp2_with (first | ((with_reducible refine gate_dst (N := 2) rfl ?_); refine zbox (N := 2) (cs := #[.int .i64 a0_0, .int .i64 a0_1, .int .i64 a0_2, .int .i64 a0_3]) (t := 27) ?_; intro gb102 hg w12 hbox hb; have BK102 := zA (hbox); have GW102 := zA ((z151 : w.heap.size ≤ gb102)); have GE102 := zA ((z151 : w.heap.size ≤ gb102)); replace HB := zA (below_step z1 hb); clear hb hbox hg; obtain ⟨hcz13_0, hcz13_1, hcz13_2, hcz13_3, hfz13_0, hfz13_1, hfz13_2, hfz13_3⟩ := zC4 BK102.out) | ((with_reducible refine gate_callee (f := 95) rfl ?_); refine goesL_ (some 9) rfl rfl Try.func95 (by kernel_rfl) rfl #[.agg #[.int .i64 a0_0, .int .i64 a0_1, .int .i64 a0_2, .int .i64 a0_3], .slice A1 l1.length c1] rfl z3 ?_; (with_reducible refine (spec_l08Tickets.calls k a0_0 a0_1 a0_2 a0_3 _ _ l1 t100 _ ?side1 ?side2 A3.out).mono ?_); (case side1 => exact z17); (case side2 => exact HC1.out); rintro e w14 ⟨rfl, hb⟩; refine ⟨_, rfl, ?_⟩; replace BK102 := zBB BK102 hb; replace HB := zA (below_step z4 hb); (try clear hb); (try clear hb2); (try clear hk); (try clear hi)))
  go_ret2
  exact ⟨z8, z4⟩

mutual
def impl_NeededTickets.l0 : Nat → List Int → List Bool → List Int → Int → Int → Int → Int → Int → Int → Option (List Int × Int)
 | 0, _, _, _, _, _, _, _, _, _ => none
 | k + 1, x1, x7, x27, x28, x29, x505000, x505001, x505002, x505003 => if x29 < x28 then (if 0 ≤ x29 then (if x29 < (x27.length : Int) then (impl_NeededTickets.l1 k x1 x7 (rd x27 x29) 0 0 x27 x28 x29 x1 (x1.length : Int) 0 x505000 x505001 x505002 x505003) else (none)) else (none)) else (impl_NeededTickets.l2 k x7 (([] : List Int)) x1 (x1.length : Int) 0)
def impl_NeededTickets.l1 : Nat → List Int → List Bool → Int → Int → Int → List Int → Int → Int → List Int → Int → Int → Int → Int → Int → Int → Option (List Int × Int)
 | 0, _, _, _, _, _, _, _, _, _, _, _, _, _, _, _ => none
 | k + 1, x1, x7, x9, x10, x11, x27, x28, x29, x33, x34, x35, x505000, x505001, x505002, x505003 => if x35 < x34 then (if 0 ≤ x35 then (if x35 < (x33.length : Int) then ((impl_hits.f x505000 x505001 x505002 x505003 (rd x33 x35) x9).bind fun t100 => (if t100 = true then (impl_NeededTickets.l1 k x1 x7 x9 (wrap64 (x10 + 1)) x35 x27 x28 x29 x33 x34 (wrap64 (x35 + 1)) x505000 x505001 x505002 x505003) else (impl_NeededTickets.l1 k x1 x7 x9 x10 x11 x27 x28 x29 x33 x34 (wrap64 (x35 + 1)) x505000 x505001 x505002 x505003))) else (none)) else (none)) else (if x10 = 1 then (if 0 ≤ x11 then (if x11 < (x7.length : Int) then (impl_NeededTickets.l0 k x1 (x7.set (x11 : Int).toNat true) x27 x28 (wrap64 (x29 + 1)) x505000 x505001 x505002 x505003) else (none)) else (none)) else (impl_NeededTickets.l0 k x1 x7 x27 x28 (wrap64 (x29 + 1)) x505000 x505001 x505002 x505003))
def impl_NeededTickets.l2 : Nat → List Bool → List Int → List Int → Int → Int → Option (List Int × Int)
 | 0, _, _, _, _, _ => none
 | k + 1, x7, x14, x55, x56, x57 => if x57 < x56 then (if 0 ≤ x57 then (if x57 < (x55.length : Int) then (if x57 < (x7.length : Int) then (if rdOf false x7 x57 = true then (if x14.length < 17592186044416 then (impl_NeededTickets.l2 k x7 (x14 ++ [rd x55 x57]) x55 x56 (wrap64 (x57 + 1))) else (none)) else (impl_NeededTickets.l2 k x7 x14 x55 x56 (wrap64 (x57 + 1)))) else (none)) else (none)) else (none)) else (some (x14, 0))
end
def impl_NeededTickets.f (k : Nat) (a0_0 : Int) (a0_1 : Int) (a0_2 : Int) (a0_3 : Int) (l1 : List Int) : Option (List Int × Int) := (impl_ticketsCode.f k a0_0 a0_1 a0_2 a0_3 l1).bind fun t101 => (if t101 = 0 then (if 0 ≤ (l1.length : Int) then (if ((l1.length : Int) : Int).toNat ≤ 281474976710656 then ((impl_allDraws.f k a0_0 a0_1 a0_2 a0_3).bind fun t102 => (impl_NeededTickets.l0 k l1 (List.replicate ((l1.length : Int) : Int).toNat false) t102 (t102.length : Int) 0 a0_0 a0_1 a0_2 a0_3)) else (none)) else (none)) else (some (([] : List Int), t101)))
set_option maxHeartbeats 8000000 in
set_option maxRecDepth 100000 in
theorem impl_NeededTickets.calls (k : Nat) (a0_0 : Int) (a0_1 : Int) (a0_2 : Int) (a0_3 : Int) (A1 : Option Addr) (c1 : Nat) (l1 : List Int) (r1 : List Int) (r2 : Int) (w : World) (hr1 : Kd.C (Kd.int .i64) w A1 l1.length l1) (hc1 : l1.length ≤ c1) (h : impl_NeededTickets.f k a0_0 a0_1 a0_2 a0_3 l1 = some (r1, r2)) :
  Calls Try.prog 49 #[.agg #[.int .i64 a0_0, .int .i64 a0_1, .int .i64 a0_2, .int .i64 a0_3], .slice A1 l1.length c1] w fun e w' => ∃ v0_ : Value, e = .returned (.tuple #[v0_, .int .i64 r2]) ∧ Kd.R (Kd.int .i64) 2 w' w.heap.size (fun _ => True) v0_ r1 ∧ Below w.heap.size w w' := by
 have hu27 := Try.underlying27
 have HR1 := zA hr1
 have HC1 := zA hc1
 clear hr1 hc1
 have HB := zA (Below.refl w.heap.size w)
 have H := h
 unfold impl_NeededTickets.f at H
 (try dsimp -simprocs only at H)
 clear h
 replace H := zi H
 obtain ⟨t101, A30, H⟩ := H
 (try dsimp -simprocs only at H)
 have A3 := zA A30
 clear A30
 by_cases c4 : t101 = 0
 ·rw [if_pos c4] at H
  have c4b0 : (t101 == 0) = true := beq_iff_eq.mpr c4
  have c4b1 : (t101 != 0) = false := bne_eq_false_iff_eq.mpr c4
  clear c4
  by_cases c5 : 0 ≤ (l1.length : Int)
  ·rw [if_pos c5] at H
   have c5b0 := eq_true c5
   have c5b1 : decide (0 ≤ (l1.length : Int)) = true := decide_eq_true c5
   clear c5
   by_cases c6 : ((l1.length : Int) : Int).toNat ≤ 281474976710656
   ·rw [if_pos c6] at H
    have c6b0 := eq_true c6
    have c6b1 : decide (((l1.length : Int) : Int).toNat ≤ 281474976710656) = true := decide_eq_true c6
    clear c6
    obtain ⟨y103, hy103⟩ : ∃ y_ : List Bool, y_ = (List.replicate ((l1.length : Int) : Int).toNat false) := ⟨_, rfl⟩
    replace H : ((impl_allDraws.f k a0_0 a0_1 a0_2 a0_3).bind fun t102 => (impl_NeededTickets.l0 k l1 y103 t102 (t102.length : Int) 0 a0_0 a0_1 a0_2 a0_3)) = some (r1, r2) := by first | (rw [hy103]; with_reducible exact H) | (have H2_ := (Option.bind_some _ _).symm.trans H; rw [hy103]; with_reducible exact H2_) | (have H2_ := (Option.bind_some _ _).symm.trans H; with_reducible exact H2_) | with_reducible exact H | (rw [hy103]; exact H) | exact H
    have Ny103 := zA hy103
    clear hy103
    replace H := zi H
    obtain ⟨t102, A70, H⟩ := H
    (try dsimp -simprocs only at H)
    have A7 := zA A70
    clear A70
    have H' := zA H
    clear H
    go_enter Try.func49, Try.ntmps49
    go_wp2_with (first | ((with_reducible refine gate_dst (N := 2) rfl ?_); refine zbox (N := 2) (cs := #[.int .i64 a0_0, .int .i64 a0_1, .int .i64 a0_2, .int .i64 a0_3]) (t := 27) ?_; intro gb104 hg w8 hbox hb; have BK104 := zA (hbox); have GW104 := zA ((z151 : w.heap.size ≤ gb104)); have GE104 := zA ((z151 : w.heap.size ≤ gb104)); replace HB := zA (below_step z1 hb); clear hb hbox hg; obtain ⟨hcz9_0, hcz9_1, hcz9_2, hcz9_3, hfz9_0, hfz9_1, hfz9_2, hfz9_3⟩ := zC4 BK104.out) | ((with_reducible refine gate_callee (f := 93) rfl ?_); refine goesL_ (some 19) rfl rfl Try.func93 (by kernel_rfl) rfl #[.agg #[.int .i64 a0_0, .int .i64 a0_1, .int .i64 a0_2, .int .i64 a0_3], .slice A1 l1.length c1] rfl z3 ?_; (with_reducible refine (impl_ticketsCode.calls k a0_0 a0_1 a0_2 a0_3 _ _ l1 t101 _ ?side1 ?side2 A3.out).mono ?_); (case side1 => exact z17); (case side2 => exact HC1.out); rintro e w10 ⟨rfl, hb⟩; refine ⟨_, rfl, ?_⟩; replace BK104 := zBB BK104 hb; replace HB := zA (below_step z5 hb); (try clear hb); (try clear hb2); (try clear hk); (try clear hi)) | ((with_reducible refine gate_dst (N := 25) rfl ?_); refine Kd.R_make Kd.bool _ 4 rfl (N := 25) rfl 84 _ _ rfl (l1.length : Int) rfl rfl Try.underlying84 (.bool false) 1 info4 rfl (by decide) (by omega) false (ok := fun _ => True) (okp := fun _ => True) rfl (fun _ hk => hk) trivial (of_decide_eq_true z7) (Nat.le_trans (Nat.mul_le_mul_right _ (of_decide_eq_true z7 : (l1.length : Int).toNat ≤ 281474976710656)) (by omega)) (Below.refl _ _) (Nat.le_refl _) ?_; intro v105 w11 ho12 hb hg_ hnew_; clear hg_ hnew_; (first | rw [← Ny103.out] at ho12 | (simp only [Int.reduceToNat] at ho12; rw [← Ny103.out] at ho12)); have HO106 := zA (Kd.R_lower ho12 (below_size z5)); replace BK104 := zBB BK104 hb; replace HB := zA (below_step z5 hb); clear hb ho12; obtain ⟨hcz13_0, hcz13_1, hcz13_2, hcz13_3, hfz13_0, hfz13_1, hfz13_2, hfz13_3⟩ := zC4 BK104.out) | ((with_reducible refine gate_callee (f := 63) rfl ?_); refine goesL_ (some 27) rfl rfl Try.func63 (by kernel_rfl) rfl #[.agg #[.int .i64 a0_0, .int .i64 a0_1, .int .i64 a0_2, .int .i64 a0_3]] rfl z3 ?_; (with_reducible refine (impl_allDraws.calls k a0_0 a0_1 a0_2 a0_3 t102 _ A7.out).mono ?_); rintro e w14 ⟨v107, rfl, ho0, hb⟩; refine ⟨_, rfl, ?_⟩; replace HO106 := zA (Kd.R_below z55 hb); have HO108 := zA (Kd.R_lower ho0 (below_size z5)); replace BK104 := zBB BK104 hb; replace HB := zA (below_step z5 hb); (try clear hb); (try clear hb2); (try clear hk); (try clear hi); (try clear ho0); obtain ⟨Ao15, co15, eo15⟩ := Kd.R_slice HO108.out; subst eo15))
    go_loopg [29] k (fun kq v29 w' => ∃ (x7_1 : List Bool) (x29_1 : Int), v29 = .int .i64 x29_1 ∧ Aside0 (impl_NeededTickets.l0 kq l1 x7_1 t102 (t102.length : Int) x29_1 a0_0 a0_1 a0_2 a0_3 = some (r1, r2)) ∧ Aside0 (kq ≤ k) ∧ Aside0 (Kd.R Kd.bool 4 w' w.heap.size (fun _ => True) v105 x7_1) ∧ Aside0 (Kd.R (Kd.int .i64) 2 w' w.heap.size (fun _ => True) (.slice Ao15 t102.length co15) t102) ∧ Aside0 (w'.heap[gb104]? = some (.cells #[.int .i64 a0_0, .int .i64 a0_1, .int .i64 a0_2, .int .i64 a0_3] 27 (0, 0))) ∧ Aside0 (Below w.heap.size w w'))
    case atStart => exact ⟨(y103), (0), z11, H', ⟨Nat.le_refl _⟩, ⟨z55⟩, ⟨z64⟩, ⟨z25⟩, ⟨z5⟩⟩
    case round =>
     clear H'
     (try clear c1); (try clear p2); (try clear c4); (try clear c4b0); (try clear c4b1); (try clear c5); (try clear c5b0); (try clear c5b1); (try clear c6); (try clear c6b0); (try clear c6b1); (try clear c9); (try clear hcz13_0); (try clear hcz13_1); (try clear hcz13_2); (try clear hcz13_3); (try clear hcz9_0); (try clear hcz9_1); (try clear hcz9_2); (try clear hcz9_3); (try clear hfz13_0); (try clear hfz13_1); (try clear hfz13_2); (try clear hfz13_3); (try clear hfz9_0); (try clear hfz9_1); (try clear hfz9_2); (try clear hfz9_3)
     obtain ⟨x7_1, x29_1, rfl, HA, HK1, HO_7, HO_27, BK104, HB⟩ := hrel
     cases gk with
     | zero => exact absurd HA.out (by simp [impl_NeededTickets.l0])
     | succ k1 =>
      have H := HA.out
      clear HA
      simp only [impl_NeededTickets.l0] at H
      by_cases c16 : x29_1 < (t102.length : Int)
      ·rw [if_pos c16] at H
       have c16b0 : decide (x29_1 < (t102.length : Int)) = true := decide_eq_true c16
       clear c16
       by_cases c17 : 0 ≤ x29_1
       ·rw [if_pos c17] at H
        have c17b0 : decide (0 ≤ x29_1) = true := decide_eq_true c17
        clear c17
        by_cases c18 : x29_1 < (t102.length : Int)
        ·rw [if_pos c18] at H
         have c18b0 : decide (x29_1 < (t102.length : Int)) = true := decide_eq_true c18
         clear c18
         have H' := zA H
         clear H
         have p512 : 0 ≤ (x29_1 : Int) := of_decide_eq_true z7
         have q512 : x29_1 < (t102.length : Int) := of_decide_eq_true z7
         obtain ⟨ad512, e512, hx512_0⟩ := Kd.at_int (Kd.R_reads' HO_27.out).2.2 x29_1 p512 q512
         cases e512
         replace p512 := eq_true p512
         replace q512 := eq_true q512
         go_wp2
         go_loopg [10, 11, 35] k1 (fun kq v10 v11 v35 w' => ∃ (x10_2 : Int) (x11_2 : Int) (x35_2 : Int), v10 = .int .i64 x10_2 ∧ v11 = .int .i64 x11_2 ∧ v35 = .int .i64 x35_2 ∧ Aside0 (impl_NeededTickets.l1 kq l1 x7_1 (rd t102 x29_1) x10_2 x11_2 t102 (t102.length : Int) x29_1 l1 (l1.length : Int) x35_2 a0_0 a0_1 a0_2 a0_3 = some (r1, r2)) ∧ Aside0 (kq ≤ k1) ∧ Aside0 (Kd.R Kd.bool 4 w' w.heap.size (fun _ => True) v105 x7_1) ∧ Aside0 (Kd.R (Kd.int .i64) 2 w' w.heap.size (fun _ => True) (.slice (some ad512) t102.length co15) t102) ∧ Aside0 (w'.heap[gb104]? = some (.cells #[.int .i64 a0_0, .int .i64 a0_1, .int .i64 a0_2, .int .i64 a0_3] 27 (0, 0))) ∧ Aside0 (Below w.heap.size w w'))
         case atStart => exact ⟨(0), (0), (0), z11, z11, z11, H', ⟨Nat.le_refl _⟩, ⟨z16⟩, ⟨z56⟩, ⟨z25⟩, ⟨z5⟩⟩
         case round =>
          clear H'
          (try clear c1); (try clear p2); (try clear c4); (try clear c4b0); (try clear c4b1); (try clear c5); (try clear c5b0); (try clear c5b1); (try clear p5); (try clear q5); (try clear hx5); (try clear c6); (try clear c6b0); (try clear c6b1); (try clear c9); (try clear c16); (try clear c16b0); (try clear c17); (try clear c17b0); (try clear c18); (try clear c18b0); (try clear hcz13_0); (try clear hcz13_1); (try clear hcz13_2); (try clear hcz13_3); (try clear hcz9_0); (try clear hcz9_1); (try clear hcz9_2); (try clear hcz9_3); (try clear hfz13_0); (try clear hfz13_1); (try clear hfz13_2); (try clear hfz13_3); (try clear hfz9_0); (try clear hfz9_1); (try clear hfz9_2); (try clear hfz9_3); (try clear hx512_0); (try clear p2); (try clear p512); (try clear q512)
          obtain ⟨x10_2, x11_2, x35_2, rfl, rfl, rfl, HA, HK2, HO_7, HO_27, BK104, HB⟩ := hrel
          cases gk with
          | zero => exact absurd HA.out (by simp [impl_NeededTickets.l1])
          | succ k2 =>
           have H := HA.out
           clear HA
           simp only [impl_NeededTickets.l1] at H
           by_cases c19 : x35_2 < (l1.length : Int)
           ·rw [if_pos c19] at H
            have c19b0 : decide (x35_2 < (l1.length : Int)) = true := decide_eq_true c19
            clear c19
            by_cases c20 : 0 ≤ x35_2
            ·rw [if_pos c20] at H
             have c20b0 : decide (0 ≤ x35_2) = true := decide_eq_true c20
             clear c20
             by_cases c21 : x35_2 < (l1.length : Int)
             ·rw [if_pos c21] at H
              have c21b0 : decide (x35_2 < (l1.length : Int)) = true := decide_eq_true c21
              clear c21
              replace H := zi H
              obtain ⟨t100, A220, H⟩ := H
              (try dsimp -simprocs only at H)
              have A22 := zA A220
              clear A220
              by_cases c23 : t100 = true
              ·subst c23
               have H1 : (impl_NeededTickets.l1 k2 l1 x7_1 (rd t102 x29_1) (wrap64 (x10_2 + 1)) x35_2 t102 (t102.length : Int) x29_1 l1 (l1.length : Int) (wrap64 (x35_2 + 1)) a0_0 a0_1 a0_2 a0_3) = some (r1, r2) := by rw [if_pos rfl] at H; exact H
               clear H
               have H := H1
               clear H1
               have H' := zA H
               clear H
               have p513 : 0 ≤ (x35_2 : Int) := of_decide_eq_true z7
               have q513 : x35_2 < (l1.length : Int) := of_decide_eq_true z7
               obtain ⟨ad513, e513, hx513_0⟩ := Kd.at_int HR1.out x35_2 p513 q513
               cases e513
               try replace hx513_0 := (HB.out.cell (World.block_lt_of_cell? w _ hx513_0)).trans hx513_0
               replace p513 := eq_true p513
               replace q513 := eq_true q513
               obtain ⟨hcz24_0, hcz24_1, hcz24_2, hcz24_3, hfz24_0, hfz24_1, hfz24_2, hfz24_3⟩ := zC4 BK104.out
               go_wp2_with (first | ((with_reducible refine gate_callee (f := 66) rfl ?_); refine goesL_ (some 43) rfl rfl Try.func66 (by kernel_rfl) rfl #[.agg #[.int .i64 a0_0, .int .i64 a0_1, .int .i64 a0_2, .int .i64 a0_3], .int .i64 (rd l1 x35_2), .int .i64 (rd t102 x29_1)] rfl z3 ?_; (with_reducible refine (impl_hits.calls a0_0 a0_1 a0_2 a0_3 (rd l1 x35_2) (rd t102 x29_1) true _ A22.out).mono ?_); rintro e w25 ⟨rfl, hb⟩; refine ⟨_, rfl, ?_⟩; replace HO_7 := zA (Kd.R_below z16 hb); replace HO_27 := zA (Kd.R_below z56 hb); replace BK104 := zBB BK104 hb; replace HB := zA (below_step z5 hb); (try clear hb); (try clear hb2); (try clear hk); (try clear hi)))
               go_roundg k2
               case measure => have := HK1.out; have := HK2.out; omega
               case rel => exact ⟨(wrap64 (x10_2 + 1)), (x35_2), (wrap64 (x35_2 + 1)), z11, z11, z11, H', ⟨z76⟩, ⟨z16⟩, ⟨z56⟩, ⟨z25⟩, ⟨z5⟩⟩
              ·replace c23 := Bool.eq_false_iff.mpr c23
               subst c23
               have H1 : (impl_NeededTickets.l1 k2 l1 x7_1 (rd t102 x29_1) x10_2 x11_2 t102 (t102.length : Int) x29_1 l1 (l1.length : Int) (wrap64 (x35_2 + 1)) a0_0 a0_1 a0_2 a0_3) = some (r1, r2) := by rw [if_neg (show ¬ (false = true) by decide)] at H; exact H
               clear H
               have H := H1
               clear H1
               have H' := zA H
               clear H
               have p513 : 0 ≤ (x35_2 : Int) := of_decide_eq_true z7
               have q513 : x35_2 < (l1.length : Int) := of_decide_eq_true z7
               obtain ⟨ad513, e513, hx513_0⟩ := Kd.at_int HR1.out x35_2 p513 q513
               cases e513
               try replace hx513_0 := (HB.out.cell (World.block_lt_of_cell? w _ hx513_0)).trans hx513_0
               replace p513 := eq_true p513
               replace q513 := eq_true q513
               obtain ⟨hcz26_0, hcz26_1, hcz26_2, hcz26_3, hfz26_0, hfz26_1, hfz26_2, hfz26_3⟩ := zC4 BK104.out
               go_wp2_with (first | ((with_reducible refine gate_callee (f := 66) rfl ?_); refine goesL_ (some 43) rfl rfl Try.func66 (by kernel_rfl) rfl #[.agg #[.int .i64 a0_0, .int .i64 a0_1, .int .i64 a0_2, .int .i64 a0_3], .int .i64 (rd l1 x35_2), .int .i64 (rd t102 x29_1)] rfl z3 ?_; (with_reducible refine (impl_hits.calls a0_0 a0_1 a0_2 a0_3 (rd l1 x35_2) (rd t102 x29_1) false _ A22.out).mono ?_); rintro e w27 ⟨rfl, hb⟩; refine ⟨_, rfl, ?_⟩; replace HO_7 := zA (Kd.R_below z16 hb); replace HO_27 := zA (Kd.R_below z56 hb); replace BK104 := zBB BK104 hb; replace HB := zA (below_step z5 hb); (try clear hb); (try clear hb2); (try clear hk); (try clear hi)))
               go_roundg k2
               case measure => have := HK1.out; have := HK2.out; omega
               case rel => exact ⟨(x10_2), (x11_2), (wrap64 (x35_2 + 1)), z11, z11, z11, H', ⟨z76⟩, ⟨z16⟩, ⟨z56⟩, ⟨z25⟩, ⟨z5⟩⟩
             ·rw [if_neg c21] at H
              exact absurd H (by simp)
            ·rw [if_neg c20] at H
             exact absurd H (by simp)
           ·rw [if_neg c19] at H
            have c19b0 : decide (x35_2 < (l1.length : Int)) = false := decide_eq_false c19
            clear c19
            by_cases c28 : x10_2 = 1
            ·rw [if_pos c28] at H
             have c28b0 : (x10_2 == 1) = true := beq_iff_eq.mpr c28
             have c28b1 : (x10_2 != 1) = false := bne_eq_false_iff_eq.mpr c28
             clear c28
             by_cases c29 : 0 ≤ x11_2
             ·rw [if_pos c29] at H
              have c29b0 : decide (0 ≤ x11_2) = true := decide_eq_true c29
              clear c29
              by_cases c30 : x11_2 < (x7_1.length : Int)
              ·rw [if_pos c30] at H
               have c30b0 : decide (x11_2 < (x7_1.length : Int)) = true := decide_eq_true c30
               clear c30
               obtain ⟨y109, hy109⟩ : ∃ y_ : List Bool, y_ = (x7_1.set (x11_2 : Int).toNat true) := ⟨_, rfl⟩
               replace H : (impl_NeededTickets.l0 k2 l1 y109 t102 (t102.length : Int) (wrap64 (x29_1 + 1)) a0_0 a0_1 a0_2 a0_3) = some (r1, r2) := by first | (rw [hy109]; with_reducible exact H) | (have H2_ := (Option.bind_some _ _).symm.trans H; rw [hy109]; with_reducible exact H2_) | (have H2_ := (Option.bind_some _ _).symm.trans H; with_reducible exact H2_) | with_reducible exact H | (rw [hy109]; exact H) | exact H
               have Ny109 := zA hy109
               clear hy109
               have H' := zA H
               clear H
               have p31 : 0 ≤ (x11_2 : Int) := of_decide_eq_true z7
               have q31 : (x11_2 : Int) < ((x7_1.length : Int) : Int) := of_decide_eq_true z7
               obtain ⟨go31, co31, eo31, gb31, gl31, cl31, HG31⟩ := Kd.R_form HO_7.out (by omega)
               (first | cases eo31 | (injection eo31 with ea_ en_ ec_; (first | subst ea_ | (injection ea_ with ea_; subst ea_)); subst ec_; clear en_))
               have GB31 := zA gb31
               have GG31 := zA HG31
               clear gb31 gl31 HG31
               obtain ⟨hx31_0, hf31_0⟩ := Kd.R_celln false HO_7.out (x11_2 : Int) p31 q31
               replace p31 := eq_true p31
               replace q31 := eq_true q31
               have HP32 := Kd.R_putg HO_7.out (x11_2 : Int) true
               go_wp2_with (first | ((with_reducible refine gate_store (t := 4) (p := 52) rfl ?_); refine store_event (t := 4) (p := 52) (v := ?vo_w33) (w1 := (wr.setCell ⟨go31, (x11_2 : Int).toNat, none⟩ (.bool true))) ?hg ?ho ?hn ?hr ?_; (case ho => rfl); (case hg => rfl); (case hn => rfl); (case hr => first | (go_simp; done) | (go_simp; rfl)); intro w33 hw; have hg : wr.grownBy w33 (some go31) := (by rw [hw]; exact HP32.2); have hp_ : Kd.R Kd.bool 4 w33 w.heap.size (fun _ => True) (.slice (some ⟨go31, 0, none⟩) x7_1.length co31) y109 := (by rw [hw, Ny109.out]; exact HP32.1); clear HP32; replace HO_27 := zA (Kd.R_over' (v := (.slice (some ⟨go31, 0, none⟩) x7_1.length co31)) z56 (Kd.R_typed HO_7.out) (by decide) hg); replace BK104 := zA (blk_grown (g := gb104) (o := .cells #[.int .i64 a0_0, .int .i64 a0_1, .int .i64 a0_2, .int .i64 a0_3] 27 (0, 0)) z25 hg (Kd.R_ne HO_7.out BK104.out (by decide))); replace HO_7 := zA (hp_); replace HB := zA (((by rw [hw]; exact below_set (HB.out) GB31.out) : Below w.heap.size w w33)); clear hg hw hp_))
               go_roundg k2
               case measure => have := HK1.out; have := HK2.out; omega
               case rel => exact ⟨(y109), (wrap64 (x29_1 + 1)), z11, H', ⟨z76⟩, ⟨z16⟩, ⟨z56⟩, ⟨z25⟩, ⟨z5⟩⟩
              ·rw [if_neg c30] at H
               exact absurd H (by simp)
             ·rw [if_neg c29] at H
              exact absurd H (by simp)
            ·rw [if_neg c28] at H
             have c28b0 : (x10_2 == 1) = false := beq_eq_false_iff_ne.mpr c28
             have c28b1 : (x10_2 != 1) = true := bne_iff_ne.mpr c28
             have H' := zA H
             clear H
             go_wp2
             go_roundg k2
             case measure => have := HK1.out; have := HK2.out; omega
             case rel => exact ⟨(x7_1), (wrap64 (x29_1 + 1)), z11, H', ⟨z76⟩, ⟨z16⟩, ⟨z56⟩, ⟨z25⟩, ⟨z5⟩⟩
        ·rw [if_neg c18] at H
         exact absurd H (by simp)
       ·rw [if_neg c17] at H
        exact absurd H (by simp)
      ·rw [if_neg c16] at H
       have c16b0 : decide (x29_1 < (t102.length : Int)) = false := decide_eq_false c16
       clear c16
       obtain ⟨y110, hy110⟩ : ∃ y_ : List Int, y_ = (([] : List Int)) := ⟨_, rfl⟩
       replace H : (impl_NeededTickets.l2 k1 x7_1 y110 l1 (l1.length : Int) 0) = some (r1, r2) := by first | (rw [hy110]; with_reducible exact H) | (have H2_ := (Option.bind_some _ _).symm.trans H; rw [hy110]; with_reducible exact H2_) | (have H2_ := (Option.bind_some _ _).symm.trans H; with_reducible exact H2_) | with_reducible exact H | (rw [hy110]; exact H) | exact H
       have Ny110 := zA hy110
       clear hy110
       have H' := zA H
       clear H
       go_wp2_with (first | ((with_reducible refine gate_dst (N := 54) rfl ?_); refine Kd.R_lit (Kd.int .i64) _ 2 ?hg (N := 54) ?hd (xs := ([] : List Int)) (inner := []) (ok := fun _ => True) (okp := fun _ => True) ?hr ?hp (fun _ hk => hk) trivial (Below.refl _ _) (Nat.le_refl _) (by simp) ?_; (case hd => rfl); (case hg => rfl); (case hr => first | (go_simp; done) | (go_simp; rfl)); (case hp => exact (Reps.none _ _)); intro v111 w34 ho35 hb hg_ hnew_; clear hg_ hnew_; (first | rw [← Ny110.out] at ho35 | (simp only [Int.reduceToNat] at ho35; rw [← Ny110.out] at ho35)); replace HO_7 := zA (Kd.R_below z16 hb); have HO112 := zA (Kd.R_lower (Kd.R_new' ho35 (Kd.R_lt z56)) (below_size z5)); replace HO_27 := zA (Kd.R_elder' z56 (Kd.R_base ho35) hb); replace BK104 := zBB BK104 hb; replace HB := zA (below_step z5 hb); clear hb ho35))
       go_loopg [14, 57] k1 (fun kq v14 v57 w' => ∃ (x14_2 : List Int) (x57_2 : Int), v57 = .int .i64 x57_2 ∧ Aside0 (impl_NeededTickets.l2 kq x7_1 x14_2 l1 (l1.length : Int) x57_2 = some (r1, r2)) ∧ Aside0 (kq ≤ k1) ∧ Aside0 (Kd.R Kd.bool 4 w' w.heap.size (fun _ => True) v105 x7_1) ∧ Aside0 (Kd.R (Kd.int .i64) 2 w' w.heap.size (fun _ => True) v14 x14_2) ∧ Aside0 (w'.heap[gb104]? = some (.cells #[.int .i64 a0_0, .int .i64 a0_1, .int .i64 a0_2, .int .i64 a0_3] 27 (0, 0))) ∧ Aside0 (Below w.heap.size w w'))
       case atStart => exact ⟨(y110), (0), z11, H', ⟨Nat.le_refl _⟩, ⟨z16⟩, ⟨z124⟩, ⟨z25⟩, ⟨z5⟩⟩
       case round =>
        clear H'
        (try clear c1); (try clear c2); (try clear p2); (try clear c3); (try clear p3); (try clear q3); (try clear hx3); (try clear hf3); (try clear c4); (try clear c4b0); (try clear c4b1); (try clear c5); (try clear c5b0); (try clear c5b1); (try clear p5); (try clear q5); (try clear hx5); (try clear c6); (try clear c6b0); (try clear c6b1); (try clear p6); (try clear c9); (try clear c16); (try clear c16b0); (try clear c17); (try clear c17b0); (try clear c18); (try clear c18b0); (try clear c19); (try clear c19b0); (try clear c20); (try clear c20b0); (try clear c21); (try clear c21b0); (try clear c23); (try clear c28); (try clear c28b0); (try clear c28b1); (try clear c29); (try clear c29b0); (try clear c30); (try clear c30b0); (try clear p31); (try clear q31); (try clear hx31); (try clear hf31); (try clear hcz13_0); (try clear hcz13_1); (try clear hcz13_2); (try clear hcz13_3); (try clear hcz24_0); (try clear hcz24_1); (try clear hcz24_2); (try clear hcz24_3); (try clear hcz26_0); (try clear hcz26_1); (try clear hcz26_2); (try clear hcz26_3); (try clear hcz9_0); (try clear hcz9_1); (try clear hcz9_2); (try clear hcz9_3); (try clear hfz13_0); (try clear hfz13_1); (try clear hfz13_2); (try clear hfz13_3); (try clear hfz24_0); (try clear hfz24_1); (try clear hfz24_2); (try clear hfz24_3); (try clear hfz26_0); (try clear hfz26_1); (try clear hfz26_2); (try clear hfz26_3); (try clear hfz9_0); (try clear hfz9_1); (try clear hfz9_2); (try clear hfz9_3); (try clear hx31_0); (try clear hx512_0); (try clear hx513_0); (try clear p2); (try clear p31); (try clear p5); (try clear p512); (try clear p513); (try clear q31); (try clear q5); (try clear q512); (try clear q513)
        obtain ⟨x14_2, x57_2, rfl, HA, HK2, HO_7, HO_14, BK104, HB⟩ := hrel
        cases gk with
        | zero => exact absurd HA.out (by simp [impl_NeededTickets.l2])
        | succ k2 =>
         have H := HA.out
         clear HA
         simp only [impl_NeededTickets.l2] at H
         by_cases c36 : x57_2 < (l1.length : Int)
         ·rw [if_pos c36] at H
          have c36b0 : decide (x57_2 < (l1.length : Int)) = true := decide_eq_true c36
          clear c36
          by_cases c37 : 0 ≤ x57_2
          ·rw [if_pos c37] at H
           have c37b0 : decide (0 ≤ x57_2) = true := decide_eq_true c37
           clear c37
           by_cases c38 : x57_2 < (l1.length : Int)
           ·rw [if_pos c38] at H
            have c38b0 : decide (x57_2 < (l1.length : Int)) = true := decide_eq_true c38
            clear c38
            by_cases c39 : x57_2 < (x7_1.length : Int)
            ·rw [if_pos c39] at H
             have c39b0 : decide (x57_2 < (x7_1.length : Int)) = true := decide_eq_true c39
             clear c39
             obtain ⟨bq40, hbq40⟩ : ∃ b_ : Bool, b_ = (rdOf false x7_1 x57_2) := ⟨_, rfl⟩
             replace H : (if bq40 = true then (if x14_2.length < 17592186044416 then (impl_NeededTickets.l2 k2 x7_1 (x14_2 ++ [rd l1 x57_2]) l1 (l1.length : Int) (wrap64 (x57_2 + 1))) else (none)) else (impl_NeededTickets.l2 k2 x7_1 x14_2 l1 (l1.length : Int) (wrap64 (x57_2 + 1)))) = some (r1, r2) := by rw [← hbq40] at H; exact H
             have Nbq40 := zA hbq40
             clear hbq40
             by_cases c41 : bq40 = true
             ·subst c41
              have H1 : (if x14_2.length < 17592186044416 then (impl_NeededTickets.l2 k2 x7_1 (x14_2 ++ [rd l1 x57_2]) l1 (l1.length : Int) (wrap64 (x57_2 + 1))) else (none)) = some (r1, r2) := by rw [if_pos rfl] at H; exact H
              clear H
              have H := H1
              clear H1
              by_cases c42 : x14_2.length < 17592186044416
              ·rw [if_pos c42] at H
               have LMc42 := zA c42
               clear c42
               obtain ⟨y113, hy113⟩ : ∃ y_ : List Int, y_ = (x14_2 ++ [rd l1 x57_2]) := ⟨_, rfl⟩
               replace H : (impl_NeededTickets.l2 k2 x7_1 y113 l1 (l1.length : Int) (wrap64 (x57_2 + 1))) = some (r1, r2) := by first | (rw [hy113]; with_reducible exact H) | (have H2_ := (Option.bind_some _ _).symm.trans H; rw [hy113]; with_reducible exact H2_) | (have H2_ := (Option.bind_some _ _).symm.trans H; with_reducible exact H2_) | with_reducible exact H | (rw [hy113]; exact H) | exact H
               have Ny113 := zA hy113
               clear hy113
               have H' := zA H
               clear H
               have p519 : 0 ≤ (x57_2 : Int) := of_decide_eq_true z7
               have q519 : x57_2 < (l1.length : Int) := of_decide_eq_true z7
               obtain ⟨ad519, e519, hx519_0⟩ := Kd.at_int HR1.out x57_2 p519 q519
               cases e519
               try replace hx519_0 := (HB.out.cell (World.block_lt_of_cell? w _ hx519_0)).trans hx519_0
               replace p519 := eq_true p519
               replace q519 := eq_true q519
               obtain ⟨Ao43, co43, eo43⟩ := Kd.R_slice HO_7.out
               subst eo43
               have p520 : 0 ≤ (x57_2 : Int) := of_decide_eq_true z7
               have q520 : x57_2 < (x7_1.length : Int) := of_decide_eq_true z7
               obtain ⟨ad520, e520, hx520_0⟩ := Kd.at_bool (Kd.R_reads' HO_7.out).2.2 x57_2 p520 q520
               (try rw [← Nbq40.out] at hx520_0)
               cases e520
               replace p520 := eq_true p520
               replace q520 := eq_true q520
               go_wp2_with (first | ((with_reducible refine gate_builtin (b := .append) (xs := #[.tmp 66, .tmp 68]) rfl ?_); at_builtin; refine Kd.R_append (Kd.int .i64) (w0 := w) w.heap.size rfl (.tmp 66) (.tmp 68) 24 2 (.int .i64 0) 8 rfl Try.underlying24 info2 rfl (by decide) (by omega) u14 x14_2 (rd l1 x57_2) [.int .i64 (rd l1 x57_2)] (fun _ => True) (fun _ => False) rfl rfl ?aP (fun _ hk => hk.elim) ?aF ?aO ?aB ?aS ?aL ?_; (case aP => exact rfl); (case aB => exact z5); (case aF => exact (fun _ _ => trivial)); (case aO => exact z99); (case aS => exact (below_size z5)); (case aL => have := LMc42.out; omega); intro v114 w44 ho hb hg hat; rw [← Ny113.out] at ho; replace HO_7 := zA (Kd.R_over' z16 (Kd.R_typed z99) (by decide) hg); replace BK104 := zA (blk_grown (g := gb104) (o := .cells #[.int .i64 a0_0, .int .i64 a0_1, .int .i64 a0_2, .int .i64 a0_3] 27 (0, 0)) z25 hg (Kd.R_ne HO_14.out BK104.out (by decide))); replace HB := zA (hb); have HO115 := zA (ho); clear HO_14; clear ho hb hg hat))
               go_roundg k2
               case measure => have := HK1.out; have := HK2.out; omega
               case rel => exact ⟨(y113), (wrap64 (x57_2 + 1)), z11, H', ⟨z76⟩, ⟨z16⟩, ⟨z66⟩, ⟨z25⟩, ⟨z5⟩⟩
              ·rw [if_neg c42] at H
               exact absurd H (by simp)
             ·replace c41 := Bool.eq_false_iff.mpr c41
              subst c41
              have H1 : (impl_NeededTickets.l2 k2 x7_1 x14_2 l1 (l1.length : Int) (wrap64 (x57_2 + 1))) = some (r1, r2) := by rw [if_neg (show ¬ (false = true) by decide)] at H; exact H
              clear H
              have H := H1
              clear H1
              have H' := zA H
              clear H
              have p519 : 0 ≤ (x57_2 : Int) := of_decide_eq_true z7
              have q519 : x57_2 < (l1.length : Int) := of_decide_eq_true z7
              obtain ⟨ad519, e519, hx519_0⟩ := Kd.at_int HR1.out x57_2 p519 q519
              cases e519
              try replace hx519_0 := (HB.out.cell (World.block_lt_of_cell? w _ hx519_0)).trans hx519_0
              replace p519 := eq_true p519
              replace q519 := eq_true q519
              obtain ⟨Ao45, co45, eo45⟩ := Kd.R_slice HO_7.out
              subst eo45
              have p520 : 0 ≤ (x57_2 : Int) := of_decide_eq_true z7
              have q520 : x57_2 < (x7_1.length : Int) := of_decide_eq_true z7
              obtain ⟨ad520, e520, hx520_0⟩ := Kd.at_bool (Kd.R_reads' HO_7.out).2.2 x57_2 p520 q520
              (try rw [← Nbq40.out] at hx520_0)
              cases e520
              replace p520 := eq_true p520
              replace q520 := eq_true q520
              go_wp2
              go_roundg k2
              case measure => have := HK1.out; have := HK2.out; omega
              case rel => exact ⟨(x14_2), (wrap64 (x57_2 + 1)), z11, H', ⟨z76⟩, ⟨z16⟩, ⟨z99⟩, ⟨z25⟩, ⟨z5⟩⟩
            ·rw [if_neg c39] at H
             exact absurd H (by simp)
           ·rw [if_neg c38] at H
            exact absurd H (by simp)
          ·rw [if_neg c37] at H
           exact absurd H (by simp)
         ·rw [if_neg c36] at H
          have c36b0 : decide (x57_2 < (l1.length : Int)) = false := decide_eq_false c36
          clear c36
          simp only [Option.some.injEq, Prod.mk.injEq] at H
          obtain ⟨rfl, rfl⟩ := H
          go_wp2
          go_ret2
          exact ⟨_, z8, z99, z5⟩
   ·rw [if_neg c6] at H
    exact absurd H (by simp)
  ·rw [if_neg c5] at H
   exact absurd H (by simp)
 ·rw [if_neg c4] at H
  have c4b0 : (t101 == 0) = false := beq_eq_false_iff_ne.mpr c4
  have c4b1 : (t101 != 0) = true := bne_iff_ne.mpr c4
  simp only [Option.some.injEq, Prod.mk.injEq] at H
  obtain ⟨rfl, rfl⟩ := H
  go_enter Try.func49, Try.ntmps49
  go_wp2_with (first | ((with_reducible refine gate_dst (N := 2) rfl ?_); refine zbox (N := 2) (cs := #[.int .i64 a0_0, .int .i64 a0_1, .int .i64 a0_2, .int .i64 a0_3]) (t := 27) ?_; intro gb104 hg w46 hbox hb; have BK104 := zA (hbox); have GW104 := zA ((z151 : w.heap.size ≤ gb104)); have GE104 := zA ((z151 : w.heap.size ≤ gb104)); replace HB := zA (below_step z1 hb); clear hb hbox hg; obtain ⟨hcz47_0, hcz47_1, hcz47_2, hcz47_3, hfz47_0, hfz47_1, hfz47_2, hfz47_3⟩ := zC4 BK104.out) | ((with_reducible refine gate_callee (f := 93) rfl ?_); refine goesL_ (some 19) rfl rfl Try.func93 (by kernel_rfl) rfl #[.agg #[.int .i64 a0_0, .int .i64 a0_1, .int .i64 a0_2, .int .i64 a0_3], .slice A1 l1.length c1] rfl z3 ?_; (with_reducible refine (impl_ticketsCode.calls k a0_0 a0_1 a0_2 a0_3 _ _ l1 t101 _ ?side1 ?side2 A3.out).mono ?_); (case side1 => exact z17); (case side2 => exact HC1.out); rintro e w48 ⟨rfl, hb⟩; refine ⟨_, rfl, ?_⟩; replace BK104 := zBB BK104 hb; replace HB := zA (below_step z5 hb); (try clear hb); (try clear hb2); (try clear hk); (try clear hi)))
  go_ret2
  exact ⟨_, z8, z37, z5⟩

end Go.Proofs.Ytchlbkcladfloaa.PFnGuarantees
