-- WALKS, by a program and by hand
import Derived.Test.YtchlbkcladfloaaPFnGuaranteesx0
import Derived.Test.YtchlbkcladfloaaPFnGuaranteesx1
import Derived.Test.YtchlbkcladfloaaPFnGuaranteesx3
import Derived.Test.YtchlbkcladfloaaPFnGuaranteesx6
import Derived.Test.YtchlbkcladfloaaPFnGuaranteesx7
import Derived.Test.YtchlbkcladfloaaPFnGuaranteesx10
namespace Go.Proofs.Ytchlbkcladfloaa.PFnGuarantees
open Go.RowKit Go.Proofs.Ytchlbkcladfloaa.DG Go.Proofs.YtchlbkcladfloaaW.PrintWords Go.Proofs.YtchlbkcladfloaaW.PrintLast Go.Proofs.YtchlbkcladfloaaW.PrintMore
attribute [local go_sem] max2_int min2_int max_two min_two max_three min_three max_four min_four   -- for this text's walks alone
set_option linter.unusedVariables false
set_option linter.unusedSimpArgs false

def spec_LeastTickets.l0 : Nat → List Int → Int → Int → Int → Int → Int → Option (List Int × Int)
 | 0, _, _, _, _, _, _ => none
 | k + 1, x4, x5, x288000, x288001, x288002, x288003 => if x5 ≤ 4 then ((spec_l08Search.f k x288000 x288001 x288002 x288003 x4 (([] : List Int)) 0 x5).bind fun bt100 => (if bt100.2 = true then (some (bt100.1, 0)) else (spec_LeastTickets.l0 k x4 (wrap64 (x5 + 1)) x288000 x288001 x288002 x288003))) else (some (([] : List Int), 3))
def spec_LeastTickets.f (k : Nat) (a0_0 : Int) (a0_1 : Int) (a0_2 : Int) (a0_3 : Int) : Option (List Int × Int) := (spec_l08Is.f a0_0 a0_1 a0_2 a0_3).bind fun t101 => (if t101 = true then ((spec_l08Choose.f k a0_0 a0_2).bind fun t102 => (if t102 > 36 then (some (([] : List Int), 3)) else ((spec_l08Choose.f k a0_0 a0_1).bind fun t103 => (if t103 > 36 then (some (([] : List Int), 3)) else ((spec_l08Sets.f k a0_0 a0_1 a0_2 a0_3 a0_1).bind fun t104 => ((spec_l08Bound.f k a0_0 a0_1 a0_2 a0_3).bind fun t105 => (spec_LeastTickets.l0 k t104 t105 a0_0 a0_1 a0_2 a0_3))))))) else (some (([] : List Int), 1)))
set_option maxHeartbeats 8000000 in
set_option maxRecDepth 100000 in
theorem spec_LeastTickets.calls (k : Nat) (a0_0 : Int) (a0_1 : Int) (a0_2 : Int) (a0_3 : Int) (r1 : List Int) (r2 : Int) (w : World) (h : spec_LeastTickets.f k a0_0 a0_1 a0_2 a0_3 = some (r1, r2)) :
  Calls Try.prog 13 #[.agg #[.int .i64 a0_0, .int .i64 a0_1, .int .i64 a0_2, .int .i64 a0_3]] w fun e w' => ∃ v0_ : Value, e = .returned (.tuple #[v0_, .int .i64 r2]) ∧ Kd.R (Kd.int .i64) 2 w' w.heap.size (fun _ => True) v0_ r1 ∧ Below w.heap.size w w' := by
 have hu27 := Try.underlying27
 have HB := zA (Below.refl w.heap.size w)
 have H := h
 unfold spec_LeastTickets.f at H
 (try dsimp -simprocs only at H)
 clear h
 replace H := zi H
 obtain ⟨t101, A20, H⟩ := H
 (try dsimp -simprocs only at H)
 have A2 := zA A20
 clear A20
 by_cases c3 : t101 = true
 ·subst c3
  have H1 : ((spec_l08Choose.f k a0_0 a0_2).bind fun t102 => (if t102 > 36 then (some (([] : List Int), 3)) else ((spec_l08Choose.f k a0_0 a0_1).bind fun t103 => (if t103 > 36 then (some (([] : List Int), 3)) else ((spec_l08Sets.f k a0_0 a0_1 a0_2 a0_3 a0_1).bind fun t104 => ((spec_l08Bound.f k a0_0 a0_1 a0_2 a0_3).bind fun t105 => (spec_LeastTickets.l0 k t104 t105 a0_0 a0_1 a0_2 a0_3))))))) = some (r1, r2) := by rw [if_pos rfl] at H; exact H
  clear H
  have H := H1
  clear H1
  replace H := zi H
  obtain ⟨t102, A40, H⟩ := H
  (try dsimp -simprocs only at H)
  have A4 := zA A40
  clear A40
  by_cases c5 : t102 > 36
  ·rw [if_pos c5] at H
   have c5b0 : decide (36 < t102) = true := decide_eq_true c5
   clear c5
   simp only [Option.some.injEq, Prod.mk.injEq] at H
   obtain ⟨rfl, rfl⟩ := H
   go_enter Try.func13, Try.ntmps13
   go_wp2_with (first | ((with_reducible refine gate_dst (N := 1) rfl ?_); refine zbox (N := 1) (cs := #[.int .i64 a0_0, .int .i64 a0_1, .int .i64 a0_2, .int .i64 a0_3]) (t := 27) ?_; intro gb106 hg w6 hbox hb; have BK106 := zA (hbox); have GW106 := zA ((z151 : w.heap.size ≤ gb106)); have GE106 := zA ((z151 : w.heap.size ≤ gb106)); replace HB := zA (below_step z1 hb); clear hb hbox hg; obtain ⟨hcz7_0, hcz7_1, hcz7_2, hcz7_3, hfz7_0, hfz7_1, hfz7_2, hfz7_3⟩ := zC4 BK106.out) | ((with_reducible refine gate_callee (f := 58) rfl ?_); refine goesL_ (some 10) rfl rfl Try.func58 (by kernel_rfl) rfl #[.agg #[.int .i64 a0_0, .int .i64 a0_1, .int .i64 a0_2, .int .i64 a0_3]] rfl z3 ?_; (with_reducible refine (spec_l08Is.calls a0_0 a0_1 a0_2 a0_3 true _ A2.out).mono ?_); rintro e w8 ⟨rfl, hb⟩; refine ⟨_, rfl, ?_⟩; replace BK106 := zBB BK106 hb; replace HB := zA (below_step z21 hb); (try clear hb); (try clear hb2); (try clear hk); (try clear hi); obtain ⟨hcz9_0, hcz9_1, hcz9_2, hcz9_3, hfz9_0, hfz9_1, hfz9_2, hfz9_3⟩ := zC4 BK106.out) | ((with_reducible refine gate_callee (f := 68) rfl ?_); refine goesL_ (some 17) rfl rfl Try.func68 (by kernel_rfl) rfl #[.int .i64 a0_0, .int .i64 a0_2] rfl z3 ?_; (with_reducible refine (spec_l08Choose.calls k a0_0 a0_2 t102 _ A4.out).mono ?_); rintro e w' ⟨rfl, ⟨nd, rfl⟩⟩; refine ⟨_, rfl, ?_⟩))
   go_ret2
   exact ⟨_, z8, z37, z21⟩
  ·rw [if_neg c5] at H
   have c5b0 : decide (36 < t102) = false := decide_eq_false c5
   clear c5
   replace H := zi H
   obtain ⟨t103, A100, H⟩ := H
   (try dsimp -simprocs only at H)
   have A10 := zA A100
   clear A100
   by_cases c11 : t103 > 36
   ·rw [if_pos c11] at H
    have c11b0 : decide (36 < t103) = true := decide_eq_true c11
    clear c11
    simp only [Option.some.injEq, Prod.mk.injEq] at H
    obtain ⟨rfl, rfl⟩ := H
    go_enter Try.func13, Try.ntmps13
    go_wp2_with (first | ((with_reducible refine gate_dst (N := 1) rfl ?_); refine zbox (N := 1) (cs := #[.int .i64 a0_0, .int .i64 a0_1, .int .i64 a0_2, .int .i64 a0_3]) (t := 27) ?_; intro gb106 hg w12 hbox hb; have BK106 := zA (hbox); have GW106 := zA ((z151 : w.heap.size ≤ gb106)); have GE106 := zA ((z151 : w.heap.size ≤ gb106)); replace HB := zA (below_step z1 hb); clear hb hbox hg; obtain ⟨hcz13_0, hcz13_1, hcz13_2, hcz13_3, hfz13_0, hfz13_1, hfz13_2, hfz13_3⟩ := zC4 BK106.out) | ((with_reducible refine gate_callee (f := 58) rfl ?_); refine goesL_ (some 10) rfl rfl Try.func58 (by kernel_rfl) rfl #[.agg #[.int .i64 a0_0, .int .i64 a0_1, .int .i64 a0_2, .int .i64 a0_3]] rfl z3 ?_; (with_reducible refine (spec_l08Is.calls a0_0 a0_1 a0_2 a0_3 true _ A2.out).mono ?_); rintro e w14 ⟨rfl, hb⟩; refine ⟨_, rfl, ?_⟩; replace BK106 := zBB BK106 hb; replace HB := zA (below_step z21 hb); (try clear hb); (try clear hb2); (try clear hk); (try clear hi); obtain ⟨hcz15_0, hcz15_1, hcz15_2, hcz15_3, hfz15_0, hfz15_1, hfz15_2, hfz15_3⟩ := zC4 BK106.out) | ((with_reducible refine gate_callee (f := 68) rfl ?_); refine goesL_ (some 17) rfl rfl Try.func68 (by kernel_rfl) rfl #[.int .i64 a0_0, .int .i64 a0_2] rfl z3 ?_; (with_reducible refine (spec_l08Choose.calls k a0_0 a0_2 t102 _ A4.out).mono ?_); rintro e w' ⟨rfl, ⟨nd, rfl⟩⟩; refine ⟨_, rfl, ?_⟩) | (go_at_call 68; (with_reducible refine (spec_l08Choose.calls k a0_0 a0_1 t103 _ A10.out).mono ?_); rintro e w' ⟨rfl, ⟨nd, rfl⟩⟩))
    go_ret2
    exact ⟨_, z8, z37, z21⟩
   ·rw [if_neg c11] at H
    have c11b0 : decide (36 < t103) = false := decide_eq_false c11
    clear c11
    replace H := zi H
    obtain ⟨t104, A160, H⟩ := H
    (try dsimp -simprocs only at H)
    have A16 := zA A160
    clear A160
    replace H := zi H
    obtain ⟨t105, A170, H⟩ := H
    (try dsimp -simprocs only at H)
    have A17 := zA A170
    clear A170
    have H' := zA H
    clear H
    go_enter Try.func13, Try.ntmps13
    go_wp2_with (first | ((with_reducible refine gate_dst (N := 1) rfl ?_); refine zbox (N := 1) (cs := #[.int .i64 a0_0, .int .i64 a0_1, .int .i64 a0_2, .int .i64 a0_3]) (t := 27) ?_; intro gb106 hg w18 hbox hb; have BK106 := zA (hbox); have GW106 := zA ((z151 : w.heap.size ≤ gb106)); have GE106 := zA ((z151 : w.heap.size ≤ gb106)); replace HB := zA (below_step z1 hb); clear hb hbox hg; obtain ⟨hcz19_0, hcz19_1, hcz19_2, hcz19_3, hfz19_0, hfz19_1, hfz19_2, hfz19_3⟩ := zC4 BK106.out) | ((with_reducible refine gate_callee (f := 58) rfl ?_); refine goesL_ (some 10) rfl rfl Try.func58 (by kernel_rfl) rfl #[.agg #[.int .i64 a0_0, .int .i64 a0_1, .int .i64 a0_2, .int .i64 a0_3]] rfl z3 ?_; (with_reducible refine (spec_l08Is.calls a0_0 a0_1 a0_2 a0_3 true _ A2.out).mono ?_); rintro e w20 ⟨rfl, hb⟩; refine ⟨_, rfl, ?_⟩; replace BK106 := zBB BK106 hb; replace HB := zA (below_step z21 hb); (try clear hb); (try clear hb2); (try clear hk); (try clear hi); obtain ⟨hcz21_0, hcz21_1, hcz21_2, hcz21_3, hfz21_0, hfz21_1, hfz21_2, hfz21_3⟩ := zC4 BK106.out) | ((with_reducible refine gate_callee (f := 68) rfl ?_); refine goesL_ (some 17) rfl rfl Try.func68 (by kernel_rfl) rfl #[.int .i64 a0_0, .int .i64 a0_2] rfl z3 ?_; (with_reducible refine (spec_l08Choose.calls k a0_0 a0_2 t102 _ A4.out).mono ?_); rintro e w' ⟨rfl, ⟨nd, rfl⟩⟩; refine ⟨_, rfl, ?_⟩) | (go_at_call 68; (with_reducible refine (spec_l08Choose.calls k a0_0 a0_1 t103 _ A10.out).mono ?_); rintro e w' ⟨rfl, ⟨nd, rfl⟩⟩) | ((with_reducible refine gate_callee (f := 59) rfl ?_); refine goesL_ (some 30) rfl rfl Try.func59 (by kernel_rfl) rfl #[.agg #[.int .i64 a0_0, .int .i64 a0_1, .int .i64 a0_2, .int .i64 a0_3], .int .i64 a0_1] rfl z3 ?_; (with_reducible refine (spec_l08Sets.calls k a0_0 a0_1 a0_2 a0_3 a0_1 t104 _ A16.out).mono ?_); rintro e w22 ⟨v107, rfl, ho0, hb⟩; refine ⟨_, rfl, ?_⟩; have HO108 := zA (Kd.R_lower ho0 (below_size z21)); replace BK106 := zBB BK106 hb; replace HB := zA (below_step z21 hb); (try clear hb); (try clear hb2); (try clear hk); (try clear hi); (try clear ho0); obtain ⟨hcz23_0, hcz23_1, hcz23_2, hcz23_3, hfz23_0, hfz23_1, hfz23_2, hfz23_3⟩ := zC4 BK106.out) | ((with_reducible refine gate_callee (f := 69) rfl ?_); refine goesL_ (some 32) rfl rfl Try.func69 (by kernel_rfl) rfl #[.agg #[.int .i64 a0_0, .int .i64 a0_1, .int .i64 a0_2, .int .i64 a0_3]] rfl z3 ?_; (with_reducible refine (spec_l08Bound.calls k a0_0 a0_1 a0_2 a0_3 t105 _ A17.out).mono ?_); rintro e w24 ⟨rfl, hb⟩; refine ⟨_, rfl, ?_⟩; replace HO108 := zA (Kd.R_below z64 hb); replace BK106 := zBB BK106 hb; replace HB := zA (below_step z21 hb); (try clear hb); (try clear hb2); (try clear hk); (try clear hi)))
    go_loopg [5] k (fun kq v5 w' => ∃ (x5_1 : Int), v5 = .int .i64 x5_1 ∧ Aside0 (spec_LeastTickets.l0 kq t104 x5_1 a0_0 a0_1 a0_2 a0_3 = some (r1, r2)) ∧ Aside0 (kq ≤ k) ∧ Aside0 (Kd.R (Kd.int .i64) 2 w' w.heap.size (fun _ => True) v107 t104) ∧ Aside0 (w'.heap[gb106]? = some (.cells #[.int .i64 a0_0, .int .i64 a0_1, .int .i64 a0_2, .int .i64 a0_3] 27 (0, 0))) ∧ Aside0 (Below w.heap.size w w'))
    case atStart => exact ⟨(t105), z11, H', ⟨Nat.le_refl _⟩, ⟨z64⟩, ⟨z67⟩, ⟨z21⟩⟩
    case round =>
     clear H'
     (try clear c1); (try clear p2); (try clear c3); (try clear c5); (try clear c5b0); (try clear c6); (try clear c11); (try clear c11b0); (try clear c13); (try clear hcz13_0); (try clear hcz13_1); (try clear hcz13_2); (try clear hcz13_3); (try clear hcz15_0); (try clear hcz15_1); (try clear hcz15_2); (try clear hcz15_3); (try clear hcz19_0); (try clear hcz19_1); (try clear hcz19_2); (try clear hcz19_3); (try clear hcz21_0); (try clear hcz21_1); (try clear hcz21_2); (try clear hcz21_3); (try clear hcz23_0); (try clear hcz23_1); (try clear hcz23_2); (try clear hcz23_3); (try clear hcz7_0); (try clear hcz7_1); (try clear hcz7_2); (try clear hcz7_3); (try clear hcz9_0); (try clear hcz9_1); (try clear hcz9_2); (try clear hcz9_3); (try clear hfz13_0); (try clear hfz13_1); (try clear hfz13_2); (try clear hfz13_3); (try clear hfz15_0); (try clear hfz15_1); (try clear hfz15_2); (try clear hfz15_3); (try clear hfz19_0); (try clear hfz19_1); (try clear hfz19_2); (try clear hfz19_3); (try clear hfz21_0); (try clear hfz21_1); (try clear hfz21_2); (try clear hfz21_3); (try clear hfz23_0); (try clear hfz23_1); (try clear hfz23_2); (try clear hfz23_3); (try clear hfz7_0); (try clear hfz7_1); (try clear hfz7_2); (try clear hfz7_3); (try clear hfz9_0); (try clear hfz9_1); (try clear hfz9_2); (try clear hfz9_3)
     obtain ⟨x5_1, rfl, HA, HK1, HO_4, BK106, HB⟩ := hrel
     cases gk with
     | zero => exact absurd HA.out (by simp [spec_LeastTickets.l0])
     | succ k1 =>
      have H := HA.out
      clear HA
      simp only [spec_LeastTickets.l0] at H
      by_cases c25 : x5_1 ≤ 4
      ·rw [if_pos c25] at H
       have c25b0 : decide (x5_1 ≤ 4) = true := decide_eq_true c25
       clear c25
       obtain ⟨y109, hy109⟩ : ∃ y_ : List Int, y_ = (([] : List Int)) := ⟨_, rfl⟩
       replace H : ((spec_l08Search.f k1 a0_0 a0_1 a0_2 a0_3 t104 y109 0 x5_1).bind fun bt100 => (if bt100.2 = true then (some (bt100.1, 0)) else (spec_LeastTickets.l0 k1 t104 (wrap64 (x5_1 + 1)) a0_0 a0_1 a0_2 a0_3))) = some (r1, r2) := by first | (rw [hy109]; with_reducible exact H) | (have H2_ := (Option.bind_some _ _).symm.trans H; rw [hy109]; with_reducible exact H2_) | (have H2_ := (Option.bind_some _ _).symm.trans H; with_reducible exact H2_) | with_reducible exact H | (rw [hy109]; exact H) | exact H
       have Ny109 := zA hy109
       clear hy109
       replace H := zi H
       obtain ⟨⟨t100, t110⟩, A260, H⟩ := H
       (try dsimp -simprocs only at H)
       have A26 := zA A260
       clear A260
       by_cases c27 : t110 = true
       ·subst c27
        have H1 : (some (t100, 0)) = some (r1, r2) := by rw [if_pos rfl] at H; exact H
        clear H
        have H := H1
        clear H1
        simp only [Option.some.injEq, Prod.mk.injEq] at H
        obtain ⟨rfl, rfl⟩ := H
        obtain ⟨hcz28_0, hcz28_1, hcz28_2, hcz28_3, hfz28_0, hfz28_1, hfz28_2, hfz28_3⟩ := zC4 BK106.out
        go_wp2_with (first | ((with_reducible refine gate_dst (N := 40) rfl ?_); refine Kd.R_lit (Kd.int .i64) _ 2 ?hg (N := 40) ?hd (xs := ([] : List Int)) (inner := []) (ok := fun _ => True) (okp := fun _ => True) ?hr ?hp (fun _ hk => hk) trivial (Below.refl _ _) (Nat.le_refl _) (by simp) ?_; (case hd => rfl); (case hg => rfl); (case hr => first | (go_simp; done) | (go_simp; rfl)); (case hp => exact (Reps.none _ _)); intro v111 w29 ho30 hb hg_ hnew_; clear hg_ hnew_; (first | rw [← Ny109.out] at ho30 | (simp only [Int.reduceToNat] at ho30; rw [← Ny109.out] at ho30)); have HO112 := zA (Kd.R_lower (Kd.R_new' ho30 (Kd.R_lt z29)) (below_size z21)); replace HO_4 := zA (Kd.R_elder' z29 (Kd.R_base ho30) hb); replace BK106 := zBB BK106 hb; replace HB := zA (below_step z21 hb); clear hb ho30; obtain ⟨Ao31, co31, eo31⟩ := Kd.R_slice HO_4.out; subst eo31; obtain ⟨Ao32, co32, eo32⟩ := Kd.R_slice HO112.out; subst eo32) | ((with_reducible refine gate_callee (f := 70) rfl ?_); refine goesL_ (some 42) rfl rfl Try.func70 (by kernel_rfl) rfl #[.agg #[.int .i64 a0_0, .int .i64 a0_1, .int .i64 a0_2, .int .i64 a0_3], .slice Ao31 t104.length co31, .slice Ao32 y109.length co32, .int .i64 0, .int .i64 x5_1] rfl z3 ?_; (with_reducible refine (spec_l08Search.calls k1 a0_0 a0_1 a0_2 a0_3 _ _ t104 (fun k_ => some k_ = (.slice Ao32 y109.length co32 : Value).ownBlock) (.slice Ao32 y109.length co32) y109 0 x5_1 t100 true w _ ?side1 ?side2 ?side3 ?side4 A26.out).mono ?_); (case side1 => exact z21); (case side2 => exact Kd.C_kept_own (HO_4.out) (fun k_ hk_ hs_ => (hk_.2) hs_)); (case side3 => exact (Kd.R_reads' HO_4.out).2.1); (case side4 => exact Kd.R_tight rfl HO112.out); rintro e w33 ⟨v113, rfl, ho0, hb, hkp⟩; refine ⟨_, rfl, ?_⟩; replace BK106 := zA (blk_kept z67 hkp (fun hs_ => (fun e_ => (Kd.R_ne HO112.out BK106.out (by decide)) e_) hs_)); have HO114 := zA (Kd.R_mono (ok' := fun k_ => some k_ ≠ (.slice Ao31 t104.length co31 : Value).ownBlock) ho0 (fun k_ hk_ => Or.elim hk_ (fun hs_ => fun e_ => (((HO_4.out).1 k_ e_.symm).2) hs_) (fun hn_ => (Kd.fresh' (Kd.R_lt z29) k_ hn_)))); replace HO_4 := zA (Kd.R_mono (ok' := fun k_ => some k_ ≠ (v113 : Value).ownBlock) (Kd.R_keptB (HO_4.out) hkp (fun k_ hk_ hs_ => (hk_.2) hs_)) (fun k_ hk_ => fun e_ => Or.elim (ho0.1 k_ e_.symm) (fun hs_ => hk_.2.1 hs_) (fun hn_ => Nat.not_le.2 hk_.2.2 hn_))); replace HB := zA (hb); clear HO112; (try clear hb); (try clear hkp); (try clear ho0)))
        go_ret2
        exact ⟨_, z8, (by (with_reducible repeat (first | apply Kd.R_alloc | apply Kd.R_drewN | apply Kd.R_drew)); exact Kd.R_mono HO114.out (fun _ hk => trivial)), z21⟩
       ·replace c27 := Bool.eq_false_iff.mpr c27
        subst c27
        have H1 : (spec_LeastTickets.l0 k1 t104 (wrap64 (x5_1 + 1)) a0_0 a0_1 a0_2 a0_3) = some (r1, r2) := by rw [if_neg (show ¬ (false = true) by decide)] at H; exact H
        clear H
        have H := H1
        clear H1
        have H' := zA H
        clear H
        obtain ⟨hcz34_0, hcz34_1, hcz34_2, hcz34_3, hfz34_0, hfz34_1, hfz34_2, hfz34_3⟩ := zC4 BK106.out
        go_wp2_with (first | ((with_reducible refine gate_dst (N := 40) rfl ?_); refine Kd.R_lit (Kd.int .i64) _ 2 ?hg (N := 40) ?hd (xs := ([] : List Int)) (inner := []) (ok := fun _ => True) (okp := fun _ => True) ?hr ?hp (fun _ hk => hk) trivial (Below.refl _ _) (Nat.le_refl _) (by simp) ?_; (case hd => rfl); (case hg => rfl); (case hr => first | (go_simp; done) | (go_simp; rfl)); (case hp => exact (Reps.none _ _)); intro v111 w35 ho36 hb hg_ hnew_; clear hg_ hnew_; (first | rw [← Ny109.out] at ho36 | (simp only [Int.reduceToNat] at ho36; rw [← Ny109.out] at ho36)); have HO112 := zA (Kd.R_lower (Kd.R_new' ho36 (Kd.R_lt z29)) (below_size z21)); replace HO_4 := zA (Kd.R_elder' z29 (Kd.R_base ho36) hb); replace BK106 := zBB BK106 hb; replace HB := zA (below_step z21 hb); clear hb ho36; obtain ⟨Ao37, co37, eo37⟩ := Kd.R_slice HO_4.out; subst eo37; obtain ⟨Ao38, co38, eo38⟩ := Kd.R_slice HO112.out; subst eo38) | ((with_reducible refine gate_callee (f := 70) rfl ?_); refine goesL_ (some 42) rfl rfl Try.func70 (by kernel_rfl) rfl #[.agg #[.int .i64 a0_0, .int .i64 a0_1, .int .i64 a0_2, .int .i64 a0_3], .slice Ao37 t104.length co37, .slice Ao38 y109.length co38, .int .i64 0, .int .i64 x5_1] rfl z3 ?_; (with_reducible refine (spec_l08Search.calls k1 a0_0 a0_1 a0_2 a0_3 _ _ t104 (fun k_ => some k_ = (.slice Ao38 y109.length co38 : Value).ownBlock) (.slice Ao38 y109.length co38) y109 0 x5_1 t100 false w _ ?side1 ?side2 ?side3 ?side4 A26.out).mono ?_); (case side1 => exact z21); (case side2 => exact Kd.C_kept_own (HO_4.out) (fun k_ hk_ hs_ => (hk_.2) hs_)); (case side3 => exact (Kd.R_reads' HO_4.out).2.1); (case side4 => exact Kd.R_tight rfl HO112.out); rintro e w39 ⟨v113, rfl, ho0, hb, hkp⟩; refine ⟨_, rfl, ?_⟩; replace BK106 := zA (blk_kept z67 hkp (fun hs_ => (fun e_ => (Kd.R_ne HO112.out BK106.out (by decide)) e_) hs_)); have HO114 := zA (Kd.R_mono (ok' := fun k_ => some k_ ≠ (.slice Ao37 t104.length co37 : Value).ownBlock) ho0 (fun k_ hk_ => Or.elim hk_ (fun hs_ => fun e_ => (((HO_4.out).1 k_ e_.symm).2) hs_) (fun hn_ => (Kd.fresh' (Kd.R_lt z29) k_ hn_)))); replace HO_4 := zA (Kd.R_mono (ok' := fun k_ => some k_ ≠ (v113 : Value).ownBlock) (Kd.R_keptB (HO_4.out) hkp (fun k_ hk_ hs_ => (hk_.2) hs_)) (fun k_ hk_ => fun e_ => Or.elim (ho0.1 k_ e_.symm) (fun hs_ => hk_.2.1 hs_) (fun hn_ => Nat.not_le.2 hk_.2.2 hn_))); replace HB := zA (hb); clear HO112; (try clear hb); (try clear hkp); (try clear ho0)))
        go_roundg k1
        case measure => have := HK1.out; omega
        case rel => exact ⟨(wrap64 (x5_1 + 1)), z11, H', ⟨z73⟩, ⟨(by (with_reducible repeat (first | apply Kd.R_alloc | apply Kd.R_drewN | apply Kd.R_drew)); exact Kd.R_mono HO_4.out (fun _ hk => trivial))⟩, ⟨z67⟩, ⟨z21⟩⟩
      ·rw [if_neg c25] at H
       have c25b0 : decide (x5_1 ≤ 4) = false := decide_eq_false c25
       clear c25
       simp only [Option.some.injEq, Prod.mk.injEq] at H
       obtain ⟨rfl, rfl⟩ := H
       go_wp2
       go_ret2
       exact ⟨_, z8, z37, z21⟩
 ·replace c3 := Bool.eq_false_iff.mpr c3
  subst c3
  have H1 : (some (([] : List Int), 1)) = some (r1, r2) := by rw [if_neg (show ¬ (false = true) by decide)] at H; exact H
  clear H
  have H := H1
  clear H1
  simp only [Option.some.injEq, Prod.mk.injEq] at H
  obtain ⟨rfl, rfl⟩ := H
  go_enter Try.func13, Try.ntmps13
  go_wp2_with (first | ((with_reducible refine gate_dst (N := 1) rfl ?_); refine zbox (N := 1) (cs := #[.int .i64 a0_0, .int .i64 a0_1, .int .i64 a0_2, .int .i64 a0_3]) (t := 27) ?_; intro gb106 hg w40 hbox hb; have BK106 := zA (hbox); have GW106 := zA ((z151 : w.heap.size ≤ gb106)); have GE106 := zA ((z151 : w.heap.size ≤ gb106)); replace HB := zA (below_step z1 hb); clear hb hbox hg; obtain ⟨hcz41_0, hcz41_1, hcz41_2, hcz41_3, hfz41_0, hfz41_1, hfz41_2, hfz41_3⟩ := zC4 BK106.out) | ((with_reducible refine gate_callee (f := 58) rfl ?_); refine goesL_ (some 10) rfl rfl Try.func58 (by kernel_rfl) rfl #[.agg #[.int .i64 a0_0, .int .i64 a0_1, .int .i64 a0_2, .int .i64 a0_3]] rfl z3 ?_; (with_reducible refine (spec_l08Is.calls a0_0 a0_1 a0_2 a0_3 false _ A2.out).mono ?_); rintro e w42 ⟨rfl, hb⟩; refine ⟨_, rfl, ?_⟩; replace BK106 := zBB BK106 hb; replace HB := zA (below_step z21 hb); (try clear hb); (try clear hb2); (try clear hk); (try clear hi)))
  go_ret2
  exact ⟨_, z8, z37, z21⟩

def setOf (a b c d : Int) (D : List Int) (t : Int) : Int := nearF (hitB a b c d t) D 0 0
def allU (n : Nat) : Int := IntKind.u64.wrap (IntKind.u64.wrap (2 ^ n) - 1)
def impl_LeastTickets.f (k : Nat) (a0_0 : Int) (a0_1 : Int) (a0_2 : Int) (a0_3 : Int) : Option (List Int × Int) := (impl_IsLottery.f a0_0 a0_1 a0_2 a0_3).bind fun t => if t = true then ((impl_allTickets.f k a0_0 a0_1 a0_2 a0_3).bind fun T => (impl_allDraws.f k a0_0 a0_1 a0_2 a0_3).bind fun D => if (T.length : Int) > 36 then some ([], 3) else if (D.length : Int) > 36 then some ([], 3) else if (T.all fun t => D.all fun x => (impl_hits.f a0_0 a0_1 a0_2 a0_3 t x).isSome) = true then some (fstI (fun m => srch (allU D.length) (T.zip (T.map (setOf a0_0 a0_1 a0_2 a0_3 D))) m 0) 4 1) else none) else some ([], 1)
def LTT3 : Bool × List (List Nat × List Nat) := (true, [([], []), ([0], [0]), ([], []), ([2, 1], [2]), ([], []), ([4, 1, 3, 0, 1, 4], [1, 4]), ([3, 5, 0, 1, 2, 3, 4, 5], [3])])
def LTB3 : List Nat := [0, 1, 0, 7, 0, 31, 63]
theorem lt_tab3 : rtab .any (opsOf Try.f14 3) = LTT3 := by kernel_rfl
theorem lt_bits3 : waitsOk LTT3.2 LTB3 = true := by kernel_rfl
set_option maxHeartbeats 2000000 in
set_option maxRecDepth 100000 in
theorem lt_no (a b c d : Int) (w : World) (h : impl_IsLottery.f a b c d = some false) :
  Calls Try.prog 14 #[.agg #[.int .i64 a, .int .i64 b, .int .i64 c, .int .i64 d]] w fun e w' => ∃ v0_ : Value, e = .returned (.tuple #[v0_, .int .i64 1]) ∧ Kd.R (Kd.int .i64) 2 w' w.heap.size (fun _ => True) v0_ [] ∧ Below w.heap.size w w' := by
 have H := zA h
 clear h
 have hu := Try.underlying27
 go_enter Try.func14, Try.ntmps14
 go_wp2_with fail
 have hb1 : Below w.heap.size w (w.alloc (.cells #[.int .i64 a, .int .i64 b, .int .i64 c, .int .i64 d] 27)) := below_alloc (Below.refl _ _) _
 generalize w.alloc (.cells #[.int .i64 a, .int .i64 b, .int .i64 c, .int .i64 d] 27) = W1 at hb1 ⊢
 refine (impl_IsLottery.calls a b c d false W1 H.out).mono ?_
 rintro e w2 ⟨rfl, hb2⟩
 have HB2 := zA (below_step hb1 hb2)
 clear hb1 hb2
 go_wp2
 go_ret2
 exact ⟨_, rfl, Kd.R_nil _ _ _ _ _, HB2.out⟩
structure LR (W0 w' : World) (q : List Int) (gl : Nat) (T D : List Int) (vT vD : Value) (gx : Nat) (b1 b3 b4 b5 : Bool) : Prop where
 kl : w'.heap[gl]? = some (.cells (q.map (Value.int .i64)).toArray 27 (0, 0))
 hB : Below W0.heap.size W0 w'
 hT : b1 = true → Kd.R (Kd.int .i64) 2 w' W0.heap.size (fun _ => True) vT T
 hD : b3 = true → Kd.R (Kd.int .i64) 2 w' W0.heap.size (fun _ => True) vD D
 kx : b4 = true → w'.heap[gx]? = some (.cells #[if b5 = true then vT else .slice none 0 0] 24 (0, 0)) ∧ W0.heap.size ≤ gx
section
variable {W0 w' w9 : World} {q : List Int} {gl : Nat} {T D : List Int} {vT vD : Value} {gx : Nat} {b1 b3 b4 b5 : Bool}
theorem LR.start (kl : w'.heap[gl]? = some (.cells (q.map (Value.int .i64)).toArray 27 (0, 0))) (hB : Below W0.heap.size W0 w') : LR W0 w' q gl T D vT vD gx false false false b5 :=
 ⟨kl, hB, fun h => absurd h (by decide), fun h => absurd h (by decide), fun h => absurd h (by decide)⟩
theorem LR.callT (h : LR W0 w' q gl T D vT vD gx b1 b3 b4 b5) (h5 : b5 = false) {v : Value} (hb : Below w'.heap.size w' w9) (hR : Kd.R (Kd.int .i64) 2 w9 w'.heap.size (fun _ => True) v T) : LR W0 w9 q gl T D v vD gx true b3 b4 b5 :=
 ⟨blk_below h.kl hb, below_step h.hB hb, fun _ => Kd.R_lower hR h.hB.size, fun h3 => Kd.R_below (h.hD h3) hb, fun h4 => by
  have hx := h.kx h4
  subst h5
  exact ⟨blk_below hx.1 hb, hx.2⟩⟩
theorem LR.callD (h : LR W0 w' q gl T D vT vD gx b1 b3 b4 b5) {v : Value} (hb : Below w'.heap.size w' w9) (hR : Kd.R (Kd.int .i64) 2 w9 w'.heap.size (fun _ => True) v D) : LR W0 w9 q gl T D vT v gx b1 true b4 b5 :=
 ⟨blk_below h.kl hb, below_step h.hB hb, fun h1 => Kd.R_below (h.hT h1) hb, fun _ => Kd.R_lower hR h.hB.size, fun h4 => ⟨blk_below (h.kx h4).1 hb, (h.kx h4).2⟩⟩
theorem LR.box (h : LR W0 w' q gl T D vT vD gx b1 b3 b4 b5) (h5 : b5 = false) : LR W0 (w'.alloc (.cells #[.slice none 0 0] 24)) q gl T D vT vD w'.heap.size b1 b3 true b5 := by
 subst h5
 exact ⟨blk_alloc h.kl _, below_alloc h.hB _, fun h1 => Kd.R_alloc (h.hT h1) _, fun h3 => Kd.R_alloc (h.hD h3) _, fun _ => ⟨blk_new w' _, h.hB.size⟩⟩
theorem LR.put (h : LR W0 w' q gl T D vT vD gx b1 b3 true b5) : LR W0 (w'.setCell ⟨gx, 0, none⟩ vT) q gl T D vT vD gx b1 b3 true true := by
 obtain ⟨hx, hg⟩ := h.kx rfl
 refine ⟨blk_far h.kl (fun he => ?_) _, below_set h.hB hg, fun h1 => Kd.R_set (h.hT h1) hx (by decide) 0 vT, fun h3 => Kd.R_set (h.hD h3) hx (by decide) 0 vT, fun _ => ⟨blk_set hx 0 vT, hg⟩⟩
 have hl := h.kl
 rw [show gl = gx from he, hx] at hl
 injection hl with hl
 injection hl with _ hl
 exact absurd hl (by decide)
end
theorem near_next (f : Int → Bool) (D : List Int) (j : Nat) (hj : j < D.length) (A : Int) : nearF f (D.drop j) j A = nearF f (D.drop (j + 1)) (j + 1) (if f D[j] = true then Go.bits .or .u64 A (IntKind.u64.wrap (2 ^ j)) else A) := by
 rw [List.drop_eq_getElem_cons hj]; rfl
theorem near_end (f : Int → Bool) (D : List Int) (j : Nat) (hj : j = D.length) (A : Int) : nearF f (D.drop j) j A = A := by
 rw [List.drop_eq_nil_of_le (by omega)]; rfl
theorem lt_rcell {w : World} {H : Nat} {ok : Nat → Prop} {ad : Addr} {c : Nat} {l : List Int} {e : Nat} {K : IntKind} (h : Kd.R (Kd.int K) e w H ok (.slice (some ad) l.length c) l) (i : Nat) (hi : i < l.length) : w.cell? (ad.add i) = some (.int K l[i]) := by
 obtain ⟨hn, hc, hr⟩ := Kd.R_reads' h
 obtain ⟨ad', e1, e2⟩ := Kd.at_int hr (i : Int) (by omega) (by omega)
 cases e1
 rw [Int.toNat_natCast, rd_natl l i hi] at e2
 exact e2
attribute [local go_sem] run_store_func
set_option maxHeartbeats 8000000 in
set_option maxRecDepth 100000 in
theorem lt_yes (k : Nat) (a b c d : Int) (T D : List Int) (r1 : List Int) (r2 : Int) (w : World) (h : impl_IsLottery.f a b c d = some true) (hT : impl_allTickets.f k a b c d = some T) (hD : impl_allDraws.f k a b c d = some D)
  (hr : (36 < T.length ∧ r1 = [] ∧ r2 = 3) ∨ (T.length ≤ 36 ∧ 36 < D.length ∧ r1 = [] ∧ r2 = 3) ∨ (T.length ≤ 36 ∧ D.length ≤ 36 ∧ (∀ t ∈ T, ∀ x ∈ D, impl_hits.f a b c d t x = some (hitB a b c d t x)) ∧ fstI (fun m => srch (allU D.length) (T.zip (T.map (setOf a b c d D))) m 0) 4 1 = (r1, r2))) :
  Calls Try.prog 14 #[.agg #[.int .i64 a, .int .i64 b, .int .i64 c, .int .i64 d]] w fun e w' => ∃ v0_ : Value, e = .returned (.tuple #[v0_, .int .i64 r2]) ∧ Kd.R (Kd.int .i64) 2 w' w.heap.size (fun _ => True) v0_ r1 ∧ Below w.heap.size w w' := by
 have H := zA h
 have A4 := zA hT
 have A5 := zA hD
 have HRR := zA hr
 clear h hT hD hr
 have hu := Try.underlying27
 go_enter Try.func14, Try.ntmps14
 go_wp2_with fail
 have hb1 : Below w.heap.size w (w.alloc (.cells #[.int .i64 a, .int .i64 b, .int .i64 c, .int .i64 d] 27)) := below_alloc (Below.refl _ _) _
 have hk1 : (w.alloc (.cells #[.int .i64 a, .int .i64 b, .int .i64 c, .int .i64 d] 27)).heap[w.heap.size]? = some (.cells ([a, b, c, d].map (Value.int .i64)).toArray 27 (0, 0)) := blk_new w _
 obtain ⟨gl, hgl⟩ : ∃ gl, gl = w.heap.size := ⟨_, rfl⟩
 rw [← hgl] at hk1
 generalize w.alloc (.cells #[.int .i64 a, .int .i64 b, .int .i64 c, .int .i64 d] 27) = W1 at hb1 hk1 ⊢
 refine (impl_IsLottery.calls a b c d true W1 H.out).mono ?_
 rintro e w2 ⟨rfl, hb2⟩
 have HL0 := zA (LR.start (T := T) (D := D) (vT := .bool false) (vD := .bool false) (gx := 0) (b5 := false) (blk_drew (blk_below hk1 hb2)) (below_drew (below_step hb1 hb2)))
 clear hb1 hk1 hb2
 go_wp2
 refine start_ (n := 7) (S := fun w' => True) (ds := []) #[false, false, false, false, false, false, false] (by kernel_rfl) rfl rfl trivial (fun hHeld => ?_); refine with_tabW lt_tab3 lt_bits3 (fun HT_ HW_ => ?_)
 rw [← hgl]
 clear hgl
 generalize w2.drew = w3 at HL0 hHeld ⊢
 refine inv_at [0, 1, 2, 3, 4, 5, 6] (fun a0_ b_ a_ w' => ∃ (vT : Value) (vD : Value) (m6 : Value) (gx : Nat), a_ = putSel a0_ b_ [(0, 19, .agg #[.int .i64 a, .int .i64 b, .int .i64 c, .int .i64 d]), (1, 20, vT), (2, 21, .agg #[.int .i64 a, .int .i64 b, .int .i64 c, .int .i64 d]), (3, 22, vD), (4, 4, .pointer (some ⟨gx, 0, none⟩)), (6, 5, m6)] ∧ LR w w' [a, b, c, d] gl T D vT vD gx (b_ 1) (b_ 3) (b_ 4) (b_ 5) ∧ (b_ 6 = true → m6 = vD)) HT_.out HW_.out (by kernel_rfl) (by kernel_rfl) ?_ ?_ ?_
 ·exact ⟨.bool false, .bool false, .bool false, 0, z142, HL0.out, fun h_ => absurd h_ (by decide)⟩
 ·clear HL0
  refine steps_cons ?_ ?_
  ·rintro b_ a_ w' ⟨vT, vD, m6, gx, ha, Q, Q6⟩ hb_ hon hoff
   refine ⟨_, rfl, fun K hK => ?_⟩
   have e1 : a_.tmps[1]? = some (.pointer (some ⟨gl, 0, none⟩)) := by rw [ha]; exact (putSel_off rfl).trans rfl
   replace ha := zA ha
   have hc0_ : w'.cell? ⟨gl, 0, none⟩ = some (.int .i64 a) := (blk_cell Q.kl 0).trans rfl
   have hc1_ : w'.cell? ⟨gl, 1, none⟩ = some (.int .i64 b) := (blk_cell Q.kl 1).trans rfl
   have hc2_ : w'.cell? ⟨gl, 2, none⟩ = some (.int .i64 c) := (blk_cell Q.kl 2).trans rfl
   have hc3_ : w'.cell? ⟨gl, 3, none⟩ = some (.int .i64 d) := (blk_cell Q.kl 3).trans rfl
   refine value_ (w1 := w') (v := .agg #[.int .i64 a, .int .i64 b, .int .i64 c, .int .i64 d]) (by rfl) rfl ?_ ?_
   ·go_simp
    (try simp only [i64_w])
    try rfl
   refine hK.out _ _ ⟨vT, vD, m6, gx, z143, Q, Q6⟩
  refine steps_cons ?_ ?_
  ·rintro b_ a_ w' ⟨vT, vD, m6, gx, ha, Q, Q6⟩ hb_ hon hoff
   refine ⟨_, rfl, fun K hK => ?_⟩
   have e19 : a_.tmps[19]? = some (.agg #[.int .i64 a, .int .i64 b, .int .i64 c, .int .i64 d]) := by rw [ha]; exact putSel_on (e := (0, 19, .agg #[.int .i64 a, .int .i64 b, .int .i64 c, .int .i64 d])) 0 rfl rfl (hon 0 (by kernel_rfl)) rfl
   replace ha := zA ha
   refine goes_ Try.func62 (by kernel_rfl) rfl #[.agg #[.int .i64 a, .int .i64 b, .int .i64 c, .int .i64 d]] (by rfl) rfl rfl (by first | (simp only [List.map_toArray, List.map_cons, List.map_nil, Act.eval, Array.getD_eq_getD_getElem?, Option.getD_some, e19]; done) | (simp only [List.map_toArray, List.map_cons, List.map_nil, Act.eval, Array.getD_eq_getD_getElem?, Option.getD_some, e19]; rfl)) ?_
   with_reducible refine (impl_allTickets.calls k a b c d T _ A4.out).mono ?_
   rintro e w9 ⟨v9, rfl, ho9, hb9⟩
   refine ⟨_, rfl, ?_⟩
   refine hK.out _ _ ⟨v9, vD, m6, gx, z144, Q.callT (hoff 5 (by kernel_rfl)) hb9 ho9, Q6⟩
  refine steps_cons ?_ ?_
  ·rintro b_ a_ w' ⟨vT, vD, m6, gx, ha, Q, Q6⟩ hb_ hon hoff
   refine ⟨_, rfl, fun K hK => ?_⟩
   have e1 : a_.tmps[1]? = some (.pointer (some ⟨gl, 0, none⟩)) := by rw [ha]; exact (putSel_off rfl).trans rfl
   replace ha := zA ha
   have hc0_ : w'.cell? ⟨gl, 0, none⟩ = some (.int .i64 a) := (blk_cell Q.kl 0).trans rfl
   have hc1_ : w'.cell? ⟨gl, 1, none⟩ = some (.int .i64 b) := (blk_cell Q.kl 1).trans rfl
   have hc2_ : w'.cell? ⟨gl, 2, none⟩ = some (.int .i64 c) := (blk_cell Q.kl 2).trans rfl
   have hc3_ : w'.cell? ⟨gl, 3, none⟩ = some (.int .i64 d) := (blk_cell Q.kl 3).trans rfl
   refine value_ (w1 := w') (v := .agg #[.int .i64 a, .int .i64 b, .int .i64 c, .int .i64 d]) (by rfl) rfl ?_ ?_
   ·go_simp
    (try simp only [i64_w])
    try rfl
   refine hK.out _ _ ⟨vT, vD, m6, gx, z145, Q, Q6⟩
  refine steps_cons ?_ ?_
  ·rintro b_ a_ w' ⟨vT, vD, m6, gx, ha, Q, Q6⟩ hb_ hon hoff
   refine ⟨_, rfl, fun K hK => ?_⟩
   have e21 : a_.tmps[21]? = some (.agg #[.int .i64 a, .int .i64 b, .int .i64 c, .int .i64 d]) := by rw [ha]; exact putSel_on (e := (2, 21, .agg #[.int .i64 a, .int .i64 b, .int .i64 c, .int .i64 d])) 2 rfl rfl (hon 2 (by kernel_rfl)) rfl
   replace ha := zA ha
   refine goes_ Try.func63 (by kernel_rfl) rfl #[.agg #[.int .i64 a, .int .i64 b, .int .i64 c, .int .i64 d]] (by rfl) rfl rfl (by first | (simp only [List.map_toArray, List.map_cons, List.map_nil, Act.eval, Array.getD_eq_getD_getElem?, Option.getD_some, e21]; done) | (simp only [List.map_toArray, List.map_cons, List.map_nil, Act.eval, Array.getD_eq_getD_getElem?, Option.getD_some, e21]; rfl)) ?_
   with_reducible refine (impl_allDraws.calls k a b c d D _ A5.out).mono ?_
   rintro e w9 ⟨v9, rfl, ho9, hb9⟩
   refine ⟨_, rfl, ?_⟩
   refine hK.out _ _ ⟨vT, v9, m6, gx, z146, Q.callD hb9 ho9, zo (hoff 6 (by kernel_rfl))⟩
  refine steps_cons ?_ ?_
  ·rintro b_ a_ w' ⟨vT, vD, m6, gx, ha, Q, Q6⟩ hb_ hon hoff
   refine ⟨_, rfl, fun K hK => ?_⟩
   replace ha := zA ha
   refine value_ (w1 := w'.alloc (.cells #[.slice none 0 0] 24)) (v := .pointer (some ⟨w'.heap.size, 0, none⟩)) (by rfl) rfl ?_ ?_
   ·go_simp
    try rfl
   refine hK.out _ _ ⟨vT, vD, m6, w'.heap.size, z147, Q.box (hoff 5 (by kernel_rfl)), Q6⟩
  refine steps_cons ?_ ?_
  ·rintro b_ a_ w' ⟨vT, vD, m6, gx, ha, Q, Q6⟩ hb_ hon hoff
   refine ⟨_, rfl, fun K hK => ?_⟩
   have e4 : a_.tmps[4]? = some (.pointer (some ⟨gx, 0, none⟩)) := by rw [ha]; exact putSel_on (e := (4, 4, .pointer (some ⟨gx, 0, none⟩))) 4 rfl rfl (hon 4 (by kernel_rfl)) rfl
   have e20 : a_.tmps[20]? = some vT := by rw [ha]; exact putSel_on (e := (1, 20, vT)) 1 rfl rfl (hon 1 (by kernel_rfl)) rfl
   replace ha := zA ha
   rw [hon 4 (by kernel_rfl)] at Q
   have hkx := (Q.kx rfl).1
   have hcx : w'.cell? ⟨gx, 0, none⟩ = some _ := (blk_cell hkx 0).trans rfl
   have hfx : w'.frozen? ⟨gx, 0, none⟩ = false := blk_frozen hkx 0
   obtain ⟨A9, c9, rfl⟩ := Kd.R_slice (Q.hT (hon 1 (by kernel_rfl)))
   have hQ := zA Q.put
   clear Q hkx
   refine skip_ (w1 := w'.setCell ⟨gx, 0, none⟩ (.slice A9 T.length c9)) (by rfl) rfl ?_ ?_
   ·go_simp
    try rfl
   refine hK.out _ _ ⟨_, vD, m6, gx, (ha.out.trans (by rfl)), (by have h4 := hon 4 (by kernel_rfl); show LR w _ _ gl T D _ vD gx (b_ 1) (b_ 3) (b_ 4) true; rw [h4]; exact hQ.out), Q6⟩
  refine steps_cons ?_ ?_
  ·rintro b_ a_ w' ⟨vT, vD, m6, gx, ha, Q, Q6⟩ hb_ hon hoff
   refine ⟨_, rfl, fun K hK => ?_⟩
   have e22 : a_.tmps[22]? = some vD := by rw [ha]; exact putSel_on (e := (3, 22, vD)) 3 rfl rfl (hon 3 (by kernel_rfl)) rfl
   replace ha := zA ha
   refine value_ (w1 := w') (v := vD) (by rfl) rfl ?_ ?_
   ·go_simp
    try rfl
   refine hK.out _ _ ⟨vT, vD, vD, gx, z148, Q, fun _ => rfl⟩
  exact steps_nil
 rintro b_ a_ w4 hall ⟨vT, vD, m6, gx, ha, Q, Q6⟩
 clear HL0
 have hb0_ := hall 0 (by kernel_rfl)
 have hb1_ := hall 1 (by kernel_rfl)
 have hb2_ := hall 2 (by kernel_rfl)
 have hb3_ := hall 3 (by kernel_rfl)
 have hb4_ := hall 4 (by kernel_rfl)
 have hb5_ := hall 5 (by kernel_rfl)
 have hb6_ := hall 6 (by kernel_rfl)
 subst ha
 have hm6 := Q6 hb6_
 subst m6
 rw [hb1_, hb3_, hb4_, hb5_] at Q
 simp only [putSel, hb0_, hb1_, hb2_, hb3_, hb4_, hb6_, if_true, Act.put, List.setIfInBounds_toArray, List.set_cons_zero, List.set_cons_succ]
 clear hall hb0_ hb1_ hb2_ hb3_ hb4_ hb5_ hb6_ Q6 HT_ HW_ hHeld
 obtain ⟨AT, cT, rfl⟩ := Kd.R_slice (Q.hT rfl)
 obtain ⟨AD, cD, rfl⟩ := Kd.R_slice (Q.hD rfl)
 have hx : w4.heap[gx]? = some (.cells #[.slice AT T.length cT] 24 (0, 0)) := (Q.kx rfl).1
 have cx : w4.cell? ⟨gx, 0, none⟩ = some (.slice AT T.length cT) := (blk_cell hx 0).trans rfl
 have HB := zA Q.hB
 have hsz : w.heap.size ≤ w4.heap.size := Q.hB.size
 have HN0 := zA (LN.start Q.kl hx (Q.hT rfl) (Q.hD rfl) hsz)
 have HB0 := zA (show Below w.heap.size w ((w4.alloc (.cells #[] 68)).alloc (.cells #[.slice (some ⟨w4.heap.size, 0, none⟩) 0 0] 67)) from below_alloc (below_alloc HB.out _) _)
 clear Q hx
 rcases HRR.out with ⟨g1, rfl, rfl⟩ | ⟨g1, g2, rfl, rfl⟩ | ⟨g1, g2, g3, g4⟩
 ·have j1 : (36 : Int) < (T.length : Int) := by omega
  clear HN0 HB0
  go_wp2
  go_ret2
  exact ⟨_, rfl, Kd.R_nil _ _ _ _ _, HB.out⟩
 ·have j1 : ¬ (36 : Int) < (T.length : Int) := by omega
  have j2 : (36 : Int) < (D.length : Int) := by omega
  clear HN0 HB0
  go_wp2
  go_ret2
  exact ⟨_, rfl, Kd.R_nil _ _ _ _ _, HB.out⟩
 ·have j1 : ¬ (36 : Int) < (T.length : Int) := by omega
  have j2 : ¬ (36 : Int) < (D.length : Int) := by omega
  have G3 := zA g3
  have G4 := zA g4
  clear g3 g4 HRR
  go_upto_region 7 with fail
  obtain ⟨gn, hgn⟩ : ∃ gn, gn = w4.heap.size + 1 := ⟨_, rfl⟩
  obtain ⟨lo, hlo⟩ : ∃ lo, lo = w4.heap.size := ⟨_, rfl⟩
  generalize (w4.alloc (.cells #[] 68)).alloc (.cells #[.slice (some ⟨w4.heap.size, 0, none⟩) 0 0] 67) = W5 at HN0 HB0 ⊢
  rw [← hgn, ← hlo] at HN0
  rw [← hgn, ← hlo]
  clear hgn hlo hsz cx HB
  have cx : W5.cell? ⟨gx, 0, none⟩ = some (.slice AT T.length cT) := (blk_cell HN0.out.kx 0).trans rfl
  go_wp2
  go_loopg [34] T.length (fun gg s34 wr => ∃ (i : Nat) (AN : Option Addr) (cN : Nat) (NR : List Int), s34 = .int .i64 (i : Int) ∧ i ≤ T.length ∧ T.length - i ≤ gg ∧ Aside0 (NR = (T.take i).map (setOf a b c d D)) ∧ Aside0 (LN wr w.heap.size [a, b, c, d] gl gx gn lo AT cT T AD cD D (.slice AN NR.length cN) NR) ∧ Aside0 (Below w.heap.size w wr))
  case atStart => exact ⟨0, some ⟨lo, 0, none⟩, 0, [], rfl, Nat.zero_le _, (by omega), ⟨(by simp)⟩, HN0, HB0⟩
  case round =>
   clear cx HN0 HB0
   obtain ⟨i, AN, cN, NR, rfl, hi, hgi, HNR, HN, HB⟩ := hrel
   by_cases hiT : i < T.length
   ·have hi1 : (i : Int) < (T.length : Int) := by omega
    have hi0 : (0 : Int) ≤ (i : Int) := by omega
    obtain ⟨adT, hadT⟩ := lt_some (Kd.R_reads' HN.out.hT).2.2 (by omega)
    subst hadT
    have ct : wr.cell? (adT.add i) = some (.int .i64 T[i]) := lt_rcell HN.out.hT i hiT
    go_wp2
    clear ct
    go_loopg [9, 40] D.length (fun gj s9 s40 wr => ∃ (j : Nat) (A : Int), s9 = .int .u64 A ∧ s40 = .int .i64 (j : Int) ∧ j ≤ D.length ∧ D.length - j ≤ gj ∧ Aside0 (nearF (hitB a b c d T[i]) (D.drop j) j A = setOf a b c d D T[i]) ∧ Aside0 (LN wr w.heap.size [a, b, c, d] gl gx gn lo (some adT) cT T AD cD D (.slice AN NR.length cN) NR) ∧ Aside0 (Below w.heap.size w wr))
    case atStart => exact ⟨0, 0, rfl, rfl, Nat.zero_le _, (by omega), ⟨rfl⟩, HN, HB⟩
    case round =>
     clear HN HB
     obtain ⟨j, A, rfl, rfl, hj, hgj, HA, HN, HB⟩ := hrel
     by_cases hjD : j < D.length
     ·have hj1 : (j : Int) < (D.length : Int) := by omega
      have hj0 : (0 : Int) ≤ (j : Int) := by omega
      obtain ⟨adD, hadD⟩ := lt_some (Kd.R_reads' HN.out.hD).2.2 (by omega)
      subst hadD
      have cd : wr.cell? (adD.add j) = some (.int .i64 D[j]) := lt_rcell HN.out.hD j hjD
      have c0 : wr.cell? ⟨gl, 0, none⟩ = some (.int .i64 a) := (blk_cell HN.out.kl 0).trans rfl
      have c1 : wr.cell? ⟨gl, 1, none⟩ = some (.int .i64 b) := (blk_cell HN.out.kl 1).trans rfl
      have c2 : wr.cell? ⟨gl, 2, none⟩ = some (.int .i64 c) := (blk_cell HN.out.kl 2).trans rfl
      have c3 : wr.cell? ⟨gl, 3, none⟩ = some (.int .i64 d) := (blk_cell HN.out.kl 3).trans rfl
      have hA := HA.out
      rw [near_next _ D j hjD A] at hA
      have HA2 := zA hA
      clear hA HA
      by_cases hbt : hitB a b c d T[i] D[j] = true
      ·have hh : impl_hits.f a b c d T[i] D[j] = some true := by rw [G3.out _ (List.getElem_mem hiT) _ (List.getElem_mem hjD), hbt]
       have HH := zA hh
       have HBT := zA hbt
       clear hh hbt
       go_wp2_with (go_at_call 66; refine (impl_hits.calls a b c d T[i] D[j] true _ HH.out).mono ?_; rintro e w6 ⟨rfl, hb6⟩; have HN6 := zA (HN.out.below hb6); have HB6 := zA (below_step HB.out hb6))
       go_roundg (D.length - (j + 1))
       case measure => omega
       case rel =>
        have h9 := HA2.out
        rw [if_pos HBT.out] at h9
        exact ⟨j + 1, Go.bits .or .u64 A (IntKind.u64.wrap (2 ^ j)), z140, z140, (by omega), (by omega), ⟨h9⟩, HN6, HB6⟩
      ·have hh : impl_hits.f a b c d T[i] D[j] = some false := by rw [G3.out _ (List.getElem_mem hiT) _ (List.getElem_mem hjD)]; simpa using hbt
       have HH := zA hh
       have HBT := zA hbt
       clear hh hbt
       go_wp2_with (go_at_call 66; refine (impl_hits.calls a b c d T[i] D[j] false _ HH.out).mono ?_; rintro e w6 ⟨rfl, hb6⟩; have HN6 := zA (HN.out.below hb6); have HB6 := zA (below_step HB.out hb6))
       go_roundg (D.length - (j + 1))
       case measure => omega
       case rel =>
        have h9 := HA2.out
        rw [if_neg HBT.out] at h9
        exact ⟨j + 1, A, rfl, z140, (by omega), (by omega), ⟨h9⟩, HN6, HB6⟩
     ·have hj1 : ¬ (j : Int) < (D.length : Int) := by omega
      have hA := HA.out
      rw [near_end _ D j (by omega) A] at hA
      clear HA
      subst hA
      have cn : wr.cell? ⟨gn, 0, none⟩ = some (.slice AN NR.length cN) := (blk_cell HN.out.kn 0).trans rfl
      have hgs := blk_lt HN.out.kn
      have hl3 := HN.out.l3
      have hsz := HB.out.size
      have hlen : NR.length = i := by rw [HNR.out]; simp; omega
      have HLEN := zA hlen
      clear hlen
      go_wp2_with (at_builtin; refine Kd.R_append (Kd.int .u64) (w0 := w) w.heap.size rfl (.tmp 54) (.tmp 56) 67 68 (.int .u64 0) 8 rfl Try.underlying67 lt_info8 rfl (by decide) (by omega) (.slice AN NR.length cN) NR (setOf a b c d D T[i]) [.int .u64 (setOf a b c d D T[i])] (fun k => lo ≤ k ∧ k ≠ gn) (fun _ => False) rfl rfl rfl (fun _ h => h.elim) ?aF HN.out.hN HB.out ?aS ?aL ?_; (case aF => exact fun k hk => ⟨(by omega), (by omega)⟩); (case aS => exact hsz); (case aL => rw [HLEN.out]; omega); intro v7 w7 hR7 hb7 hg7 hat7; obtain ⟨A7, c7, rfl⟩ := Kd.R_slice hR7; have hc7 : w7.cell? ⟨gn, 0, none⟩ = some (.slice AN NR.length cN) := (blk_cell (blk_grown HN.out.kn hg7 (fun he => (HN.out.hN.1 _ he.symm).2 rfl)) 0).trans rfl; have hf7 : w7.frozen? ⟨gn, 0, none⟩ = false := blk_frozen (blk_grown HN.out.kn hg7 (fun he => (HN.out.hN.1 _ he.symm).2 rfl)) 0)
      have HN7 := zA (HN.out.push hg7 hR7)
      have HB7 := zA (show Below w.heap.size w (w7.setCell ⟨gn, 0, none⟩ (.slice A7 (NR ++ [setOf a b c d D T[i]]).length c7)) from below_set hb7 (Nat.le_trans HN.out.l4 HN.out.l3))
      go_roundg (T.length - (i + 1))
      case measure => omega
      case rel =>
       have e8 : (NR ++ [setOf a b c d D T[i]]).length = NR.length + 1 := by simp
       have e9 : NR ++ [setOf a b c d D T[i]] = (T.take (i + 1)).map (setOf a b c d D) := by
        rw [List.take_succ_eq_append_getElem hiT, List.map_append, HNR.out]; rfl
       exact ⟨i + 1, A7, c7, NR ++ [setOf a b c d D T[i]], z140, (by omega), (by omega), ⟨e9⟩, ⟨(by rw [← e8]; exact HN7.out)⟩, ⟨(by rw [← e8]; exact HB7.out)⟩⟩
   ·have hi1 : ¬ (i : Int) < (T.length : Int) := by omega
    have hiT2 : i = T.length := by omega
    have eN : NR = T.map (setOf a b c d D) := by rw [HNR.out, hiT2, List.take_length]
    have EN := zA eN
    clear eN hiT2
    go_wp2
    obtain ⟨hTr, hNr, hkx, hkn⟩ := And.intro HN.out.hT (And.intro HN.out.hN (And.intro HN.out.kx HN.out.kn))
    have HQ := zA (show LQ ((wr.alloc (.cells #[.int .u64 (allU D.length)] 68)).alloc (.cells #[.int .i64 1] 3)) w.heap.size gx gn wr.heap.size (allU D.length) AT cT T AN cN NR from ⟨blk_alloc (blk_alloc hkx _) _, blk_alloc (blk_alloc hkn _) _, blk_alloc (blk_new wr _) _, Kd.R_mono (Kd.R_alloc (Kd.R_alloc hTr _) _) (fun _ _ => trivial), Kd.R_mono (Kd.R_alloc (Kd.R_alloc hNr _) _) (fun _ _ => trivial)⟩)
    have HB6 := zA (below_alloc (below_alloc HB.out (.cells #[.int .u64 (allU D.length)] 68)) (.cells #[.int .i64 1] 3))
    have HM := zA (show ((wr.alloc (.cells #[.int .u64 (allU D.length)] 68)).alloc (.cells #[.int .i64 1] 3)).heap[wr.heap.size + 1]? = some (.cells #[.int .i64 ((1 : Nat) : Int)] 3 (0, 0)) by
     have h1 := blk_new (wr.alloc (.cells #[.int .u64 (allU D.length)] 68)) (.cells #[.int .i64 1] 3)
     rw [show (wr.alloc (.cells #[.int .u64 (allU D.length)] 68)).heap.size = wr.heap.size + 1 by simp] at h1
     exact h1)
    have HS6 := zA (show w.heap.size ≤ wr.heap.size + 1 by have := HB.out.size; omega)
    clear hTr hNr hkx hkn
    rw [show IntKind.u64.wrap (IntKind.u64.wrap (2 ^ D.length) - 1) = allU D.length from rfl]
    obtain ⟨ba, hba⟩ : ∃ ba, ba = wr.heap.size := ⟨_, rfl⟩
    obtain ⟨gm0, hgm0⟩ : ∃ gm0, gm0 = wr.heap.size + 1 := ⟨_, rfl⟩
    generalize (wr.alloc (.cells #[.int .u64 (allU D.length)] 68)).alloc (.cells #[.int .i64 1] 3) = W6 at HQ HB6 HM ⊢
    rw [← hgm0] at HM HS6
    rw [← hba] at HQ
    rw [← hgm0, ← hba]
    clear hba hgm0 HN HB
    have HF := zA (show fstI (fun m => srch (allU D.length) (T.zip NR) m 0) (5 - 1) 1 = (r1, r2) by rw [EN.out]; exact G4.out)
    go_loopg [13] 5 (fun gg s13 wr => ∃ (j : Nat) (gm : Nat), s13 = .pointer (some ⟨gm, 0, none⟩) ∧ 1 ≤ j ∧ j ≤ 5 ∧ 5 - j ≤ gg ∧ Aside0 (wr.heap[gm]? = some (.cells #[.int .i64 (j : Int)] 3 (0, 0))) ∧ Aside0 (w.heap.size ≤ gm) ∧ Aside0 (LQ wr w.heap.size gx gn ba (allU D.length) AT cT T AN cN NR) ∧ Aside0 (Below w.heap.size w wr) ∧ Aside0 (fstI (fun m => srch (allU D.length) (T.zip NR) m 0) (5 - j) j = (r1, r2)))
    case atStart => exact ⟨1, gm0, rfl, (by omega), (by omega), (by omega), HM, HS6, HQ, HB6, HF⟩
    case round =>
     clear HQ HB6 HM HS6 HF
     obtain ⟨j, gm, rfl, hj1, hj5, hgj, HM, HS, HQ, HB, HF⟩ := hrel
     have cm : wr.cell? ⟨gm, 0, none⟩ = some (.int .i64 (j : Int)) := (blk_cell HM.out 0).trans rfl
     by_cases hj4 : j ≤ 4
     ·have hji : (j : Int) ≤ 4 := by omega
      have hsz := HB.out.size
      have HA := zA (HQ.out.apart HM.out hsz)
      have HC0 := zA (HQ.out.start HM.out hsz)
      clear hsz
      go_upto_region 26 with fail
      obtain ⟨B, hBd⟩ : ∃ B : LB, B = lbOf wr gm ba gx gn := ⟨_, rfl⟩
      have hBf : B.bf = wr.heap.size + 1 + 1 := by rw [hBd]; rfl
      have hBl : B.bl = wr.heap.size + 1 := by rw [hBd]; rfl
      have hBm : B.bm = gm := by rw [hBd]; rfl
      have hBa : B.ba = ba := by rw [hBd]; rfl
      have hBt : B.bt = gx := by rw [hBd]; rfl
      have hBn : B.bn = gn := by rw [hBd]; rfl
      rw [← hBd] at HA HC0
      clear hBd
      have HB8 := zA (below_alloc (below_alloc (below_alloc HB.out (.cells #[] 2)) (.cells #[.slice (some ⟨wr.heap.size, 0, none⟩) 0 0] 24)) (.cells #[lsV B] 69))
      have hvv : Value.func (.func 71) #[] #[.pointer (some ⟨wr.heap.size + 1, 0, none⟩), .pointer (some ⟨gm, 0, none⟩), .pointer (some ⟨ba, 0, none⟩), .pointer (some ⟨gx, 0, none⟩), .pointer (some ⟨wr.heap.size + 1 + 1, 0, none⟩), .pointer (some ⟨gn, 0, none⟩)] = lsV B := by
       unfold lsV
       rw [hBf, hBl, hBm, hBa, hBt, hBn]
      rw [hvv]
      generalize ((wr.alloc (.cells #[] 2)).alloc (.cells #[.slice (some ⟨wr.heap.size, 0, none⟩) 0 0] 24)).alloc (.cells #[lsV B] 69) = W8 at HC0 HB8 ⊢
      have hlen : NR.length = T.length := by rw [EN.out]; simp
      have hcl := sl_all w B j (allU D.length) AT cT T AN cN NR HA.out (by omega) (by omega) hlen j _ [] 0 0 W8 HC0.out HB8.out (by simp) (Nat.zero_le _)
      rw [List.drop_zero] at hcl
      obtain ⟨s8, hs8⟩ : ∃ s8, s8 = srch (allU D.length) (T.zip NR) j 0 := ⟨_, rfl⟩
      rw [← hs8] at hcl
      obtain ⟨b8, hb8⟩ : ∃ b8, b8 = s8.isSome := ⟨_, rfl⟩
      rw [← hb8] at hcl
      have HCL := zA hcl
      have HS8 := zA hs8
      have HBB := zA hb8
      have cf : W8.cell? ⟨wr.heap.size + 1 + 1, 0, none⟩ = some (.func (.func 71) #[] #[.pointer (some ⟨B.bl, 0, none⟩), .pointer (some ⟨B.bm, 0, none⟩), .pointer (some ⟨B.ba, 0, none⟩), .pointer (some ⟨B.bt, 0, none⟩), .pointer (some ⟨B.bf, 0, none⟩), .pointer (some ⟨B.bn, 0, none⟩)]) := by
       have h1 := (blk_cell HC0.out.kf 0).trans rfl
       rw [hBf] at h1
       exact h1
      have HBM := zA hBm
      have HBT := zA (show B.bt = gx ∧ B.bn = gn ∧ B.ba = ba ∧ B.bl = wr.heap.size + 1 from ⟨hBt, hBn, hBa, hBl⟩)
      clear hcl hs8 hb8 hBf hBl hBm hBa hBt hBn hvv hlen cm
      have heg := eg_lt
      go_wp2_with fail
      refine HCL.out.mono ?_
      rintro e w9 ⟨rfl, hB9, vL9, hN9⟩
      cases s8 with
      | some l =>
       have hb8 : b8 = true := HBB.out
       subst hb8
       have hN9 : LC w9 w.heap.size B j (allU D.length) AT cT T AN cN NR vL9 ([] ++ l) := hN9
       rw [List.nil_append] at hN9
       have hF := HF.out
       rw [show 5 - j = (4 - j) + 1 by omega] at hF
       simp only [fstI] at hF
       rw [← HS8.out] at hF
       have hF : ((l, 0) : List Int × Int) = (r1, r2) := hF
       have hF1 : r1 = l := (congrArg Prod.fst hF).symm
       have hF2 : r2 = 0 := (congrArg Prod.snd hF).symm
       subst hF1 hF2
       have cl : w9.cell? ⟨wr.heap.size + 1, 0, none⟩ = some vL9 := by
        have h1 := (blk_cell hN9.kl 0).trans rfl
        rw [HBT.out.2.2.2] at h1
        exact h1
       clear hF HF cf heg
       go_wp2
       go_ret2
       exact ⟨_, rfl, Kd.R_mono hN9.hL (fun _ _ => trivial), hB9⟩
      | none =>
       have hb8 : b8 = false := HBB.out
       subst hb8
       have hQ9 := hN9.back
       rw [HBT.out.1, HBT.out.2.1, HBT.out.2.2.1] at hQ9
       have hm9 := hN9.km
       rw [HBM.out] at hm9
       have cm : w9.cell? ⟨gm, 0, none⟩ = some (.int .i64 (j : Int)) := (blk_cell hm9 0).trans rfl
       have hF := HF.out
       rw [show 5 - j = (5 - (j + 1)) + 1 by omega] at hF
       simp only [fstI] at hF
       rw [← HS8.out] at hF
       have HF1 := zA (show fstI (fun m => srch (allU D.length) (T.zip NR) m 0) (5 - (j + 1)) (j + 1) = (r1, r2) from hF)
       clear hF HF cf heg hN9
       have hm10 := blk_new w9 (.cells #[.int .i64 ((j + 1 : Nat) : Int)] 3)
       have HM10 := zA hm10
       have HQ10 := zA (hQ9.below (below_alloc (Below.refl _ _) (.cells #[.int .i64 ((j + 1 : Nat) : Int)] 3)))
       have HB10 := zA (below_alloc hB9 (.cells #[.int .i64 ((j + 1 : Nat) : Int)] 3))
       have hs10 := hB9.size
       clear hm10 hQ9 hm9
       go_wp2
       go_roundg (5 - (j + 1))
       case measure => omega
       case rel =>
        refine ⟨j + 1, w9.heap.size, rfl, (by omega), (by omega), (by omega), ?_, ⟨hs10⟩, ?_, ?_, HF1⟩
        ·first | exact HM10 | (refine ⟨?_⟩; simpa using HM10.out)
        ·first | exact HQ10 | (refine ⟨?_⟩; simpa using HQ10.out)
        ·first | exact HB10 | (refine ⟨?_⟩; simpa using HB10.out)
     ·have hji : ¬ (j : Int) ≤ 4 := by omega
      have hF := HF.out
      rw [show 5 - j = 0 by omega] at hF
      have hF : (([], 3) : List Int × Int) = (r1, r2) := hF
      have hF1 : r1 = [] := (congrArg Prod.fst hF).symm
      have hF2 : r2 = 3 := (congrArg Prod.snd hF).symm
      subst hF1 hF2
      clear hF HF
      go_wp2
      go_ret2
      exact ⟨_, rfl, Kd.R_nil _ _ _ _ _, HB.out⟩
theorem impl_LeastTickets.calls (k : Nat) (a0_0 : Int) (a0_1 : Int) (a0_2 : Int) (a0_3 : Int) (r1 : List Int) (r2 : Int) (w : World) (h : impl_LeastTickets.f k a0_0 a0_1 a0_2 a0_3 = some (r1, r2)) :
  Calls Try.prog 14 #[.agg #[.int .i64 a0_0, .int .i64 a0_1, .int .i64 a0_2, .int .i64 a0_3]] w fun e w' => ∃ v0_ : Value, e = .returned (.tuple #[v0_, .int .i64 r2]) ∧ Kd.R (Kd.int .i64) 2 w' w.heap.size (fun _ => True) v0_ r1 ∧ Below w.heap.size w w' := by
 unfold impl_LeastTickets.f at h
 obtain ⟨t, ht, h⟩ := Option.bind_eq_some_iff.1 h
 by_cases e : t = true
 ·subst e
  rw [if_pos rfl] at h
  obtain ⟨T, hT, h⟩ := Option.bind_eq_some_iff.1 h
  obtain ⟨D, hD, h⟩ := Option.bind_eq_some_iff.1 h
  refine lt_yes k a0_0 a0_1 a0_2 a0_3 T D r1 r2 w ht hT hD ?_
  by_cases h1 : (T.length : Int) > 36
  ·rw [if_pos h1] at h
   injection h with h
   exact .inl ⟨(by omega), (congrArg Prod.fst h).symm, (congrArg Prod.snd h).symm⟩
  ·rw [if_neg h1] at h
   by_cases h2 : (D.length : Int) > 36
   ·rw [if_pos h2] at h
    injection h with h
    exact .inr (.inl ⟨(by omega), (by omega), (congrArg Prod.fst h).symm, (congrArg Prod.snd h).symm⟩)
   ·rw [if_neg h2] at h
    by_cases h3 : (T.all fun t => D.all fun x => (impl_hits.f a0_0 a0_1 a0_2 a0_3 t x).isSome) = true
    ·rw [if_pos h3] at h
     injection h with h
     refine .inr (.inr ⟨(by omega), (by omega), fun t ht x hx => ?_, h⟩)
     have h4 := List.all_eq_true.1 (List.all_eq_true.1 h3 t ht) x hx
     unfold hitB
     cases hq : impl_hits.f a0_0 a0_1 a0_2 a0_3 t x with
     | none => rw [hq] at h4; cases h4
     | some b => rfl
    ·rw [if_neg h3] at h; cases h
 ·rw [if_neg e] at h
  injection h with h
  have e2 : t = false := by simpa using e
  subst e2
  have h1 : r1 = [] := (congrArg Prod.fst h).symm
  have h2 : r2 = 1 := (congrArg Prod.snd h).symm
  subst h1 h2
  exact lt_no a0_0 a0_1 a0_2 a0_3 w ht

def laws_big.f (l0 : List Int) : Option (Bool) := some (decide ((l0.length : Int) > 4096))
set_option maxHeartbeats 8000000 in
set_option maxRecDepth 100000 in
theorem laws_big.calls (A0 : Option Addr) (c0 : Nat) (l0 : List Int) (r : Bool) (w : World) (hr0 : Kd.C (Kd.int .u8) w A0 l0.length l0) (hc0 : l0.length ≤ c0) (h : laws_big.f l0 = some r) :
  Calls Try.prog 15 #[.slice A0 l0.length c0] w fun e w' => e = .returned (.bool r) ∧ Drawn0 w w' := by
 have HR0 := zA hr0
 have HC0 := zA hc0
 clear hr0 hc0
 have H : (some (decide ((l0.length : Int) > 4096))) = some r := h
 clear h
 obtain rfl := Option.some.inj H
 go_enter Try.func15, Try.ntmps15
 go_wp2
 go_ret
 exact ⟨z11, z45⟩

end Go.Proofs.Ytchlbkcladfloaa.PFnGuarantees
