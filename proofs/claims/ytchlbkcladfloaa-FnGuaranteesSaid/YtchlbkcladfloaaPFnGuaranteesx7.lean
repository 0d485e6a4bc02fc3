-- WALKS, by a program and by hand
import Derived.Test.YtchlbkcladfloaaPFnGuaranteesx0
import Derived.Test.YtchlbkcladfloaaPFnGuaranteesx1
import Derived.Test.YtchlbkcladfloaaPFnGuaranteesx6
namespace Go.Proofs.Ytchlbkcladfloaa.PFnGuarantees
open Go.RowKit Go.Proofs.Ytchlbkcladfloaa.DG Go.Proofs.YtchlbkcladfloaaW.PrintWords Go.Proofs.YtchlbkcladfloaaW.PrintLast Go.Proofs.YtchlbkcladfloaaW.PrintMore
attribute [local go_sem] max2_int min2_int max_two min_two max_three min_three max_four min_four   -- for this text's walks alone
set_option linter.unusedVariables false
set_option linter.unusedSimpArgs false

mutual
def spec_l08Search.l0 : Nat → List Int → List Int → Int → Int → Int → Int → Int → Int → Option (List Int × Bool)
 | 0, _, _, _, _, _, _, _, _ => none
 | k + 1, x1, x2, x4, x13, x269000, x269001, x269002, x269003 => if x13 < (x1.length : Int) then ((spec_l01Own.f x2).bind fun t100 => (if 0 ≤ x13 then ((some (([rd x1 x13] : List Int) : List Int)).bind fun y101 => (if t100.length + y101.length < 17592186044416 then ((spec_l08Search.f k x269000 x269001 x269002 x269003 x1 (t100 ++ y101) (wrap64 (x13 + 1)) (wrap64 (x4 - 1))).bind fun bt102 => (if bt102.2 = true then (some (bt102.1, true)) else (spec_l08Search.l0 k x1 x2 x4 (wrap64 (x13 + 1)) x269000 x269001 x269002 x269003))) else (none))) else (none))) else (some (([] : List Int), false))
def spec_l08Search.f : Nat → Int → Int → Int → Int → List Int → List Int → Int → Int → Option (List Int × Bool)
 | 0, _, _, _, _, _, _, _, _ => none
 | k + 1, a0_0, a0_1, a0_2, a0_3, l1, l2, a3, a4 => (spec_l08Missed.f k a0_0 a0_1 a0_2 a0_3 l2).bind fun t103 => ((spec_l08Hit.f k a0_0 a0_1 a0_2 a0_3).bind fun t104 => (if (t103.length : Int) > (wrap64 (a4 * t104)) then (some (([] : List Int), false)) else (if a4 = 0 then (some (l2, true)) else (spec_l08Search.l0 k l1 l2 a4 a3 a0_0 a0_1 a0_2 a0_3))))
end
def spec_l08Search.T9 : Bool × List (List Nat × List Nat) := (true, [([], []), ([], []), ([], []), ([2], [2]), ([], []), ([], []), ([4, 5], [4, 5]), ([6], [6]), ([7], [7]), ([3, 8, 3], [3, 8]), ([], []), ([10], [10]), ([], []), ([12], [12]), ([0, 1, 9, 11, 13, 9], [0, 1, 9, 11, 13]), ([14], [14]), ([15], [15]), ([15], [15]), ([16, 14, 0, 1, 2, 3, 4, 5, 6, 7, 8, 9, 10, 11, 12, 13, 14, 15, 16], [16]), ([17, 18, 0, 1, 2, 3, 4, 5, 6, 7, 8, 9, 10, 11, 12, 13, 14, 15, 16, 17, 18], [17])])
def spec_l08Search.B9 : List Nat := [0, 0, 0, 4, 0, 0, 48, 112, 240, 508, 0, 1024, 0, 4096, 16383, 32767, 65535, 65535, 131071, 524287]
theorem spec_l08Search.tab9 : rtab .any (opsOf Try.f70 9) = spec_l08Search.T9 := by kernel_rfl
theorem spec_l08Search.bits9 : waitsOk spec_l08Search.T9.2 spec_l08Search.B9 = true := by kernel_rfl
set_option maxHeartbeats 8000000 in
set_option maxRecDepth 100000 in
theorem spec_l08Search.calls (k : Nat) : ∀ (a0_0 : Int) (a0_1 : Int) (a0_2 : Int) (a0_3 : Int) (A1 : Option Addr) (c1 : Nat) (l1 : List Int) (P2_ : Nat → Prop) (u9000_ : Value) (l2 : List Int) (a3 : Int) (a4 : Int) (r1 : List Int) (r2 : Bool) (w0 w : World) (hB : Below w0.heap.size w0 w) (hr1 : ∀ W_, Kept w W_ (fun k_ => P2_ k_) → Kd.C (Kd.int .i64) W_ A1 l1.length l1) (hc1 : l1.length ≤ c1) (ho2 : Kd.R (Kd.int .i64) 2 w w0.heap.size P2_ u9000_ l2) (h : spec_l08Search.f k a0_0 a0_1 a0_2 a0_3 l1 l2 a3 a4 = some (r1, r2)),
  Calls Try.prog 70 #[.agg #[.int .i64 a0_0, .int .i64 a0_1, .int .i64 a0_2, .int .i64 a0_3], .slice A1 l1.length c1, u9000_, .int .i64 a3, .int .i64 a4] w fun e w' => ∃ v0_ : Value, e = .returned (.tuple #[v0_, .bool r2]) ∧ Kd.R (Kd.int .i64) 2 w' w0.heap.size (fun k_ => (P2_ k_ ∨ w.heap.size ≤ k_)) v0_ r1 ∧ Below w0.heap.size w0 w' ∧ Kept w w' (fun k_ => P2_ k_) := by
 induction k using Nat.strongRecOn with
 | _ k ih =>
 intro a0_0 a0_1 a0_2 a0_3 A1 c1 l1 P2_ u9000_ l2 a3 a4 r1 r2 w0 w hB hr1 hc1 ho2 h
 cases k with
 | zero => exact absurd h (by simp [spec_l08Search.f])
 | succ k =>
 simp only [spec_l08Search.f] at h
 have hu27 := Try.underlying27
 have HR1 := zA hr1
 have HC1 := zA hc1
 clear hr1 hc1
 have HO2 := zA (show Kd.R (Kd.int .i64) 2 w w0.heap.size (fun k_ => (P2_ k_ ∨ w.heap.size ≤ k_)) u9000_ l2 from Kd.R_mono ho2 (fun k_ hk => (.inl hk)))
 have HK := zA (Kept.refl w (fun k_ => P2_ k_))
 have HW0 := zA hB.size
 have HB := zA hB
 clear hB
 have H := h
 unfold spec_l08Search.f at H
 (try dsimp -simprocs only at H)
 clear h
 replace H := zi H
 obtain ⟨t103, A60, H⟩ := H
 (try dsimp -simprocs only at H)
 have A6 := zA A60
 clear A60
 replace H := zi H
 obtain ⟨t104, A70, H⟩ := H
 (try dsimp -simprocs only at H)
 have A7 := zA A70
 clear A70
 by_cases c8 : (t103.length : Int) > (wrap64 (a4 * t104))
 ·rw [if_pos c8] at H
  have c8b0 : decide ((wrap64 (a4 * t104)) < (t103.length : Int)) = true := decide_eq_true c8
  clear c8
  simp only [Option.some.injEq, Prod.mk.injEq] at H
  obtain ⟨rfl, rfl⟩ := H
  go_enter Try.func70, Try.ntmps70
  go_wp2_with (first | ((with_reducible refine gate_dst (N := 5) rfl ?_); refine zbox (N := 5) (cs := #[.int .i64 a0_0, .int .i64 a0_1, .int .i64 a0_2, .int .i64 a0_3]) (t := 27) ?_; intro gb105 hg w9 hbox hb; replace HO2 := zA (Kd.R_below z49 hb); have BK105 := zA (hbox); have GW105 := zA ((z162 : w.heap.size ≤ gb105)); replace HK := zA (Kept.below (S := (fun k_ => P2_ k_)) z28 hb); have GE105 := zA ((z151 : w0.heap.size ≤ gb105)); replace HB := zA (below_step z1 hb); clear hb hbox hg; obtain ⟨hcz10_0, hcz10_1, hcz10_2, hcz10_3, hfz10_0, hfz10_1, hfz10_2, hfz10_3⟩ := zC4 BK105.out; obtain ⟨Ao11, co11, eo11⟩ := Kd.R_slice HO2.out; subst eo11) | ((with_reducible refine gate_callee (f := 96) rfl ?_); refine goesL_ (some 18) rfl rfl Try.func96 (by kernel_rfl) rfl #[.agg #[.int .i64 a0_0, .int .i64 a0_1, .int .i64 a0_2, .int .i64 a0_3], .slice Ao11 l2.length co11] rfl z3 ?_; (with_reducible refine (spec_l08Missed.calls k a0_0 a0_1 a0_2 a0_3 _ _ l2 t103 _ ?side1 ?side2 A6.out).mono ?_); (case side1 => exact z85); (case side2 => exact (Kd.R_reads' HO2.out).2.1); rintro e w12 ⟨v106, rfl, ho0, hb⟩; refine ⟨_, rfl, ?_⟩; have HO107 := zA (Kd.R_lower (Kd.R_new' (Kd.R_newM (M := fun k_ => (P2_ k_ ∨ w.heap.size ≤ k_)) ho0 z152 (fun k_ h_ => .inr h_)) (Kd.R_lt z49)) (below_size z14)); replace HO2 := zA (Kd.R_elder' z49 (Kd.R_base ho0) hb); replace BK105 := zBB BK105 hb; replace HK := zA (Kept.below (S := (fun k_ => P2_ k_)) z10 hb); replace HB := zA (below_step z14 hb); (try clear hb); (try clear hb2); (try clear hk); (try clear hi); (try clear ho0); obtain ⟨Ao13, co13, eo13⟩ := Kd.R_slice HO107.out; subst eo13; obtain ⟨hcz14_0, hcz14_1, hcz14_2, hcz14_3, hfz14_0, hfz14_1, hfz14_2, hfz14_3⟩ := zC4 BK105.out) | ((with_reducible refine gate_callee (f := 87) rfl ?_); refine goesL_ (some 23) rfl rfl Try.func87 (by kernel_rfl) rfl #[.agg #[.int .i64 a0_0, .int .i64 a0_1, .int .i64 a0_2, .int .i64 a0_3]] rfl z3 ?_; (with_reducible refine (spec_l08Hit.calls k a0_0 a0_1 a0_2 a0_3 t104 _ A7.out).mono ?_); rintro e w15 ⟨rfl, hb⟩; refine ⟨_, rfl, ?_⟩; replace HO2 := zA (Kd.R_below z49 hb); replace HO107 := zA (Kd.R_below z96 hb); replace BK105 := zBB BK105 hb; replace HK := zA (Kept.below (S := (fun k_ => P2_ k_)) z10 hb); replace HB := zA (below_step z14 hb); (try clear hb); (try clear hb2); (try clear hk); (try clear hi)))
  go_ret2
  exact ⟨_, z8, z37, z14, z10⟩
 ·rw [if_neg c8] at H
  have c8b0 : decide ((wrap64 (a4 * t104)) < (t103.length : Int)) = false := decide_eq_false c8
  clear c8
  by_cases c16 : a4 = 0
  ·rw [if_pos c16] at H
   have c16b0 : (a4 == 0) = true := beq_iff_eq.mpr c16
   have c16b1 : (a4 != 0) = false := bne_eq_false_iff_eq.mpr c16
   clear c16
   simp only [Option.some.injEq, Prod.mk.injEq] at H
   obtain ⟨rfl, rfl⟩ := H
   go_enter Try.func70, Try.ntmps70
   go_wp2_with (first | ((with_reducible refine gate_dst (N := 5) rfl ?_); refine zbox (N := 5) (cs := #[.int .i64 a0_0, .int .i64 a0_1, .int .i64 a0_2, .int .i64 a0_3]) (t := 27) ?_; intro gb105 hg w17 hbox hb; replace HO2 := zA (Kd.R_below z49 hb); have BK105 := zA (hbox); have GW105 := zA ((z162 : w.heap.size ≤ gb105)); replace HK := zA (Kept.below (S := (fun k_ => P2_ k_)) z28 hb); have GE105 := zA ((z151 : w0.heap.size ≤ gb105)); replace HB := zA (below_step z1 hb); clear hb hbox hg; obtain ⟨hcz18_0, hcz18_1, hcz18_2, hcz18_3, hfz18_0, hfz18_1, hfz18_2, hfz18_3⟩ := zC4 BK105.out; obtain ⟨Ao19, co19, eo19⟩ := Kd.R_slice HO2.out; subst eo19) | ((with_reducible refine gate_callee (f := 96) rfl ?_); refine goesL_ (some 18) rfl rfl Try.func96 (by kernel_rfl) rfl #[.agg #[.int .i64 a0_0, .int .i64 a0_1, .int .i64 a0_2, .int .i64 a0_3], .slice Ao19 l2.length co19] rfl z3 ?_; (with_reducible refine (spec_l08Missed.calls k a0_0 a0_1 a0_2 a0_3 _ _ l2 t103 _ ?side1 ?side2 A6.out).mono ?_); (case side1 => exact z85); (case side2 => exact (Kd.R_reads' HO2.out).2.1); rintro e w20 ⟨v106, rfl, ho0, hb⟩; refine ⟨_, rfl, ?_⟩; have HO107 := zA (Kd.R_lower (Kd.R_new' (Kd.R_newM (M := fun k_ => (P2_ k_ ∨ w.heap.size ≤ k_)) ho0 z152 (fun k_ h_ => .inr h_)) (Kd.R_lt z49)) (below_size z14)); replace HO2 := zA (Kd.R_elder' z49 (Kd.R_base ho0) hb); replace BK105 := zBB BK105 hb; replace HK := zA (Kept.below (S := (fun k_ => P2_ k_)) z10 hb); replace HB := zA (below_step z14 hb); (try clear hb); (try clear hb2); (try clear hk); (try clear hi); (try clear ho0); obtain ⟨Ao21, co21, eo21⟩ := Kd.R_slice HO107.out; subst eo21; obtain ⟨hcz22_0, hcz22_1, hcz22_2, hcz22_3, hfz22_0, hfz22_1, hfz22_2, hfz22_3⟩ := zC4 BK105.out) | ((with_reducible refine gate_callee (f := 87) rfl ?_); refine goesL_ (some 23) rfl rfl Try.func87 (by kernel_rfl) rfl #[.agg #[.int .i64 a0_0, .int .i64 a0_1, .int .i64 a0_2, .int .i64 a0_3]] rfl z3 ?_; (with_reducible refine (spec_l08Hit.calls k a0_0 a0_1 a0_2 a0_3 t104 _ A7.out).mono ?_); rintro e w23 ⟨rfl, hb⟩; refine ⟨_, rfl, ?_⟩; replace HO2 := zA (Kd.R_below z49 hb); replace HO107 := zA (Kd.R_below z96 hb); replace BK105 := zBB BK105 hb; replace HK := zA (Kept.below (S := (fun k_ => P2_ k_)) z10 hb); replace HB := zA (below_step z14 hb); (try clear hb); (try clear hb2); (try clear hk); (try clear hi)))
   go_ret2
   exact ⟨_, z8, z125, z14, z10⟩
  ·rw [if_neg c16] at H
   have c16b0 : (a4 == 0) = false := beq_eq_false_iff_ne.mpr c16
   have c16b1 : (a4 != 0) = true := bne_iff_ne.mpr c16
   have H' := zA H
   clear H
   go_enter Try.func70, Try.ntmps70
   go_wp2_with (first | ((with_reducible refine gate_dst (N := 5) rfl ?_); refine zbox (N := 5) (cs := #[.int .i64 a0_0, .int .i64 a0_1, .int .i64 a0_2, .int .i64 a0_3]) (t := 27) ?_; intro gb105 hg w24 hbox hb; replace HO2 := zA (Kd.R_below z49 hb); have BK105 := zA (hbox); have GW105 := zA ((z162 : w.heap.size ≤ gb105)); replace HK := zA (Kept.below (S := (fun k_ => P2_ k_)) z28 hb); have GE105 := zA ((z151 : w0.heap.size ≤ gb105)); replace HB := zA (below_step z1 hb); clear hb hbox hg; obtain ⟨hcz25_0, hcz25_1, hcz25_2, hcz25_3, hfz25_0, hfz25_1, hfz25_2, hfz25_3⟩ := zC4 BK105.out; obtain ⟨Ao26, co26, eo26⟩ := Kd.R_slice HO2.out; subst eo26) | ((with_reducible refine gate_callee (f := 96) rfl ?_); refine goesL_ (some 18) rfl rfl Try.func96 (by kernel_rfl) rfl #[.agg #[.int .i64 a0_0, .int .i64 a0_1, .int .i64 a0_2, .int .i64 a0_3], .slice Ao26 l2.length co26] rfl z3 ?_; (with_reducible refine (spec_l08Missed.calls k a0_0 a0_1 a0_2 a0_3 _ _ l2 t103 _ ?side1 ?side2 A6.out).mono ?_); (case side1 => exact z85); (case side2 => exact (Kd.R_reads' HO2.out).2.1); rintro e w27 ⟨v106, rfl, ho0, hb⟩; refine ⟨_, rfl, ?_⟩; have HO107 := zA (Kd.R_lower (Kd.R_new' (Kd.R_newM (M := fun k_ => (P2_ k_ ∨ w.heap.size ≤ k_)) ho0 z152 (fun k_ h_ => .inr h_)) (Kd.R_lt z49)) (below_size z14)); replace HO2 := zA (Kd.R_elder' z49 (Kd.R_base ho0) hb); replace BK105 := zBB BK105 hb; replace HK := zA (Kept.below (S := (fun k_ => P2_ k_)) z10 hb); replace HB := zA (below_step z14 hb); (try clear hb); (try clear hb2); (try clear hk); (try clear hi); (try clear ho0); obtain ⟨Ao28, co28, eo28⟩ := Kd.R_slice HO107.out; subst eo28; obtain ⟨hcz29_0, hcz29_1, hcz29_2, hcz29_3, hfz29_0, hfz29_1, hfz29_2, hfz29_3⟩ := zC4 BK105.out) | ((with_reducible refine gate_callee (f := 87) rfl ?_); refine goesL_ (some 23) rfl rfl Try.func87 (by kernel_rfl) rfl #[.agg #[.int .i64 a0_0, .int .i64 a0_1, .int .i64 a0_2, .int .i64 a0_3]] rfl z3 ?_; (with_reducible refine (spec_l08Hit.calls k a0_0 a0_1 a0_2 a0_3 t104 _ A7.out).mono ?_); rintro e w30 ⟨rfl, hb⟩; refine ⟨_, rfl, ?_⟩; replace HO2 := zA (Kd.R_below z49 hb); replace HO107 := zA (Kd.R_below z96 hb); replace BK105 := zBB BK105 hb; replace HK := zA (Kept.below (S := (fun k_ => P2_ k_)) z10 hb); replace HB := zA (below_step z14 hb); (try clear hb); (try clear hb2); (try clear hk); (try clear hi)))
   go_loopg [13] k (fun kq v13 w' => ∃ (x13_1 : Int), v13 = .int .i64 x13_1 ∧ Aside0 (spec_l08Search.l0 kq l1 l2 a4 x13_1 a0_0 a0_1 a0_2 a0_3 = some (r1, r2)) ∧ Aside0 (kq ≤ k) ∧ Aside0 (Kd.R (Kd.int .i64) 2 w' w0.heap.size (fun k_ => (P2_ k_ ∨ w.heap.size ≤ k_)) (.slice Ao26 l2.length co26) l2) ∧ Aside0 (w'.heap[gb105]? = some (.cells #[.int .i64 a0_0, .int .i64 a0_1, .int .i64 a0_2, .int .i64 a0_3] 27 (0, 0))) ∧ Aside0 (Kept w w' (fun k_ => P2_ k_)) ∧ Aside0 (Below w0.heap.size w0 w'))
   case atStart => exact ⟨(a3), z11, H', ⟨Nat.le_refl _⟩, ⟨z125⟩, ⟨z52⟩, ⟨z10⟩, ⟨z14⟩⟩
   case round =>
    clear H'
    (try clear c1); (try clear p2); (try clear p6); (try clear c7); (try clear c8); (try clear c8b0); (try clear c9); (try clear c16); (try clear c16b0); (try clear c16b1); (try clear hcz10_0); (try clear hcz10_1); (try clear hcz10_2); (try clear hcz10_3); (try clear hcz14_0); (try clear hcz14_1); (try clear hcz14_2); (try clear hcz14_3); (try clear hcz18_0); (try clear hcz18_1); (try clear hcz18_2); (try clear hcz18_3); (try clear hcz22_0); (try clear hcz22_1); (try clear hcz22_2); (try clear hcz22_3); (try clear hcz25_0); (try clear hcz25_1); (try clear hcz25_2); (try clear hcz25_3); (try clear hcz29_0); (try clear hcz29_1); (try clear hcz29_2); (try clear hcz29_3); (try clear hfz10_0); (try clear hfz10_1); (try clear hfz10_2); (try clear hfz10_3); (try clear hfz14_0); (try clear hfz14_1); (try clear hfz14_2); (try clear hfz14_3); (try clear hfz18_0); (try clear hfz18_1); (try clear hfz18_2); (try clear hfz18_3); (try clear hfz22_0); (try clear hfz22_1); (try clear hfz22_2); (try clear hfz22_3); (try clear hfz25_0); (try clear hfz25_1); (try clear hfz25_2); (try clear hfz25_3); (try clear hfz29_0); (try clear hfz29_1); (try clear hfz29_2); (try clear hfz29_3)
    obtain ⟨x13_1, rfl, HA, HK1, HO_2, BK105, HK, HB⟩ := hrel
    cases gk with
    | zero => exact absurd HA.out (by simp [spec_l08Search.l0])
    | succ k1 =>
     have H := HA.out
     clear HA
     simp only [spec_l08Search.l0] at H
     by_cases c31 : x13_1 < (l1.length : Int)
     ·rw [if_pos c31] at H
      have c31b0 : decide (x13_1 < (l1.length : Int)) = true := decide_eq_true c31
      clear c31
      replace H := zi H
      obtain ⟨t100, A320, H⟩ := H
      (try dsimp -simprocs only at H)
      have A32 := zA A320
      clear A320
      by_cases c33 : 0 ≤ x13_1
      ·rw [if_pos c33] at H
       have c33b0 : decide (0 ≤ x13_1) = true := decide_eq_true c33
       clear c33
       obtain ⟨y101, hy101⟩ : ∃ y_ : List Int, y_ = (([rd l1 x13_1] : List Int)) := ⟨_, rfl⟩
       replace H : (if t100.length + y101.length < 17592186044416 then ((spec_l08Search.f k1 a0_0 a0_1 a0_2 a0_3 l1 (t100 ++ y101) (wrap64 (x13_1 + 1)) (wrap64 (a4 - 1))).bind fun bt102 => (if bt102.2 = true then (some (bt102.1, true)) else (spec_l08Search.l0 k1 l1 l2 a4 (wrap64 (x13_1 + 1)) a0_0 a0_1 a0_2 a0_3))) else (none)) = some (r1, r2) := by first | (rw [hy101]; with_reducible exact H) | (have H2_ := (Option.bind_some _ _).symm.trans H; rw [hy101]; with_reducible exact H2_) | (have H2_ := (Option.bind_some _ _).symm.trans H; with_reducible exact H2_) | with_reducible exact H | (rw [hy101]; exact H) | exact H
       have Ny101 := zA hy101
       clear hy101
       by_cases c34 : t100.length + y101.length < 17592186044416
       ·rw [if_pos c34] at H
        have LMc34 := zA c34
        clear c34
        obtain ⟨y108, hy108⟩ : ∃ y_ : List Int, y_ = (t100 ++ y101) := ⟨_, rfl⟩
        replace H : ((spec_l08Search.f k1 a0_0 a0_1 a0_2 a0_3 l1 y108 (wrap64 (x13_1 + 1)) (wrap64 (a4 - 1))).bind fun bt102 => (if bt102.2 = true then (some (bt102.1, true)) else (spec_l08Search.l0 k1 l1 l2 a4 (wrap64 (x13_1 + 1)) a0_0 a0_1 a0_2 a0_3))) = some (r1, r2) := by first | (rw [hy108]; with_reducible exact H) | (have H2_ := (Option.bind_some _ _).symm.trans H; rw [hy108]; with_reducible exact H2_) | (have H2_ := (Option.bind_some _ _).symm.trans H; with_reducible exact H2_) | with_reducible exact H | (rw [hy108]; exact H) | exact H
        have Ny108 := zA hy108
        clear hy108
        replace H := zi H
        obtain ⟨⟨t102, t109⟩, A350, H⟩ := H
        (try dsimp -simprocs only at H)
        have A35 := zA A350
        clear A350
        by_cases c36 : t109 = true
        ·subst c36
         have H1 : (some (t102, true)) = some (r1, r2) := by rw [if_pos rfl] at H; exact H
         clear H
         have H := H1
         clear H1
         simp only [Option.some.injEq, Prod.mk.injEq] at H
         obtain ⟨rfl, rfl⟩ := H
         try go_wp2
         have n0_ := zA (Kd.R_drew HO_2.out)
         have n1_ := zA (blk_drew BK105.out)
         have n2_ := zA (Kept.drew HK.out)
         have n3_ := zA (below_drew1 HB.out)
         clear HO_2 BK105 HK HB
         have HO_2 := n0_
         have BK105 := n1_
         have HK := n2_
         have HB := n3_
         clear n0_ n1_ n2_ n3_
         have p276 : 0 ≤ (x13_1 : Int) := of_decide_eq_true z7
         have q276 : x13_1 < (l1.length : Int) := of_decide_eq_true z7
         obtain ⟨ad276, e276, hx276_0⟩ := Kd.at_int (Kd.C_kept_now HR1.out HK.out) x13_1 p276 q276
         have hw276_0 := hx276_0
         cases e276
         replace p276 := eq_true p276
         replace q276 := eq_true q276
         refine start_ (n := 20) (S := fun w' => w'.cell? ⟨gb105, 0, none⟩ = some (.int .i64 a0_0) ∧ w'.cell? ⟨gb105, 1, none⟩ = some (.int .i64 a0_1) ∧ w'.cell? ⟨gb105, 2, none⟩ = some (.int .i64 a0_2) ∧ w'.cell? ⟨gb105, 3, none⟩ = some (.int .i64 a0_3) ∧ w'.cell? (ad276.add (x13_1).toNat) = some (.int .i64 (rd l1 x13_1))) (ds := []) #[false, false, false, false, false, false, false, false, false, false, false, false, false, false, false, false, false, false, false, false] (by kernel_rfl) rfl rfl ⟨(blk_cell BK105.out 0).trans rfl, (blk_cell BK105.out 1).trans rfl, (blk_cell BK105.out 2).trans rfl, (blk_cell BK105.out 3).trans rfl, (Kd.foot_int (HR1.out _ z51) x13_1 (of_eq_true p276) (of_eq_true q276))⟩ (fun hHeld => ?_); refine with_tabW spec_l08Search.tab9 spec_l08Search.bits9 (fun HT_ HW_ => ?_)
         generalize wr.drew = w37 at HO_2 BK105 HK HB hx276_0 hHeld ⊢
         refine zpu 1 (some 38) #[false, true, false, false, false, false, false, false, false, false, false, false, false, false, false, false, false, false, false, false] ?_
         refine zpu 2 (some 39) #[false, true, true, false, false, false, false, false, false, false, false, false, false, false, false, false, false, false, false, false] ?_
         refine zpu 4 (some 41) #[false, true, true, false, true, false, false, false, false, false, false, false, false, false, false, false, false, false, false, false] ?_
         refine zpu 5 (some 42) #[false, true, true, false, true, true, false, false, false, false, false, false, false, false, false, false, false, false, false, false] ?_
         refine zpu 6 (some 43) #[false, true, true, false, true, true, true, false, false, false, false, false, false, false, false, false, false, false, false, false] ?_
         refine zpu 10 (some 47) #[false, true, true, false, true, true, true, false, false, false, true, false, false, false, false, false, false, false, false, false] ?_
         refine zpu 11 (some 48) #[false, true, true, false, true, true, true, false, false, false, true, true, false, false, false, false, false, false, false, false] ?_
         refine zpu 12 (some 49) #[false, true, true, false, true, true, true, false, false, false, true, true, true, false, false, false, false, false, false, false] ?_
         refine zpu 13 (some 50) #[false, true, true, false, true, true, true, false, false, false, true, true, true, true, false, false, false, false, false, false] ?_
         refine zt5 0 (some 37) #[true, true, true, false, true, true, true, false, false, false, true, true, true, true, false, false, false, false, false, false] ?_
         refine zt5 7 (some 44) #[true, true, true, false, true, true, true, true, false, false, true, true, true, true, false, false, false, false, false, false] ?_
         refine join_ (σ := Value × Value) 7 #[true, true, true, true, true, true, true, true, true, false, true, true, true, true, false, false, false, false, false, false] (fun s_ => [(40, s_.1), (45, s_.2)]) (fun s_ w' => (w'.cell? ⟨gb105, 0, none⟩ = some (.int .i64 a0_0) ∧ w'.cell? ⟨gb105, 1, none⟩ = some (.int .i64 a0_1) ∧ w'.cell? ⟨gb105, 2, none⟩ = some (.int .i64 a0_2) ∧ w'.cell? ⟨gb105, 3, none⟩ = some (.int .i64 a0_3) ∧ w'.cell? (ad276.add (x13_1).toNat) = some (.int .i64 (rd l1 x13_1))) ∧ (Kd.R (Kd.int .i64) 2 w' w0.heap.size (fun k_ => (P2_ k_ ∨ w.heap.size ≤ k_) ∧ some k_ ≠ (s_.2 : Value).ownBlock ∧ some k_ ≠ (.slice Ao26 l2.length co26 : Value).ownBlock) s_.1 t100) ∧ (Kd.R (Kd.int .i64) 2 w' w0.heap.size (fun k_ => (P2_ k_ ∨ w.heap.size ≤ k_) ∧ some k_ ≠ (s_.1 : Value).ownBlock ∧ some k_ ≠ (.slice Ao26 l2.length co26 : Value).ownBlock) s_.2 y101) ∧ (Kd.R (Kd.int .i64) 2 w' w0.heap.size (fun k_ => (P2_ k_ ∨ w.heap.size ≤ k_) ∧ some k_ ≠ (s_.1 : Value).ownBlock ∧ some k_ ≠ (s_.2 : Value).ownBlock) (.slice Ao26 l2.length co26) l2) ∧ (w'.heap[gb105]? = some (.cells #[.int .i64 a0_0, .int .i64 a0_1, .int .i64 a0_2, .int .i64 a0_3] 27 (0, 0))) ∧ (Kept w w' (fun k_ => P2_ k_)) ∧ (Below w0.heap.size w0 w')) ?_ ?_
         rotate_left
         ·intro hCont
          refine two_ (i := 3) (j := 8) (Ni := some 40) (Nj := some 45) #[true, true, true, true, true, true, true, true, false, false, true, true, true, true, false, false, false, false, false, false] #[true, true, true, false, true, true, true, true, true, false, true, true, true, true, false, false, false, false, false, false] rfl rfl rfl rfl (two_of HT_.out (by kernel_rfl)) (by decide) (by decide) (fun K hK => ?_) (fun K hK => ?_)
          ·skip
           refine goes_ Try.func97 (by kernel_rfl) rfl #[.slice Ao26 l2.length co26] (by rfl) rfl rfl z3 ?_
           with_reducible refine (spec_l01Own.calls _ _ l2 t100 _ ?side1 ?side2 A32.out).mono ?_
           (case side1 => exact z69)
           (case side2 => exact (Kd.R_reads' HO_2.out).2.1)
           rintro e w38 ⟨v110, rfl, ho0, hb⟩
           refine ⟨_, rfl, ?_⟩
           have n0_ := zA (Kd.R_elder' z39 (Kd.R_base ho0) hb)
           have n1_ := zA (Kd.R_lower (Kd.R_new' (Kd.R_newM (M := fun k_ => (P2_ k_ ∨ w.heap.size ≤ k_)) ho0 z152 (fun k_ h_ => .inr h_)) (Kd.R_lt z39)) (below_size z14))
           have n2_ := zBB BK105 hb
           have n3_ := zA (Kept.below (S := (fun k_ => P2_ k_)) z10 hb)
           have n4_ := zA (below_step z14 hb)
           clear HO_2 BK105 HK HB
           have HO_2 := n0_
           have HO111 := n1_
           have BK105 := n2_
           have HK := n3_
           have HB := n4_
           clear n0_ n1_ n2_ n3_ n4_
           (try clear hb)
           (try clear hb2)
           (try clear hk)
           (try clear hi)
           (try clear ho0)
           refine hK.out _ _ ⟨(blk_cell BK105.out 0).trans rfl, (blk_cell BK105.out 1).trans rfl, (blk_cell BK105.out 2).trans rfl, (blk_cell BK105.out 3).trans rfl, (Kd.foot_int (HR1.out _ z51) x13_1 (of_eq_true p276) (of_eq_true q276))⟩ (fun hHeld => ?_)
           clear hK K
           refine norm_ (a' := ?_) ?_ ?_
           rotate_left
           ·show Act.put _ (some 40) _ = _
            simp only [Act.put, List.setIfInBounds_toArray, List.set_cons_zero, List.set_cons_succ, i64_w, i32_w]
            rfl
           refine one_ (i := 8) (N := some 45) #[true, true, true, true, true, true, true, true, true, false, true, true, true, true, false, false, false, false, false, false] rfl rfl (one_of HT_.out (by kernel_rfl)) (by decide) (fun K hK => ?_)
           refine Kd.R_lit_step (Kd.int .i64) _ 2 ?hg (N := 45) ?hd (xs := ([rd l1 x13_1] : List Int)) (inner := [.int .i64 (rd l1 x13_1)]) (ok := fun _ => True) (okp := fun _ => True) ?hr ?hp (fun _ hk => hk) trivial (Below.refl _ _) (Nat.le_refl _) (by simp) ?_; (case hd => rfl); (case hg => rfl); (case hr => first | (go_simp; done) | (go_simp; rfl)); (case hp => exact (Reps.one (show Kd.M (Kd.int .i64) _ _ _ (rd l1 x13_1) [.int .i64 (rd l1 x13_1)] from rfl) (Reps.none _ _)))
           intro v112 w39 ho40 hb hg_ hnew_
           clear hg_ hnew_
           (first | rw [← Ny101.out] at ho40 | (simp only [Int.reduceToNat] at ho40; rw [← Ny101.out] at ho40))
           have n0_ := zA (Kd.R_elder' z39 (Kd.R_base ho40) hb)
           have n1_ := zA (Kd.R_elder' z60 (Kd.R_base ho40) hb)
           have n2_ := zA (Kd.R_lower (Kd.R_new' (Kd.R_new' (Kd.R_newM (M := fun k_ => (P2_ k_ ∨ w.heap.size ≤ k_)) ho40 z152 (fun k_ h_ => .inr h_)) (Kd.R_lt z39)) (Kd.R_lt z60)) (below_size z14))
           have n3_ := zBB BK105 hb
           have n4_ := zA (Kept.below (S := (fun k_ => P2_ k_)) z10 hb)
           have n5_ := zA (below_step z14 hb)
           clear HO_2 HO111 BK105 HK HB
           have HO_2 := n0_
           have HO111 := n1_
           have HO113 := n2_
           have BK105 := n3_
           have HK := n4_
           have HB := n5_
           clear n0_ n1_ n2_ n3_ n4_ n5_
           clear hb ho40
           refine hK.out _ _ ⟨(blk_cell BK105.out 0).trans rfl, (blk_cell BK105.out 1).trans rfl, (blk_cell BK105.out 2).trans rfl, (blk_cell BK105.out 3).trans rfl, (Kd.foot_int (HR1.out _ z51) x13_1 (of_eq_true p276) (of_eq_true q276))⟩ (fun hHeld => ?_)
           clear hK K
           refine norm_ (a' := ?_) ?_ ?_
           rotate_left
           ·show Act.put _ (some 45) _ = _
            simp only [Act.put, List.setIfInBounds_toArray, List.set_cons_zero, List.set_cons_succ, i64_w, i32_w]
            rfl
           exact norm_ z77 (hCont (v110, v112) _ ⟨hHeld, z71, z72, z115, z52, z10, z14⟩)
          ·skip
           refine Kd.R_lit_step (Kd.int .i64) _ 2 ?hg (N := 45) ?hd (xs := ([rd l1 x13_1] : List Int)) (inner := [.int .i64 (rd l1 x13_1)]) (ok := fun _ => True) (okp := fun _ => True) ?hr ?hp (fun _ hk => hk) trivial (Below.refl _ _) (Nat.le_refl _) (by simp) ?_; (case hd => rfl); (case hg => rfl); (case hr => first | (go_simp; done) | (go_simp; rfl)); (case hp => exact (Reps.one (show Kd.M (Kd.int .i64) _ _ _ (rd l1 x13_1) [.int .i64 (rd l1 x13_1)] from rfl) (Reps.none _ _)))
           intro v112 w38 ho39 hb hg_ hnew_
           clear hg_ hnew_
           (first | rw [← Ny101.out] at ho39 | (simp only [Int.reduceToNat] at ho39; rw [← Ny101.out] at ho39))
           have n0_ := zA (Kd.R_elder' z39 (Kd.R_base ho39) hb)
           have n1_ := zA (Kd.R_lower (Kd.R_new' (Kd.R_newM (M := fun k_ => (P2_ k_ ∨ w.heap.size ≤ k_)) ho39 z152 (fun k_ h_ => .inr h_)) (Kd.R_lt z39)) (below_size z14))
           have n2_ := zBB BK105 hb
           have n3_ := zA (Kept.below (S := (fun k_ => P2_ k_)) z10 hb)
           have n4_ := zA (below_step z14 hb)
           clear HO_2 BK105 HK HB
           have HO_2 := n0_
           have HO113 := n1_
           have BK105 := n2_
           have HK := n3_
           have HB := n4_
           clear n0_ n1_ n2_ n3_ n4_
           clear hb ho39
           refine hK.out _ _ ⟨(blk_cell BK105.out 0).trans rfl, (blk_cell BK105.out 1).trans rfl, (blk_cell BK105.out 2).trans rfl, (blk_cell BK105.out 3).trans rfl, (Kd.foot_int (HR1.out _ z51) x13_1 (of_eq_true p276) (of_eq_true q276))⟩ (fun hHeld => ?_)
           clear hK K
           refine norm_ (a' := ?_) ?_ ?_
           rotate_left
           ·show Act.put _ (some 45) _ = _
            simp only [Act.put, List.setIfInBounds_toArray, List.set_cons_zero, List.set_cons_succ, i64_w, i32_w]
            rfl
           refine one_ (i := 3) (N := some 40) #[true, true, true, true, true, true, true, true, true, false, true, true, true, true, false, false, false, false, false, false] rfl rfl (one_of HT_.out (by kernel_rfl)) (by decide) (fun K hK => ?_)
           refine goes_ Try.func97 (by kernel_rfl) rfl #[.slice Ao26 l2.length co26] (by rfl) rfl rfl z3 ?_
           with_reducible refine (spec_l01Own.calls _ _ l2 t100 _ ?side1 ?side2 A32.out).mono ?_
           (case side1 => exact z69)
           (case side2 => exact (Kd.R_reads' HO_2.out).2.1)
           rintro e w40 ⟨v110, rfl, ho0, hb⟩
           refine ⟨_, rfl, ?_⟩
           have n0_ := zA (Kd.R_elder' z39 (Kd.R_base ho0) hb)
           have n1_ := zA (Kd.R_elder' z54 (Kd.R_base ho0) hb)
           have n2_ := zA (Kd.R_lower (Kd.R_new' (Kd.R_new' (Kd.R_newM (M := fun k_ => (P2_ k_ ∨ w.heap.size ≤ k_)) ho0 z152 (fun k_ h_ => .inr h_)) (Kd.R_lt z39)) (Kd.R_lt z54)) (below_size z14))
           have n3_ := zBB BK105 hb
           have n4_ := zA (Kept.below (S := (fun k_ => P2_ k_)) z10 hb)
           have n5_ := zA (below_step z14 hb)
           clear HO_2 HO113 BK105 HK HB
           have HO_2 := n0_
           have HO113 := n1_
           have HO111 := n2_
           have BK105 := n3_
           have HK := n4_
           have HB := n5_
           clear n0_ n1_ n2_ n3_ n4_ n5_
           (try clear hb)
           (try clear hb2)
           (try clear hk)
           (try clear hi)
           (try clear ho0)
           refine hK.out _ _ ⟨(blk_cell BK105.out 0).trans rfl, (blk_cell BK105.out 1).trans rfl, (blk_cell BK105.out 2).trans rfl, (blk_cell BK105.out 3).trans rfl, (Kd.foot_int (HR1.out _ z51) x13_1 (of_eq_true p276) (of_eq_true q276))⟩ (fun hHeld => ?_)
           clear hK K
           refine norm_ (a' := ?_) ?_ ?_
           rotate_left
           ·show Act.put _ (some 40) _ = _
            simp only [Act.put, List.setIfInBounds_toArray, List.set_cons_zero, List.set_cons_succ, i64_w, i32_w]
            rfl
           exact norm_ z77 (hCont (v110, v112) _ ⟨hHeld, z71, z72, z116, z52, z10, z14⟩)
         rintro ⟨v110, v112⟩ w41 ⟨hS_, h0_, h1_, h2_, h3_, h4_, h5_⟩
         have n0_ : Aside0 (Kd.R (Kd.int .i64) 2 w41 w0.heap.size (fun k_ => (P2_ k_ ∨ w.heap.size ≤ k_) ∧ some k_ ≠ (v112 : Value).ownBlock ∧ some k_ ≠ (.slice Ao26 l2.length co26 : Value).ownBlock) v110 t100) := ⟨h0_⟩
         have n1_ : Aside0 (Kd.R (Kd.int .i64) 2 w41 w0.heap.size (fun k_ => (P2_ k_ ∨ w.heap.size ≤ k_) ∧ some k_ ≠ (v110 : Value).ownBlock ∧ some k_ ≠ (.slice Ao26 l2.length co26 : Value).ownBlock) v112 y101) := ⟨h1_⟩
         have n2_ : Aside0 (Kd.R (Kd.int .i64) 2 w41 w0.heap.size (fun k_ => (P2_ k_ ∨ w.heap.size ≤ k_) ∧ some k_ ≠ (v110 : Value).ownBlock ∧ some k_ ≠ (v112 : Value).ownBlock) (.slice Ao26 l2.length co26) l2) := ⟨h2_⟩
         have n3_ : Aside0 (w41.heap[gb105]? = some (.cells #[.int .i64 a0_0, .int .i64 a0_1, .int .i64 a0_2, .int .i64 a0_3] 27 (0, 0))) := ⟨h3_⟩
         have n4_ : Aside0 (Kept w w41 (fun k_ => P2_ k_)) := ⟨h4_⟩
         have n5_ : Aside0 (Below w0.heap.size w0 w41) := ⟨h5_⟩
         clear HO_2 BK105 HK HB
         clear h0_ h1_ h2_ h3_ h4_ h5_
         have HO111 := n0_
         have HO113 := n1_
         have HO_2 := n2_
         have BK105 := n3_
         have HK := n4_
         have HB := n5_
         clear n0_ n1_ n2_ n3_ n4_ n5_
         have hHeld : w41.cell? ⟨gb105, 0, none⟩ = some (.int .i64 a0_0) ∧ w41.cell? ⟨gb105, 1, none⟩ = some (.int .i64 a0_1) ∧ w41.cell? ⟨gb105, 2, none⟩ = some (.int .i64 a0_2) ∧ w41.cell? ⟨gb105, 3, none⟩ = some (.int .i64 a0_3) ∧ w41.cell? (ad276.add (x13_1).toNat) = some (.int .i64 (rd l1 x13_1)) := hS_
         obtain ⟨Ao43, co43, eo43⟩ := Kd.R_slice HO113.out
         (first | subst eo43 | (injection eo43 with f1_ f2_ f3_; have f4_ := f1_.symm; have f5_ := f3_.symm; clear f1_ f2_ f3_; subst f4_; subst f5_))
         refine norm_ (a' := ?_) ?_ ?_
         rotate_left
         ·simp only [putAll, Act.put, List.setIfInBounds_toArray, List.set_cons_zero, List.set_cons_succ]
          rfl
         refine one_ (i := 9) (N := some 46) #[true, true, true, true, true, true, true, true, true, true, true, true, true, true, false, false, false, false, false, false] rfl rfl (one_of HT_.out (by kernel_rfl)) (by decide) (fun K hK => ?_)
         refine Kd.R_append_rows_step (Kd.int .i64) (w0 := w0) w0.heap.size (by rfl) (.tmp 40) (.tmp 45) 24 2 (.int .i64 0) 8 rfl Try.underlying24 info2 rfl (by decide) (by omega) v110 t100 y101 _ _ _ (fun k_ => (P2_ k_ ∨ w.heap.size ≤ k_) ∧ some k_ ≠ (.slice Ao26 l2.length co26 : Value).ownBlock ∧ some k_ ≠ (.slice Ao43 y101.length co43 : Value).ownBlock) (fun _ => False) rfl rfl ?aO ?aR (fun _ _ h => h) (fun _ h => h.elim) ?aF ?aB ?aS ?aL ?_
         (case aR => repeat (first | exact (Kd.R_reads' HO113.out).2.2 | (with_reducible refine Kd.C_alloc ?_ _) | (with_reducible refine Kd.C_drewN ?_ _) | (with_reducible refine Kd.C_drew ?_)))
         (case aB => exact z14)
         (case aF => exact (fun k_ hk => ⟨(.inr (Nat.le_trans z152 hk)), Kd.fresh' (Kd.R_lt z39) k_ hk, Kd.fresh' (Kd.R_lt z54) k_ hk⟩))
         (case aO => exact z113)
         (case aS => exact (below_size z14))
         (case aL => have := LMc34.out; omega)
         intro v114 w42 ho hb hg hat
         rw [← Ny108.out] at ho
         have n0_ := zA (Kd.R_after (ok := (fun k_ => (P2_ k_ ∨ w.heap.size ≤ k_) ∧ some k_ ≠ (.slice Ao43 y101.length co43 : Value).ownBlock)) z117 hg hat)
         have n1_ := zA (blk_grown (g := gb105) (o := .cells #[.int .i64 a0_0, .int .i64 a0_1, .int .i64 a0_2, .int .i64 a0_3] 27 (0, 0)) z52 hg (Kd.R_ne HO111.out BK105.out (by decide)))
         have n2_ := zA (Kd.R_after (ok := (fun k_ => (P2_ k_ ∨ w.heap.size ≤ k_) ∧ some k_ ≠ (.slice Ao26 l2.length co26 : Value).ownBlock)) z114 hg hat)
         have n3_ := zA (hb)
         have n4_ := zA (Kept.of_grown (S := (fun k_ => P2_ k_)) hg z10 (fun k_ e_ => (HO111.out.1 k_ e_).1))
         have n5_ := zA (ho)
         clear HO_2 BK105 HO113 HB HK HO111
         have HO_2 := n0_
         have BK105 := n1_
         have HO113 := n2_
         have HB := n3_
         have HK := n4_
         have HO115 := n5_
         clear n0_ n1_ n2_ n3_ n4_ n5_
         clear ho hb hg hat
         obtain ⟨Ao44, co44, eo44⟩ := Kd.R_slice HO115.out
         (first | subst eo44 | (injection eo44 with f1_ f2_ f3_; have f4_ := f1_.symm; have f5_ := f3_.symm; clear f1_ f2_ f3_; subst f4_; subst f5_))
         refine hK.out _ _ ⟨(blk_cell BK105.out 0).trans rfl, (blk_cell BK105.out 1).trans rfl, (blk_cell BK105.out 2).trans rfl, (blk_cell BK105.out 3).trans rfl, (Kd.foot_int (HR1.out _ z51) x13_1 (of_eq_true p276) (of_eq_true q276))⟩ (fun hHeld => ?_)
         clear hK K
         refine norm_ (a' := ?_) ?_ ?_
         rotate_left
         ·show Act.put _ (some 46) _ = _
          simp only [Act.put, List.setIfInBounds_toArray, List.set_cons_zero, List.set_cons_succ, i64_w, i32_w]
          rfl
         refine one_ (i := 14) (N := some 51) #[true, true, true, true, true, true, true, true, true, true, true, true, true, true, true, false, false, false, false, false] rfl rfl (one_of HT_.out (by kernel_rfl)) (by decide) (fun K hK => ?_)
         refine goes_ Try.func70 (by kernel_rfl) rfl #[.agg #[.int .i64 a0_0, .int .i64 a0_1, .int .i64 a0_2, .int .i64 a0_3], .slice (some ad276) l1.length c1, .slice Ao44 y108.length co44, .int .i64 (wrap64 (x13_1 + 1)), .int .i64 (wrap64 (a4 - 1))] (by rfl) rfl rfl z3 ?_
         with_reducible refine (ih k1 z73 a0_0 a0_1 a0_2 a0_3 _ _ l1 (fun k_ => some k_ = (.slice Ao44 y108.length co44 : Value).ownBlock) (.slice Ao44 y108.length co44) y108 (wrap64 (x13_1 + 1)) (wrap64 (a4 - 1)) t102 true w0 _ ?side1 ?side2 ?side3 ?side4 A35.out).mono ?_
         (case side1 => exact z14)
         (case side2 => exact Kd.C_kept_call HR1.out z10 (fun k_ hs_ => (fun e_ => (HO115.out.1 k_ e_.symm).1) hs_))
         (case side3 => exact HC1.out)
         (case side4 => exact Kd.R_tight rfl HO115.out)
         rintro e w45 ⟨v116, rfl, ho0, hb, hkp⟩
         refine ⟨_, rfl, ?_⟩
         have n0_ := zA (Kd.R_mono (ok' := fun k_ => (P2_ k_ ∨ w.heap.size ≤ k_) ∧ some k_ ≠ (.slice Ao43 y101.length co43 : Value).ownBlock ∧ some k_ ≠ (v116 : Value).ownBlock) (Kd.R_keptB (HO_2.out) hkp (fun k_ hk_ hs_ => (hk_.2) hs_)) (fun k_ hk_ => ⟨hk_.1.1.1, hk_.1.1.2, fun e_ => Or.elim (ho0.1 k_ e_.symm) (fun hs_ => hk_.2.1 hs_) (fun hn_ => Nat.not_le.2 hk_.2.2 hn_)⟩))
         have n1_ := zA (blk_kept z52 hkp (fun hs_ => (fun e_ => (Kd.R_ne HO115.out BK105.out (by decide)) e_) hs_))
         have n2_ := zA (Kd.R_mono (ok' := fun k_ => (P2_ k_ ∨ w.heap.size ≤ k_) ∧ some k_ ≠ (.slice Ao26 l2.length co26 : Value).ownBlock ∧ some k_ ≠ (v116 : Value).ownBlock) (Kd.R_keptB (HO113.out) hkp (fun k_ hk_ hs_ => (hk_.2) hs_)) (fun k_ hk_ => ⟨hk_.1.1.1, hk_.1.1.2, fun e_ => Or.elim (ho0.1 k_ e_.symm) (fun hs_ => hk_.2.1 hs_) (fun hn_ => Nat.not_le.2 hk_.2.2 hn_)⟩))
         have n3_ := zA (Kd.R_mono (ok' := fun k_ => (P2_ k_ ∨ w.heap.size ≤ k_) ∧ some k_ ≠ (.slice Ao26 l2.length co26 : Value).ownBlock ∧ some k_ ≠ (.slice Ao43 y101.length co43 : Value).ownBlock) ho0 (fun k_ hk_ => ⟨Or.elim hk_ (fun hs_ => (HO115.out.1 k_ (hs_).symm).1) (fun hn_ => (.inr (Nat.le_trans z152 hn_))), Or.elim hk_ (fun hs_ => fun e_ => (((HO_2.out).1 k_ e_.symm).2) hs_) (fun hn_ => (Kd.fresh' (Kd.R_lt z39) k_ hn_)), Or.elim hk_ (fun hs_ => fun e_ => (((HO113.out).1 k_ e_.symm).2) hs_) (fun hn_ => (Kd.fresh' (Kd.R_lt z54) k_ hn_))⟩))
         have n4_ := zA (Kept.then_ (S := (fun k_ => P2_ k_)) z10 hkp (fun k_ hs_ => (fun e_ => (HO115.out.1 k_ e_.symm).1) hs_))
         have n5_ := zA (hb)
         clear HO_2 BK105 HO113 HK HB HO115
         have HO_2 := n0_
         have BK105 := n1_
         have HO113 := n2_
         have HO117 := n3_
         have HK := n4_
         have HB := n5_
         clear n0_ n1_ n2_ n3_ n4_ n5_
         (try clear hb)
         (try clear hkp)
         (try clear ho0)
         refine hK.out _ _ ⟨(blk_cell BK105.out 0).trans rfl, (blk_cell BK105.out 1).trans rfl, (blk_cell BK105.out 2).trans rfl, (blk_cell BK105.out 3).trans rfl, (Kd.foot_int (HR1.out _ z51) x13_1 (of_eq_true p276) (of_eq_true q276))⟩ (fun hHeld => ?_)
         clear hK K
         refine norm_ (a' := ?_) ?_ ?_
         rotate_left
         ·show Act.put _ (some 51) _ = _
          simp only [Act.put, List.setIfInBounds_toArray, List.set_cons_zero, List.set_cons_succ, i64_w, i32_w]
          rfl
         refine zpu 15 (some 36) #[true, true, true, true, true, true, true, true, true, true, true, true, true, true, true, true, false, false, false, false] ?_
         refine zpu 16 (some 52) #[true, true, true, true, true, true, true, true, true, true, true, true, true, true, true, true, true, false, false, false] ?_
         refine zpu 17 (some 53) #[true, true, true, true, true, true, true, true, true, true, true, true, true, true, true, true, true, true, false, false] ?_
         refine zpu 18 (some 14) #[true, true, true, true, true, true, true, true, true, true, true, true, true, true, true, true, true, true, true, false] ?_
         refine zpu 19 (some 15) #[true, true, true, true, true, true, true, true, true, true, true, true, true, true, true, true, true, true, true, true] ?_
         refine done_ (done_of HT_.out (by kernel_rfl)) ?_
         try go_wp2
         go_ret2
         exact ⟨_, z8, (by (with_reducible repeat (first | apply Kd.R_alloc | apply Kd.R_drewN | apply Kd.R_drew)); exact Kd.R_mono HO117.out (fun _ hk => hk.1)), z14, z10⟩
        ·replace c36 := Bool.eq_false_iff.mpr c36
         subst c36
         have H1 : (spec_l08Search.l0 k1 l1 l2 a4 (wrap64 (x13_1 + 1)) a0_0 a0_1 a0_2 a0_3) = some (r1, r2) := by rw [if_neg (show ¬ (false = true) by decide)] at H; exact H
         clear H
         have H := H1
         clear H1
         have H' := zA H
         clear H
         try go_wp2
         have n0_ := zA (Kd.R_drew HO_2.out)
         have n1_ := zA (blk_drew BK105.out)
         have n2_ := zA (Kept.drew HK.out)
         have n3_ := zA (below_drew1 HB.out)
         clear HO_2 BK105 HK HB
         have HO_2 := n0_
         have BK105 := n1_
         have HK := n2_
         have HB := n3_
         clear n0_ n1_ n2_ n3_
         have p276 : 0 ≤ (x13_1 : Int) := of_decide_eq_true z7
         have q276 : x13_1 < (l1.length : Int) := of_decide_eq_true z7
         obtain ⟨ad276, e276, hx276_0⟩ := Kd.at_int (Kd.C_kept_now HR1.out HK.out) x13_1 p276 q276
         have hw276_0 := hx276_0
         cases e276
         replace p276 := eq_true p276
         replace q276 := eq_true q276
         refine start_ (n := 20) (S := fun w' => w'.cell? ⟨gb105, 0, none⟩ = some (.int .i64 a0_0) ∧ w'.cell? ⟨gb105, 1, none⟩ = some (.int .i64 a0_1) ∧ w'.cell? ⟨gb105, 2, none⟩ = some (.int .i64 a0_2) ∧ w'.cell? ⟨gb105, 3, none⟩ = some (.int .i64 a0_3) ∧ w'.cell? (ad276.add (x13_1).toNat) = some (.int .i64 (rd l1 x13_1))) (ds := []) #[false, false, false, false, false, false, false, false, false, false, false, false, false, false, false, false, false, false, false, false] (by kernel_rfl) rfl rfl ⟨(blk_cell BK105.out 0).trans rfl, (blk_cell BK105.out 1).trans rfl, (blk_cell BK105.out 2).trans rfl, (blk_cell BK105.out 3).trans rfl, (Kd.foot_int (HR1.out _ z51) x13_1 (of_eq_true p276) (of_eq_true q276))⟩ (fun hHeld => ?_); refine with_tabW spec_l08Search.tab9 spec_l08Search.bits9 (fun HT_ HW_ => ?_)
         generalize wr.drew = w46 at HO_2 BK105 HK HB hx276_0 hHeld ⊢
         refine zpu 1 (some 38) #[false, true, false, false, false, false, false, false, false, false, false, false, false, false, false, false, false, false, false, false] ?_
         refine zpu 2 (some 39) #[false, true, true, false, false, false, false, false, false, false, false, false, false, false, false, false, false, false, false, false] ?_
         refine zpu 4 (some 41) #[false, true, true, false, true, false, false, false, false, false, false, false, false, false, false, false, false, false, false, false] ?_
         refine zpu 5 (some 42) #[false, true, true, false, true, true, false, false, false, false, false, false, false, false, false, false, false, false, false, false] ?_
         refine zpu 6 (some 43) #[false, true, true, false, true, true, true, false, false, false, false, false, false, false, false, false, false, false, false, false] ?_
         refine zpu 10 (some 47) #[false, true, true, false, true, true, true, false, false, false, true, false, false, false, false, false, false, false, false, false] ?_
         refine zpu 11 (some 48) #[false, true, true, false, true, true, true, false, false, false, true, true, false, false, false, false, false, false, false, false] ?_
         refine zpu 12 (some 49) #[false, true, true, false, true, true, true, false, false, false, true, true, true, false, false, false, false, false, false, false] ?_
         refine zpu 13 (some 50) #[false, true, true, false, true, true, true, false, false, false, true, true, true, true, false, false, false, false, false, false] ?_
         refine zt5 0 (some 37) #[true, true, true, false, true, true, true, false, false, false, true, true, true, true, false, false, false, false, false, false] ?_
         refine zt5 7 (some 44) #[true, true, true, false, true, true, true, true, false, false, true, true, true, true, false, false, false, false, false, false] ?_
         refine join_ (σ := Value × Value) 7 #[true, true, true, true, true, true, true, true, true, false, true, true, true, true, false, false, false, false, false, false] (fun s_ => [(40, s_.1), (45, s_.2)]) (fun s_ w' => (w'.cell? ⟨gb105, 0, none⟩ = some (.int .i64 a0_0) ∧ w'.cell? ⟨gb105, 1, none⟩ = some (.int .i64 a0_1) ∧ w'.cell? ⟨gb105, 2, none⟩ = some (.int .i64 a0_2) ∧ w'.cell? ⟨gb105, 3, none⟩ = some (.int .i64 a0_3) ∧ w'.cell? (ad276.add (x13_1).toNat) = some (.int .i64 (rd l1 x13_1))) ∧ (Kd.R (Kd.int .i64) 2 w' w0.heap.size (fun k_ => (P2_ k_ ∨ w.heap.size ≤ k_) ∧ some k_ ≠ (s_.2 : Value).ownBlock ∧ some k_ ≠ (.slice Ao26 l2.length co26 : Value).ownBlock) s_.1 t100) ∧ (Kd.R (Kd.int .i64) 2 w' w0.heap.size (fun k_ => (P2_ k_ ∨ w.heap.size ≤ k_) ∧ some k_ ≠ (s_.1 : Value).ownBlock ∧ some k_ ≠ (.slice Ao26 l2.length co26 : Value).ownBlock) s_.2 y101) ∧ (Kd.R (Kd.int .i64) 2 w' w0.heap.size (fun k_ => (P2_ k_ ∨ w.heap.size ≤ k_) ∧ some k_ ≠ (s_.1 : Value).ownBlock ∧ some k_ ≠ (s_.2 : Value).ownBlock) (.slice Ao26 l2.length co26) l2) ∧ (w'.heap[gb105]? = some (.cells #[.int .i64 a0_0, .int .i64 a0_1, .int .i64 a0_2, .int .i64 a0_3] 27 (0, 0))) ∧ (Kept w w' (fun k_ => P2_ k_)) ∧ (Below w0.heap.size w0 w')) ?_ ?_
         rotate_left
         ·intro hCont
          refine two_ (i := 3) (j := 8) (Ni := some 40) (Nj := some 45) #[true, true, true, true, true, true, true, true, false, false, true, true, true, true, false, false, false, false, false, false] #[true, true, true, false, true, true, true, true, true, false, true, true, true, true, false, false, false, false, false, false] rfl rfl rfl rfl (two_of HT_.out (by kernel_rfl)) (by decide) (by decide) (fun K hK => ?_) (fun K hK => ?_)
          ·skip
           refine goes_ Try.func97 (by kernel_rfl) rfl #[.slice Ao26 l2.length co26] (by rfl) rfl rfl z3 ?_
           with_reducible refine (spec_l01Own.calls _ _ l2 t100 _ ?side1 ?side2 A32.out).mono ?_
           (case side1 => exact z69)
           (case side2 => exact (Kd.R_reads' HO_2.out).2.1)
           rintro e w47 ⟨v110, rfl, ho0, hb⟩
           refine ⟨_, rfl, ?_⟩
           have n0_ := zA (Kd.R_elder' z39 (Kd.R_base ho0) hb)
           have n1_ := zA (Kd.R_lower (Kd.R_new' (Kd.R_newM (M := fun k_ => (P2_ k_ ∨ w.heap.size ≤ k_)) ho0 z152 (fun k_ h_ => .inr h_)) (Kd.R_lt z39)) (below_size z14))
           have n2_ := zBB BK105 hb
           have n3_ := zA (Kept.below (S := (fun k_ => P2_ k_)) z10 hb)
           have n4_ := zA (below_step z14 hb)
           clear HO_2 BK105 HK HB
           have HO_2 := n0_
           have HO111 := n1_
           have BK105 := n2_
           have HK := n3_
           have HB := n4_
           clear n0_ n1_ n2_ n3_ n4_
           (try clear hb)
           (try clear hb2)
           (try clear hk)
           (try clear hi)
           (try clear ho0)
           refine hK.out _ _ ⟨(blk_cell BK105.out 0).trans rfl, (blk_cell BK105.out 1).trans rfl, (blk_cell BK105.out 2).trans rfl, (blk_cell BK105.out 3).trans rfl, (Kd.foot_int (HR1.out _ z51) x13_1 (of_eq_true p276) (of_eq_true q276))⟩ (fun hHeld => ?_)
           clear hK K
           refine norm_ (a' := ?_) ?_ ?_
           rotate_left
           ·show Act.put _ (some 40) _ = _
            simp only [Act.put, List.setIfInBounds_toArray, List.set_cons_zero, List.set_cons_succ, i64_w, i32_w]
            rfl
           refine one_ (i := 8) (N := some 45) #[true, true, true, true, true, true, true, true, true, false, true, true, true, true, false, false, false, false, false, false] rfl rfl (one_of HT_.out (by kernel_rfl)) (by decide) (fun K hK => ?_)
           refine Kd.R_lit_step (Kd.int .i64) _ 2 ?hg (N := 45) ?hd (xs := ([rd l1 x13_1] : List Int)) (inner := [.int .i64 (rd l1 x13_1)]) (ok := fun _ => True) (okp := fun _ => True) ?hr ?hp (fun _ hk => hk) trivial (Below.refl _ _) (Nat.le_refl _) (by simp) ?_; (case hd => rfl); (case hg => rfl); (case hr => first | (go_simp; done) | (go_simp; rfl)); (case hp => exact (Reps.one (show Kd.M (Kd.int .i64) _ _ _ (rd l1 x13_1) [.int .i64 (rd l1 x13_1)] from rfl) (Reps.none _ _)))
           intro v112 w48 ho49 hb hg_ hnew_
           clear hg_ hnew_
           (first | rw [← Ny101.out] at ho49 | (simp only [Int.reduceToNat] at ho49; rw [← Ny101.out] at ho49))
           have n0_ := zA (Kd.R_elder' z39 (Kd.R_base ho49) hb)
           have n1_ := zA (Kd.R_elder' z60 (Kd.R_base ho49) hb)
           have n2_ := zA (Kd.R_lower (Kd.R_new' (Kd.R_new' (Kd.R_newM (M := fun k_ => (P2_ k_ ∨ w.heap.size ≤ k_)) ho49 z152 (fun k_ h_ => .inr h_)) (Kd.R_lt z39)) (Kd.R_lt z60)) (below_size z14))
           have n3_ := zBB BK105 hb
           have n4_ := zA (Kept.below (S := (fun k_ => P2_ k_)) z10 hb)
           have n5_ := zA (below_step z14 hb)
           clear HO_2 HO111 BK105 HK HB
           have HO_2 := n0_
           have HO111 := n1_
           have HO113 := n2_
           have BK105 := n3_
           have HK := n4_
           have HB := n5_
           clear n0_ n1_ n2_ n3_ n4_ n5_
           clear hb ho49
           refine hK.out _ _ ⟨(blk_cell BK105.out 0).trans rfl, (blk_cell BK105.out 1).trans rfl, (blk_cell BK105.out 2).trans rfl, (blk_cell BK105.out 3).trans rfl, (Kd.foot_int (HR1.out _ z51) x13_1 (of_eq_true p276) (of_eq_true q276))⟩ (fun hHeld => ?_)
           clear hK K
           refine norm_ (a' := ?_) ?_ ?_
           rotate_left
           ·show Act.put _ (some 45) _ = _
            simp only [Act.put, List.setIfInBounds_toArray, List.set_cons_zero, List.set_cons_succ, i64_w, i32_w]
            rfl
           exact norm_ z77 (hCont (v110, v112) _ ⟨hHeld, z71, z72, z115, z52, z10, z14⟩)
          ·skip
           refine Kd.R_lit_step (Kd.int .i64) _ 2 ?hg (N := 45) ?hd (xs := ([rd l1 x13_1] : List Int)) (inner := [.int .i64 (rd l1 x13_1)]) (ok := fun _ => True) (okp := fun _ => True) ?hr ?hp (fun _ hk => hk) trivial (Below.refl _ _) (Nat.le_refl _) (by simp) ?_; (case hd => rfl); (case hg => rfl); (case hr => first | (go_simp; done) | (go_simp; rfl)); (case hp => exact (Reps.one (show Kd.M (Kd.int .i64) _ _ _ (rd l1 x13_1) [.int .i64 (rd l1 x13_1)] from rfl) (Reps.none _ _)))
           intro v112 w47 ho48 hb hg_ hnew_
           clear hg_ hnew_
           (first | rw [← Ny101.out] at ho48 | (simp only [Int.reduceToNat] at ho48; rw [← Ny101.out] at ho48))
           have n0_ := zA (Kd.R_elder' z39 (Kd.R_base ho48) hb)
           have n1_ := zA (Kd.R_lower (Kd.R_new' (Kd.R_newM (M := fun k_ => (P2_ k_ ∨ w.heap.size ≤ k_)) ho48 z152 (fun k_ h_ => .inr h_)) (Kd.R_lt z39)) (below_size z14))
           have n2_ := zBB BK105 hb
           have n3_ := zA (Kept.below (S := (fun k_ => P2_ k_)) z10 hb)
           have n4_ := zA (below_step z14 hb)
           clear HO_2 BK105 HK HB
           have HO_2 := n0_
           have HO113 := n1_
           have BK105 := n2_
           have HK := n3_
           have HB := n4_
           clear n0_ n1_ n2_ n3_ n4_
           clear hb ho48
           refine hK.out _ _ ⟨(blk_cell BK105.out 0).trans rfl, (blk_cell BK105.out 1).trans rfl, (blk_cell BK105.out 2).trans rfl, (blk_cell BK105.out 3).trans rfl, (Kd.foot_int (HR1.out _ z51) x13_1 (of_eq_true p276) (of_eq_true q276))⟩ (fun hHeld => ?_)
           clear hK K
           refine norm_ (a' := ?_) ?_ ?_
           rotate_left
           ·show Act.put _ (some 45) _ = _
            simp only [Act.put, List.setIfInBounds_toArray, List.set_cons_zero, List.set_cons_succ, i64_w, i32_w]
            rfl
           refine one_ (i := 3) (N := some 40) #[true, true, true, true, true, true, true, true, true, false, true, true, true, true, false, false, false, false, false, false] rfl rfl (one_of HT_.out (by kernel_rfl)) (by decide) (fun K hK => ?_)
           refine goes_ Try.func97 (by kernel_rfl) rfl #[.slice Ao26 l2.length co26] (by rfl) rfl rfl z3 ?_
           with_reducible refine (spec_l01Own.calls _ _ l2 t100 _ ?side1 ?side2 A32.out).mono ?_
           (case side1 => exact z69)
           (case side2 => exact (Kd.R_reads' HO_2.out).2.1)
           rintro e w49 ⟨v110, rfl, ho0, hb⟩
           refine ⟨_, rfl, ?_⟩
           have n0_ := zA (Kd.R_elder' z39 (Kd.R_base ho0) hb)
           have n1_ := zA (Kd.R_elder' z54 (Kd.R_base ho0) hb)
           have n2_ := zA (Kd.R_lower (Kd.R_new' (Kd.R_new' (Kd.R_newM (M := fun k_ => (P2_ k_ ∨ w.heap.size ≤ k_)) ho0 z152 (fun k_ h_ => .inr h_)) (Kd.R_lt z39)) (Kd.R_lt z54)) (below_size z14))
           have n3_ := zBB BK105 hb
           have n4_ := zA (Kept.below (S := (fun k_ => P2_ k_)) z10 hb)
           have n5_ := zA (below_step z14 hb)
           clear HO_2 HO113 BK105 HK HB
           have HO_2 := n0_
           have HO113 := n1_
           have HO111 := n2_
           have BK105 := n3_
           have HK := n4_
           have HB := n5_
           clear n0_ n1_ n2_ n3_ n4_ n5_
           (try clear hb)
           (try clear hb2)
           (try clear hk)
           (try clear hi)
           (try clear ho0)
           refine hK.out _ _ ⟨(blk_cell BK105.out 0).trans rfl, (blk_cell BK105.out 1).trans rfl, (blk_cell BK105.out 2).trans rfl, (blk_cell BK105.out 3).trans rfl, (Kd.foot_int (HR1.out _ z51) x13_1 (of_eq_true p276) (of_eq_true q276))⟩ (fun hHeld => ?_)
           clear hK K
           refine norm_ (a' := ?_) ?_ ?_
           rotate_left
           ·show Act.put _ (some 40) _ = _
            simp only [Act.put, List.setIfInBounds_toArray, List.set_cons_zero, List.set_cons_succ, i64_w, i32_w]
            rfl
           exact norm_ z77 (hCont (v110, v112) _ ⟨hHeld, z71, z72, z116, z52, z10, z14⟩)
         rintro ⟨v110, v112⟩ w50 ⟨hS_, h0_, h1_, h2_, h3_, h4_, h5_⟩
         have n0_ : Aside0 (Kd.R (Kd.int .i64) 2 w50 w0.heap.size (fun k_ => (P2_ k_ ∨ w.heap.size ≤ k_) ∧ some k_ ≠ (v112 : Value).ownBlock ∧ some k_ ≠ (.slice Ao26 l2.length co26 : Value).ownBlock) v110 t100) := ⟨h0_⟩
         have n1_ : Aside0 (Kd.R (Kd.int .i64) 2 w50 w0.heap.size (fun k_ => (P2_ k_ ∨ w.heap.size ≤ k_) ∧ some k_ ≠ (v110 : Value).ownBlock ∧ some k_ ≠ (.slice Ao26 l2.length co26 : Value).ownBlock) v112 y101) := ⟨h1_⟩
         have n2_ : Aside0 (Kd.R (Kd.int .i64) 2 w50 w0.heap.size (fun k_ => (P2_ k_ ∨ w.heap.size ≤ k_) ∧ some k_ ≠ (v110 : Value).ownBlock ∧ some k_ ≠ (v112 : Value).ownBlock) (.slice Ao26 l2.length co26) l2) := ⟨h2_⟩
         have n3_ : Aside0 (w50.heap[gb105]? = some (.cells #[.int .i64 a0_0, .int .i64 a0_1, .int .i64 a0_2, .int .i64 a0_3] 27 (0, 0))) := ⟨h3_⟩
         have n4_ : Aside0 (Kept w w50 (fun k_ => P2_ k_)) := ⟨h4_⟩
         have n5_ : Aside0 (Below w0.heap.size w0 w50) := ⟨h5_⟩
         clear HO_2 BK105 HK HB
         clear h0_ h1_ h2_ h3_ h4_ h5_
         have HO111 := n0_
         have HO113 := n1_
         have HO_2 := n2_
         have BK105 := n3_
         have HK := n4_
         have HB := n5_
         clear n0_ n1_ n2_ n3_ n4_ n5_
         have hHeld : w50.cell? ⟨gb105, 0, none⟩ = some (.int .i64 a0_0) ∧ w50.cell? ⟨gb105, 1, none⟩ = some (.int .i64 a0_1) ∧ w50.cell? ⟨gb105, 2, none⟩ = some (.int .i64 a0_2) ∧ w50.cell? ⟨gb105, 3, none⟩ = some (.int .i64 a0_3) ∧ w50.cell? (ad276.add (x13_1).toNat) = some (.int .i64 (rd l1 x13_1)) := hS_
         obtain ⟨Ao52, co52, eo52⟩ := Kd.R_slice HO113.out
         (first | subst eo52 | (injection eo52 with f1_ f2_ f3_; have f4_ := f1_.symm; have f5_ := f3_.symm; clear f1_ f2_ f3_; subst f4_; subst f5_))
         refine norm_ (a' := ?_) ?_ ?_
         rotate_left
         ·simp only [putAll, Act.put, List.setIfInBounds_toArray, List.set_cons_zero, List.set_cons_succ]
          rfl
         refine one_ (i := 9) (N := some 46) #[true, true, true, true, true, true, true, true, true, true, true, true, true, true, false, false, false, false, false, false] rfl rfl (one_of HT_.out (by kernel_rfl)) (by decide) (fun K hK => ?_)
         refine Kd.R_append_rows_step (Kd.int .i64) (w0 := w0) w0.heap.size (by rfl) (.tmp 40) (.tmp 45) 24 2 (.int .i64 0) 8 rfl Try.underlying24 info2 rfl (by decide) (by omega) v110 t100 y101 _ _ _ (fun k_ => (P2_ k_ ∨ w.heap.size ≤ k_) ∧ some k_ ≠ (.slice Ao26 l2.length co26 : Value).ownBlock ∧ some k_ ≠ (.slice Ao52 y101.length co52 : Value).ownBlock) (fun _ => False) rfl rfl ?aO ?aR (fun _ _ h => h) (fun _ h => h.elim) ?aF ?aB ?aS ?aL ?_
         (case aR => repeat (first | exact (Kd.R_reads' HO113.out).2.2 | (with_reducible refine Kd.C_alloc ?_ _) | (with_reducible refine Kd.C_drewN ?_ _) | (with_reducible refine Kd.C_drew ?_)))
         (case aB => exact z14)
         (case aF => exact (fun k_ hk => ⟨(.inr (Nat.le_trans z152 hk)), Kd.fresh' (Kd.R_lt z39) k_ hk, Kd.fresh' (Kd.R_lt z54) k_ hk⟩))
         (case aO => exact z113)
         (case aS => exact (below_size z14))
         (case aL => have := LMc34.out; omega)
         intro v114 w51 ho hb hg hat
         rw [← Ny108.out] at ho
         have n0_ := zA (Kd.R_after (ok := (fun k_ => (P2_ k_ ∨ w.heap.size ≤ k_) ∧ some k_ ≠ (.slice Ao52 y101.length co52 : Value).ownBlock)) z117 hg hat)
         have n1_ := zA (blk_grown (g := gb105) (o := .cells #[.int .i64 a0_0, .int .i64 a0_1, .int .i64 a0_2, .int .i64 a0_3] 27 (0, 0)) z52 hg (Kd.R_ne HO111.out BK105.out (by decide)))
         have n2_ := zA (Kd.R_after (ok := (fun k_ => (P2_ k_ ∨ w.heap.size ≤ k_) ∧ some k_ ≠ (.slice Ao26 l2.length co26 : Value).ownBlock)) z114 hg hat)
         have n3_ := zA (hb)
         have n4_ := zA (Kept.of_grown (S := (fun k_ => P2_ k_)) hg z10 (fun k_ e_ => (HO111.out.1 k_ e_).1))
         have n5_ := zA (ho)
         clear HO_2 BK105 HO113 HB HK HO111
         have HO_2 := n0_
         have BK105 := n1_
         have HO113 := n2_
         have HB := n3_
         have HK := n4_
         have HO115 := n5_
         clear n0_ n1_ n2_ n3_ n4_ n5_
         clear ho hb hg hat
         obtain ⟨Ao53, co53, eo53⟩ := Kd.R_slice HO115.out
         (first | subst eo53 | (injection eo53 with f1_ f2_ f3_; have f4_ := f1_.symm; have f5_ := f3_.symm; clear f1_ f2_ f3_; subst f4_; subst f5_))
         refine hK.out _ _ ⟨(blk_cell BK105.out 0).trans rfl, (blk_cell BK105.out 1).trans rfl, (blk_cell BK105.out 2).trans rfl, (blk_cell BK105.out 3).trans rfl, (Kd.foot_int (HR1.out _ z51) x13_1 (of_eq_true p276) (of_eq_true q276))⟩ (fun hHeld => ?_)
         clear hK K
         refine norm_ (a' := ?_) ?_ ?_
         rotate_left
         ·show Act.put _ (some 46) _ = _
          simp only [Act.put, List.setIfInBounds_toArray, List.set_cons_zero, List.set_cons_succ, i64_w, i32_w]
          rfl
         refine one_ (i := 14) (N := some 51) #[true, true, true, true, true, true, true, true, true, true, true, true, true, true, true, false, false, false, false, false] rfl rfl (one_of HT_.out (by kernel_rfl)) (by decide) (fun K hK => ?_)
         refine goes_ Try.func70 (by kernel_rfl) rfl #[.agg #[.int .i64 a0_0, .int .i64 a0_1, .int .i64 a0_2, .int .i64 a0_3], .slice (some ad276) l1.length c1, .slice Ao53 y108.length co53, .int .i64 (wrap64 (x13_1 + 1)), .int .i64 (wrap64 (a4 - 1))] (by rfl) rfl rfl z3 ?_
         with_reducible refine (ih k1 z73 a0_0 a0_1 a0_2 a0_3 _ _ l1 (fun k_ => some k_ = (.slice Ao53 y108.length co53 : Value).ownBlock) (.slice Ao53 y108.length co53) y108 (wrap64 (x13_1 + 1)) (wrap64 (a4 - 1)) t102 false w0 _ ?side1 ?side2 ?side3 ?side4 A35.out).mono ?_
         (case side1 => exact z14)
         (case side2 => exact Kd.C_kept_call HR1.out z10 (fun k_ hs_ => (fun e_ => (HO115.out.1 k_ e_.symm).1) hs_))
         (case side3 => exact HC1.out)
         (case side4 => exact Kd.R_tight rfl HO115.out)
         rintro e w54 ⟨v116, rfl, ho0, hb, hkp⟩
         refine ⟨_, rfl, ?_⟩
         have n0_ := zA (Kd.R_mono (ok' := fun k_ => (P2_ k_ ∨ w.heap.size ≤ k_) ∧ some k_ ≠ (.slice Ao52 y101.length co52 : Value).ownBlock ∧ some k_ ≠ (v116 : Value).ownBlock) (Kd.R_keptB (HO_2.out) hkp (fun k_ hk_ hs_ => (hk_.2) hs_)) (fun k_ hk_ => ⟨hk_.1.1.1, hk_.1.1.2, fun e_ => Or.elim (ho0.1 k_ e_.symm) (fun hs_ => hk_.2.1 hs_) (fun hn_ => Nat.not_le.2 hk_.2.2 hn_)⟩))
         have n1_ := zA (blk_kept z52 hkp (fun hs_ => (fun e_ => (Kd.R_ne HO115.out BK105.out (by decide)) e_) hs_))
         have n2_ := zA (Kd.R_mono (ok' := fun k_ => (P2_ k_ ∨ w.heap.size ≤ k_) ∧ some k_ ≠ (.slice Ao26 l2.length co26 : Value).ownBlock ∧ some k_ ≠ (v116 : Value).ownBlock) (Kd.R_keptB (HO113.out) hkp (fun k_ hk_ hs_ => (hk_.2) hs_)) (fun k_ hk_ => ⟨hk_.1.1.1, hk_.1.1.2, fun e_ => Or.elim (ho0.1 k_ e_.symm) (fun hs_ => hk_.2.1 hs_) (fun hn_ => Nat.not_le.2 hk_.2.2 hn_)⟩))
         have n3_ := zA (Kd.R_mono (ok' := fun k_ => (P2_ k_ ∨ w.heap.size ≤ k_) ∧ some k_ ≠ (.slice Ao26 l2.length co26 : Value).ownBlock ∧ some k_ ≠ (.slice Ao52 y101.length co52 : Value).ownBlock) ho0 (fun k_ hk_ => ⟨Or.elim hk_ (fun hs_ => (HO115.out.1 k_ (hs_).symm).1) (fun hn_ => (.inr (Nat.le_trans z152 hn_))), Or.elim hk_ (fun hs_ => fun e_ => (((HO_2.out).1 k_ e_.symm).2) hs_) (fun hn_ => (Kd.fresh' (Kd.R_lt z39) k_ hn_)), Or.elim hk_ (fun hs_ => fun e_ => (((HO113.out).1 k_ e_.symm).2) hs_) (fun hn_ => (Kd.fresh' (Kd.R_lt z54) k_ hn_))⟩))
         have n4_ := zA (Kept.then_ (S := (fun k_ => P2_ k_)) z10 hkp (fun k_ hs_ => (fun e_ => (HO115.out.1 k_ e_.symm).1) hs_))
         have n5_ := zA (hb)
         clear HO_2 BK105 HO113 HK HB HO115
         have HO_2 := n0_
         have BK105 := n1_
         have HO113 := n2_
         have HO117 := n3_
         have HK := n4_
         have HB := n5_
         clear n0_ n1_ n2_ n3_ n4_ n5_
         (try clear hb)
         (try clear hkp)
         (try clear ho0)
         refine hK.out _ _ ⟨(blk_cell BK105.out 0).trans rfl, (blk_cell BK105.out 1).trans rfl, (blk_cell BK105.out 2).trans rfl, (blk_cell BK105.out 3).trans rfl, (Kd.foot_int (HR1.out _ z51) x13_1 (of_eq_true p276) (of_eq_true q276))⟩ (fun hHeld => ?_)
         clear hK K
         refine norm_ (a' := ?_) ?_ ?_
         rotate_left
         ·show Act.put _ (some 51) _ = _
          simp only [Act.put, List.setIfInBounds_toArray, List.set_cons_zero, List.set_cons_succ, i64_w, i32_w]
          rfl
         refine zpu 15 (some 36) #[true, true, true, true, true, true, true, true, true, true, true, true, true, true, true, true, false, false, false, false] ?_
         refine zpu 16 (some 52) #[true, true, true, true, true, true, true, true, true, true, true, true, true, true, true, true, true, false, false, false] ?_
         refine zpu 17 (some 53) #[true, true, true, true, true, true, true, true, true, true, true, true, true, true, true, true, true, true, false, false] ?_
         refine zpu 18 (some 14) #[true, true, true, true, true, true, true, true, true, true, true, true, true, true, true, true, true, true, true, false] ?_
         refine zpu 19 (some 15) #[true, true, true, true, true, true, true, true, true, true, true, true, true, true, true, true, true, true, true, true] ?_
         refine done_ (done_of HT_.out (by kernel_rfl)) ?_
         try go_wp2
         go_roundg k1
         case measure => have := HK1.out; omega
         case rel => exact ⟨(wrap64 (x13_1 + 1)), z11, H', ⟨z73⟩, ⟨(by (with_reducible repeat (first | apply Kd.R_alloc | apply Kd.R_drewN | apply Kd.R_drew)); exact Kd.R_mono HO_2.out (fun _ hk => hk.1))⟩, ⟨z52⟩, ⟨z10⟩, ⟨z14⟩⟩
       ·rw [if_neg c34] at H
        exact absurd H (by simp)
      ·rw [if_neg c33] at H
       exact absurd H (by simp)
     ·rw [if_neg c31] at H
      have c31b0 : decide (x13_1 < (l1.length : Int)) = false := decide_eq_false c31
      clear c31
      simp only [Option.some.injEq, Prod.mk.injEq] at H
      obtain ⟨rfl, rfl⟩ := H
      go_wp2
      go_ret2
      exact ⟨_, z8, z37, z14, z10⟩

end Go.Proofs.Ytchlbkcladfloaa.PFnGuarantees
