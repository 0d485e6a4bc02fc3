-- WALKS, by a program and by hand
import Derived.Test.YtchlbkcladfloaaPFnGuaranteesx0
import Derived.Test.YtchlbkcladfloaaPFnGuaranteesx1
import Derived.Test.YtchlbkcladfloaaPFnGuaranteesx10
import Derived.Test.YtchlbkcladfloaaPFnGuaranteesx11
import Derived.Test.YtchlbkcladfloaaPFnGuaranteesx12
import Derived.Test.YtchlbkcladfloaaPFnGuaranteesx13
namespace Go.Proofs.Ytchlbkcladfloaa.PFnGuarantees
open Go.RowKit Go.Proofs.Ytchlbkcladfloaa.DG Go.Proofs.YtchlbkcladfloaaW.PrintWords Go.Proofs.YtchlbkcladfloaaW.PrintLast Go.Proofs.YtchlbkcladfloaaW.PrintMore
attribute [local go_sem] max2_int min2_int max_two min_two max_three min_three max_four min_four   -- for this text's walks alone
set_option linter.unusedVariables false
set_option linter.unusedSimpArgs false

mutual
def spec_PrizesOf.j0 : Nat → List Int → Int → Int → Bool → Int → Int → Int → Int → Option (List Int × Int)
 | 0, _, _, _, _, _, _, _, _ => none
 | k + 1, x1, x2, x8, x23, x567000, x567001, x567002, x567003 => if x23 = true then (spec_PrizesOf.j1 k x1 x2 2 x567000 x567001 x567002 x567003) else (spec_PrizesOf.j1 k x1 x2 x8 x567000 x567001 x567002 x567003)
def spec_PrizesOf.j1 : Nat → List Int → Int → Int → Int → Int → Int → Int → Option (List Int × Int)
 | 0, _, _, _, _, _, _, _ => none
 | k + 1, x1, x2, x8, x567000, x567001, x567002, x567003 => if x8 = 0 then (if 0 ≤ (wrap64 (x567001 + 1)) then (if (wrap64 (x567001 + 1) : Int).toNat ≤ 35184372088832 then (spec_PrizesOf.l0 k x1 x2 (List.replicate (wrap64 (x567001 + 1) : Int).toNat 0) 0) else (none)) else (none)) else (some (([] : List Int), x8))
def spec_PrizesOf.l0 : Nat → List Int → Int → List Int → Int → Option (List Int × Int)
 | 0, _, _, _, _ => none
 | k + 1, x1, x2, x9, x10 => if x10 < (x1.length : Int) then (if 0 ≤ x10 then ((spec_l08Size.f k (Go.bits .and .i64 (rd x1 x10) x2)).bind fun t100 => (if 0 ≤ t100 then (if t100 < (x9.length : Int) then (spec_PrizesOf.l0 k x1 x2 (x9.set (t100 : Int).toNat (wrap64 ((rd x9 t100) + 1))) (wrap64 (x10 + 1))) else (none)) else (none))) else (none)) else (some (x9, 0))
end
def spec_PrizesOf.f (k : Nat) (a0_0 : Int) (a0_1 : Int) (a0_2 : Int) (a0_3 : Int) (l1 : List Int) (a2 : Int) : Option (List Int × Int) := (spec_l08Tickets.f k a0_0 a0_1 a0_2 a0_3 l1).bind fun t101 => (if t101 = 0 then ((spec_l08Set.f k a0_0 a0_1 a0_2 a0_3 a2 a0_2).bind fun t102 => (spec_PrizesOf.j0 k l1 a2 t101 (!t102) a0_0 a0_1 a0_2 a0_3)) else (spec_PrizesOf.j0 k l1 a2 t101 false a0_0 a0_1 a0_2 a0_3))
set_option maxHeartbeats 8000000 in
set_option maxRecDepth 100000 in
theorem spec_PrizesOf.calls (k : Nat) (a0_0 : Int) (a0_1 : Int) (a0_2 : Int) (a0_3 : Int) (A1 : Option Addr) (c1 : Nat) (l1 : List Int) (a2 : Int) (r1 : List Int) (r2 : Int) (w : World) (hr1 : Kd.C (Kd.int .i64) w A1 l1.length l1) (hc1 : l1.length ≤ c1) (h : spec_PrizesOf.f k a0_0 a0_1 a0_2 a0_3 l1 a2 = some (r1, r2)) :
  Calls Try.prog 53 #[.agg #[.int .i64 a0_0, .int .i64 a0_1, .int .i64 a0_2, .int .i64 a0_3], .slice A1 l1.length c1, .int .i64 a2] w fun e w' => ∃ v0_ : Value, e = .returned (.tuple #[v0_, .int .i64 r2]) ∧ Kd.R (Kd.int .i64) 2 w' w.heap.size (fun _ => True) v0_ r1 ∧ Below w.heap.size w w' := by
 have hu27 := Try.underlying27
 have HR1 := zA hr1
 have HC1 := zA hc1
 clear hr1 hc1
 have HB := zA (Below.refl w.heap.size w)
 have H := h
 unfold spec_PrizesOf.f at H
 (try dsimp -simprocs only at H)
 clear h
 replace H := zi H
 obtain ⟨t101, A40, H⟩ := H
 (try dsimp -simprocs only at H)
 have A4 := zA A40
 clear A40
 have HC5 := zA H
 clear H
 go_enter Try.func53, Try.ntmps53
 go_upto_region 2 with (first | ((with_reducible refine gate_dst (N := 3) rfl ?_); refine zbox (N := 3) (cs := #[.int .i64 a0_0, .int .i64 a0_1, .int .i64 a0_2, .int .i64 a0_3]) (t := 27) ?_; intro gb103 hg w6 hbox hb; have BK103 := zA (hbox); have GW103 := zA ((z151 : w.heap.size ≤ gb103)); have GE103 := zA ((z151 : w.heap.size ≤ gb103)); replace HB := zA (below_step z1 hb); clear hb hbox hg; obtain ⟨hcz7_0, hcz7_1, hcz7_2, hcz7_3, hfz7_0, hfz7_1, hfz7_2, hfz7_3⟩ := zC4 BK103.out) | ((with_reducible refine gate_callee (f := 95) rfl ?_); refine goesL_ (some 13) rfl rfl Try.func95 (by kernel_rfl) rfl #[.agg #[.int .i64 a0_0, .int .i64 a0_1, .int .i64 a0_2, .int .i64 a0_3], .slice A1 l1.length c1] rfl z3 ?_; (with_reducible refine (spec_l08Tickets.calls k a0_0 a0_1 a0_2 a0_3 _ _ l1 t101 _ ?side1 ?side2 A4.out).mono ?_); (case side1 => exact z17); (case side2 => exact HC1.out); rintro e w8 ⟨rfl, hb⟩; refine ⟨_, rfl, ?_⟩; replace BK103 := zBB BK103 hb; replace HB := zA (below_step z15 hb); (try clear hb); (try clear hb2); (try clear hk); (try clear hi)))
 (try simp only [Act.put, List.setIfInBounds_toArray, List.set_cons_zero, List.set_cons_succ])
 go_cut [23] (fun v23 wc => ∃ (kq : Nat) (x23_4 : Bool), v23 = .bool x23_4 ∧ Aside0 (spec_PrizesOf.j0 kq l1 a2 t101 x23_4 a0_0 a0_1 a0_2 a0_3 = some (r1, r2)) ∧ Aside0 (kq ≤ k) ∧ Aside0 (wc.heap[gb103]? = some (.cells #[.int .i64 a0_0, .int .i64 a0_1, .int .i64 a0_2, .int .i64 a0_3] 27 (0, 0))) ∧ Aside0 (Below w.heap.size w wc))
 case first =>
  have H := HC5.out
  clear HC5
  by_cases c9 : t101 = 0
  ·rw [if_pos c9] at H
   have c9b0 : (t101 == 0) = true := beq_iff_eq.mpr c9
   have c9b1 : (t101 != 0) = false := bne_eq_false_iff_eq.mpr c9
   clear c9
   (first | rw [c9b0] | (simp only [i64_w, i32_w]; rw [c9b0]) | skip)
   replace H := zi H
   obtain ⟨t102, A100, H⟩ := H
   (try dsimp -simprocs only at H)
   have A10 := zA A100
   clear A100
   have H' := zA H
   clear H
   obtain ⟨hcz11_0, hcz11_1, hcz11_2, hcz11_3, hfz11_0, hfz11_1, hfz11_2, hfz11_3⟩ := zC4 BK103.out
   go_wp2_with (first | (go_at_call 80; (with_reducible refine (spec_l08Set.calls k a0_0 a0_1 a0_2 a0_3 a2 a0_2 t102 _ A10.out).mono ?_); rintro e w12 ⟨rfl, hb⟩; replace BK103 := zBB BK103 hb; replace HB := zA (below_step z15 hb); (try clear hb); (try clear hb2); (try clear hk); (try clear hi)))
   go_meet
   case rel => exact ⟨_, (!t102), z11, H', ⟨z141⟩, ⟨z41⟩, ⟨z15⟩⟩
  ·rw [if_neg c9] at H
   have c9b0 : (t101 == 0) = false := beq_eq_false_iff_ne.mpr c9
   have c9b1 : (t101 != 0) = true := bne_iff_ne.mpr c9
   (first | rw [c9b0] | (simp only [i64_w, i32_w]; rw [c9b0]) | skip)
   have H' := zA H
   clear H
   go_wp2
   go_meet
   case rel => exact ⟨_, (false), z11, H', ⟨z141⟩, ⟨z41⟩, ⟨z15⟩⟩
 case rest =>
  clear HC5
  (try clear c1); (try clear p2); (try clear c5); (try clear c9); (try clear c9b0); (try clear c9b1); (try clear hcz11_0); (try clear hcz11_1); (try clear hcz11_2); (try clear hcz11_3); (try clear hcz7_0); (try clear hcz7_1); (try clear hcz7_2); (try clear hcz7_3); (try clear hfz11_0); (try clear hfz11_1); (try clear hfz11_2); (try clear hfz11_3); (try clear hfz7_0); (try clear hfz7_1); (try clear hfz7_2); (try clear hfz7_3)
  obtain ⟨kq, x23_4, rfl, HA, HJ4, BK103, HB⟩ := hcut
  cases kq with
  | zero => exact absurd HA.out (by simp [spec_PrizesOf.j0])
  | succ kj4 =>
   have H := HA.out
   clear HA
   simp only [spec_PrizesOf.j0] at H
   have HC13 := zA H
   clear H
   go_upto_if 23 with (fail)
   go_cut [8] (fun v8 wc => ∃ (kq : Nat) (x8_12 : Int), v8 = .int .i64 x8_12 ∧ Aside0 (spec_PrizesOf.j1 kq l1 a2 x8_12 a0_0 a0_1 a0_2 a0_3 = some (r1, r2)) ∧ Aside0 (kq ≤ kj4) ∧ Aside0 (wc.heap[gb103]? = some (.cells #[.int .i64 a0_0, .int .i64 a0_1, .int .i64 a0_2, .int .i64 a0_3] 27 (0, 0))) ∧ Aside0 (Below w.heap.size w wc))
   case first =>
    have H := HC13.out
    clear HC13
    by_cases c14 : x23_4 = true
    ·subst c14
     have H1 : (spec_PrizesOf.j1 kj4 l1 a2 2 a0_0 a0_1 a0_2 a0_3) = some (r1, r2) := by rw [if_pos rfl] at H; exact H
     clear H
     have H := H1
     clear H1
     have H' := zA H
     clear H
     go_wp2
     go_meet
     case rel => exact ⟨_, (2), z11, H', ⟨(by have := HJ4.out; first | omega | exact Nat.le_refl _)⟩, ⟨z41⟩, ⟨z15⟩⟩
    ·replace c14 := Bool.eq_false_iff.mpr c14
     subst c14
     have H1 : (spec_PrizesOf.j1 kj4 l1 a2 t101 a0_0 a0_1 a0_2 a0_3) = some (r1, r2) := by rw [if_neg (show ¬ (false = true) by decide)] at H; exact H
     clear H
     have H := H1
     clear H1
     have H' := zA H
     clear H
     go_wp2
     go_meet
     case rel => exact ⟨_, (t101), z11, H', ⟨(by have := HJ4.out; first | omega | exact Nat.le_refl _)⟩, ⟨z41⟩, ⟨z15⟩⟩
   case rest =>
    clear HC13
    (try clear c1); (try clear p2); (try clear c5); (try clear c9); (try clear c9b0); (try clear c9b1); (try clear c14); (try clear hcz11_0); (try clear hcz11_1); (try clear hcz11_2); (try clear hcz11_3); (try clear hcz7_0); (try clear hcz7_1); (try clear hcz7_2); (try clear hcz7_3); (try clear hfz11_0); (try clear hfz11_1); (try clear hfz11_2); (try clear hfz11_3); (try clear hfz7_0); (try clear hfz7_1); (try clear hfz7_2); (try clear hfz7_3); (try clear p2)
    obtain ⟨kq, x8_12, rfl, HA, HJ12, BK103, HB⟩ := hcut
    cases kq with
    | zero => exact absurd HA.out (by simp [spec_PrizesOf.j1])
    | succ kj12 =>
     have H := HA.out
     clear HA
     simp only [spec_PrizesOf.j1] at H
     by_cases c15 : x8_12 = 0
     ·rw [if_pos c15] at H
      have c15b0 : (x8_12 == 0) = true := beq_iff_eq.mpr c15
      have c15b1 : (x8_12 != 0) = false := bne_eq_false_iff_eq.mpr c15
      clear c15
      obtain ⟨ji16, hji16⟩ : ∃ j_ : Int, (wrap64 (a0_1 + 1)) = j_ := ⟨_, rfl⟩
      replace H : (if 0 ≤ (ji16) then (if (ji16 : Int).toNat ≤ 35184372088832 then (spec_PrizesOf.l0 kj12 l1 a2 (List.replicate (ji16 : Int).toNat 0) 0) else (none)) else (none)) = some (r1, r2) := by first | (rw [hji16] at H; exact H) | (simp only [hji16] at H ⊢; exact H)
      have hji16w : (IntKind.i64.wrap (a0_1 + 1)) = ji16 := (i64_w _).trans hji16
      by_cases c17 : 0 ≤ (ji16)
      ·rw [if_pos c17] at H
       have c17b0 := eq_true c17
       have c17b1 : decide (0 ≤ (ji16)) = true := decide_eq_true c17
       clear c17
       by_cases c18 : (ji16 : Int).toNat ≤ 35184372088832
       ·rw [if_pos c18] at H
        have c18b0 := eq_true c18
        have c18b1 : decide ((ji16 : Int).toNat ≤ 35184372088832) = true := decide_eq_true c18
        clear c18
        obtain ⟨y104, hy104⟩ : ∃ y_ : List Int, y_ = (List.replicate (ji16 : Int).toNat 0) := ⟨_, rfl⟩
        replace H : (spec_PrizesOf.l0 kj12 l1 a2 y104 0) = some (r1, r2) := by first | (rw [hy104]; with_reducible exact H) | (have H2_ := (Option.bind_some _ _).symm.trans H; rw [hy104]; with_reducible exact H2_) | (have H2_ := (Option.bind_some _ _).symm.trans H; with_reducible exact H2_) | with_reducible exact H | (rw [hy104]; exact H) | exact H
        have Ny104 := zA hy104
        clear hy104
        have H' := zA H
        clear H
        obtain ⟨hcz19_0, hcz19_1, hcz19_2, hcz19_3, hfz19_0, hfz19_1, hfz19_2, hfz19_3⟩ := zC4 BK103.out
        go_wp2_with (first | ((with_reducible refine gate_dst (N := 30) rfl ?_); refine Kd.R_make (Kd.int .i64) _ 2 rfl (N := 30) rfl 24 _ _ rfl ji16 rfl rfl Try.underlying24 (.int .i64 0) 8 info2 rfl (by decide) (by omega) 0 (ok := fun _ => True) (okp := fun _ => True) rfl (fun _ hk => hk) trivial (of_decide_eq_true z7) (Nat.le_trans (Nat.mul_le_mul_right _ (of_decide_eq_true z7 : ji16.toNat ≤ 35184372088832)) (by omega)) (Below.refl _ _) (Nat.le_refl _) ?_; intro v105 w20 ho21 hb hg_ hnew_; clear hg_ hnew_; (first | rw [← Ny104.out] at ho21 | (simp only [Int.reduceToNat] at ho21; rw [← Ny104.out] at ho21)); have HO106 := zA (Kd.R_lower ho21 (below_size z15)); replace BK103 := zBB BK103 hb; replace HB := zA (below_step z15 hb); clear hb ho21))
        go_loopg [10] kj12 (fun kq v10 w' => ∃ (x9_3 : List Int) (x10_3 : Int), v10 = .int .i64 x10_3 ∧ Aside0 (spec_PrizesOf.l0 kq l1 a2 x9_3 x10_3 = some (r1, r2)) ∧ Aside0 (kq ≤ kj12) ∧ Aside0 (Kd.R (Kd.int .i64) 2 w' w.heap.size (fun _ => True) v105 x9_3) ∧ Aside0 (w'.heap[gb103]? = some (.cells #[.int .i64 a0_0, .int .i64 a0_1, .int .i64 a0_2, .int .i64 a0_3] 27 (0, 0))) ∧ Aside0 (Below w.heap.size w w'))
        case atStart => exact ⟨(y104), (0), z11, H', ⟨Nat.le_refl _⟩, ⟨z55⟩, ⟨z41⟩, ⟨z15⟩⟩
        case round =>
         clear H'
         (try clear c1); (try clear p2); (try clear c5); (try clear p6); (try clear c9); (try clear c9b0); (try clear c9b1); (try clear c14); (try clear c15); (try clear c15b0); (try clear c15b1); (try clear c17); (try clear c17b0); (try clear c17b1); (try clear c18); (try clear c18b0); (try clear c18b1); (try clear hcz11_0); (try clear hcz11_1); (try clear hcz11_2); (try clear hcz11_3); (try clear hcz19_0); (try clear hcz19_1); (try clear hcz19_2); (try clear hcz19_3); (try clear hcz7_0); (try clear hcz7_1); (try clear hcz7_2); (try clear hcz7_3); (try clear hfz11_0); (try clear hfz11_1); (try clear hfz11_2); (try clear hfz11_3); (try clear hfz19_0); (try clear hfz19_1); (try clear hfz19_2); (try clear hfz19_3); (try clear hfz7_0); (try clear hfz7_1); (try clear hfz7_2); (try clear hfz7_3); (try clear p2)
         obtain ⟨x9_3, x10_3, rfl, HA, HK3, HO_9, BK103, HB⟩ := hrel
         cases gk with
         | zero => exact absurd HA.out (by simp [spec_PrizesOf.l0])
         | succ k3 =>
          have H := HA.out
          clear HA
          simp only [spec_PrizesOf.l0] at H
          by_cases c22 : x10_3 < (l1.length : Int)
          ·rw [if_pos c22] at H
           have c22b0 : decide (x10_3 < (l1.length : Int)) = true := decide_eq_true c22
           clear c22
           by_cases c23 : 0 ≤ x10_3
           ·rw [if_pos c23] at H
            have c23b0 : decide (0 ≤ x10_3) = true := decide_eq_true c23
            clear c23
            replace H := zi H
            obtain ⟨t100, A240, H⟩ := H
            (try dsimp -simprocs only at H)
            have A24 := zA A240
            clear A240
            by_cases c25 : 0 ≤ t100
            ·rw [if_pos c25] at H
             have c25b0 : decide (0 ≤ t100) = true := decide_eq_true c25
             clear c25
             by_cases c26 : t100 < (x9_3.length : Int)
             ·rw [if_pos c26] at H
              have c26b0 : decide (t100 < (x9_3.length : Int)) = true := decide_eq_true c26
              clear c26
              obtain ⟨y107, hy107⟩ : ∃ y_ : List Int, y_ = (x9_3.set (t100 : Int).toNat (wrap64 ((rd x9_3 t100) + 1))) := ⟨_, rfl⟩
              replace H : (spec_PrizesOf.l0 k3 l1 a2 y107 (wrap64 (x10_3 + 1))) = some (r1, r2) := by first | (rw [hy107]; with_reducible exact H) | (have H2_ := (Option.bind_some _ _).symm.trans H; rw [hy107]; with_reducible exact H2_) | (have H2_ := (Option.bind_some _ _).symm.trans H; with_reducible exact H2_) | with_reducible exact H | (rw [hy107]; exact H) | exact H
              have Ny107 := zA hy107
              clear hy107
              have H' := zA H
              clear H
              have p572 : 0 ≤ (x10_3 : Int) := of_decide_eq_true z7
              have q572 : x10_3 < (l1.length : Int) := of_decide_eq_true z7
              obtain ⟨ad572, e572, hx572_0⟩ := Kd.at_int HR1.out x10_3 p572 q572
              cases e572
              try replace hx572_0 := (HB.out.cell (World.block_lt_of_cell? w _ hx572_0)).trans hx572_0
              replace p572 := eq_true p572
              replace q572 := eq_true q572
              go_wp2_with (first | ((with_reducible refine gate_callee (f := 60) rfl ?_); refine goesL_ (some 44) rfl rfl Try.func60 (by kernel_rfl) rfl #[.int .i64 (Go.bits .and .i64 (rd l1 x10_3) a2)] rfl z3 ?_; (with_reducible refine (spec_l08Size.calls k3 (Go.bits .and .i64 (rd l1 x10_3) a2) t100 _ A24.out).mono ?_); rintro e w' ⟨rfl, ⟨nd, rfl⟩⟩; refine ⟨_, rfl, ?_⟩; (try (rw [drewN_self wr]; generalize hq_ : World.drewN wr _ = wr; replace HO_9 : Aside0 (Kd.R (Kd.int .i64) 2 wr w.heap.size (fun _ => True) v105 x9_3) := ⟨(by rw [← hq_]; exact z74)⟩; replace BK103 : Aside0 (wr.heap[gb103]? = some (.cells #[.int .i64 a0_0, .int .i64 a0_1, .int .i64 a0_2, .int .i64 a0_3] 27 (0, 0))) := ⟨(by rw [← hq_]; exact z41)⟩; replace HB : Aside0 (Below w.heap.size w wr) := ⟨(by rw [← hq_]; exact z15)⟩; clear hq_)); obtain ⟨Ao28, co28, eo28⟩ := Kd.R_slice HO_9.out; subst eo28; have p574 : 0 ≤ (t100 : Int) := of_decide_eq_true z7; have q574 : t100 < (x9_3.length : Int) := of_decide_eq_true z7; obtain ⟨ad574, e574, hx574_0⟩ := Kd.at_int (Kd.R_reads' HO_9.out).2.2 t100 p574 q574; cases e574; replace p574 := eq_true p574; replace q574 := eq_true q574; have p27 : 0 ≤ (t100 : Int) := of_decide_eq_true z7; have q27 : (t100 : Int) < ((x9_3.length : Int) : Int) := of_decide_eq_true z7; obtain ⟨go27, co27, eo27, gb27, gl27, cl27, HG27⟩ := Kd.R_form HO_9.out (by omega); (first | cases eo27 | (injection eo27 with ea_ en_ ec_; (first | subst ea_ | (injection ea_ with ea_; subst ea_)); subst ec_; clear en_)); have GB27 := zA gb27; have GG27 := zA HG27; clear gb27 gl27 HG27; (first | simp only [add_plain] at hx574_0 | skip); obtain ⟨hx27_0, hf27_0⟩ := Kd.R_celln 0 HO_9.out (t100 : Int) p27 q27; replace p27 := eq_true p27; replace q27 := eq_true q27; obtain ⟨hy29_, hz29_⟩ := Kd.R_celln 0 HO_9.out (t100 : Int) (of_decide_eq_true z7) (of_decide_eq_true z7); have HP29 := Kd.R_putg HO_9.out (t100 : Int) (wrap64 ((rd x9_3 t100) + 1))) | ((with_reducible refine gate_store (t := 2) (p := 48) rfl ?_); refine store_event (t := 2) (p := 48) (v := ?vo_w30) (w1 := (wr.setCell ⟨go27, (t100 : Int).toNat, none⟩ (.int .i64 (wrap64 ((rd x9_3 t100) + 1))))) ?hg ?ho ?hn ?hr ?_; (case ho => rfl); (case hg => rfl); (case hn => rfl); (case hr => first | (go_simp; done) | (go_simp; rfl)); intro w30 hw; have hg : wr.grownBy w30 (some go27) := (by rw [hw]; exact HP29.2); have hp_ : Kd.R (Kd.int .i64) 2 w30 w.heap.size (fun _ => True) (.slice (some ⟨go27, 0, none⟩) x9_3.length co28) y107 := (by rw [hw, Ny107.out]; exact HP29.1); clear HP29; replace BK103 := zA (blk_grown (g := gb103) (o := .cells #[.int .i64 a0_0, .int .i64 a0_1, .int .i64 a0_2, .int .i64 a0_3] 27 (0, 0)) z41 hg (Kd.R_ne HO_9.out BK103.out (by decide))); replace HO_9 := zA (hp_); replace HB := zA (((by rw [hw]; exact below_set (HB.out) GB27.out) : Below w.heap.size w w30)); clear hg hw hp_))
              go_roundg k3
              case measure => have := HJ4.out; have := HJ12.out; have := HK3.out; omega
              case rel => exact ⟨(y107), (wrap64 (x10_3 + 1)), z11, H', ⟨(by have := HJ4.out; have := HJ12.out; have := HK3.out; omega)⟩, ⟨z74⟩, ⟨z41⟩, ⟨z15⟩⟩
             ·rw [if_neg c26] at H
              exact absurd H (by simp)
            ·rw [if_neg c25] at H
             exact absurd H (by simp)
           ·rw [if_neg c23] at H
            exact absurd H (by simp)
          ·rw [if_neg c22] at H
           have c22b0 : decide (x10_3 < (l1.length : Int)) = false := decide_eq_false c22
           clear c22
           simp only [Option.some.injEq, Prod.mk.injEq] at H
           obtain ⟨rfl, rfl⟩ := H
           go_wp2
           go_ret2
           exact ⟨_, (by first | rfl | (simp [errW_none, errW_some] <;> rfl) | (simp only [← hji16]; first | rfl | (simp [errW_none, errW_some] <;> rfl)) | (simp [*, errW_none, errW_some] <;> rfl)), z74, z15⟩
       ·rw [if_neg c18] at H
        exact absurd H (by simp)
      ·rw [if_neg c17] at H
       exact absurd H (by simp)
     ·rw [if_neg c15] at H
      have c15b0 : (x8_12 == 0) = false := beq_eq_false_iff_ne.mpr c15
      have c15b1 : (x8_12 != 0) = true := bne_iff_ne.mpr c15
      simp only [Option.some.injEq, Prod.mk.injEq] at H
      obtain ⟨rfl, rfl⟩ := H
      go_wp2
      go_ret2
      exact ⟨_, z8, z37, z15⟩

def spec_l08Draw.f (k : Nat) (l0 : List Int) : Option (Int × Int × Int × Int) := (spec_l01From.f k l0).bind fun bt100 => ((spec_l01Pick.f bt100.1 bt100.2.1 bt100.2.2 (([5, 8, 12] : List Int))).bind fun bt101 => ((spec_l08DrawOf.f bt100.1 bt101.2.1 bt101.2.2 bt101.1).bind fun bt102 => ((spec_l08Bad.f bt100.1 bt102.2.2.2.2.1 bt102.2.2.2.2.2 bt102.1 bt102.2.1 bt102.2.2.1 bt102.2.2.2.1).bind fun bt103 => (some (bt103.1, bt103.2.1, bt103.2.2.1, bt103.2.2.2.1)))))
set_option maxHeartbeats 8000000 in
set_option maxRecDepth 100000 in
theorem spec_l08Draw.calls (k : Nat) (A0 : Option Addr) (c0 : Nat) (l0 : List Int) (r1 : Int) (r2 : Int) (r3 : Int) (r4 : Int) (w : World) (hr0 : Kd.C (Kd.int .u8) w A0 l0.length l0) (hc0 : l0.length ≤ c0) (h : spec_l08Draw.f k l0 = some (r1, r2, r3, r4)) :
  Calls Try.prog 82 #[.slice A0 l0.length c0] w fun e w' => e = .returned (.agg #[.int .i64 r1, .int .i64 r2, .int .i64 r3, .int .i64 r4]) ∧ Below w.heap.size w w' := by
 have hu27 := Try.underlying27
 have HR0 := zA hr0
 have HC0 := zA hc0
 clear hr0 hc0
 have HB := zA (Below.refl w.heap.size w)
 have H := h
 unfold spec_l08Draw.f at H
 (try dsimp -simprocs only at H)
 clear h
 replace H := zi H
 obtain ⟨⟨t100, t104, t105⟩, A20, H⟩ := H
 (try dsimp -simprocs only at H)
 have A2 := zA A20
 clear A20
 obtain ⟨y106, hy106⟩ : ∃ y_ : List Int, y_ = (([5, 8, 12] : List Int)) := ⟨_, rfl⟩
 replace H : ((spec_l01Pick.f t100 t104 t105 y106).bind fun bt101 => ((spec_l08DrawOf.f t100 bt101.2.1 bt101.2.2 bt101.1).bind fun bt102 => ((spec_l08Bad.f t100 bt102.2.2.2.2.1 bt102.2.2.2.2.2 bt102.1 bt102.2.1 bt102.2.2.1 bt102.2.2.2.1).bind fun bt103 => (some (bt103.1, bt103.2.1, bt103.2.2.1, bt103.2.2.2.1))))) = some (r1, r2, r3, r4) := by first | (rw [hy106]; with_reducible exact H) | (have H2_ := (Option.bind_some _ _).symm.trans H; rw [hy106]; with_reducible exact H2_) | (have H2_ := (Option.bind_some _ _).symm.trans H; with_reducible exact H2_) | with_reducible exact H | (rw [hy106]; exact H) | exact H
 have Ny106 := zA hy106
 clear hy106
 replace H := zi H
 obtain ⟨⟨t101, t107, t108⟩, A30, H⟩ := H
 (try dsimp -simprocs only at H)
 have A3 := zA A30
 clear A30
 replace H := zi H
 obtain ⟨⟨t102, t109, t110, t111, t112, t113⟩, A40, H⟩ := H
 (try dsimp -simprocs only at H)
 have A4 := zA A40
 clear A40
 replace H := zi H
 obtain ⟨⟨t103, t114, t115, t116, t117, t118⟩, A50, H⟩ := H
 replace H : (some (t103, t114, t115, t116)) = some (r1, r2, r3, r4) := H
 have A5 := zA A50
 clear A50
 simp only [Option.some.injEq, Prod.mk.injEq] at H
 obtain ⟨rfl, rfl, rfl, rfl⟩ := H
 go_enter Try.func82, Try.ntmps82
 go_wp2_with (first | ((with_reducible refine gate_dst (N := 2) rfl ?_); refine zbox (N := 2) (cs := #[.int .i64 0, .int .i64 0, .int .i64 0, .int .i64 0]) (t := 27) ?_; intro gb119 hg w6 hbox hb; have BK119 := zA (hbox); have GW119 := zA ((z151 : w.heap.size ≤ gb119)); have GE119 := zA ((z151 : w.heap.size ≤ gb119)); replace HB := zA (below_step z1 hb); clear hb hbox hg) | ((with_reducible refine gate_callee (f := 72) rfl ?_); refine goesL_ (some 5) rfl rfl Try.func72 (by kernel_rfl) rfl #[.slice A0 l0.length c0] rfl z3 ?_; (with_reducible refine (spec_l01From.calls k _ _ l0 t100 t104 t105 w _ ?side1 ?side2 ?side3 A2.out).mono ?_); (case side1 => exact (by repeat (first | (with_reducible first | exact HB.out | apply below_alloc | apply pw_below_drewN | apply below_drew1 | refine below_set ?_ GE119.out) | exact HB.out))); (case side2 => exact HR0.out); (case side3 => exact HC0.out); rintro e w7 ⟨g580, rfl, hi, hb, hb2⟩; refine ⟨_, rfl, ?_⟩; replace HB := zA (hb); have HI120 := zA (hi); have NB120_119 := zA (IsS93.ne_blk hi (blk_below (g := gb119) (o := .cells #[.int .i64 0, .int .i64 0, .int .i64 0, .int .i64 0] 27 (0, 0)) z128 hb2) (by decide)); have NB119_120 := zA (Ne.symm (IsS93.ne_blk hi (blk_below (g := gb119) (o := .cells #[.int .i64 0, .int .i64 0, .int .i64 0, .int .i64 0] 27 (0, 0)) z128 hb2) (by decide))); replace BK119 := zBB BK119 hb2; (try clear hb); (try clear hb2); (try clear hk); (try clear hi)) | ((with_reducible refine gate_dst (N := 9) rfl ?_); refine Kd.R_lit (Kd.int .i64) _ 2 ?hg (N := 9) ?hd (xs := ([5, 8, 12] : List Int)) (inner := [.int .i64 5, .int .i64 8, .int .i64 12]) (ok := fun _ => True) (okp := fun _ => True) ?hr ?hp (fun _ hk => hk) trivial (Below.refl _ _) (Nat.le_refl _) (by simp) ?_; (case hd => rfl); (case hg => rfl); (case hr => first | (go_simp; done) | (go_simp; rfl)); (case hp => exact (Reps.one (show Kd.M (Kd.int .i64) _ _ _ 5 [.int .i64 5] from rfl) (Reps.one (show Kd.M (Kd.int .i64) _ _ _ 8 [.int .i64 8] from rfl) (Reps.one (show Kd.M (Kd.int .i64) _ _ _ 12 [.int .i64 12] from rfl) (Reps.none _ _))))); intro v121 w8 ho9 hb hg_ hnew_; clear hg_ hnew_; (first | rw [← Ny106.out] at ho9 | (simp only [Int.reduceToNat] at ho9; rw [← Ny106.out] at ho9)); have HO122 := zA (Kd.R_lower ho9 (below_size z50)); replace BK119 := zBB BK119 hb; replace HB := zA (below_step z50 hb); replace HI120 := zA (IsS93.below z46 hb); clear hb ho9; obtain ⟨Ao10, co10, eo10⟩ := Kd.R_slice HO122.out; subst eo10) | ((with_reducible refine gate_callee (f := 76) rfl ?_); refine goesL_ (some 10) rfl rfl Try.func76 (by kernel_rfl) rfl #[.pointer (some ⟨g580, 0, none⟩), .slice Ao10 y106.length co10] rfl z3 ?_; (with_reducible refine (spec_l01Pick.calls g580 t100 t104 t105 _ _ y106 t101 t107 t108 w _ ?side1 ?side2 ?side3 ?side4 ?side5 A3.out).mono ?_); (case side1 => exact z46); (case side2 => exact z50); (case side3 => exact (by repeat (first | exact (Kd.R_reads' HO122.out).2.2 | (with_reducible refine Kd.C_alloc ?_ _) | (with_reducible refine Kd.C_drewN ?_ _) | (with_reducible refine Kd.C_drew ?_)))); (case side4 => exact (Kd.R_reads' HO122.out).2.1); (case side5 => exact far_slice (IsS93.own_ne HI120.out HO122.out (by decide))); rintro e w11 ⟨rfl, hi, hb, hk⟩; refine ⟨_, rfl, ?_⟩; replace BK119 := zKB BK119 hk NB119_120; replace HO122 := zA (Kd.R_mono (Kd.R_keep (IsS93.apart (show IsS93 w _ g580 t100 t104 t105 from z46) z120 (by decide)) hk (fun _ h => h.2)) (fun _ h => h.1)); replace HB := zA (hb); replace HI120 := zA (hi); (try clear hb); (try clear hb2); (try clear hk); (try clear hi)) | ((with_reducible refine gate_callee (f := 73) rfl ?_); refine goesL_ (some 11) rfl rfl Try.func73 (by kernel_rfl) rfl #[.pointer (some ⟨g580, 0, none⟩), .int .i64 t101] rfl z3 ?_; (with_reducible refine (spec_l08DrawOf.calls g580 t100 t107 t108 t101 t102 t109 t110 t111 t112 t113 w _ ?side1 ?side2 A4.out).mono ?_); (case side1 => exact z46); (case side2 => exact z50); rintro e w12 ⟨rfl, hi, hb, hk⟩; refine ⟨_, rfl, ?_⟩; replace BK119 := zKB BK119 hk NB119_120; replace HO122 := zA (Kd.R_mono (Kd.R_keep (IsS93.apart (show IsS93 w _ g580 t100 t107 t108 from z46) z120 (by decide)) hk (fun _ h => h.2)) (fun _ h => h.1)); replace HB := zA (hb); replace HI120 := zA (hi); (try clear hb); (try clear hb2); (try clear hk); (try clear hi)) | ((with_reducible refine gate_callee (f := 77) rfl ?_); refine goesL_ (some 12) rfl rfl Try.func77 (by kernel_rfl) rfl #[.pointer (some ⟨g580, 0, none⟩), .agg #[.int .i64 t102, .int .i64 t109, .int .i64 t110, .int .i64 t111]] rfl z3 ?_; (with_reducible refine (spec_l08Bad.calls g580 t100 t112 t113 t102 t109 t110 t111 t103 t114 t115 t116 t117 t118 w _ ?side1 ?side2 A5.out).mono ?_); (case side1 => exact z46); (case side2 => exact z50); rintro e w13 ⟨rfl, hi, hb, hk⟩; refine ⟨_, rfl, ?_⟩; replace BK119 := zKB BK119 hk NB119_120; replace HO122 := zA (Kd.R_mono (Kd.R_keep (IsS93.apart (show IsS93 w _ g580 t100 t112 t113 from z46) z120 (by decide)) hk (fun _ h => h.2)) (fun _ h => h.1)); replace HB := zA (hb); replace HI120 := zA (hi); (try clear hb); (try clear hb2); (try clear hk); (try clear hi); have hnb14 := NB119_120.out; have hnc14 := NB120_119.out; obtain ⟨hcz15_0, hcz15_1, hcz15_2, hcz15_3, hfz15_0, hfz15_1, hfz15_2, hfz15_3⟩ := zC4 BK119.out))
 refine bodyPost_ret (results_cell_row rfl _ _ gb119 27 #[.int .i64 t103, .int .i64 t114, .int .i64 t115, .int .i64 t116] (0, 0) _ rfl (by (with_reducible repeat (first | refine blk_drewN ?_ _ | refine blk_drew ?_ | refine blk_alloc ?_ _)); refine blk_put (cs := #[.int .i64 t103, .int .i64 t114, .int .i64 t115, .int .i64 0]) ?_ 3 _ rfl; (with_reducible repeat (first | refine blk_drewN ?_ _ | refine blk_drew ?_ | refine blk_alloc ?_ _)); refine blk_put (cs := #[.int .i64 t103, .int .i64 t114, .int .i64 0, .int .i64 0]) ?_ 2 _ rfl; (with_reducible repeat (first | refine blk_drewN ?_ _ | refine blk_drew ?_ | refine blk_alloc ?_ _)); refine blk_put (cs := #[.int .i64 t103, .int .i64 0, .int .i64 0, .int .i64 0]) ?_ 1 _ rfl; (with_reducible repeat (first | refine blk_drewN ?_ _ | refine blk_drew ?_ | refine blk_alloc ?_ _)); refine blk_put (cs := #[.int .i64 0, .int .i64 0, .int .i64 0, .int .i64 0]) ?_ 0 _ rfl; (with_reducible repeat (first | refine blk_drewN ?_ _ | refine blk_drew ?_ | refine blk_alloc ?_ _)); exact BK119.out) Try.underlying27 rfl (by kernel_rfl)) rfl ?_
 exact ⟨z8, z50⟩

def spec_DrawLeastTickets.f (k : Nat) (l0 : List Int) : Option (Int × Int × Int × Int) := (spec_l01From.f k l0).bind fun bt100 => ((spec_l01Next.f bt100.1 bt100.2.1 bt100.2.2 6).bind fun bt101 => (if bt101.1 = 0 then ((spec_l08Draw.f k l0).bind fun bt102 => (some (bt102.1, bt102.2.1, bt102.2.2.1, bt102.2.2.2))) else ((spec_l01Pick.f bt100.1 bt101.2.1 bt101.2.2 (([4, 5, 6, 7] : List Int))).bind fun bt103 => ((spec_l08DrawOf.f bt100.1 bt103.2.1 bt103.2.2 bt103.1).bind fun bt104 => ((spec_l08Bad.f bt100.1 bt104.2.2.2.2.1 bt104.2.2.2.2.2 bt104.1 bt104.2.1 bt104.2.2.1 bt104.2.2.2.1).bind fun bt105 => (some (bt105.1, bt105.2.1, bt105.2.2.1, bt105.2.2.2.1)))))))
set_option maxHeartbeats 8000000 in
set_option maxRecDepth 100000 in
theorem spec_DrawLeastTickets.calls (k : Nat) (A0 : Option Addr) (c0 : Nat) (l0 : List Int) (r1 : Int) (r2 : Int) (r3 : Int) (r4 : Int) (w : World) (hr0 : Kd.C (Kd.int .u8) w A0 l0.length l0) (hc0 : l0.length ≤ c0) (h : spec_DrawLeastTickets.f k l0 = some (r1, r2, r3, r4)) :
  Calls Try.prog 54 #[.slice A0 l0.length c0] w fun e w' => e = .returned (.agg #[.int .i64 r1, .int .i64 r2, .int .i64 r3, .int .i64 r4]) ∧ Below w.heap.size w w' := by
 have hu27 := Try.underlying27
 have HR0 := zA hr0
 have HC0 := zA hc0
 clear hr0 hc0
 have HB := zA (Below.refl w.heap.size w)
 have H := h
 unfold spec_DrawLeastTickets.f at H
 (try dsimp -simprocs only at H)
 clear h
 replace H := zi H
 obtain ⟨⟨t100, t106, t107⟩, A20, H⟩ := H
 (try dsimp -simprocs only at H)
 have A2 := zA A20
 clear A20
 replace H := zi H
 obtain ⟨⟨t101, t108, t109⟩, A30, H⟩ := H
 (try dsimp -simprocs only at H)
 have A3 := zA A30
 clear A30
 by_cases c4 : t101 = 0
 ·rw [if_pos c4] at H
  have c4b0 : (t101 == 0) = true := beq_iff_eq.mpr c4
  have c4b1 : (t101 != 0) = false := bne_eq_false_iff_eq.mpr c4
  clear c4
  replace H := zi H
  obtain ⟨⟨t102, t110, t111, t112⟩, A50, H⟩ := H
  replace H : (some (t102, t110, t111, t112)) = some (r1, r2, r3, r4) := H
  have A5 := zA A50
  clear A50
  simp only [Option.some.injEq, Prod.mk.injEq] at H
  obtain ⟨rfl, rfl, rfl, rfl⟩ := H
  go_enter Try.func54, Try.ntmps54
  go_wp2_with (first | ((with_reducible refine gate_dst (N := 2) rfl ?_); refine zbox (N := 2) (cs := #[.int .i64 0, .int .i64 0, .int .i64 0, .int .i64 0]) (t := 27) ?_; intro gb113 hg w6 hbox hb; have BK113 := zA (hbox); have GW113 := zA ((z151 : w.heap.size ≤ gb113)); have GE113 := zA ((z151 : w.heap.size ≤ gb113)); replace HB := zA (below_step z1 hb); clear hb hbox hg) | ((with_reducible refine gate_callee (f := 72) rfl ?_); refine goesL_ (some 5) rfl rfl Try.func72 (by kernel_rfl) rfl #[.slice A0 l0.length c0] rfl z3 ?_; (with_reducible refine (spec_l01From.calls k _ _ l0 t100 t106 t107 w _ ?side1 ?side2 ?side3 A2.out).mono ?_); (case side1 => exact z112); (case side2 => exact HR0.out); (case side3 => exact HC0.out); rintro e w7 ⟨g603, rfl, hi, hb, hb2⟩; refine ⟨_, rfl, ?_⟩; replace HB := zA (hb); have HI114 := zA (hi); have NB114_113 := zA (IsS93.ne_blk hi (blk_below (g := gb113) (o := .cells #[.int .i64 0, .int .i64 0, .int .i64 0, .int .i64 0] 27 (0, 0)) z89 hb2) (by decide)); have NB113_114 := zA (Ne.symm (IsS93.ne_blk hi (blk_below (g := gb113) (o := .cells #[.int .i64 0, .int .i64 0, .int .i64 0, .int .i64 0] 27 (0, 0)) z89 hb2) (by decide))); replace BK113 := zBB BK113 hb2; (try clear hb); (try clear hb2); (try clear hk); (try clear hi)) | ((with_reducible refine gate_callee (f := 75) rfl ?_); refine goesL_ (some 7) rfl rfl Try.func75 (by kernel_rfl) rfl #[.pointer (some ⟨g603, 0, none⟩), .int .i64 6] rfl z3 ?_; (with_reducible refine (spec_l01Next.calls g603 t100 t106 t107 6 t101 t108 t109 w _ ?side1 ?side2 A3.out).mono ?_); (case side1 => exact z38); (case side2 => exact z40); rintro e w8 ⟨rfl, hi, hb, hk⟩; refine ⟨_, rfl, ?_⟩; replace BK113 := zKB BK113 hk NB113_114; replace HB := zA (hb); replace HI114 := zA (hi); (try clear hb); (try clear hb2); (try clear hk); (try clear hi)) | ((with_reducible refine gate_callee (f := 82) rfl ?_); refine goesL_ (some 10) rfl rfl Try.func82 (by kernel_rfl) rfl #[.slice A0 l0.length c0] rfl z3 ?_; (with_reducible refine (spec_l08Draw.calls k _ _ l0 t102 t110 t111 t112 _ ?side1 ?side2 A5.out).mono ?_); (case side1 => exact z83); (case side2 => exact HC0.out); rintro e w9 ⟨rfl, hb⟩; refine ⟨_, rfl, ?_⟩; replace BK113 := zBB BK113 hb; replace HB := zA (below_step z40 hb); replace HI114 := zA (IsS93.below z38 hb); (try clear hb); (try clear hb2); (try clear hk); (try clear hi); have hnb10 := NB113_114.out; have hnc10 := NB114_113.out; obtain ⟨hcz11_0, hcz11_1, hcz11_2, hcz11_3, hfz11_0, hfz11_1, hfz11_2, hfz11_3⟩ := zC4 BK113.out))
  refine bodyPost_ret (results_cell_row rfl _ _ gb113 27 #[.int .i64 t102, .int .i64 t110, .int .i64 t111, .int .i64 t112] (0, 0) _ rfl (by (with_reducible repeat (first | refine blk_drewN ?_ _ | refine blk_drew ?_ | refine blk_alloc ?_ _)); refine blk_put (cs := #[.int .i64 t102, .int .i64 t110, .int .i64 t111, .int .i64 0]) ?_ 3 _ rfl; (with_reducible repeat (first | refine blk_drewN ?_ _ | refine blk_drew ?_ | refine blk_alloc ?_ _)); refine blk_put (cs := #[.int .i64 t102, .int .i64 t110, .int .i64 0, .int .i64 0]) ?_ 2 _ rfl; (with_reducible repeat (first | refine blk_drewN ?_ _ | refine blk_drew ?_ | refine blk_alloc ?_ _)); refine blk_put (cs := #[.int .i64 t102, .int .i64 0, .int .i64 0, .int .i64 0]) ?_ 1 _ rfl; (with_reducible repeat (first | refine blk_drewN ?_ _ | refine blk_drew ?_ | refine blk_alloc ?_ _)); refine blk_put (cs := #[.int .i64 0, .int .i64 0, .int .i64 0, .int .i64 0]) ?_ 0 _ rfl; (with_reducible repeat (first | refine blk_drewN ?_ _ | refine blk_drew ?_ | refine blk_alloc ?_ _)); exact BK113.out) Try.underlying27 rfl (by kernel_rfl)) rfl ?_
  exact ⟨z8, z40⟩
 ·rw [if_neg c4] at H
  have c4b0 : (t101 == 0) = false := beq_eq_false_iff_ne.mpr c4
  have c4b1 : (t101 != 0) = true := bne_iff_ne.mpr c4
  obtain ⟨y115, hy115⟩ : ∃ y_ : List Int, y_ = (([4, 5, 6, 7] : List Int)) := ⟨_, rfl⟩
  replace H : ((spec_l01Pick.f t100 t108 t109 y115).bind fun bt103 => ((spec_l08DrawOf.f t100 bt103.2.1 bt103.2.2 bt103.1).bind fun bt104 => ((spec_l08Bad.f t100 bt104.2.2.2.2.1 bt104.2.2.2.2.2 bt104.1 bt104.2.1 bt104.2.2.1 bt104.2.2.2.1).bind fun bt105 => (some (bt105.1, bt105.2.1, bt105.2.2.1, bt105.2.2.2.1))))) = some (r1, r2, r3, r4) := by first | (rw [hy115]; with_reducible exact H) | (have H2_ := (Option.bind_some _ _).symm.trans H; rw [hy115]; with_reducible exact H2_) | (have H2_ := (Option.bind_some _ _).symm.trans H; with_reducible exact H2_) | with_reducible exact H | (rw [hy115]; exact H) | exact H
  have Ny115 := zA hy115
  clear hy115
  replace H := zi H
  obtain ⟨⟨t103, t116, t117⟩, A120, H⟩ := H
  (try dsimp -simprocs only at H)
  have A12 := zA A120
  clear A120
  replace H := zi H
  obtain ⟨⟨t104, t118, t119, t120, t121, t122⟩, A130, H⟩ := H
  (try dsimp -simprocs only at H)
  have A13 := zA A130
  clear A130
  replace H := zi H
  obtain ⟨⟨t105, t123, t124, t125, t126, t127⟩, A140, H⟩ := H
  replace H : (some (t105, t123, t124, t125)) = some (r1, r2, r3, r4) := H
  have A14 := zA A140
  clear A140
  simp only [Option.some.injEq, Prod.mk.injEq] at H
  obtain ⟨rfl, rfl, rfl, rfl⟩ := H
  go_enter Try.func54, Try.ntmps54
  go_wp2_with (first | ((with_reducible refine gate_dst (N := 2) rfl ?_); refine zbox (N := 2) (cs := #[.int .i64 0, .int .i64 0, .int .i64 0, .int .i64 0]) (t := 27) ?_; intro gb113 hg w15 hbox hb; have BK113 := zA (hbox); have GW113 := zA ((z151 : w.heap.size ≤ gb113)); have GE113 := zA ((z151 : w.heap.size ≤ gb113)); replace HB := zA (below_step z1 hb); clear hb hbox hg) | ((with_reducible refine gate_callee (f := 72) rfl ?_); refine goesL_ (some 5) rfl rfl Try.func72 (by kernel_rfl) rfl #[.slice A0 l0.length c0] rfl z3 ?_; (with_reducible refine (spec_l01From.calls k _ _ l0 t100 t106 t107 w _ ?side1 ?side2 ?side3 A2.out).mono ?_); (case side1 => exact z112); (case side2 => exact HR0.out); (case side3 => exact HC0.out); rintro e w16 ⟨g603, rfl, hi, hb, hb2⟩; refine ⟨_, rfl, ?_⟩; replace HB := zA (hb); have HI114 := zA (hi); have NB114_113 := zA (IsS93.ne_blk hi (blk_below (g := gb113) (o := .cells #[.int .i64 0, .int .i64 0, .int .i64 0, .int .i64 0] 27 (0, 0)) z89 hb2) (by decide)); have NB113_114 := zA (Ne.symm (IsS93.ne_blk hi (blk_below (g := gb113) (o := .cells #[.int .i64 0, .int .i64 0, .int .i64 0, .int .i64 0] 27 (0, 0)) z89 hb2) (by decide))); replace BK113 := zBB BK113 hb2; (try clear hb); (try clear hb2); (try clear hk); (try clear hi)) | ((with_reducible refine gate_callee (f := 75) rfl ?_); refine goesL_ (some 7) rfl rfl Try.func75 (by kernel_rfl) rfl #[.pointer (some ⟨g603, 0, none⟩), .int .i64 6] rfl z3 ?_; (with_reducible refine (spec_l01Next.calls g603 t100 t106 t107 6 t101 t108 t109 w _ ?side1 ?side2 A3.out).mono ?_); (case side1 => exact z38); (case side2 => exact z40); rintro e w17 ⟨rfl, hi, hb, hk⟩; refine ⟨_, rfl, ?_⟩; replace BK113 := zKB BK113 hk NB113_114; replace HB := zA (hb); replace HI114 := zA (hi); (try clear hb); (try clear hb2); (try clear hk); (try clear hi)) | ((with_reducible refine gate_dst (N := 14) rfl ?_); refine Kd.R_lit (Kd.int .i64) _ 2 ?hg (N := 14) ?hd (xs := ([4, 5, 6, 7] : List Int)) (inner := [.int .i64 4, .int .i64 5, .int .i64 6, .int .i64 7]) (ok := fun _ => True) (okp := fun _ => True) ?hr ?hp (fun _ hk => hk) trivial (Below.refl _ _) (Nat.le_refl _) (by simp) ?_; (case hd => rfl); (case hg => rfl); (case hr => first | (go_simp; done) | (go_simp; rfl)); (case hp => exact (Reps.one (show Kd.M (Kd.int .i64) _ _ _ 4 [.int .i64 4] from rfl) (Reps.one (show Kd.M (Kd.int .i64) _ _ _ 5 [.int .i64 5] from rfl) (Reps.one (show Kd.M (Kd.int .i64) _ _ _ 6 [.int .i64 6] from rfl) (Reps.one (show Kd.M (Kd.int .i64) _ _ _ 7 [.int .i64 7] from rfl) (Reps.none _ _)))))); intro v128 w18 ho19 hb hg_ hnew_; clear hg_ hnew_; (first | rw [← Ny115.out] at ho19 | (simp only [Int.reduceToNat] at ho19; rw [← Ny115.out] at ho19)); have HO129 := zA (Kd.R_lower ho19 (below_size z40)); replace BK113 := zBB BK113 hb; replace HB := zA (below_step z40 hb); replace HI114 := zA (IsS93.below z38 hb); clear hb ho19; obtain ⟨Ao20, co20, eo20⟩ := Kd.R_slice HO129.out; subst eo20) | ((with_reducible refine gate_callee (f := 76) rfl ?_); refine goesL_ (some 15) rfl rfl Try.func76 (by kernel_rfl) rfl #[.pointer (some ⟨g603, 0, none⟩), .slice Ao20 y115.length co20] rfl z3 ?_; (with_reducible refine (spec_l01Pick.calls g603 t100 t108 t109 _ _ y115 t103 t116 t117 w _ ?side1 ?side2 ?side3 ?side4 ?side5 A12.out).mono ?_); (case side1 => exact z38); (case side2 => exact z40); (case side3 => exact (by repeat (first | exact (Kd.R_reads' HO129.out).2.2 | (with_reducible refine Kd.C_alloc ?_ _) | (with_reducible refine Kd.C_drewN ?_ _) | (with_reducible refine Kd.C_drew ?_)))); (case side4 => exact (Kd.R_reads' HO129.out).2.1); (case side5 => exact far_slice (IsS93.own_ne HI114.out HO129.out (by decide))); rintro e w21 ⟨rfl, hi, hb, hk⟩; refine ⟨_, rfl, ?_⟩; replace BK113 := zKB BK113 hk NB113_114; replace HO129 := zA (Kd.R_mono (Kd.R_keep (IsS93.apart (show IsS93 w _ g603 t100 t108 t109 from z38) z121 (by decide)) hk (fun _ h => h.2)) (fun _ h => h.1)); replace HB := zA (hb); replace HI114 := zA (hi); (try clear hb); (try clear hb2); (try clear hk); (try clear hi)) | ((with_reducible refine gate_callee (f := 73) rfl ?_); refine goesL_ (some 16) rfl rfl Try.func73 (by kernel_rfl) rfl #[.pointer (some ⟨g603, 0, none⟩), .int .i64 t103] rfl z3 ?_; (with_reducible refine (spec_l08DrawOf.calls g603 t100 t116 t117 t103 t104 t118 t119 t120 t121 t122 w _ ?side1 ?side2 A13.out).mono ?_); (case side1 => exact z38); (case side2 => exact z40); rintro e w22 ⟨rfl, hi, hb, hk⟩; refine ⟨_, rfl, ?_⟩; replace BK113 := zKB BK113 hk NB113_114; replace HO129 := zA (Kd.R_mono (Kd.R_keep (IsS93.apart (show IsS93 w _ g603 t100 t116 t117 from z38) z121 (by decide)) hk (fun _ h => h.2)) (fun _ h => h.1)); replace HB := zA (hb); replace HI114 := zA (hi); (try clear hb); (try clear hb2); (try clear hk); (try clear hi)) | ((with_reducible refine gate_callee (f := 77) rfl ?_); refine goesL_ (some 17) rfl rfl Try.func77 (by kernel_rfl) rfl #[.pointer (some ⟨g603, 0, none⟩), .agg #[.int .i64 t104, .int .i64 t118, .int .i64 t119, .int .i64 t120]] rfl z3 ?_; (with_reducible refine (spec_l08Bad.calls g603 t100 t121 t122 t104 t118 t119 t120 t105 t123 t124 t125 t126 t127 w _ ?side1 ?side2 A14.out).mono ?_); (case side1 => exact z38); (case side2 => exact z40); rintro e w23 ⟨rfl, hi, hb, hk⟩; refine ⟨_, rfl, ?_⟩; replace BK113 := zKB BK113 hk NB113_114; replace HO129 := zA (Kd.R_mono (Kd.R_keep (IsS93.apart (show IsS93 w _ g603 t100 t121 t122 from z38) z121 (by decide)) hk (fun _ h => h.2)) (fun _ h => h.1)); replace HB := zA (hb); replace HI114 := zA (hi); (try clear hb); (try clear hb2); (try clear hk); (try clear hi); have hnb24 := NB113_114.out; have hnc24 := NB114_113.out; obtain ⟨hcz25_0, hcz25_1, hcz25_2, hcz25_3, hfz25_0, hfz25_1, hfz25_2, hfz25_3⟩ := zC4 BK113.out))
  refine bodyPost_ret (results_cell_row rfl _ _ gb113 27 #[.int .i64 t105, .int .i64 t123, .int .i64 t124, .int .i64 t125] (0, 0) _ rfl (by (with_reducible repeat (first | refine blk_drewN ?_ _ | refine blk_drew ?_ | refine blk_alloc ?_ _)); refine blk_put (cs := #[.int .i64 t105, .int .i64 t123, .int .i64 t124, .int .i64 0]) ?_ 3 _ rfl; (with_reducible repeat (first | refine blk_drewN ?_ _ | refine blk_drew ?_ | refine blk_alloc ?_ _)); refine blk_put (cs := #[.int .i64 t105, .int .i64 t123, .int .i64 0, .int .i64 0]) ?_ 2 _ rfl; (with_reducible repeat (first | refine blk_drewN ?_ _ | refine blk_drew ?_ | refine blk_alloc ?_ _)); refine blk_put (cs := #[.int .i64 t105, .int .i64 0, .int .i64 0, .int .i64 0]) ?_ 1 _ rfl; (with_reducible repeat (first | refine blk_drewN ?_ _ | refine blk_drew ?_ | refine blk_alloc ?_ _)); refine blk_put (cs := #[.int .i64 0, .int .i64 0, .int .i64 0, .int .i64 0]) ?_ 0 _ rfl; (with_reducible repeat (first | refine blk_drewN ?_ _ | refine blk_drew ?_ | refine blk_alloc ?_ _)); exact BK113.out) Try.underlying27 rfl (by kernel_rfl)) rfl ?_
  exact ⟨z8, z40⟩

def spec_DrawGreedyTickets.f (k : Nat) (l0 : List Int) : Option (Int × Int × Int × Int) := (spec_l01From.f k l0).bind fun bt100 => ((spec_l08DrawOf.f bt100.1 bt100.2.1 bt100.2.2 8).bind fun bt101 => ((spec_l08Bad.f bt100.1 bt101.2.2.2.2.1 bt101.2.2.2.2.2 bt101.1 bt101.2.1 bt101.2.2.1 bt101.2.2.2.1).bind fun bt102 => (some (bt102.1, bt102.2.1, bt102.2.2.1, bt102.2.2.2.1))))
set_option maxHeartbeats 8000000 in
set_option maxRecDepth 100000 in
theorem spec_DrawGreedyTickets.calls (k : Nat) (A0 : Option Addr) (c0 : Nat) (l0 : List Int) (r1 : Int) (r2 : Int) (r3 : Int) (r4 : Int) (w : World) (hr0 : Kd.C (Kd.int .u8) w A0 l0.length l0) (hc0 : l0.length ≤ c0) (h : spec_DrawGreedyTickets.f k l0 = some (r1, r2, r3, r4)) :
  Calls Try.prog 55 #[.slice A0 l0.length c0] w fun e w' => e = .returned (.agg #[.int .i64 r1, .int .i64 r2, .int .i64 r3, .int .i64 r4]) ∧ Below w.heap.size w w' := by
 have hu27 := Try.underlying27
 have HR0 := zA hr0
 have HC0 := zA hc0
 clear hr0 hc0
 have HB := zA (Below.refl w.heap.size w)
 have H := h
 unfold spec_DrawGreedyTickets.f at H
 (try dsimp -simprocs only at H)
 clear h
 replace H := zi H
 obtain ⟨⟨t100, t103, t104⟩, A20, H⟩ := H
 (try dsimp -simprocs only at H)
 have A2 := zA A20
 clear A20
 replace H := zi H
 obtain ⟨⟨t101, t105, t106, t107, t108, t109⟩, A30, H⟩ := H
 (try dsimp -simprocs only at H)
 have A3 := zA A30
 clear A30
 replace H := zi H
 obtain ⟨⟨t102, t110, t111, t112, t113, t114⟩, A40, H⟩ := H
 replace H : (some (t102, t110, t111, t112)) = some (r1, r2, r3, r4) := H
 have A4 := zA A40
 clear A40
 simp only [Option.some.injEq, Prod.mk.injEq] at H
 obtain ⟨rfl, rfl, rfl, rfl⟩ := H
 go_enter Try.func55, Try.ntmps55
 go_wp2_with (first | ((with_reducible refine gate_dst (N := 2) rfl ?_); refine zbox (N := 2) (cs := #[.int .i64 0, .int .i64 0, .int .i64 0, .int .i64 0]) (t := 27) ?_; intro gb115 hg w5 hbox hb; have BK115 := zA (hbox); have GW115 := zA ((z151 : w.heap.size ≤ gb115)); have GE115 := zA ((z151 : w.heap.size ≤ gb115)); replace HB := zA (below_step z1 hb); clear hb hbox hg) | ((with_reducible refine gate_callee (f := 72) rfl ?_); refine goesL_ (some 5) rfl rfl Try.func72 (by kernel_rfl) rfl #[.slice A0 l0.length c0] rfl z3 ?_; (with_reducible refine (spec_l01From.calls k _ _ l0 t100 t103 t104 w _ ?side1 ?side2 ?side3 A2.out).mono ?_); (case side1 => exact (by repeat (first | (with_reducible first | exact HB.out | apply below_alloc | apply pw_below_drewN | apply below_drew1 | refine below_set ?_ GE115.out) | exact HB.out))); (case side2 => exact HR0.out); (case side3 => exact HC0.out); rintro e w6 ⟨g633, rfl, hi, hb, hb2⟩; refine ⟨_, rfl, ?_⟩; replace HB := zA (hb); have HI116 := zA (hi); have NB116_115 := zA (IsS93.ne_blk hi (blk_below (g := gb115) (o := .cells #[.int .i64 0, .int .i64 0, .int .i64 0, .int .i64 0] 27 (0, 0)) z129 hb2) (by decide)); have NB115_116 := zA (Ne.symm (IsS93.ne_blk hi (blk_below (g := gb115) (o := .cells #[.int .i64 0, .int .i64 0, .int .i64 0, .int .i64 0] 27 (0, 0)) z129 hb2) (by decide))); replace BK115 := zBB BK115 hb2; (try clear hb); (try clear hb2); (try clear hk); (try clear hi)) | ((with_reducible refine gate_callee (f := 73) rfl ?_); refine goesL_ (some 8) rfl rfl Try.func73 (by kernel_rfl) rfl #[.pointer (some ⟨g633, 0, none⟩), .int .i64 8] rfl z3 ?_; (with_reducible refine (spec_l08DrawOf.calls g633 t100 t103 t104 8 t101 t105 t106 t107 t108 t109 w _ ?side1 ?side2 A3.out).mono ?_); (case side1 => exact z101); (case side2 => exact z75); rintro e w7 ⟨rfl, hi, hb, hk⟩; refine ⟨_, rfl, ?_⟩; replace BK115 := zKB BK115 hk NB115_116; replace HB := zA (hb); replace HI116 := zA (hi); (try clear hb); (try clear hb2); (try clear hk); (try clear hi)) | ((with_reducible refine gate_callee (f := 77) rfl ?_); refine goesL_ (some 9) rfl rfl Try.func77 (by kernel_rfl) rfl #[.pointer (some ⟨g633, 0, none⟩), .agg #[.int .i64 t101, .int .i64 t105, .int .i64 t106, .int .i64 t107]] rfl z3 ?_; (with_reducible refine (spec_l08Bad.calls g633 t100 t108 t109 t101 t105 t106 t107 t102 t110 t111 t112 t113 t114 w _ ?side1 ?side2 A4.out).mono ?_); (case side1 => exact z101); (case side2 => exact z75); rintro e w8 ⟨rfl, hi, hb, hk⟩; refine ⟨_, rfl, ?_⟩; replace BK115 := zKB BK115 hk NB115_116; replace HB := zA (hb); replace HI116 := zA (hi); (try clear hb); (try clear hb2); (try clear hk); (try clear hi); have hnb9 := NB115_116.out; have hnc9 := NB116_115.out; obtain ⟨hcz10_0, hcz10_1, hcz10_2, hcz10_3, hfz10_0, hfz10_1, hfz10_2, hfz10_3⟩ := zC4 BK115.out))
 refine bodyPost_ret (results_cell_row rfl _ _ gb115 27 #[.int .i64 t102, .int .i64 t110, .int .i64 t111, .int .i64 t112] (0, 0) _ rfl (by (with_reducible repeat (first | refine blk_drewN ?_ _ | refine blk_drew ?_ | refine blk_alloc ?_ _)); refine blk_put (cs := #[.int .i64 t102, .int .i64 t110, .int .i64 t111, .int .i64 0]) ?_ 3 _ rfl; (with_reducible repeat (first | refine blk_drewN ?_ _ | refine blk_drew ?_ | refine blk_alloc ?_ _)); refine blk_put (cs := #[.int .i64 t102, .int .i64 t110, .int .i64 0, .int .i64 0]) ?_ 2 _ rfl; (with_reducible repeat (first | refine blk_drewN ?_ _ | refine blk_drew ?_ | refine blk_alloc ?_ _)); refine blk_put (cs := #[.int .i64 t102, .int .i64 0, .int .i64 0, .int .i64 0]) ?_ 1 _ rfl; (with_reducible repeat (first | refine blk_drewN ?_ _ | refine blk_drew ?_ | refine blk_alloc ?_ _)); refine blk_put (cs := #[.int .i64 0, .int .i64 0, .int .i64 0, .int .i64 0]) ?_ 0 _ rfl; (with_reducible repeat (first | refine blk_drewN ?_ _ | refine blk_drew ?_ | refine blk_alloc ?_ _)); exact BK115.out) Try.underlying27 rfl (by kernel_rfl)) rfl ?_
 exact ⟨z8, z75⟩

def laws_sum.l0 : Nat → List Int → Int → Int → Option (Int)
 | 0, _, _, _ => none
 | k + 1, x0, x3, x4 => if x4 < (x0.length : Int) then (if 0 ≤ x4 then (laws_sum.l0 k x0 (wrap64 (x3 + (rd x0 x4))) (wrap64 (x4 + 1))) else (none)) else (some x3)
def laws_sum.f (k : Nat) (l0 : List Int) : Option (Int) := laws_sum.l0 k l0 0 0
set_option maxHeartbeats 8000000 in
set_option maxRecDepth 100000 in
theorem laws_sum.calls (k : Nat) (A0 : Option Addr) (c0 : Nat) (l0 : List Int) (r : Int) (w : World) (hr0 : Kd.C (Kd.int .i64) w A0 l0.length l0) (hc0 : l0.length ≤ c0) (h : laws_sum.f k l0 = some r) :
  Calls Try.prog 56 #[.slice A0 l0.length c0] w fun e w' => e = .returned (.int .i64 r) ∧ Drawn0 w w' := by
 have HR0 := zA hr0
 have HC0 := zA hc0
 clear hr0 hc0
 have H : (laws_sum.l0 k l0 0 0) = some r := h
 clear h
 have H' := zA H
 clear H
 go_enter Try.func56, Try.ntmps56
 go_wp2
 go_loopg [3, 4] k (fun kq v3 v4 w' => ∃ (x3_1 : Int) (x4_1 : Int), v3 = .int .i64 x3_1 ∧ v4 = .int .i64 x4_1 ∧ Aside0 (laws_sum.l0 kq l0 x3_1 x4_1 = some r) ∧ Aside0 (kq ≤ k) ∧ Drawn0 w w')
 case atStart => exact ⟨(0), (0), z11, z11, H', ⟨Nat.le_refl _⟩, z45⟩
 case round =>
  clear H'
  obtain ⟨x3_1, x4_1, rfl, rfl, HA, HK1, ⟨m1, rfl⟩⟩ := hrel
  cases gk with
  | zero => exact absurd HA.out (by simp [laws_sum.l0])
  | succ k1 =>
   have H := HA.out
   clear HA
   simp only [laws_sum.l0] at H
   by_cases c2 : x4_1 < (l0.length : Int)
   ·rw [if_pos c2] at H
    have c2b0 : decide (x4_1 < (l0.length : Int)) = true := decide_eq_true c2
    clear c2
    by_cases c3 : 0 ≤ x4_1
    ·rw [if_pos c3] at H
     have c3b0 : decide (0 ≤ x4_1) = true := decide_eq_true c3
     clear c3
     have H' := zA H
     clear H
     have p646 : 0 ≤ (x4_1 : Int) := of_decide_eq_true z7
     have q646 : x4_1 < (l0.length : Int) := of_decide_eq_true z7
     obtain ⟨ad646, e646, hx646_0⟩ := Kd.at_int HR0.out x4_1 p646 q646
     cases e646
     replace p646 := eq_true p646
     replace q646 := eq_true q646
     go_wp2
     go_roundg k1
     case measure => have := HK1.out; omega
     case rel => exact ⟨(wrap64 (x3_1 + (rd l0 x4_1))), (wrap64 (x4_1 + 1)), z11, z11, H', ⟨z73⟩, z45⟩
    ·rw [if_neg c3] at H
     exact absurd H (by simp)
   ·rw [if_neg c2] at H
    have c2b0 : decide (x4_1 < (l0.length : Int)) = false := decide_eq_false c2
    clear c2
    obtain rfl := Option.some.inj H
    go_wp2
    go_ret
    exact ⟨z11, z45⟩

def laws_hasInt.l0 : Nat → List Int → Int → Int → Option (Bool)
 | 0, _, _, _ => none
 | k + 1, x0, x1, x5 => if x5 < (x0.length : Int) then (if 0 ≤ x5 then (if (rd x0 x5) = x1 then (some true) else (laws_hasInt.l0 k x0 x1 (wrap64 (x5 + 1)))) else (none)) else (some false)
def laws_hasInt.f (k : Nat) (l0 : List Int) (a1 : Int) : Option (Bool) := laws_hasInt.l0 k l0 a1 0
set_option maxHeartbeats 8000000 in
set_option maxRecDepth 100000 in
theorem laws_hasInt.calls (k : Nat) (A0 : Option Addr) (c0 : Nat) (l0 : List Int) (a1 : Int) (r : Bool) (w : World) (hr0 : Kd.C (Kd.int .i64) w A0 l0.length l0) (hc0 : l0.length ≤ c0) (h : laws_hasInt.f k l0 a1 = some r) :
  Calls Try.prog 57 #[.slice A0 l0.length c0, .int .i64 a1] w fun e w' => e = .returned (.bool r) ∧ Drawn0 w w' := by
 have HR0 := zA hr0
 have HC0 := zA hc0
 clear hr0 hc0
 have H : (laws_hasInt.l0 k l0 a1 0) = some r := h
 clear h
 have H' := zA H
 clear H
 go_enter Try.func57, Try.ntmps57
 go_wp2
 go_loopg [5] k (fun kq v5 w' => ∃ (x5_1 : Int), v5 = .int .i64 x5_1 ∧ Aside0 (laws_hasInt.l0 kq l0 a1 x5_1 = some r) ∧ Aside0 (kq ≤ k) ∧ Drawn0 w w')
 case atStart => exact ⟨(0), z11, H', ⟨Nat.le_refl _⟩, z45⟩
 case round =>
  clear H'
  try clear p2
  obtain ⟨x5_1, rfl, HA, HK1, ⟨m1, rfl⟩⟩ := hrel
  cases gk with
  | zero => exact absurd HA.out (by simp [laws_hasInt.l0])
  | succ k1 =>
   have H := HA.out
   clear HA
   simp only [laws_hasInt.l0] at H
   by_cases c3 : x5_1 < (l0.length : Int)
   ·rw [if_pos c3] at H
    have c3b0 : decide (x5_1 < (l0.length : Int)) = true := decide_eq_true c3
    clear c3
    by_cases c4 : 0 ≤ x5_1
    ·rw [if_pos c4] at H
     have c4b0 : decide (0 ≤ x5_1) = true := decide_eq_true c4
     clear c4
     by_cases c5 : (rd l0 x5_1) = a1
     ·rw [if_pos c5] at H
      have c5b0 : ((rd l0 x5_1) == a1) = true := beq_iff_eq.mpr c5
      have c5b1 : ((rd l0 x5_1) != a1) = false := bne_eq_false_iff_eq.mpr c5
      clear c5
      obtain rfl := Option.some.inj H
      have p647 : 0 ≤ (x5_1 : Int) := of_decide_eq_true z7
      have q647 : x5_1 < (l0.length : Int) := of_decide_eq_true z7
      obtain ⟨ad647, e647, hx647_0⟩ := Kd.at_int HR0.out x5_1 p647 q647
      cases e647
      replace p647 := eq_true p647
      replace q647 := eq_true q647
      go_wp2
      go_ret
      exact ⟨z11, z45⟩
     ·rw [if_neg c5] at H
      have c5b0 : ((rd l0 x5_1) == a1) = false := beq_eq_false_iff_ne.mpr c5
      have c5b1 : ((rd l0 x5_1) != a1) = true := bne_iff_ne.mpr c5
      have H' := zA H
      clear H
      have p647 : 0 ≤ (x5_1 : Int) := of_decide_eq_true z7
      have q647 : x5_1 < (l0.length : Int) := of_decide_eq_true z7
      obtain ⟨ad647, e647, hx647_0⟩ := Kd.at_int HR0.out x5_1 p647 q647
      cases e647
      replace p647 := eq_true p647
      replace q647 := eq_true q647
      go_wp2
      go_roundg k1
      case measure => have := HK1.out; omega
      case rel => exact ⟨(wrap64 (x5_1 + 1)), z11, H', ⟨z73⟩, z45⟩
    ·rw [if_neg c4] at H
     exact absurd H (by simp)
   ·rw [if_neg c3] at H
    have c3b0 : decide (x5_1 < (l0.length : Int)) = false := decide_eq_false c3
    clear c3
    obtain rfl := Option.some.inj H
    go_wp2
    go_ret
    exact ⟨z11, z45⟩

end Go.Proofs.Ytchlbkcladfloaa.PFnGuarantees
