-- WALKS, by a program and by hand
import Derived.Test.YtchlbkcladfloaaPFnGuaranteesx0
import Derived.Test.YtchlbkcladfloaaPFnGuaranteesx1
import Derived.Test.YtchlbkcladfloaaPFnGuaranteesx13
namespace Go.Proofs.Ytchlbkcladfloaa.PFnGuarantees
open Go.RowKit Go.Proofs.Ytchlbkcladfloaa.DG Go.Proofs.YtchlbkcladfloaaW.PrintWords Go.Proofs.YtchlbkcladfloaaW.PrintLast Go.Proofs.YtchlbkcladfloaaW.PrintMore
attribute [local go_sem] max2_int min2_int max_two min_two max_three min_three max_four min_four   -- for this text's walks alone
set_option linter.unusedVariables false
set_option linter.unusedSimpArgs false

mutual
def spec_NeededTickets.l0 : Nat → List Int → List Int → List Bool → Int → Int → Int → Int → Int → Option (List Int × Int)
 | 0, _, _, _, _, _, _, _, _ => none
 | k + 1, x1, x7, x8, x9, x525000, x525001, x525002, x525003 => if x9 < (x7.length : Int) then (spec_NeededTickets.l1 k x1 x7 x8 x9 0 0 0 x525000 x525001 x525002 x525003) else (spec_NeededTickets.l2 k x1 x8 (([] : List Int)) 0)
def spec_NeededTickets.l1 : Nat → List Int → List Int → List Bool → Int → Int → Int → Int → Int → Int → Int → Int → Option (List Int × Int)
 | 0, _, _, _, _, _, _, _, _, _, _, _ => none
 | k + 1, x1, x7, x8, x9, x10, x11, x12, x525000, x525001, x525002, x525003 => if x12 < (x1.length : Int) then (spec_NeededTickets.j2 k x1 x7 x8 x9 x10 x11 x12 (decide (x10 < 2)) x525000 x525001 x525002 x525003) else (spec_NeededTickets.j2 k x1 x7 x8 x9 x10 x11 x12 false x525000 x525001 x525002 x525003)
def spec_NeededTickets.j2 : Nat → List Int → List Int → List Bool → Int → Int → Int → Int → Bool → Int → Int → Int → Int → Option (List Int × Int)
 | 0, _, _, _, _, _, _, _, _, _, _, _, _ => none
 | k + 1, x1, x7, x8, x9, x10, x11, x12, x41, x525000, x525001, x525002, x525003 => if x41 = true then (if 0 ≤ x12 then (if x12 < (x1.length : Int) then (if 0 ≤ x9 then (if x9 < (x7.length : Int) then ((spec_l08Size.f k (Go.bits .and .i64 (rd x1 x12) (rd x7 x9))).bind fun t100 => (if t100 ≥ x525003 then (spec_NeededTickets.l1 k x1 x7 x8 x9 (wrap64 (x10 + 1)) x12 (wrap64 (x12 + 1)) x525000 x525001 x525002 x525003) else (spec_NeededTickets.l1 k x1 x7 x8 x9 x10 x11 (wrap64 (x12 + 1)) x525000 x525001 x525002 x525003))) else (none)) else (none)) else (none)) else (none)) else (if x10 = 1 then (if 0 ≤ x11 then (if x11 < (x8.length : Int) then (spec_NeededTickets.l0 k x1 x7 (x8.set (x11 : Int).toNat true) (wrap64 (x9 + 1)) x525000 x525001 x525002 x525003) else (none)) else (none)) else (spec_NeededTickets.l0 k x1 x7 x8 (wrap64 (x9 + 1)) x525000 x525001 x525002 x525003))
def spec_NeededTickets.l2 : Nat → List Int → List Bool → List Int → Int → Option (List Int × Int)
 | 0, _, _, _, _ => none
 | k + 1, x1, x8, x13, x14 => if x14 < (x1.length : Int) then (if 0 ≤ x14 then (if x14 < (x8.length : Int) then (if rdOf false x8 x14 = true then (if x13.length < 17592186044416 then (spec_NeededTickets.l2 k x1 x8 (x13 ++ [rd x1 x14]) (wrap64 (x14 + 1))) else (none)) else (spec_NeededTickets.l2 k x1 x8 x13 (wrap64 (x14 + 1)))) else (none)) else (none)) else (some (x13, 0))
end
def spec_NeededTickets.f (k : Nat) (a0_0 : Int) (a0_1 : Int) (a0_2 : Int) (a0_3 : Int) (l1 : List Int) : Option (List Int × Int) := (spec_l08Tickets.f k a0_0 a0_1 a0_2 a0_3 l1).bind fun t101 => (if t101 = 0 then ((spec_l08Sets.f k a0_0 a0_1 a0_2 a0_3 a0_2).bind fun t102 => (if 0 ≤ (l1.length : Int) then (if ((l1.length : Int) : Int).toNat ≤ 281474976710656 then (spec_NeededTickets.l0 k l1 t102 (List.replicate ((l1.length : Int) : Int).toNat false) 0 a0_0 a0_1 a0_2 a0_3) else (none)) else (none))) else (some (([] : List Int), t101)))
def spec_NeededTickets.T4 : Bool × List (List Nat × List Nat) := (true, [([], []), ([], []), ([1], [1]), ([0, 2], [0, 2]), ([], []), ([4], [4]), ([5, 5], [5]), ([3, 3, 0, 1, 2, 3], [3]), ([6, 7, 0, 1, 2, 3, 4, 5, 6, 7], [6])])
def spec_NeededTickets.B4 : List Nat := [0, 0, 2, 7, 0, 16, 48, 15, 255]
theorem spec_NeededTickets.tab4 : rtab .any (opsOf Try.f50 4) = spec_NeededTickets.T4 := by kernel_rfl
theorem spec_NeededTickets.bits4 : waitsOk spec_NeededTickets.T4.2 spec_NeededTickets.B4 = true := by kernel_rfl
def spec_NeededTickets.T12 : Bool × List (List Nat × List Nat) := (true, [([], []), ([], []), ([0, 1], [0, 1]), ([2], [2]), ([], []), ([], []), ([4, 5], [4, 5]), ([6], [6]), ([3, 7], [3, 7]), ([8], [8]), ([], []), ([10], [10]), ([9, 11], [9, 11])])
def spec_NeededTickets.B12 : List Nat := [0, 0, 3, 7, 0, 0, 48, 112, 255, 511, 0, 1024, 4095]
theorem spec_NeededTickets.tab12 : rtab .any (opsOf Try.f50 12) = spec_NeededTickets.T12 := by kernel_rfl
theorem spec_NeededTickets.bits12 : waitsOk spec_NeededTickets.T12.2 spec_NeededTickets.B12 = true := by kernel_rfl
set_option maxHeartbeats 8000000 in
set_option maxRecDepth 100000 in
theorem spec_NeededTickets.calls (k : Nat) (a0_0 : Int) (a0_1 : Int) (a0_2 : Int) (a0_3 : Int) (A1 : Option Addr) (c1 : Nat) (l1 : List Int) (r1 : List Int) (r2 : Int) (w : World) (hr1 : Kd.C (Kd.int .i64) w A1 l1.length l1) (hc1 : l1.length ≤ c1) (h : spec_NeededTickets.f k a0_0 a0_1 a0_2 a0_3 l1 = some (r1, r2)) :
  Calls Try.prog 50 #[.agg #[.int .i64 a0_0, .int .i64 a0_1, .int .i64 a0_2, .int .i64 a0_3], .slice A1 l1.length c1] w fun e w' => ∃ v0_ : Value, e = .returned (.tuple #[v0_, .int .i64 r2]) ∧ Kd.R (Kd.int .i64) 2 w' w.heap.size (fun _ => True) v0_ r1 ∧ Below w.heap.size w w' := by
 have hu27 := Try.underlying27
 have HR1 := zA hr1
 have HC1 := zA hc1
 clear hr1 hc1
 have HB := zA (Below.refl w.heap.size w)
 have H := h
 unfold spec_NeededTickets.f at H
 (try dsimp -simprocs only at H)
 clear h
 replace H := zi H
 obtain ⟨t101, A30, H⟩ := H
 (try dsimp -simprocs only at H)
 have A3 := zA A30
 clear A30
 by_cases c4 : t101 = 0
 ·rw [if_pos c4] at H
  have c4b0 : (t101 == 0) = true := beq_iff_eq.mpr c4
  have c4b1 : (t101 != 0) = false := bne_eq_false_iff_eq.mpr c4
  clear c4
  replace H := zi H
  obtain ⟨t102, A50, H⟩ := H
  (try dsimp -simprocs only at H)
  have A5 := zA A50
  clear A50
  by_cases c6 : 0 ≤ (l1.length : Int)
  ·rw [if_pos c6] at H
   have c6b0 := eq_true c6
   have c6b1 : decide (0 ≤ (l1.length : Int)) = true := decide_eq_true c6
   clear c6
   by_cases c7 : ((l1.length : Int) : Int).toNat ≤ 281474976710656
   ·rw [if_pos c7] at H
    have c7b0 := eq_true c7
    have c7b1 : decide (((l1.length : Int) : Int).toNat ≤ 281474976710656) = true := decide_eq_true c7
    clear c7
    obtain ⟨y103, hy103⟩ : ∃ y_ : List Bool, y_ = (List.replicate ((l1.length : Int) : Int).toNat false) := ⟨_, rfl⟩
    replace H : (spec_NeededTickets.l0 k l1 t102 y103 0 a0_0 a0_1 a0_2 a0_3) = some (r1, r2) := by first | (rw [hy103]; with_reducible exact H) | (have H2_ := (Option.bind_some _ _).symm.trans H; rw [hy103]; with_reducible exact H2_) | (have H2_ := (Option.bind_some _ _).symm.trans H; with_reducible exact H2_) | with_reducible exact H | (rw [hy103]; exact H) | exact H
    have Ny103 := zA hy103
    clear hy103
    have H' := zA H
    clear H
    go_enter Try.func50, Try.ntmps50
    try go_wp2_with (first | ((with_reducible refine gate_dst (N := 2) rfl ?_); refine zbox (N := 2) (cs := #[.int .i64 a0_0, .int .i64 a0_1, .int .i64 a0_2, .int .i64 a0_3]) (t := 27) ?_; intro gb104 hg w8 hbox hb; have BK104 := zA (hbox); have GW104 := zA ((z151 : w.heap.size ≤ gb104)); have GE104 := zA ((z151 : w.heap.size ≤ gb104)); replace HB := zA (below_step z1 hb); clear hb hbox hg; obtain ⟨hcz9_0, hcz9_1, hcz9_2, hcz9_3, hfz9_0, hfz9_1, hfz9_2, hfz9_3⟩ := zC4 BK104.out) | ((with_reducible refine gate_callee (f := 95) rfl ?_); refine goesL_ (some 17) rfl rfl Try.func95 (by kernel_rfl) rfl #[.agg #[.int .i64 a0_0, .int .i64 a0_1, .int .i64 a0_2, .int .i64 a0_3], .slice A1 l1.length c1] rfl z3 ?_; (with_reducible refine (spec_l08Tickets.calls k a0_0 a0_1 a0_2 a0_3 _ _ l1 t101 _ ?side1 ?side2 A3.out).mono ?_); (case side1 => exact z17); (case side2 => exact HC1.out); rintro e w10 ⟨rfl, hb⟩; refine ⟨_, rfl, ?_⟩; replace BK104 := zBB BK104 hb; replace HB := zA (below_step z5 hb); (try clear hb); (try clear hb2); (try clear hk); (try clear hi)))
    have n0_ := zA (blk_drew BK104.out)
    have n1_ := zA (below_drew1 HB.out)
    clear BK104 HB
    have BK104 := n0_
    have HB := n1_
    clear n0_ n1_
    refine start_ (n := 9) (S := fun w' => w'.cell? ⟨gb104, 0, none⟩ = some (.int .i64 a0_0) ∧ w'.cell? ⟨gb104, 1, none⟩ = some (.int .i64 a0_1) ∧ w'.cell? ⟨gb104, 2, none⟩ = some (.int .i64 a0_2) ∧ w'.cell? ⟨gb104, 3, none⟩ = some (.int .i64 a0_3)) (ds := []) #[false, false, false, false, false, false, false, false, false] (by kernel_rfl) rfl rfl ⟨(blk_cell BK104.out 0).trans rfl, (blk_cell BK104.out 1).trans rfl, (blk_cell BK104.out 2).trans rfl, (blk_cell BK104.out 3).trans rfl⟩ (fun hHeld => ?_); refine with_tabW spec_NeededTickets.tab4 spec_NeededTickets.bits4 (fun HT_ HW_ => ?_)
    generalize w10.drew = w11 at BK104 HB hHeld ⊢
    refine zpu 1 (some 22) #[false, true, false, false, false, false, false, false, false] ?_
    refine zpu 4 (some 25) #[false, true, false, false, true, false, false, false, false] ?_
    refine zpu 5 (some 26) #[false, true, false, false, true, true, false, false, false] ?_
    refine zt4 0 (some 21) #[true, true, false, false, true, true, false, false, false] ?_
    refine zt4 2 (some 23) #[true, true, true, false, true, true, false, false, false] ?_
    refine join_ (σ := Value × Value) 1 #[true, true, true, true, true, true, true, true, false] (fun s_ => [(24, s_.1), (27, s_.2), (7, s_.1)]) (fun s_ w' => (w'.cell? ⟨gb104, 0, none⟩ = some (.int .i64 a0_0) ∧ w'.cell? ⟨gb104, 1, none⟩ = some (.int .i64 a0_1) ∧ w'.cell? ⟨gb104, 2, none⟩ = some (.int .i64 a0_2) ∧ w'.cell? ⟨gb104, 3, none⟩ = some (.int .i64 a0_3)) ∧ (Kd.R (Kd.int .i64) 2 w' w.heap.size (fun _ => True) s_.1 t102) ∧ (Kd.R Kd.bool 4 w' w.heap.size (fun _ => True) s_.2 y103) ∧ (w'.heap[gb104]? = some (.cells #[.int .i64 a0_0, .int .i64 a0_1, .int .i64 a0_2, .int .i64 a0_3] 27 (0, 0))) ∧ (Below w.heap.size w w')) ?_ ?_
    rotate_left
    ·intro hCont
     refine two_ (i := 3) (j := 6) (Ni := some 24) (Nj := some 27) #[true, true, true, true, true, true, false, false, false] #[true, true, true, false, true, true, true, false, false] rfl rfl rfl rfl (two_of HT_.out (by kernel_rfl)) (by decide) (by decide) (fun K hK => ?_) (fun K hK => ?_)
     ·skip
      refine goes_ Try.func59 (by kernel_rfl) rfl #[.agg #[.int .i64 a0_0, .int .i64 a0_1, .int .i64 a0_2, .int .i64 a0_3], .int .i64 a0_2] (by rfl) rfl rfl z3 ?_
      with_reducible refine (spec_l08Sets.calls k a0_0 a0_1 a0_2 a0_3 a0_2 t102 _ A5.out).mono ?_
      rintro e w12 ⟨v105, rfl, ho0, hb⟩
      refine ⟨_, rfl, ?_⟩
      have n0_ := zA (Kd.R_lower ho0 (below_size z5))
      have n1_ := zBB BK104 hb
      have n2_ := zA (below_step z5 hb)
      clear BK104 HB
      have HO106 := n0_
      have BK104 := n1_
      have HB := n2_
      clear n0_ n1_ n2_
      (try clear hb)
      (try clear hb2)
      (try clear hk)
      (try clear hi)
      (try clear ho0)
      refine hK.out _ _ ⟨(blk_cell BK104.out 0).trans rfl, (blk_cell BK104.out 1).trans rfl, (blk_cell BK104.out 2).trans rfl, (blk_cell BK104.out 3).trans rfl⟩ (fun hHeld => ?_)
      clear hK K
      refine norm_ (a' := ?_) ?_ ?_
      rotate_left
      ·show Act.put _ (some 24) _ = _
       simp only [Act.put, List.setIfInBounds_toArray, List.set_cons_zero, List.set_cons_succ, i64_w, i32_w]
       rfl
      refine zpu 7 (some 7) #[true, true, true, true, true, true, false, true, false] ?_
      refine one_ (i := 6) (N := some 27) #[true, true, true, true, true, true, true, true, false] rfl rfl (one_of HT_.out (by kernel_rfl)) (by decide) (fun K hK => ?_)
      refine Kd.R_make_step Kd.bool _ 4 (by rfl) (N := 27) rfl 84 _ _ rfl (l1.length : Int) rfl rfl Try.underlying84 (.bool false) 1 info4 rfl (by decide) (by omega) false (ok := fun _ => True) (okp := fun _ => True) rfl (fun _ hk => hk) trivial (of_decide_eq_true z7) (Nat.le_trans (Nat.mul_le_mul_right _ (of_decide_eq_true z7 : (l1.length : Int).toNat ≤ 281474976710656)) (by omega)) (Below.refl _ _) (Nat.le_refl _) ?_
      intro v107 w13 ho14 hb hg_ hnew_
      clear hg_ hnew_
      (first | rw [← Ny103.out] at ho14 | (simp only [Int.reduceToNat] at ho14; rw [← Ny103.out] at ho14))
      have n0_ := zA (Kd.R_below z55 hb)
      have n1_ := zA (Kd.R_lower ho14 (below_size z5))
      have n2_ := zBB BK104 hb
      have n3_ := zA (below_step z5 hb)
      clear HO106 BK104 HB
      have HO106 := n0_
      have HO108 := n1_
      have BK104 := n2_
      have HB := n3_
      clear n0_ n1_ n2_ n3_
      clear hb ho14
      refine hK.out _ _ ⟨(blk_cell BK104.out 0).trans rfl, (blk_cell BK104.out 1).trans rfl, (blk_cell BK104.out 2).trans rfl, (blk_cell BK104.out 3).trans rfl⟩ (fun hHeld => ?_)
      clear hK K
      refine norm_ (a' := ?_) ?_ ?_
      rotate_left
      ·show Act.put _ (some 27) _ = _
       simp only [Act.put, List.setIfInBounds_toArray, List.set_cons_zero, List.set_cons_succ, i64_w, i32_w]
       rfl
      exact norm_ z77 (hCont (v105, v107) _ ⟨hHeld, z55, z64, z25, z5⟩)
     ·skip
      refine Kd.R_make_step Kd.bool _ 4 (by rfl) (N := 27) rfl 84 _ _ rfl (l1.length : Int) rfl rfl Try.underlying84 (.bool false) 1 info4 rfl (by decide) (by omega) false (ok := fun _ => True) (okp := fun _ => True) rfl (fun _ hk => hk) trivial (of_decide_eq_true z7) (Nat.le_trans (Nat.mul_le_mul_right _ (of_decide_eq_true z7 : (l1.length : Int).toNat ≤ 281474976710656)) (by omega)) (Below.refl _ _) (Nat.le_refl _) ?_
      intro v107 w12 ho13 hb hg_ hnew_
      clear hg_ hnew_
      (first | rw [← Ny103.out] at ho13 | (simp only [Int.reduceToNat] at ho13; rw [← Ny103.out] at ho13))
      have n0_ := zA (Kd.R_lower ho13 (below_size z5))
      have n1_ := zBB BK104 hb
      have n2_ := zA (below_step z5 hb)
      clear BK104 HB
      have HO108 := n0_
      have BK104 := n1_
      have HB := n2_
      clear n0_ n1_ n2_
      clear hb ho13
      refine hK.out _ _ ⟨(blk_cell BK104.out 0).trans rfl, (blk_cell BK104.out 1).trans rfl, (blk_cell BK104.out 2).trans rfl, (blk_cell BK104.out 3).trans rfl⟩ (fun hHeld => ?_)
      clear hK K
      refine norm_ (a' := ?_) ?_ ?_
      rotate_left
      ·show Act.put _ (some 27) _ = _
       simp only [Act.put, List.setIfInBounds_toArray, List.set_cons_zero, List.set_cons_succ, i64_w, i32_w]
       rfl
      refine one_ (i := 3) (N := some 24) #[true, true, true, true, true, true, true, false, false] rfl rfl (one_of HT_.out (by kernel_rfl)) (by decide) (fun K hK => ?_)
      refine goes_ Try.func59 (by kernel_rfl) rfl #[.agg #[.int .i64 a0_0, .int .i64 a0_1, .int .i64 a0_2, .int .i64 a0_3], .int .i64 a0_2] (by rfl) rfl rfl z3 ?_
      with_reducible refine (spec_l08Sets.calls k a0_0 a0_1 a0_2 a0_3 a0_2 t102 _ A5.out).mono ?_
      rintro e w14 ⟨v105, rfl, ho0, hb⟩
      refine ⟨_, rfl, ?_⟩
      have n0_ := zA (Kd.R_below z64 hb)
      have n1_ := zA (Kd.R_lower ho0 (below_size z5))
      have n2_ := zBB BK104 hb
      have n3_ := zA (below_step z5 hb)
      clear HO108 BK104 HB
      have HO108 := n0_
      have HO106 := n1_
      have BK104 := n2_
      have HB := n3_
      clear n0_ n1_ n2_ n3_
      (try clear hb)
      (try clear hb2)
      (try clear hk)
      (try clear hi)
      (try clear ho0)
      refine hK.out _ _ ⟨(blk_cell BK104.out 0).trans rfl, (blk_cell BK104.out 1).trans rfl, (blk_cell BK104.out 2).trans rfl, (blk_cell BK104.out 3).trans rfl⟩ (fun hHeld => ?_)
      clear hK K
      refine norm_ (a' := ?_) ?_ ?_
      rotate_left
      ·show Act.put _ (some 24) _ = _
       simp only [Act.put, List.setIfInBounds_toArray, List.set_cons_zero, List.set_cons_succ, i64_w, i32_w]
       rfl
      refine zpu 7 (some 7) #[true, true, true, true, true, true, true, true, false] ?_
      exact norm_ z77 (hCont (v105, v107) _ ⟨hHeld, z55, z64, z25, z5⟩)
    rintro ⟨v105, v107⟩ w15 ⟨hS_, h0_, h1_, h2_, h3_⟩
    have n0_ : Aside0 (Kd.R (Kd.int .i64) 2 w15 w.heap.size (fun _ => True) v105 t102) := ⟨h0_⟩
    have n1_ : Aside0 (Kd.R Kd.bool 4 w15 w.heap.size (fun _ => True) v107 y103) := ⟨h1_⟩
    have n2_ : Aside0 (w15.heap[gb104]? = some (.cells #[.int .i64 a0_0, .int .i64 a0_1, .int .i64 a0_2, .int .i64 a0_3] 27 (0, 0))) := ⟨h2_⟩
    have n3_ : Aside0 (Below w.heap.size w w15) := ⟨h3_⟩
    clear BK104 HB
    clear h0_ h1_ h2_ h3_
    have HO106 := n0_
    have HO108 := n1_
    have BK104 := n2_
    have HB := n3_
    clear n0_ n1_ n2_ n3_
    have hHeld : w15.cell? ⟨gb104, 0, none⟩ = some (.int .i64 a0_0) ∧ w15.cell? ⟨gb104, 1, none⟩ = some (.int .i64 a0_1) ∧ w15.cell? ⟨gb104, 2, none⟩ = some (.int .i64 a0_2) ∧ w15.cell? ⟨gb104, 3, none⟩ = some (.int .i64 a0_3) := hS_
    refine norm_ (a' := ?_) ?_ ?_
    rotate_left
    ·simp only [putAll, Act.put, List.setIfInBounds_toArray, List.set_cons_zero, List.set_cons_succ]
     rfl
    refine zpu 8 (some 8) #[true, true, true, true, true, true, true, true, true] ?_
    refine done_ (done_of HT_.out (by kernel_rfl)) ?_
    try go_wp2
    go_loopg [9] k (fun kq v9 w' => ∃ (x8_1 : List Bool) (x9_1 : Int), v9 = .int .i64 x9_1 ∧ Aside0 (spec_NeededTickets.l0 kq l1 t102 x8_1 x9_1 a0_0 a0_1 a0_2 a0_3 = some (r1, r2)) ∧ Aside0 (kq ≤ k) ∧ Aside0 (Kd.R (Kd.int .i64) 2 w' w.heap.size (fun _ => True) v105 t102) ∧ Aside0 (Kd.R Kd.bool 4 w' w.heap.size (fun _ => True) v107 x8_1) ∧ Aside0 (w'.heap[gb104]? = some (.cells #[.int .i64 a0_0, .int .i64 a0_1, .int .i64 a0_2, .int .i64 a0_3] 27 (0, 0))) ∧ Aside0 (Below w.heap.size w w'))
    case atStart => exact ⟨(y103), (0), z11, H', ⟨Nat.le_refl _⟩, ⟨z55⟩, ⟨z64⟩, ⟨z25⟩, ⟨z5⟩⟩
    case round =>
     clear H'
     (try clear c1); (try clear p2); (try clear c4); (try clear c4b0); (try clear c4b1); (try clear c5); (try clear c6); (try clear c6b0); (try clear c6b1); (try clear c7); (try clear c7b0); (try clear c7b1); (try clear c9); (try clear hcz9_0); (try clear hcz9_1); (try clear hcz9_2); (try clear hcz9_3); (try clear hfz9_0); (try clear hfz9_1); (try clear hfz9_2); (try clear hfz9_3)
     obtain ⟨x8_1, x9_1, rfl, HA, HK1, HO_7, HO_8, BK104, HB⟩ := hrel
     cases gk with
     | zero => exact absurd HA.out (by simp [spec_NeededTickets.l0])
     | succ k1 =>
      have H := HA.out
      clear HA
      simp only [spec_NeededTickets.l0] at H
      by_cases c16 : x9_1 < (t102.length : Int)
      ·rw [if_pos c16] at H
       have c16b0 : decide (x9_1 < (t102.length : Int)) = true := decide_eq_true c16
       clear c16
       have H' := zA H
       clear H
       obtain ⟨Ao17, co17, eo17⟩ := Kd.R_slice HO_7.out
       subst eo17
       go_wp2
       go_loopg [10, 11, 12] k1 (fun kq v10 v11 v12 w' => ∃ (x10_2 : Int) (x11_2 : Int) (x12_2 : Int), v10 = .int .i64 x10_2 ∧ v11 = .int .i64 x11_2 ∧ v12 = .int .i64 x12_2 ∧ Aside0 (spec_NeededTickets.l1 kq l1 t102 x8_1 x9_1 x10_2 x11_2 x12_2 a0_0 a0_1 a0_2 a0_3 = some (r1, r2)) ∧ Aside0 (kq ≤ k1) ∧ Aside0 (Kd.R (Kd.int .i64) 2 w' w.heap.size (fun _ => True) (.slice Ao17 t102.length co17) t102) ∧ Aside0 (Kd.R Kd.bool 4 w' w.heap.size (fun _ => True) v107 x8_1) ∧ Aside0 (w'.heap[gb104]? = some (.cells #[.int .i64 a0_0, .int .i64 a0_1, .int .i64 a0_2, .int .i64 a0_3] 27 (0, 0))) ∧ Aside0 (Below w.heap.size w w'))
       case atStart => exact ⟨(0), (0), (0), z11, z11, z11, H', ⟨Nat.le_refl _⟩, ⟨z16⟩, ⟨z48⟩, ⟨z25⟩, ⟨z5⟩⟩
       case round =>
        clear H'
        (try clear c1); (try clear p2); (try clear c4); (try clear c4b0); (try clear c4b1); (try clear c5); (try clear c6); (try clear c6b0); (try clear c6b1); (try clear c7); (try clear c7b0); (try clear c7b1); (try clear c9); (try clear c16); (try clear c16b0); (try clear hcz9_0); (try clear hcz9_1); (try clear hcz9_2); (try clear hcz9_3); (try clear hfz9_0); (try clear hfz9_1); (try clear hfz9_2); (try clear hfz9_3); (try clear p2)
        obtain ⟨x10_2, x11_2, x12_2, rfl, rfl, rfl, HA, HK2, HO_7, HO_8, BK104, HB⟩ := hrel
        cases gk with
        | zero => exact absurd HA.out (by simp [spec_NeededTickets.l1])
        | succ k2 =>
         have H := HA.out
         clear HA
         simp only [spec_NeededTickets.l1] at H
         have HC18 := zA H
         clear H
         go_upto_region 10 with (fail)
         go_cut [41] (fun v41 wc => ∃ (kq : Nat) (x41_17 : Bool), v41 = .bool x41_17 ∧ Aside0 (spec_NeededTickets.j2 kq l1 t102 x8_1 x9_1 x10_2 x11_2 x12_2 x41_17 a0_0 a0_1 a0_2 a0_3 = some (r1, r2)) ∧ Aside0 (kq ≤ k2) ∧ Aside0 (Kd.R (Kd.int .i64) 2 wc w.heap.size (fun _ => True) (.slice Ao17 t102.length co17) t102) ∧ Aside0 (Kd.R Kd.bool 4 wc w.heap.size (fun _ => True) v107 x8_1) ∧ Aside0 (wc.heap[gb104]? = some (.cells #[.int .i64 a0_0, .int .i64 a0_1, .int .i64 a0_2, .int .i64 a0_3] 27 (0, 0))) ∧ Aside0 (Below w.heap.size w wc))
         case first =>
          have H := HC18.out
          clear HC18
          by_cases c19 : x12_2 < (l1.length : Int)
          ·rw [if_pos c19] at H
           have c19b0 : decide (x12_2 < (l1.length : Int)) = true := decide_eq_true c19
           clear c19
           (first | rw [c19b0] | (simp only [i64_w, i32_w]; rw [c19b0]) | skip)
           have H' := zA H
           clear H
           go_wp2
           go_meet
           case rel => exact ⟨_, (decide (x10_2 < 2)), z11, H', ⟨z149⟩, ⟨z16⟩, ⟨z48⟩, ⟨z25⟩, ⟨z5⟩⟩
          ·rw [if_neg c19] at H
           have c19b0 : decide (x12_2 < (l1.length : Int)) = false := decide_eq_false c19
           clear c19
           (first | rw [c19b0] | (simp only [i64_w, i32_w]; rw [c19b0]) | skip)
           have H' := zA H
           clear H
           go_wp2
           go_meet
           case rel => exact ⟨_, (false), z11, H', ⟨z149⟩, ⟨z16⟩, ⟨z48⟩, ⟨z25⟩, ⟨z5⟩⟩
         case rest =>
          clear HC18
          (try clear c1); (try clear p2); (try clear c4); (try clear c4b0); (try clear c4b1); (try clear c5); (try clear c6); (try clear c6b0); (try clear c6b1); (try clear c7); (try clear c7b0); (try clear c7b1); (try clear c9); (try clear c16); (try clear c16b0); (try clear c19); (try clear c19b0); (try clear hcz9_0); (try clear hcz9_1); (try clear hcz9_2); (try clear hcz9_3); (try clear hfz9_0); (try clear hfz9_1); (try clear hfz9_2); (try clear hfz9_3); (try clear p2)
          obtain ⟨kq, x41_17, rfl, HA, HJ17, HO_7, HO_8, BK104, HB⟩ := hcut
          cases kq with
          | zero => exact absurd HA.out (by simp [spec_NeededTickets.j2])
          | succ kj17 =>
           have H := HA.out
           clear HA
           simp only [spec_NeededTickets.j2] at H
           by_cases c20 : x41_17 = true
           ·subst c20
            have H1 : (if 0 ≤ x12_2 then (if x12_2 < (l1.length : Int) then (if 0 ≤ x9_1 then (if x9_1 < (t102.length : Int) then ((spec_l08Size.f kj17 (Go.bits .and .i64 (rd l1 x12_2) (rd t102 x9_1))).bind fun t100 => (if t100 ≥ a0_3 then (spec_NeededTickets.l1 kj17 l1 t102 x8_1 x9_1 (wrap64 (x10_2 + 1)) x12_2 (wrap64 (x12_2 + 1)) a0_0 a0_1 a0_2 a0_3) else (spec_NeededTickets.l1 kj17 l1 t102 x8_1 x9_1 x10_2 x11_2 (wrap64 (x12_2 + 1)) a0_0 a0_1 a0_2 a0_3))) else (none)) else (none)) else (none)) else (none)) = some (r1, r2) := by rw [if_pos rfl] at H; exact H
            clear H
            have H := H1
            clear H1
            by_cases c21 : 0 ≤ x12_2
            ·rw [if_pos c21] at H
             have c21b0 : decide (0 ≤ x12_2) = true := decide_eq_true c21
             clear c21
             by_cases c22 : x12_2 < (l1.length : Int)
             ·rw [if_pos c22] at H
              have c22b0 : decide (x12_2 < (l1.length : Int)) = true := decide_eq_true c22
              clear c22
              by_cases c23 : 0 ≤ x9_1
              ·rw [if_pos c23] at H
               have c23b0 : decide (0 ≤ x9_1) = true := decide_eq_true c23
               clear c23
               by_cases c24 : x9_1 < (t102.length : Int)
               ·rw [if_pos c24] at H
                have c24b0 : decide (x9_1 < (t102.length : Int)) = true := decide_eq_true c24
                clear c24
                replace H := zi H
                obtain ⟨t100, A250, H⟩ := H
                (try dsimp -simprocs only at H)
                have A25 := zA A250
                clear A250
                by_cases c26 : t100 ≥ a0_3
                ·rw [if_pos c26] at H
                 have c26b0 : decide (a0_3 ≤ t100) = true := decide_eq_true c26
                 clear c26
                 have H' := zA H
                 clear H
                 try go_wp2
                 have n0_ := zA (Kd.R_drew HO_7.out)
                 have n1_ := zA (Kd.R_drew HO_8.out)
                 have n2_ := zA (blk_drew BK104.out)
                 have n3_ := zA (below_drew1 HB.out)
                 clear HO_7 HO_8 BK104 HB
                 have HO_7 := n0_
                 have HO_8 := n1_
                 have BK104 := n2_
                 have HB := n3_
                 clear n0_ n1_ n2_ n3_
                 have p532 : 0 ≤ (x12_2 : Int) := of_decide_eq_true z7
                 have q532 : x12_2 < (l1.length : Int) := of_decide_eq_true z7
                 obtain ⟨ad532, e532, hx532_0⟩ := Kd.at_int HR1.out x12_2 p532 q532
                 have hw532_0 := hx532_0
                 cases e532
                 try replace hx532_0 := (HB.out.cell (World.block_lt_of_cell? w _ hx532_0)).trans hx532_0
                 replace p532 := eq_true p532
                 replace q532 := eq_true q532
                 have p533 : 0 ≤ (x9_1 : Int) := of_decide_eq_true z7
                 have q533 : x9_1 < (t102.length : Int) := of_decide_eq_true z7
                 obtain ⟨ad533, e533, hx533_0⟩ := Kd.at_int (Kd.R_reads' HO_7.out).2.2 x9_1 p533 q533
                 cases e533
                 replace p533 := eq_true p533
                 replace q533 := eq_true q533
                 refine start_ (n := 13) (S := fun w' => w'.cell? ⟨gb104, 0, none⟩ = some (.int .i64 a0_0) ∧ w'.cell? ⟨gb104, 1, none⟩ = some (.int .i64 a0_1) ∧ w'.cell? ⟨gb104, 2, none⟩ = some (.int .i64 a0_2) ∧ w'.cell? ⟨gb104, 3, none⟩ = some (.int .i64 a0_3) ∧ w'.cell? (ad532.add (x12_2).toNat) = some (.int .i64 (rd l1 x12_2)) ∧ w'.cell? (ad533.add (x9_1).toNat) = some (.int .i64 (rd t102 x9_1))) (ds := []) #[false, false, false, false, false, false, false, false, false, false, false, false, false] (by kernel_rfl) rfl rfl ⟨(blk_cell BK104.out 0).trans rfl, (blk_cell BK104.out 1).trans rfl, (blk_cell BK104.out 2).trans rfl, (blk_cell BK104.out 3).trans rfl, ((HB.out.cell (World.block_lt_of_cell? w _ hw532_0)).trans hw532_0), hx533_0⟩ (fun hHeld => ?_); refine with_tabW spec_NeededTickets.tab12 spec_NeededTickets.bits12 (fun HT_ HW_ => ?_)
                 generalize wc.drew = w27 at HO_7 HO_8 BK104 HB hx532_0 hx533_0 hHeld ⊢
                 refine zpu 0 (some 44) #[true, false, false, false, false, false, false, false, false, false, false, false, false] ?_
                 refine zpu 1 (some 45) #[true, true, false, false, false, false, false, false, false, false, false, false, false] ?_
                 refine zpu 2 (some 46) #[true, true, true, false, false, false, false, false, false, false, false, false, false] ?_
                 refine zpu 4 (some 48) #[true, true, true, false, true, false, false, false, false, false, false, false, false] ?_
                 refine zpu 5 (some 49) #[true, true, true, false, true, true, false, false, false, false, false, false, false] ?_
                 refine zpu 6 (some 50) #[true, true, true, false, true, true, true, false, false, false, false, false, false] ?_
                 refine zpu 10 (some 54) #[true, true, true, false, true, true, true, false, false, false, true, false, false] ?_
                 refine zt6 3 (some 47) #[true, true, true, true, true, true, true, false, false, false, true, false, false] ?_
                 refine zt6 7 (some 51) #[true, true, true, true, true, true, true, true, false, false, true, false, false] ?_
                 refine zpu 8 (some 52) #[true, true, true, true, true, true, true, true, true, false, true, false, false] ?_
                 refine zt6 11 (some 55) #[true, true, true, true, true, true, true, true, true, false, true, true, false] ?_
                 refine one_ (i := 9) (N := some 53) #[true, true, true, true, true, true, true, true, true, true, true, true, false] rfl rfl (one_of HT_.out (by kernel_rfl)) (by decide) (fun K hK => ?_)
                 refine goes_ Try.func60 (by kernel_rfl) rfl #[.int .i64 (Go.bits .and .i64 (rd l1 x12_2) (rd t102 x9_1))] (by rfl) rfl rfl z3 ?_
                 with_reducible refine (spec_l08Size.calls kj17 (Go.bits .and .i64 (rd l1 x12_2) (rd t102 x9_1)) t100 _ A25.out).mono ?_
                 rintro e w' ⟨rfl, ⟨nd, rfl⟩⟩
                 refine ⟨_, rfl, ?_⟩
                 refine hK.out _ _ ⟨(blk_cell BK104.out 0).trans rfl, (blk_cell BK104.out 1).trans rfl, (blk_cell BK104.out 2).trans rfl, (blk_cell BK104.out 3).trans rfl, ((HB.out.cell (World.block_lt_of_cell? w _ hw532_0)).trans hw532_0), hHeld.2.2.2.2.2⟩ (fun hHeld => ?_)
                 clear hK K
                 refine norm_ (a' := ?_) ?_ ?_
                 rotate_left
                 ·show Act.put _ (some 53) _ = _
                  simp only [Act.put, List.setIfInBounds_toArray, List.set_cons_zero, List.set_cons_succ, i64_w, i32_w]
                  rfl
                 refine zpu 12 (some 56) #[true, true, true, true, true, true, true, true, true, true, true, true, true] ?_
                 refine done_ (done_of HT_.out (by kernel_rfl)) ?_
                 try go_wp2
                 go_roundg kj17
                 case measure => have := HK1.out; have := HK2.out; have := HJ17.out; omega
                 case rel => exact ⟨(wrap64 (x10_2 + 1)), (x12_2), (wrap64 (x12_2 + 1)), z11, z11, z11, H', ⟨z127⟩, ⟨z16⟩, ⟨z48⟩, ⟨z25⟩, ⟨z5⟩⟩
                ·rw [if_neg c26] at H
                 have c26b0 : decide (a0_3 ≤ t100) = false := decide_eq_false c26
                 clear c26
                 have H' := zA H
                 clear H
                 try go_wp2
                 have n0_ := zA (Kd.R_drew HO_7.out)
                 have n1_ := zA (Kd.R_drew HO_8.out)
                 have n2_ := zA (blk_drew BK104.out)
                 have n3_ := zA (below_drew1 HB.out)
                 clear HO_7 HO_8 BK104 HB
                 have HO_7 := n0_
                 have HO_8 := n1_
                 have BK104 := n2_
                 have HB := n3_
                 clear n0_ n1_ n2_ n3_
                 have p532 : 0 ≤ (x12_2 : Int) := of_decide_eq_true z7
                 have q532 : x12_2 < (l1.length : Int) := of_decide_eq_true z7
                 obtain ⟨ad532, e532, hx532_0⟩ := Kd.at_int HR1.out x12_2 p532 q532
                 have hw532_0 := hx532_0
                 cases e532
                 try replace hx532_0 := (HB.out.cell (World.block_lt_of_cell? w _ hx532_0)).trans hx532_0
                 replace p532 := eq_true p532
                 replace q532 := eq_true q532
                 have p533 : 0 ≤ (x9_1 : Int) := of_decide_eq_true z7
                 have q533 : x9_1 < (t102.length : Int) := of_decide_eq_true z7
                 obtain ⟨ad533, e533, hx533_0⟩ := Kd.at_int (Kd.R_reads' HO_7.out).2.2 x9_1 p533 q533
                 cases e533
                 replace p533 := eq_true p533
                 replace q533 := eq_true q533
                 refine start_ (n := 13) (S := fun w' => w'.cell? ⟨gb104, 0, none⟩ = some (.int .i64 a0_0) ∧ w'.cell? ⟨gb104, 1, none⟩ = some (.int .i64 a0_1) ∧ w'.cell? ⟨gb104, 2, none⟩ = some (.int .i64 a0_2) ∧ w'.cell? ⟨gb104, 3, none⟩ = some (.int .i64 a0_3) ∧ w'.cell? (ad532.add (x12_2).toNat) = some (.int .i64 (rd l1 x12_2)) ∧ w'.cell? (ad533.add (x9_1).toNat) = some (.int .i64 (rd t102 x9_1))) (ds := []) #[false, false, false, false, false, false, false, false, false, false, false, false, false] (by kernel_rfl) rfl rfl ⟨(blk_cell BK104.out 0).trans rfl, (blk_cell BK104.out 1).trans rfl, (blk_cell BK104.out 2).trans rfl, (blk_cell BK104.out 3).trans rfl, ((HB.out.cell (World.block_lt_of_cell? w _ hw532_0)).trans hw532_0), hx533_0⟩ (fun hHeld => ?_); refine with_tabW spec_NeededTickets.tab12 spec_NeededTickets.bits12 (fun HT_ HW_ => ?_)
                 generalize wc.drew = w28 at HO_7 HO_8 BK104 HB hx532_0 hx533_0 hHeld ⊢
                 refine zpu 0 (some 44) #[true, false, false, false, false, false, false, false, false, false, false, false, false] ?_
                 refine zpu 1 (some 45) #[true, true, false, false, false, false, false, false, false, false, false, false, false] ?_
                 refine zpu 2 (some 46) #[true, true, true, false, false, false, false, false, false, false, false, false, false] ?_
                 refine zpu 4 (some 48) #[true, true, true, false, true, false, false, false, false, false, false, false, false] ?_
                 refine zpu 5 (some 49) #[true, true, true, false, true, true, false, false, false, false, false, false, false] ?_
                 refine zpu 6 (some 50) #[true, true, true, false, true, true, true, false, false, false, false, false, false] ?_
                 refine zpu 10 (some 54) #[true, true, true, false, true, true, true, false, false, false, true, false, false] ?_
                 refine zt6 3 (some 47) #[true, true, true, true, true, true, true, false, false, false, true, false, false] ?_
                 refine zt6 7 (some 51) #[true, true, true, true, true, true, true, true, false, false, true, false, false] ?_
                 refine zpu 8 (some 52) #[true, true, true, true, true, true, true, true, true, false, true, false, false] ?_
                 refine zt6 11 (some 55) #[true, true, true, true, true, true, true, true, true, false, true, true, false] ?_
                 refine one_ (i := 9) (N := some 53) #[true, true, true, true, true, true, true, true, true, true, true, true, false] rfl rfl (one_of HT_.out (by kernel_rfl)) (by decide) (fun K hK => ?_)
                 refine goes_ Try.func60 (by kernel_rfl) rfl #[.int .i64 (Go.bits .and .i64 (rd l1 x12_2) (rd t102 x9_1))] (by rfl) rfl rfl z3 ?_
                 with_reducible refine (spec_l08Size.calls kj17 (Go.bits .and .i64 (rd l1 x12_2) (rd t102 x9_1)) t100 _ A25.out).mono ?_
                 rintro e w' ⟨rfl, ⟨nd, rfl⟩⟩
                 refine ⟨_, rfl, ?_⟩
                 refine hK.out _ _ ⟨(blk_cell BK104.out 0).trans rfl, (blk_cell BK104.out 1).trans rfl, (blk_cell BK104.out 2).trans rfl, (blk_cell BK104.out 3).trans rfl, ((HB.out.cell (World.block_lt_of_cell? w _ hw532_0)).trans hw532_0), hHeld.2.2.2.2.2⟩ (fun hHeld => ?_)
                 clear hK K
                 refine norm_ (a' := ?_) ?_ ?_
                 rotate_left
                 ·show Act.put _ (some 53) _ = _
                  simp only [Act.put, List.setIfInBounds_toArray, List.set_cons_zero, List.set_cons_succ, i64_w, i32_w]
                  rfl
                 refine zpu 12 (some 56) #[true, true, true, true, true, true, true, true, true, true, true, true, true] ?_
                 refine done_ (done_of HT_.out (by kernel_rfl)) ?_
                 try go_wp2
                 go_roundg kj17
                 case measure => have := HK1.out; have := HK2.out; have := HJ17.out; omega
                 case rel => exact ⟨(x10_2), (x11_2), (wrap64 (x12_2 + 1)), z11, z11, z11, H', ⟨z127⟩, ⟨z16⟩, ⟨z48⟩, ⟨z25⟩, ⟨z5⟩⟩
               ·rw [if_neg c24] at H
                exact absurd H (by simp)
              ·rw [if_neg c23] at H
               exact absurd H (by simp)
             ·rw [if_neg c22] at H
              exact absurd H (by simp)
            ·rw [if_neg c21] at H
             exact absurd H (by simp)
           ·replace c20 := Bool.eq_false_iff.mpr c20
            subst c20
            have H1 : (if x10_2 = 1 then (if 0 ≤ x11_2 then (if x11_2 < (x8_1.length : Int) then (spec_NeededTickets.l0 kj17 l1 t102 (x8_1.set (x11_2 : Int).toNat true) (wrap64 (x9_1 + 1)) a0_0 a0_1 a0_2 a0_3) else (none)) else (none)) else (spec_NeededTickets.l0 kj17 l1 t102 x8_1 (wrap64 (x9_1 + 1)) a0_0 a0_1 a0_2 a0_3)) = some (r1, r2) := by rw [if_neg (show ¬ (false = true) by decide)] at H; exact H
            clear H
            have H := H1
            clear H1
            by_cases c29 : x10_2 = 1
            ·rw [if_pos c29] at H
             have c29b0 : (x10_2 == 1) = true := beq_iff_eq.mpr c29
             have c29b1 : (x10_2 != 1) = false := bne_eq_false_iff_eq.mpr c29
             clear c29
             by_cases c30 : 0 ≤ x11_2
             ·rw [if_pos c30] at H
              have c30b0 : decide (0 ≤ x11_2) = true := decide_eq_true c30
              clear c30
              by_cases c31 : x11_2 < (x8_1.length : Int)
              ·rw [if_pos c31] at H
               have c31b0 : decide (x11_2 < (x8_1.length : Int)) = true := decide_eq_true c31
               clear c31
               obtain ⟨y109, hy109⟩ : ∃ y_ : List Bool, y_ = (x8_1.set (x11_2 : Int).toNat true) := ⟨_, rfl⟩
               replace H : (spec_NeededTickets.l0 kj17 l1 t102 y109 (wrap64 (x9_1 + 1)) a0_0 a0_1 a0_2 a0_3) = some (r1, r2) := by first | (rw [hy109]; with_reducible exact H) | (have H2_ := (Option.bind_some _ _).symm.trans H; rw [hy109]; with_reducible exact H2_) | (have H2_ := (Option.bind_some _ _).symm.trans H; with_reducible exact H2_) | with_reducible exact H | (rw [hy109]; exact H) | exact H
               have Ny109 := zA hy109
               clear hy109
               have H' := zA H
               clear H
               have p32 : 0 ≤ (x11_2 : Int) := of_decide_eq_true z7
               have q32 : (x11_2 : Int) < ((x8_1.length : Int) : Int) := of_decide_eq_true z7
               obtain ⟨go32, co32, eo32, gb32, gl32, cl32, HG32⟩ := Kd.R_form HO_8.out (by omega)
               (first | cases eo32 | (injection eo32 with ea_ en_ ec_; (first | subst ea_ | (injection ea_ with ea_; subst ea_)); subst ec_; clear en_))
               have GB32 := zA gb32
               have GG32 := zA HG32
               clear gb32 gl32 HG32
               obtain ⟨hx32_0, hf32_0⟩ := Kd.R_celln false HO_8.out (x11_2 : Int) p32 q32
               replace p32 := eq_true p32
               replace q32 := eq_true q32
               have HP33 := Kd.R_putg HO_8.out (x11_2 : Int) true
               go_wp2_with (first | ((with_reducible refine gate_store (t := 4) (p := 64) rfl ?_); refine store_event (t := 4) (p := 64) (v := ?vo_w34) (w1 := (wc.setCell ⟨go32, (x11_2 : Int).toNat, none⟩ (.bool true))) ?hg ?ho ?hn ?hr ?_; (case ho => rfl); (case hg => rfl); (case hn => rfl); (case hr => first | (go_simp; done) | (go_simp; rfl)); intro w34 hw; have hg : wc.grownBy w34 (some go32) := (by rw [hw]; exact HP33.2); have hp_ : Kd.R Kd.bool 4 w34 w.heap.size (fun _ => True) (.slice (some ⟨go32, 0, none⟩) x8_1.length co32) y109 := (by rw [hw, Ny109.out]; exact HP33.1); clear HP33; replace HO_7 := zA (Kd.R_over' (v := (.slice (some ⟨go32, 0, none⟩) x8_1.length co32)) z16 (Kd.R_typed HO_8.out) (by decide) hg); replace BK104 := zA (blk_grown (g := gb104) (o := .cells #[.int .i64 a0_0, .int .i64 a0_1, .int .i64 a0_2, .int .i64 a0_3] 27 (0, 0)) z25 hg (Kd.R_ne HO_8.out BK104.out (by decide))); replace HO_8 := zA (hp_); replace HB := zA (((by rw [hw]; exact below_set (HB.out) GB32.out) : Below w.heap.size w w34)); clear hg hw hp_))
               go_roundg kj17
               case measure => have := HK1.out; have := HK2.out; have := HJ17.out; omega
               case rel => exact ⟨(y109), (wrap64 (x9_1 + 1)), z11, H', ⟨z127⟩, ⟨z16⟩, ⟨z48⟩, ⟨z25⟩, ⟨z5⟩⟩
              ·rw [if_neg c31] at H
               exact absurd H (by simp)
             ·rw [if_neg c30] at H
              exact absurd H (by simp)
            ·rw [if_neg c29] at H
             have c29b0 : (x10_2 == 1) = false := beq_eq_false_iff_ne.mpr c29
             have c29b1 : (x10_2 != 1) = true := bne_iff_ne.mpr c29
             have H' := zA H
             clear H
             go_wp2
             go_roundg kj17
             case measure => have := HK1.out; have := HK2.out; have := HJ17.out; omega
             case rel => exact ⟨(x8_1), (wrap64 (x9_1 + 1)), z11, H', ⟨z127⟩, ⟨z16⟩, ⟨z48⟩, ⟨z25⟩, ⟨z5⟩⟩
      ·rw [if_neg c16] at H
       have c16b0 : decide (x9_1 < (t102.length : Int)) = false := decide_eq_false c16
       clear c16
       obtain ⟨y110, hy110⟩ : ∃ y_ : List Int, y_ = (([] : List Int)) := ⟨_, rfl⟩
       replace H : (spec_NeededTickets.l2 k1 l1 x8_1 y110 0) = some (r1, r2) := by first | (rw [hy110]; with_reducible exact H) | (have H2_ := (Option.bind_some _ _).symm.trans H; rw [hy110]; with_reducible exact H2_) | (have H2_ := (Option.bind_some _ _).symm.trans H; with_reducible exact H2_) | with_reducible exact H | (rw [hy110]; exact H) | exact H
       have Ny110 := zA hy110
       clear hy110
       have H' := zA H
       clear H
       obtain ⟨Ao35, co35, eo35⟩ := Kd.R_slice HO_7.out
       subst eo35
       go_wp2_with (first | ((with_reducible refine gate_dst (N := 65) rfl ?_); refine Kd.R_lit (Kd.int .i64) _ 2 ?hg (N := 65) ?hd (xs := ([] : List Int)) (inner := []) (ok := fun _ => True) (okp := fun _ => True) ?hr ?hp (fun _ hk => hk) trivial (Below.refl _ _) (Nat.le_refl _) (by simp) ?_; (case hd => rfl); (case hg => rfl); (case hr => first | (go_simp; done) | (go_simp; rfl)); (case hp => exact (Reps.none _ _)); intro v111 w36 ho37 hb hg_ hnew_; clear hg_ hnew_; (first | rw [← Ny110.out] at ho37 | (simp only [Int.reduceToNat] at ho37; rw [← Ny110.out] at ho37)); replace HO_8 := zA (Kd.R_below z48 hb); have HO112 := zA (Kd.R_lower (Kd.R_new' ho37 (Kd.R_lt z16)) (below_size z5)); replace HO_7 := zA (Kd.R_elder' z16 (Kd.R_base ho37) hb); replace BK104 := zBB BK104 hb; replace HB := zA (below_step z5 hb); clear hb ho37))
       go_loopg [13, 14] k1 (fun kq v13 v14 w' => ∃ (x13_2 : List Int) (x14_2 : Int), v14 = .int .i64 x14_2 ∧ Aside0 (spec_NeededTickets.l2 kq l1 x8_1 x13_2 x14_2 = some (r1, r2)) ∧ Aside0 (kq ≤ k1) ∧ Aside0 (Kd.R Kd.bool 4 w' w.heap.size (fun _ => True) v107 x8_1) ∧ Aside0 (Kd.R (Kd.int .i64) 2 w' w.heap.size (fun _ => True) v13 x13_2) ∧ Aside0 (w'.heap[gb104]? = some (.cells #[.int .i64 a0_0, .int .i64 a0_1, .int .i64 a0_2, .int .i64 a0_3] 27 (0, 0))) ∧ Aside0 (Below w.heap.size w w'))
       case atStart => exact ⟨(y110), (0), z11, H', ⟨Nat.le_refl _⟩, ⟨z48⟩, ⟨z124⟩, ⟨z25⟩, ⟨z5⟩⟩
       case round =>
        clear H'
        (try clear c1); (try clear c2); (try clear p2); (try clear c3); (try clear p3); (try clear q3); (try clear hx3); (try clear hf3); (try clear c4); (try clear c4b0); (try clear c4b1); (try clear c5); (try clear p5); (try clear q5); (try clear hx5); (try clear c6); (try clear c6b0); (try clear c6b1); (try clear p6); (try clear c7); (try clear c7b0); (try clear c7b1); (try clear c9); (try clear c16); (try clear c16b0); (try clear c19); (try clear c19b0); (try clear c20); (try clear c21); (try clear c21b0); (try clear c22); (try clear c22b0); (try clear c23); (try clear c23b0); (try clear c24); (try clear c24b0); (try clear c26); (try clear c26b0); (try clear c29); (try clear c29b0); (try clear c29b1); (try clear c30); (try clear c30b0); (try clear c31); (try clear c31b0); (try clear p32); (try clear q32); (try clear hx32); (try clear hf32); (try clear hcz9_0); (try clear hcz9_1); (try clear hcz9_2); (try clear hcz9_3); (try clear hfz9_0); (try clear hfz9_1); (try clear hfz9_2); (try clear hfz9_3); (try clear hx32_0); (try clear hx532_0); (try clear hx533_0); (try clear p2); (try clear p32); (try clear p532); (try clear p533); (try clear q32); (try clear q532); (try clear q533)
        obtain ⟨x13_2, x14_2, rfl, HA, HK2, HO_8, HO_13, BK104, HB⟩ := hrel
        cases gk with
        | zero => exact absurd HA.out (by simp [spec_NeededTickets.l2])
        | succ k2 =>
         have H := HA.out
         clear HA
         simp only [spec_NeededTickets.l2] at H
         by_cases c38 : x14_2 < (l1.length : Int)
         ·rw [if_pos c38] at H
          have c38b0 : decide (x14_2 < (l1.length : Int)) = true := decide_eq_true c38
          clear c38
          by_cases c39 : 0 ≤ x14_2
          ·rw [if_pos c39] at H
           have c39b0 : decide (0 ≤ x14_2) = true := decide_eq_true c39
           clear c39
           by_cases c40 : x14_2 < (x8_1.length : Int)
           ·rw [if_pos c40] at H
            have c40b0 : decide (x14_2 < (x8_1.length : Int)) = true := decide_eq_true c40
            clear c40
            obtain ⟨bq41, hbq41⟩ : ∃ b_ : Bool, b_ = (rdOf false x8_1 x14_2) := ⟨_, rfl⟩
            replace H : (if bq41 = true then (if x13_2.length < 17592186044416 then (spec_NeededTickets.l2 k2 l1 x8_1 (x13_2 ++ [rd l1 x14_2]) (wrap64 (x14_2 + 1))) else (none)) else (spec_NeededTickets.l2 k2 l1 x8_1 x13_2 (wrap64 (x14_2 + 1)))) = some (r1, r2) := by rw [← hbq41] at H; exact H
            have Nbq41 := zA hbq41
            clear hbq41
            by_cases c42 : bq41 = true
            ·subst c42
             have H1 : (if x13_2.length < 17592186044416 then (spec_NeededTickets.l2 k2 l1 x8_1 (x13_2 ++ [rd l1 x14_2]) (wrap64 (x14_2 + 1))) else (none)) = some (r1, r2) := by rw [if_pos rfl] at H; exact H
             clear H
             have H := H1
             clear H1
             by_cases c43 : x13_2.length < 17592186044416
             ·rw [if_pos c43] at H
              have LMc43 := zA c43
              clear c43
              obtain ⟨y113, hy113⟩ : ∃ y_ : List Int, y_ = (x13_2 ++ [rd l1 x14_2]) := ⟨_, rfl⟩
              replace H : (spec_NeededTickets.l2 k2 l1 x8_1 y113 (wrap64 (x14_2 + 1))) = some (r1, r2) := by first | (rw [hy113]; with_reducible exact H) | (have H2_ := (Option.bind_some _ _).symm.trans H; rw [hy113]; with_reducible exact H2_) | (have H2_ := (Option.bind_some _ _).symm.trans H; with_reducible exact H2_) | with_reducible exact H | (rw [hy113]; exact H) | exact H
              have Ny113 := zA hy113
              clear hy113
              have H' := zA H
              clear H
              obtain ⟨Ao44, co44, eo44⟩ := Kd.R_slice HO_8.out
              subst eo44
              have p539 : 0 ≤ (x14_2 : Int) := of_decide_eq_true z7
              have q539 : x14_2 < (x8_1.length : Int) := of_decide_eq_true z7
              obtain ⟨ad539, e539, hx539_0⟩ := Kd.at_bool (Kd.R_reads' HO_8.out).2.2 x14_2 p539 q539
              (try rw [← Nbq41.out] at hx539_0)
              cases e539
              replace p539 := eq_true p539
              replace q539 := eq_true q539
              have p540 : 0 ≤ (x14_2 : Int) := of_decide_eq_true z7
              have q540 : x14_2 < (l1.length : Int) := of_decide_eq_true z7
              obtain ⟨ad540, e540, hx540_0⟩ := Kd.at_int HR1.out x14_2 p540 q540
              cases e540
              try replace hx540_0 := (HB.out.cell (World.block_lt_of_cell? w _ hx540_0)).trans hx540_0
              replace p540 := eq_true p540
              replace q540 := eq_true q540
              go_wp2_with (first | ((with_reducible refine gate_builtin (b := .append) (xs := #[.tmp 76, .tmp 81]) rfl ?_); at_builtin; refine Kd.R_append (Kd.int .i64) (w0 := w) w.heap.size rfl (.tmp 76) (.tmp 81) 24 2 (.int .i64 0) 8 rfl Try.underlying24 info2 rfl (by decide) (by omega) u13 x13_2 (rd l1 x14_2) [.int .i64 (rd l1 x14_2)] (fun _ => True) (fun _ => False) rfl rfl ?aP (fun _ hk => hk.elim) ?aF ?aO ?aB ?aS ?aL ?_; (case aP => exact rfl); (case aB => exact z5); (case aF => exact (fun _ _ => trivial)); (case aO => exact z100); (case aS => exact (below_size z5)); (case aL => have := LMc43.out; omega); intro v114 w45 ho hb hg hat; rw [← Ny113.out] at ho; replace HO_8 := zA (Kd.R_over' z48 (Kd.R_typed z100) (by decide) hg); replace BK104 := zA (blk_grown (g := gb104) (o := .cells #[.int .i64 a0_0, .int .i64 a0_1, .int .i64 a0_2, .int .i64 a0_3] 27 (0, 0)) z25 hg (Kd.R_ne HO_13.out BK104.out (by decide))); replace HB := zA (hb); have HO115 := zA (ho); clear HO_13; clear ho hb hg hat))
              go_roundg k2
              case measure => have := HK1.out; have := HK2.out; omega
              case rel => exact ⟨(y113), (wrap64 (x14_2 + 1)), z11, H', ⟨z76⟩, ⟨z48⟩, ⟨z66⟩, ⟨z25⟩, ⟨z5⟩⟩
             ·rw [if_neg c43] at H
              exact absurd H (by simp)
            ·replace c42 := Bool.eq_false_iff.mpr c42
             subst c42
             have H1 : (spec_NeededTickets.l2 k2 l1 x8_1 x13_2 (wrap64 (x14_2 + 1))) = some (r1, r2) := by rw [if_neg (show ¬ (false = true) by decide)] at H; exact H
             clear H
             have H := H1
             clear H1
             have H' := zA H
             clear H
             obtain ⟨Ao46, co46, eo46⟩ := Kd.R_slice HO_8.out
             subst eo46
             have p539 : 0 ≤ (x14_2 : Int) := of_decide_eq_true z7
             have q539 : x14_2 < (x8_1.length : Int) := of_decide_eq_true z7
             obtain ⟨ad539, e539, hx539_0⟩ := Kd.at_bool (Kd.R_reads' HO_8.out).2.2 x14_2 p539 q539
             (try rw [← Nbq41.out] at hx539_0)
             cases e539
             replace p539 := eq_true p539
             replace q539 := eq_true q539
             go_wp2
             go_roundg k2
             case measure => have := HK1.out; have := HK2.out; omega
             case rel => exact ⟨(x13_2), (wrap64 (x14_2 + 1)), z11, H', ⟨z76⟩, ⟨z48⟩, ⟨z100⟩, ⟨z25⟩, ⟨z5⟩⟩
           ·rw [if_neg c40] at H
            exact absurd H (by simp)
          ·rw [if_neg c39] at H
           exact absurd H (by simp)
         ·rw [if_neg c38] at H
          have c38b0 : decide (x14_2 < (l1.length : Int)) = false := decide_eq_false c38
          clear c38
          simp only [Option.some.injEq, Prod.mk.injEq] at H
          obtain ⟨rfl, rfl⟩ := H
          go_wp2
          go_ret2
          exact ⟨_, z8, z100, z5⟩
   ·rw [if_neg c7] at H
    exact absurd H (by simp)
  ·rw [if_neg c6] at H
   exact absurd H (by simp)
 ·rw [if_neg c4] at H
  have c4b0 : (t101 == 0) = false := beq_eq_false_iff_ne.mpr c4
  have c4b1 : (t101 != 0) = true := bne_iff_ne.mpr c4
  simp only [Option.some.injEq, Prod.mk.injEq] at H
  obtain ⟨rfl, rfl⟩ := H
  go_enter Try.func50, Try.ntmps50
  go_wp2_with (first | ((with_reducible refine gate_dst (N := 2) rfl ?_); refine zbox (N := 2) (cs := #[.int .i64 a0_0, .int .i64 a0_1, .int .i64 a0_2, .int .i64 a0_3]) (t := 27) ?_; intro gb104 hg w47 hbox hb; have BK104 := zA (hbox); have GW104 := zA ((z151 : w.heap.size ≤ gb104)); have GE104 := zA ((z151 : w.heap.size ≤ gb104)); replace HB := zA (below_step z1 hb); clear hb hbox hg; obtain ⟨hcz48_0, hcz48_1, hcz48_2, hcz48_3, hfz48_0, hfz48_1, hfz48_2, hfz48_3⟩ := zC4 BK104.out) | ((with_reducible refine gate_callee (f := 95) rfl ?_); refine goesL_ (some 17) rfl rfl Try.func95 (by kernel_rfl) rfl #[.agg #[.int .i64 a0_0, .int .i64 a0_1, .int .i64 a0_2, .int .i64 a0_3], .slice A1 l1.length c1] rfl z3 ?_; (with_reducible refine (spec_l08Tickets.calls k a0_0 a0_1 a0_2 a0_3 _ _ l1 t101 _ ?side1 ?side2 A3.out).mono ?_); (case side1 => exact z17); (case side2 => exact HC1.out); rintro e w49 ⟨rfl, hb⟩; refine ⟨_, rfl, ?_⟩; replace BK104 := zBB BK104 hb; replace HB := zA (below_step z5 hb); (try clear hb); (try clear hb2); (try clear hk); (try clear hi)))
  go_ret2
  exact ⟨_, z8, z37, z5⟩

end Go.Proofs.Ytchlbkcladfloaa.PFnGuarantees
