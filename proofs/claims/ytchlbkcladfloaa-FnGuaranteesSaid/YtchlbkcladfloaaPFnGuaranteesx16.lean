-- WALKS, by a program and by hand
import Derived.Test.YtchlbkcladfloaaPFnGuaranteesx0
import Derived.Test.YtchlbkcladfloaaPFnGuaranteesx3
import Derived.Test.YtchlbkcladfloaaPFnGuaranteesx9
import Derived.Test.YtchlbkcladfloaaPFnGuaranteesx10
import Derived.Test.YtchlbkcladfloaaPFnGuaranteesx12
namespace Go.Proofs.Ytchlbkcladfloaa.PFnGuarantees
open Go.RowKit Go.Proofs.Ytchlbkcladfloaa.DG Go.Proofs.YtchlbkcladfloaaW.PrintWords Go.Proofs.YtchlbkcladfloaaW.PrintLast Go.Proofs.YtchlbkcladfloaaW.PrintMore
attribute [local go_sem] max2_int min2_int max_two min_two max_three min_three max_four min_four   -- for this text's walks alone
set_option linter.unusedVariables false
set_option linter.unusedSimpArgs false

def spec_DrawPrizesOf.f (k : Nat) (l0 : List Int) : Option (Int × Int × Int × Int × List Int × Int) := (spec_l08With.f k l0).bind fun bt100 => (some (bt100.1, bt100.2.1, bt100.2.2.1, bt100.2.2.2.1, bt100.2.2.2.2.1, bt100.2.2.2.2.2))
set_option maxHeartbeats 8000000 in
set_option maxRecDepth 100000 in
theorem spec_DrawPrizesOf.calls (k : Nat) (A0 : Option Addr) (c0 : Nat) (l0 : List Int) (r1 : Int) (r2 : Int) (r3 : Int) (r4 : Int) (r5 : List Int) (r6 : Int) (w : World) (hr0 : Kd.C (Kd.int .u8) w A0 l0.length l0) (hc0 : l0.length ≤ c0) (h : spec_DrawPrizesOf.f k l0 = some (r1, r2, r3, r4, r5, r6)) :
  Calls Try.prog 51 #[.slice A0 l0.length c0] w fun e w' => ∃ v4_ : Value, e = .returned (.tuple #[.agg #[.int .i64 r1, .int .i64 r2, .int .i64 r3, .int .i64 r4], v4_, .int .i64 r6]) ∧ Kd.R (Kd.int .i64) 2 w' w.heap.size (fun _ => True) v4_ r5 ∧ Below w.heap.size w w' := by
 have hu27 := Try.underlying27
 have HR0 := zA hr0
 have HC0 := zA hc0
 clear hr0 hc0
 have HB := zA (Below.refl w.heap.size w)
 have H := h
 unfold spec_DrawPrizesOf.f at H
 (try dsimp -simprocs only at H)
 clear h
 replace H := zi H
 obtain ⟨⟨t100, t101, t102, t103, t104, t105⟩, A20, H⟩ := H
 (try dsimp -simprocs only at H)
 have A2 := zA A20
 clear A20
 simp only [Option.some.injEq, Prod.mk.injEq] at H
 obtain ⟨rfl, rfl, rfl, rfl, rfl, rfl⟩ := H
 go_enter Try.func51, Try.ntmps51
 go_wp2_with (first | ((with_reducible refine gate_dst (N := 2) rfl ?_); refine zbox (N := 2) (cs := #[.int .i64 0, .int .i64 0, .int .i64 0, .int .i64 0]) (t := 27) ?_; intro gb106 hg w3 hbox hb; have BK106 := zA (hbox); have GW106 := zA ((z151 : w.heap.size ≤ gb106)); have GE106 := zA ((z151 : w.heap.size ≤ gb106)); replace HB := zA (below_step z1 hb); clear hb hbox hg) | ((with_reducible refine gate_callee (f := 89) rfl ?_); refine goesL_ (some 6) rfl rfl Try.func89 (by kernel_rfl) rfl #[.slice A0 l0.length c0] rfl z3 ?_; (with_reducible refine (spec_l08With.calls k _ _ l0 t100 t101 t102 t103 t104 t105 _ ?side1 ?side2 A2.out).mono ?_); (case side1 => exact z83); (case side2 => exact HC0.out); rintro e w4 ⟨v107, rfl, ho0, hb⟩; refine ⟨_, rfl, ?_⟩; have HO108 := zA (Kd.R_lower ho0 (below_size z21)); replace BK106 := zBB BK106 hb; replace HB := zA (below_step z21 hb); (try clear hb); (try clear hb2); (try clear hk); (try clear hi); (try clear ho0); obtain ⟨hcz5_0, hcz5_1, hcz5_2, hcz5_3, hfz5_0, hfz5_1, hfz5_2, hfz5_3⟩ := zC4 BK106.out))
 refine bodyPost_ret (results_ctt rfl _ _ gb106 27 #[.int .i64 t100, .int .i64 t101, .int .i64 t102, .int .i64 t103] (0, 0) _ rfl (by (with_reducible repeat (first | refine blk_drewN ?_ _ | refine blk_drew ?_ | refine blk_alloc ?_ _)); refine blk_put (cs := #[.int .i64 t100, .int .i64 t101, .int .i64 t102, .int .i64 0]) ?_ 3 _ rfl; (with_reducible repeat (first | refine blk_drewN ?_ _ | refine blk_drew ?_ | refine blk_alloc ?_ _)); refine blk_put (cs := #[.int .i64 t100, .int .i64 t101, .int .i64 0, .int .i64 0]) ?_ 2 _ rfl; (with_reducible repeat (first | refine blk_drewN ?_ _ | refine blk_drew ?_ | refine blk_alloc ?_ _)); refine blk_put (cs := #[.int .i64 t100, .int .i64 0, .int .i64 0, .int .i64 0]) ?_ 1 _ rfl; (with_reducible repeat (first | refine blk_drewN ?_ _ | refine blk_drew ?_ | refine blk_alloc ?_ _)); refine blk_put (cs := #[.int .i64 0, .int .i64 0, .int .i64 0, .int .i64 0]) ?_ 0 _ rfl; (with_reducible repeat (first | refine blk_drewN ?_ _ | refine blk_drew ?_ | refine blk_alloc ?_ _)); exact BK106.out) Try.underlying27 rfl (by kernel_rfl)) rfl ?_
 exact ⟨_, z8, (by (with_reducible repeat (first | apply Kd.R_alloc | apply Kd.R_drewN | apply Kd.R_drew)); exact Kd.R_mono (Kd.R_far (p := ⟨gb106, 3, none⟩) (Kd.R_far (p := ⟨gb106, 2, none⟩) (Kd.R_far (p := ⟨gb106, 1, none⟩) (Kd.R_far (p := ⟨gb106, 0, none⟩) (Kd.R_types HO108.out BK106.out (by decide)) (fun _ hk => hk.2) (.int .i64 t100)) (fun _ hk => hk.2) (.int .i64 t101)) (fun _ hk => hk.2) (.int .i64 t102)) (fun _ hk => hk.2) (.int .i64 t103)) (fun _ hk => trivial)), z21⟩

def impl_isDraw.f (a0_0 : Int) (a0_1 : Int) (a0_2 : Int) (a0_3 : Int) (a1 : Int) : Option (Bool) := (impl_isSet.f a0_0 a0_1 a0_2 a0_3 a1).bind fun t100 => (if t100 = true then ((impl_size.f a1).bind fun t101 => (some (t101 == a0_2))) else (some false))
def impl_isDraw.T1 : Bool × List (List Nat × List Nat) := (true, [([], []), ([], []), ([0, 1], [0, 1]), ([2, 2], [2]), ([3], [3]), ([4, 3, 3], [3, 4]), ([3], [3]), ([6, 3], [3, 6]), ([5, 7, 3], [3, 5, 7]), ([3, 8], [3, 8]), ([9, 5, 0, 1, 2, 3, 4, 5, 6, 7, 8, 9], [9])])
def impl_isDraw.B1 : List Nat := [0, 0, 3, 7, 15, 31, 15, 79, 255, 511, 1023]
theorem impl_isDraw.tab1 : rtab .any (opsOf Try.f90 1) = impl_isDraw.T1 := by kernel_rfl
theorem impl_isDraw.bits1 : waitsOk impl_isDraw.T1.2 impl_isDraw.B1 = true := by kernel_rfl
set_option maxHeartbeats 8000000 in
set_option maxRecDepth 100000 in
theorem impl_isDraw.calls (a0_0 : Int) (a0_1 : Int) (a0_2 : Int) (a0_3 : Int) (a1 : Int) (r : Bool) (w : World) (h : impl_isDraw.f a0_0 a0_1 a0_2 a0_3 a1 = some r) :
  Calls Try.prog 90 #[.agg #[.int .i64 a0_0, .int .i64 a0_1, .int .i64 a0_2, .int .i64 a0_3], .int .i64 a1] w fun e w' => e = .returned (.bool r) ∧ Below w.heap.size w w' := by
 have hu27 := Try.underlying27
 have HB := zA (Below.refl w.heap.size w)
 have H := h
 unfold impl_isDraw.f at H
 (try dsimp -simprocs only at H)
 clear h
 replace H := zi H
 obtain ⟨t100, A30, H⟩ := H
 (try dsimp -simprocs only at H)
 have A3 := zA A30
 clear A30
 by_cases c4 : t100 = true
 ·subst c4
  have H1 : ((impl_size.f a1).bind fun t101 => (some (t101 == a0_2))) = some r := by rw [if_pos rfl] at H; exact H
  clear H
  have H := H1
  clear H1
  replace H := zi H
  obtain ⟨t101, A50, H⟩ := H
  replace H : (some (t101 == a0_2)) = some r := H
  have A5 := zA A50
  clear A50
  obtain rfl := Option.some.inj H
  go_enter Try.func90, Try.ntmps90
  try go_wp2_with (first | ((with_reducible refine gate_dst (N := 2) rfl ?_); refine zbox (N := 2) (cs := #[.int .i64 a0_0, .int .i64 a0_1, .int .i64 a0_2, .int .i64 a0_3]) (t := 27) ?_; intro gb102 hg w6 hbox hb; have BK102 := zA (hbox); have GW102 := zA ((z151 : w.heap.size ≤ gb102)); have GE102 := zA ((z151 : w.heap.size ≤ gb102)); replace HB := zA (below_step z1 hb); clear hb hbox hg))
  have n0_ := zA (blk_drew BK102.out)
  have n1_ := zA (below_drew1 HB.out)
  clear BK102 HB
  have BK102 := n0_
  have HB := n1_
  clear n0_ n1_
  refine start_ (n := 11) (S := fun w' => w'.cell? ⟨gb102, 0, none⟩ = some (.int .i64 a0_0) ∧ w'.cell? ⟨gb102, 1, none⟩ = some (.int .i64 a0_1) ∧ w'.cell? ⟨gb102, 2, none⟩ = some (.int .i64 a0_2) ∧ w'.cell? ⟨gb102, 3, none⟩ = some (.int .i64 a0_3)) (ds := []) #[false, false, false, false, false, false, false, false, false, false, false] (by kernel_rfl) rfl rfl ⟨(blk_cell BK102.out 0).trans rfl, (blk_cell BK102.out 1).trans rfl, (blk_cell BK102.out 2).trans rfl, (blk_cell BK102.out 3).trans rfl⟩ (fun hHeld => ?_); refine with_tabW impl_isDraw.tab1 impl_isDraw.bits1 (fun HT_ HW_ => ?_)
  generalize w6.drew = w7 at BK102 HB hHeld ⊢
  refine zpu 1 (some 6) #[false, true, false, false, false, false, false, false, false, false, false] ?_
  refine zt4 0 (some 5) #[true, true, false, false, false, false, false, false, false, false, false] ?_
  refine one_ (i := 2) (N := some 7) #[true, true, true, false, false, false, false, false, false, false, false] rfl rfl (one_of HT_.out (by kernel_rfl)) (by decide) (fun K hK => ?_)
  refine goes_ Try.func86 (by kernel_rfl) rfl #[.agg #[.int .i64 a0_0, .int .i64 a0_1, .int .i64 a0_2, .int .i64 a0_3], .int .i64 a1] (by rfl) rfl rfl z3 ?_
  with_reducible refine (impl_isSet.calls a0_0 a0_1 a0_2 a0_3 a1 true _ A3.out).mono ?_
  rintro e w8 ⟨rfl, hb⟩
  refine ⟨_, rfl, ?_⟩
  have n0_ := zBB BK102 hb
  have n1_ := zA (below_step z4 hb)
  clear BK102 HB
  have BK102 := n0_
  have HB := n1_
  clear n0_ n1_
  (try clear hb)
  (try clear hb2)
  (try clear hk)
  (try clear hi)
  refine hK.out _ _ ⟨(blk_cell BK102.out 0).trans rfl, (blk_cell BK102.out 1).trans rfl, (blk_cell BK102.out 2).trans rfl, (blk_cell BK102.out 3).trans rfl⟩ (fun hHeld => ?_)
  clear hK K
  refine norm_ (a' := ?_) ?_ ?_
  rotate_left
  ·show Act.put _ (some 7) _ = _
   simp only [Act.put, List.setIfInBounds_toArray, List.set_cons_zero, List.set_cons_succ, i64_w, i32_w]
   rfl
  refine zpu 3 (some 8) #[true, true, true, true, false, false, false, false, false, false, false] ?_
  refine zpu 4 (some 9) #[true, true, true, true, true, false, false, false, false, false, false] ?_
  refine zpu 6 (some 11) #[true, true, true, true, true, false, true, false, false, false, false] ?_
  refine zt4 7 (some 12) #[true, true, true, true, true, false, true, true, false, false, false] ?_
  refine one_ (i := 5) (N := some 10) #[true, true, true, true, true, true, true, true, false, false, false] rfl rfl (one_of HT_.out (by kernel_rfl)) (by decide) (fun K hK => ?_)
  refine goes_ Try.func91 (by kernel_rfl) rfl #[.int .i64 a1] (by rfl) rfl rfl z3 ?_
  with_reducible refine (impl_size.calls a1 t101 _ A5.out).mono ?_
  rintro e w' ⟨rfl, ⟨nd, rfl⟩⟩
  refine ⟨_, rfl, ?_⟩
  refine hK.out _ _ ⟨(blk_cell BK102.out 0).trans rfl, (blk_cell BK102.out 1).trans rfl, (blk_cell BK102.out 2).trans rfl, (blk_cell BK102.out 3).trans rfl⟩ (fun hHeld => ?_)
  clear hK K
  refine norm_ (a' := ?_) ?_ ?_
  rotate_left
  ·show Act.put _ (some 10) _ = _
   simp only [Act.put, List.setIfInBounds_toArray, List.set_cons_zero, List.set_cons_succ, i64_w, i32_w]
   rfl
  refine zpu 8 (some 13) #[true, true, true, true, true, true, true, true, true, false, false] ?_
  refine zpu 9 (some 14) #[true, true, true, true, true, true, true, true, true, true, false] ?_
  refine zpu 10 (some 4) #[true, true, true, true, true, true, true, true, true, true, true] ?_
  refine done_ (done_of HT_.out (by kernel_rfl)) ?_
  try go_wp2
  go_ret
  exact ⟨z8, z4⟩
 ·replace c4 := Bool.eq_false_iff.mpr c4
  subst c4
  have H1 : (some false) = some r := by rw [if_neg (show ¬ (false = true) by decide)] at H; exact H
  clear H
  have H := H1
  clear H1
  obtain rfl := Option.some.inj H
  go_enter Try.func90, Try.ntmps90
  try go_wp2_with (first | ((with_reducible refine gate_dst (N := 2) rfl ?_); refine zbox (N := 2) (cs := #[.int .i64 a0_0, .int .i64 a0_1, .int .i64 a0_2, .int .i64 a0_3]) (t := 27) ?_; intro gb102 hg w9 hbox hb; have BK102 := zA (hbox); have GW102 := zA ((z151 : w.heap.size ≤ gb102)); have GE102 := zA ((z151 : w.heap.size ≤ gb102)); replace HB := zA (below_step z1 hb); clear hb hbox hg))
  have n0_ := zA (blk_drew BK102.out)
  have n1_ := zA (below_drew1 HB.out)
  clear BK102 HB
  have BK102 := n0_
  have HB := n1_
  clear n0_ n1_
  refine start_ (n := 11) (S := fun w' => w'.cell? ⟨gb102, 0, none⟩ = some (.int .i64 a0_0) ∧ w'.cell? ⟨gb102, 1, none⟩ = some (.int .i64 a0_1) ∧ w'.cell? ⟨gb102, 2, none⟩ = some (.int .i64 a0_2) ∧ w'.cell? ⟨gb102, 3, none⟩ = some (.int .i64 a0_3)) (ds := []) #[false, false, false, false, false, false, false, false, false, false, false] (by kernel_rfl) rfl rfl ⟨(blk_cell BK102.out 0).trans rfl, (blk_cell BK102.out 1).trans rfl, (blk_cell BK102.out 2).trans rfl, (blk_cell BK102.out 3).trans rfl⟩ (fun hHeld => ?_); refine with_tabW impl_isDraw.tab1 impl_isDraw.bits1 (fun HT_ HW_ => ?_)
  generalize w9.drew = w10 at BK102 HB hHeld ⊢
  refine zpu 1 (some 6) #[false, true, false, false, false, false, false, false, false, false, false] ?_
  refine zt4 0 (some 5) #[true, true, false, false, false, false, false, false, false, false, false] ?_
  refine one_ (i := 2) (N := some 7) #[true, true, true, false, false, false, false, false, false, false, false] rfl rfl (one_of HT_.out (by kernel_rfl)) (by decide) (fun K hK => ?_)
  refine goes_ Try.func86 (by kernel_rfl) rfl #[.agg #[.int .i64 a0_0, .int .i64 a0_1, .int .i64 a0_2, .int .i64 a0_3], .int .i64 a1] (by rfl) rfl rfl z3 ?_
  with_reducible refine (impl_isSet.calls a0_0 a0_1 a0_2 a0_3 a1 false _ A3.out).mono ?_
  rintro e w11 ⟨rfl, hb⟩
  refine ⟨_, rfl, ?_⟩
  have n0_ := zBB BK102 hb
  have n1_ := zA (below_step z4 hb)
  clear BK102 HB
  have BK102 := n0_
  have HB := n1_
  clear n0_ n1_
  (try clear hb)
  (try clear hb2)
  (try clear hk)
  (try clear hi)
  refine hK.out _ _ ⟨(blk_cell BK102.out 0).trans rfl, (blk_cell BK102.out 1).trans rfl, (blk_cell BK102.out 2).trans rfl, (blk_cell BK102.out 3).trans rfl⟩ (fun hHeld => ?_)
  clear hK K
  refine norm_ (a' := ?_) ?_ ?_
  rotate_left
  ·show Act.put _ (some 7) _ = _
   simp only [Act.put, List.setIfInBounds_toArray, List.set_cons_zero, List.set_cons_succ, i64_w, i32_w]
   rfl
  refine zpu 3 (some 8) #[true, true, true, true, false, false, false, false, false, false, false] ?_
  refine pure_ (i := 4) (N := some 9) (v := undef) (a' := ?_) #[true, true, true, true, true, false, false, false, false, false, false] rfl rfl (any_of HT_.out (by kernel_rfl)) (fun _ _ _ h => h) (Or.inr ⟨(by rfl), rfl⟩) ?_ ?_
  rotate_left
  ·exact z2
  refine pure_ (i := 5) (N := some 10) (v := undef) (a' := ?_) #[true, true, true, true, true, true, false, false, false, false, false] rfl rfl (any_of HT_.out (by kernel_rfl)) (fun _ _ _ h => h) (Or.inr ⟨(by rfl), rfl⟩) ?_ ?_
  rotate_left
  ·exact z2
  refine pure_ (i := 6) (N := some 11) (v := undef) (a' := ?_) #[true, true, true, true, true, true, true, false, false, false, false] rfl rfl (any_of HT_.out (by kernel_rfl)) (fun _ _ _ h => h) (Or.inr ⟨(by rfl), rfl⟩) ?_ ?_
  rotate_left
  ·exact z2
  refine pure_ (i := 7) (N := some 12) (v := undef) (a' := ?_) #[true, true, true, true, true, true, true, true, false, false, false] rfl rfl (any_of HT_.out (by kernel_rfl)) (fun _ _ _ h => h) (Or.inr ⟨(by rfl), rfl⟩) ?_ ?_
  rotate_left
  ·exact z2
  refine pure_ (i := 8) (N := some 13) (v := undef) (a' := ?_) #[true, true, true, true, true, true, true, true, true, false, false] rfl rfl (any_of HT_.out (by kernel_rfl)) (fun _ _ _ h => h) (Or.inr ⟨(by rfl), rfl⟩) ?_ ?_
  rotate_left
  ·exact z2
  refine zpu 9 (some 14) #[true, true, true, true, true, true, true, true, true, true, false] ?_
  refine zpu 10 (some 4) #[true, true, true, true, true, true, true, true, true, true, true] ?_
  refine done_ (done_of HT_.out (by kernel_rfl)) ?_
  try go_wp2
  go_ret
  exact ⟨z8, z4⟩

def impl_PrizesOf.l0 : Nat → Int → List Int → List Int → Int → Int → Option (List Int × Int)
 | 0, _, _, _, _, _ => none
 | k + 1, x2, x9, x26, x27, x28 => if x28 < x27 then (if 0 ≤ x28 then (if x28 < (x26.length : Int) then ((impl_size.f (Go.bits .and .i64 (rd x26 x28) x2)).bind fun t100 => (if 0 ≤ t100 then (if t100 < (x9.length : Int) then (impl_PrizesOf.l0 k x2 (x9.set (t100 : Int).toNat (wrap64 ((rd x9 t100) + 1))) x26 x27 (wrap64 (x28 + 1))) else (none)) else (none))) else (none)) else (none)) else (some (x9, 0))
def impl_PrizesOf.f (k : Nat) (a0_0 : Int) (a0_1 : Int) (a0_2 : Int) (a0_3 : Int) (l1 : List Int) (a2 : Int) : Option (List Int × Int) := (impl_ticketsCode.f k a0_0 a0_1 a0_2 a0_3 l1).bind fun t101 => (if t101 = 0 then ((impl_isDraw.f a0_0 a0_1 a0_2 a0_3 a2).bind fun t102 => (if t102 = true then (if 0 ≤ (wrap64 (a0_1 + 1)) then (if (wrap64 (a0_1 + 1) : Int).toNat ≤ 35184372088832 then (impl_PrizesOf.l0 k a2 (List.replicate (wrap64 (a0_1 + 1) : Int).toNat 0) l1 (l1.length : Int) 0) else (none)) else (none)) else (some (([] : List Int), 2)))) else (some (([] : List Int), t101)))
set_option maxHeartbeats 8000000 in
set_option maxRecDepth 100000 in
theorem impl_PrizesOf.calls (k : Nat) (a0_0 : Int) (a0_1 : Int) (a0_2 : Int) (a0_3 : Int) (A1 : Option Addr) (c1 : Nat) (l1 : List Int) (a2 : Int) (r1 : List Int) (r2 : Int) (w : World) (hr1 : Kd.C (Kd.int .i64) w A1 l1.length l1) (hc1 : l1.length ≤ c1) (h : impl_PrizesOf.f k a0_0 a0_1 a0_2 a0_3 l1 a2 = some (r1, r2)) :
  Calls Try.prog 52 #[.agg #[.int .i64 a0_0, .int .i64 a0_1, .int .i64 a0_2, .int .i64 a0_3], .slice A1 l1.length c1, .int .i64 a2] w fun e w' => ∃ v0_ : Value, e = .returned (.tuple #[v0_, .int .i64 r2]) ∧ Kd.R (Kd.int .i64) 2 w' w.heap.size (fun _ => True) v0_ r1 ∧ Below w.heap.size w w' := by
 have hu27 := Try.underlying27
 have HR1 := zA hr1
 have HC1 := zA hc1
 clear hr1 hc1
 have HB := zA (Below.refl w.heap.size w)
 have H := h
 unfold impl_PrizesOf.f at H
 (try dsimp -simprocs only at H)
 clear h
 replace H := zi H
 obtain ⟨t101, A40, H⟩ := H
 (try dsimp -simprocs only at H)
 have A4 := zA A40
 clear A40
 by_cases c5 : t101 = 0
 ·rw [if_pos c5] at H
  have c5b0 : (t101 == 0) = true := beq_iff_eq.mpr c5
  have c5b1 : (t101 != 0) = false := bne_eq_false_iff_eq.mpr c5
  clear c5
  replace H := zi H
  obtain ⟨t102, A60, H⟩ := H
  (try dsimp -simprocs only at H)
  have A6 := zA A60
  clear A60
  by_cases c7 : t102 = true
  ·subst c7
   have H1 : (if 0 ≤ (wrap64 (a0_1 + 1)) then (if (wrap64 (a0_1 + 1) : Int).toNat ≤ 35184372088832 then (impl_PrizesOf.l0 k a2 (List.replicate (wrap64 (a0_1 + 1) : Int).toNat 0) l1 (l1.length : Int) 0) else (none)) else (none)) = some (r1, r2) := by rw [if_pos rfl] at H; exact H
   clear H
   have H := H1
   clear H1
   obtain ⟨ji8, hji8⟩ : ∃ j_ : Int, (wrap64 (a0_1 + 1)) = j_ := ⟨_, rfl⟩
   replace H : (if 0 ≤ (ji8) then (if (ji8 : Int).toNat ≤ 35184372088832 then (impl_PrizesOf.l0 k a2 (List.replicate (ji8 : Int).toNat 0) l1 (l1.length : Int) 0) else (none)) else (none)) = some (r1, r2) := by first | (rw [hji8] at H; exact H) | (simp only [hji8] at H ⊢; exact H)
   (try rw [hji8] at A4)
   (try rw [hji8] at A6)
   have hji8w : (IntKind.i64.wrap (a0_1 + 1)) = ji8 := (i64_w _).trans hji8
   by_cases c9 : 0 ≤ (ji8)
   ·rw [if_pos c9] at H
    have c9b0 := eq_true c9
    have c9b1 : decide (0 ≤ (ji8)) = true := decide_eq_true c9
    clear c9
    by_cases c10 : (ji8 : Int).toNat ≤ 35184372088832
    ·rw [if_pos c10] at H
     have c10b0 := eq_true c10
     have c10b1 : decide ((ji8 : Int).toNat ≤ 35184372088832) = true := decide_eq_true c10
     clear c10
     obtain ⟨y103, hy103⟩ : ∃ y_ : List Int, y_ = (List.replicate (ji8 : Int).toNat 0) := ⟨_, rfl⟩
     replace H : (impl_PrizesOf.l0 k a2 y103 l1 (l1.length : Int) 0) = some (r1, r2) := by first | (rw [hy103]; with_reducible exact H) | (have H2_ := (Option.bind_some _ _).symm.trans H; rw [hy103]; with_reducible exact H2_) | (have H2_ := (Option.bind_some _ _).symm.trans H; with_reducible exact H2_) | with_reducible exact H | (rw [hy103]; exact H) | exact H
     have Ny103 := zA hy103
     clear hy103
     have H' := zA H
     clear H
     go_enter Try.func52, Try.ntmps52
     go_wp2_with (first | ((with_reducible refine gate_dst (N := 3) rfl ?_); refine zbox (N := 3) (cs := #[.int .i64 a0_0, .int .i64 a0_1, .int .i64 a0_2, .int .i64 a0_3]) (t := 27) ?_; intro gb104 hg w11 hbox hb; have BK104 := zA (hbox); have GW104 := zA ((z151 : w.heap.size ≤ gb104)); have GE104 := zA ((z151 : w.heap.size ≤ gb104)); replace HB := zA (below_step z1 hb); clear hb hbox hg; obtain ⟨hcz12_0, hcz12_1, hcz12_2, hcz12_3, hfz12_0, hfz12_1, hfz12_2, hfz12_3⟩ := zC4 BK104.out) | ((with_reducible refine gate_callee (f := 93) rfl ?_); refine goesL_ (some 14) rfl rfl Try.func93 (by kernel_rfl) rfl #[.agg #[.int .i64 a0_0, .int .i64 a0_1, .int .i64 a0_2, .int .i64 a0_3], .slice A1 l1.length c1] rfl z3 ?_; (with_reducible refine (impl_ticketsCode.calls k a0_0 a0_1 a0_2 a0_3 _ _ l1 t101 _ ?side1 ?side2 A4.out).mono ?_); (case side1 => exact z17); (case side2 => exact HC1.out); rintro e w13 ⟨rfl, hb⟩; refine ⟨_, rfl, ?_⟩; replace BK104 := zBB BK104 hb; replace HB := zA (below_step z5 hb); (try clear hb); (try clear hb2); (try clear hk); (try clear hi); obtain ⟨hcz14_0, hcz14_1, hcz14_2, hcz14_3, hfz14_0, hfz14_1, hfz14_2, hfz14_3⟩ := zC4 BK104.out) | ((with_reducible refine gate_callee (f := 90) rfl ?_); refine goesL_ (some 20) rfl rfl Try.func90 (by kernel_rfl) rfl #[.agg #[.int .i64 a0_0, .int .i64 a0_1, .int .i64 a0_2, .int .i64 a0_3], .int .i64 a2] rfl z3 ?_; (with_reducible refine (impl_isDraw.calls a0_0 a0_1 a0_2 a0_3 a2 true _ A6.out).mono ?_); rintro e w15 ⟨rfl, hb⟩; refine ⟨_, rfl, ?_⟩; replace BK104 := zBB BK104 hb; replace HB := zA (below_step z5 hb); (try clear hb); (try clear hb2); (try clear hk); (try clear hi); obtain ⟨hcz16_0, hcz16_1, hcz16_2, hcz16_3, hfz16_0, hfz16_1, hfz16_2, hfz16_3⟩ := zC4 BK104.out) | ((with_reducible refine gate_dst (N := 25) rfl ?_); refine Kd.R_make (Kd.int .i64) _ 2 rfl (N := 25) rfl 24 _ _ rfl ji8 rfl rfl Try.underlying24 (.int .i64 0) 8 info2 rfl (by decide) (by omega) 0 (ok := fun _ => True) (okp := fun _ => True) rfl (fun _ hk => hk) trivial (of_decide_eq_true z7) (Nat.le_trans (Nat.mul_le_mul_right _ (of_decide_eq_true z7 : ji8.toNat ≤ 35184372088832)) (by omega)) (Below.refl _ _) (Nat.le_refl _) ?_; intro v105 w17 ho18 hb hg_ hnew_; clear hg_ hnew_; (first | rw [← Ny103.out] at ho18 | (simp only [Int.reduceToNat] at ho18; rw [← Ny103.out] at ho18)); have HO106 := zA (Kd.R_lower ho18 (below_size z5)); replace BK104 := zBB BK104 hb; replace HB := zA (below_step z5 hb); clear hb ho18))
     go_loopg [28] k (fun kq v28 w' => ∃ (x9_1 : List Int) (x28_1 : Int), v28 = .int .i64 x28_1 ∧ Aside0 (impl_PrizesOf.l0 kq a2 x9_1 l1 (l1.length : Int) x28_1 = some (r1, r2)) ∧ Aside0 (kq ≤ k) ∧ Aside0 (Kd.R (Kd.int .i64) 2 w' w.heap.size (fun _ => True) v105 x9_1) ∧ Aside0 (w'.heap[gb104]? = some (.cells #[.int .i64 a0_0, .int .i64 a0_1, .int .i64 a0_2, .int .i64 a0_3] 27 (0, 0))) ∧ Aside0 (Below w.heap.size w w'))
     case atStart => exact ⟨(y103), (0), z11, H', ⟨Nat.le_refl _⟩, ⟨z55⟩, ⟨z25⟩, ⟨z5⟩⟩
     case round =>
      clear H'
      (try clear c1); (try clear p2); (try clear c5); (try clear c5b0); (try clear c5b1); (try clear p6); (try clear c7); (try clear c9); (try clear c9b0); (try clear c9b1); (try clear c10); (try clear c10b0); (try clear c10b1); (try clear hcz12_0); (try clear hcz12_1); (try clear hcz12_2); (try clear hcz12_3); (try clear hcz14_0); (try clear hcz14_1); (try clear hcz14_2); (try clear hcz14_3); (try clear hcz16_0); (try clear hcz16_1); (try clear hcz16_2); (try clear hcz16_3); (try clear hfz12_0); (try clear hfz12_1); (try clear hfz12_2); (try clear hfz12_3); (try clear hfz14_0); (try clear hfz14_1); (try clear hfz14_2); (try clear hfz14_3); (try clear hfz16_0); (try clear hfz16_1); (try clear hfz16_2); (try clear hfz16_3)
      obtain ⟨x9_1, x28_1, rfl, HA, HK1, HO_9, BK104, HB⟩ := hrel
      cases gk with
      | zero => exact absurd HA.out (by simp [impl_PrizesOf.l0])
      | succ k1 =>
       have H := HA.out
       clear HA
       simp only [impl_PrizesOf.l0] at H
       by_cases c19 : x28_1 < (l1.length : Int)
       ·rw [if_pos c19] at H
        have c19b0 : decide (x28_1 < (l1.length : Int)) = true := decide_eq_true c19
        clear c19
        by_cases c20 : 0 ≤ x28_1
        ·rw [if_pos c20] at H
         have c20b0 : decide (0 ≤ x28_1) = true := decide_eq_true c20
         clear c20
         by_cases c21 : x28_1 < (l1.length : Int)
         ·rw [if_pos c21] at H
          have c21b0 : decide (x28_1 < (l1.length : Int)) = true := decide_eq_true c21
          clear c21
          replace H := zi H
          obtain ⟨t100, A220, H⟩ := H
          (try dsimp -simprocs only at H)
          have A22 := zA A220
          clear A220
          by_cases c23 : 0 ≤ t100
          ·rw [if_pos c23] at H
           have c23b0 : decide (0 ≤ t100) = true := decide_eq_true c23
           clear c23
           by_cases c24 : t100 < (x9_1.length : Int)
           ·rw [if_pos c24] at H
            have c24b0 : decide (t100 < (x9_1.length : Int)) = true := decide_eq_true c24
            clear c24
            obtain ⟨y107, hy107⟩ : ∃ y_ : List Int, y_ = (x9_1.set (t100 : Int).toNat (wrap64 ((rd x9_1 t100) + 1))) := ⟨_, rfl⟩
            replace H : (impl_PrizesOf.l0 k1 a2 y107 l1 (l1.length : Int) (wrap64 (x28_1 + 1))) = some (r1, r2) := by first | (rw [hy107]; with_reducible exact H) | (have H2_ := (Option.bind_some _ _).symm.trans H; rw [hy107]; with_reducible exact H2_) | (have H2_ := (Option.bind_some _ _).symm.trans H; with_reducible exact H2_) | with_reducible exact H | (rw [hy107]; exact H) | exact H
            have Ny107 := zA hy107
            clear hy107
            have H' := zA H
            clear H
            have p562 : 0 ≤ (x28_1 : Int) := of_decide_eq_true z7
            have q562 : x28_1 < (l1.length : Int) := of_decide_eq_true z7
            obtain ⟨ad562, e562, hx562_0⟩ := Kd.at_int HR1.out x28_1 p562 q562
            cases e562
            try replace hx562_0 := (HB.out.cell (World.block_lt_of_cell? w _ hx562_0)).trans hx562_0
            replace p562 := eq_true p562
            replace q562 := eq_true q562
            go_wp2_with (first | ((with_reducible refine gate_callee (f := 91) rfl ?_); refine goesL_ (some 36) rfl rfl Try.func91 (by kernel_rfl) rfl #[.int .i64 (Go.bits .and .i64 (rd l1 x28_1) a2)] rfl z3 ?_; (with_reducible refine (impl_size.calls (Go.bits .and .i64 (rd l1 x28_1) a2) t100 _ A22.out).mono ?_); rintro e w' ⟨rfl, ⟨nd, rfl⟩⟩; refine ⟨_, rfl, ?_⟩; (try (rw [drewN_self wr]; generalize hq_ : World.drewN wr _ = wr; replace HO_9 : Aside0 (Kd.R (Kd.int .i64) 2 wr w.heap.size (fun _ => True) v105 x9_1) := ⟨(by rw [← hq_]; exact z74)⟩; replace BK104 : Aside0 (wr.heap[gb104]? = some (.cells #[.int .i64 a0_0, .int .i64 a0_1, .int .i64 a0_2, .int .i64 a0_3] 27 (0, 0))) := ⟨(by rw [← hq_]; exact z25)⟩; replace HB : Aside0 (Below w.heap.size w wr) := ⟨(by rw [← hq_]; exact z5)⟩; clear hq_)); obtain ⟨Ao26, co26, eo26⟩ := Kd.R_slice HO_9.out; subst eo26; have p564 : 0 ≤ (t100 : Int) := of_decide_eq_true z7; have q564 : t100 < (x9_1.length : Int) := of_decide_eq_true z7; obtain ⟨ad564, e564, hx564_0⟩ := Kd.at_int (Kd.R_reads' HO_9.out).2.2 t100 p564 q564; cases e564; replace p564 := eq_true p564; replace q564 := eq_true q564; have p25 : 0 ≤ (t100 : Int) := of_decide_eq_true z7; have q25 : (t100 : Int) < ((x9_1.length : Int) : Int) := of_decide_eq_true z7; obtain ⟨go25, co25, eo25, gb25, gl25, cl25, HG25⟩ := Kd.R_form HO_9.out (by omega); (first | cases eo25 | (injection eo25 with ea_ en_ ec_; (first | subst ea_ | (injection ea_ with ea_; subst ea_)); subst ec_; clear en_)); have GB25 := zA gb25; have GG25 := zA HG25; clear gb25 gl25 HG25; (first | simp only [add_plain] at hx564_0 | skip); obtain ⟨hx25_0, hf25_0⟩ := Kd.R_celln 0 HO_9.out (t100 : Int) p25 q25; replace p25 := eq_true p25; replace q25 := eq_true q25; obtain ⟨hy27_, hz27_⟩ := Kd.R_celln 0 HO_9.out (t100 : Int) (of_decide_eq_true z7) (of_decide_eq_true z7); have HP27 := Kd.R_putg HO_9.out (t100 : Int) (wrap64 ((rd x9_1 t100) + 1))) | ((with_reducible refine gate_store (t := 2) (p := 40) rfl ?_); refine store_event (t := 2) (p := 40) (v := ?vo_w28) (w1 := (wr.setCell ⟨go25, (t100 : Int).toNat, none⟩ (.int .i64 (wrap64 ((rd x9_1 t100) + 1))))) ?hg ?ho ?hn ?hr ?_; (case ho => rfl); (case hg => rfl); (case hn => rfl); (case hr => first | (go_simp; done) | (go_simp; rfl)); intro w28 hw; have hg : wr.grownBy w28 (some go25) := (by rw [hw]; exact HP27.2); have hp_ : Kd.R (Kd.int .i64) 2 w28 w.heap.size (fun _ => True) (.slice (some ⟨go25, 0, none⟩) x9_1.length co26) y107 := (by rw [hw, Ny107.out]; exact HP27.1); clear HP27; replace BK104 := zA (blk_grown (g := gb104) (o := .cells #[.int .i64 a0_0, .int .i64 a0_1, .int .i64 a0_2, .int .i64 a0_3] 27 (0, 0)) z25 hg (Kd.R_ne HO_9.out BK104.out (by decide))); replace HO_9 := zA (hp_); replace HB := zA (((by rw [hw]; exact below_set (HB.out) GB25.out) : Below w.heap.size w w28)); clear hg hw hp_))
            go_roundg k1
            case measure => have := HK1.out; omega
            case rel => exact ⟨(y107), (wrap64 (x28_1 + 1)), z11, H', ⟨z73⟩, ⟨z74⟩, ⟨z25⟩, ⟨z5⟩⟩
           ·rw [if_neg c24] at H
            exact absurd H (by simp)
          ·rw [if_neg c23] at H
           exact absurd H (by simp)
         ·rw [if_neg c21] at H
          exact absurd H (by simp)
        ·rw [if_neg c20] at H
         exact absurd H (by simp)
       ·rw [if_neg c19] at H
        have c19b0 : decide (x28_1 < (l1.length : Int)) = false := decide_eq_false c19
        clear c19
        simp only [Option.some.injEq, Prod.mk.injEq] at H
        obtain ⟨rfl, rfl⟩ := H
        go_wp2
        go_ret2
        exact ⟨_, z109, z74, z5⟩
    ·rw [if_neg c10] at H
     exact absurd H (by simp)
   ·rw [if_neg c9] at H
    exact absurd H (by simp)
  ·replace c7 := Bool.eq_false_iff.mpr c7
   subst c7
   have H1 : (some (([] : List Int), 2)) = some (r1, r2) := by rw [if_neg (show ¬ (false = true) by decide)] at H; exact H
   clear H
   have H := H1
   clear H1
   simp only [Option.some.injEq, Prod.mk.injEq] at H
   obtain ⟨rfl, rfl⟩ := H
   go_enter Try.func52, Try.ntmps52
   go_wp2_with (first | ((with_reducible refine gate_dst (N := 3) rfl ?_); refine zbox (N := 3) (cs := #[.int .i64 a0_0, .int .i64 a0_1, .int .i64 a0_2, .int .i64 a0_3]) (t := 27) ?_; intro gb104 hg w29 hbox hb; have BK104 := zA (hbox); have GW104 := zA ((z151 : w.heap.size ≤ gb104)); have GE104 := zA ((z151 : w.heap.size ≤ gb104)); replace HB := zA (below_step z1 hb); clear hb hbox hg; obtain ⟨hcz30_0, hcz30_1, hcz30_2, hcz30_3, hfz30_0, hfz30_1, hfz30_2, hfz30_3⟩ := zC4 BK104.out) | ((with_reducible refine gate_callee (f := 93) rfl ?_); refine goesL_ (some 14) rfl rfl Try.func93 (by kernel_rfl) rfl #[.agg #[.int .i64 a0_0, .int .i64 a0_1, .int .i64 a0_2, .int .i64 a0_3], .slice A1 l1.length c1] rfl z3 ?_; (with_reducible refine (impl_ticketsCode.calls k a0_0 a0_1 a0_2 a0_3 _ _ l1 t101 _ ?side1 ?side2 A4.out).mono ?_); (case side1 => exact z17); (case side2 => exact HC1.out); rintro e w31 ⟨rfl, hb⟩; refine ⟨_, rfl, ?_⟩; replace BK104 := zBB BK104 hb; replace HB := zA (below_step z5 hb); (try clear hb); (try clear hb2); (try clear hk); (try clear hi); obtain ⟨hcz32_0, hcz32_1, hcz32_2, hcz32_3, hfz32_0, hfz32_1, hfz32_2, hfz32_3⟩ := zC4 BK104.out) | ((with_reducible refine gate_callee (f := 90) rfl ?_); refine goesL_ (some 20) rfl rfl Try.func90 (by kernel_rfl) rfl #[.agg #[.int .i64 a0_0, .int .i64 a0_1, .int .i64 a0_2, .int .i64 a0_3], .int .i64 a2] rfl z3 ?_; (with_reducible refine (impl_isDraw.calls a0_0 a0_1 a0_2 a0_3 a2 false _ A6.out).mono ?_); rintro e w33 ⟨rfl, hb⟩; refine ⟨_, rfl, ?_⟩; replace BK104 := zBB BK104 hb; replace HB := zA (below_step z5 hb); (try clear hb); (try clear hb2); (try clear hk); (try clear hi)))
   go_ret2
   exact ⟨_, z8, z37, z5⟩
 ·rw [if_neg c5] at H
  have c5b0 : (t101 == 0) = false := beq_eq_false_iff_ne.mpr c5
  have c5b1 : (t101 != 0) = true := bne_iff_ne.mpr c5
  simp only [Option.some.injEq, Prod.mk.injEq] at H
  obtain ⟨rfl, rfl⟩ := H
  go_enter Try.func52, Try.ntmps52
  go_wp2_with (first | ((with_reducible refine gate_dst (N := 3) rfl ?_); refine zbox (N := 3) (cs := #[.int .i64 a0_0, .int .i64 a0_1, .int .i64 a0_2, .int .i64 a0_3]) (t := 27) ?_; intro gb104 hg w34 hbox hb; have BK104 := zA (hbox); have GW104 := zA ((z151 : w.heap.size ≤ gb104)); have GE104 := zA ((z151 : w.heap.size ≤ gb104)); replace HB := zA (below_step z1 hb); clear hb hbox hg; obtain ⟨hcz35_0, hcz35_1, hcz35_2, hcz35_3, hfz35_0, hfz35_1, hfz35_2, hfz35_3⟩ := zC4 BK104.out) | ((with_reducible refine gate_callee (f := 93) rfl ?_); refine goesL_ (some 14) rfl rfl Try.func93 (by kernel_rfl) rfl #[.agg #[.int .i64 a0_0, .int .i64 a0_1, .int .i64 a0_2, .int .i64 a0_3], .slice A1 l1.length c1] rfl z3 ?_; (with_reducible refine (impl_ticketsCode.calls k a0_0 a0_1 a0_2 a0_3 _ _ l1 t101 _ ?side1 ?side2 A4.out).mono ?_); (case side1 => exact z17); (case side2 => exact HC1.out); rintro e w36 ⟨rfl, hb⟩; refine ⟨_, rfl, ?_⟩; replace BK104 := zBB BK104 hb; replace HB := zA (below_step z5 hb); (try clear hb); (try clear hb2); (try clear hk); (try clear hi)))
  go_ret2
  exact ⟨_, z8, z37, z5⟩

end Go.Proofs.Ytchlbkcladfloaa.PFnGuarantees
