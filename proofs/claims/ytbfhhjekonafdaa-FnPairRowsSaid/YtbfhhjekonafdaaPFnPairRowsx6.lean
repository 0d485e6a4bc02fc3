-- WALKS, by a program and by hand
import Derived.Test.YtbfhhjekonafdaaPFnPairRowsx0
import Derived.Test.YtbfhhjekonafdaaPFnPairRowsx4
import Derived.Test.YtbfhhjekonafdaaPFnPairRowsx5
namespace Go.Proofs.Ytbfhhjekonafdaa.PFnPairRows
open Go.RowKit Go.Proofs.Ytbfhhjekonafdaa.DG Go.Proofs.YtbfhhjekonafdaaW.PrintWords Go.Proofs.YtbfhhjekonafdaaW.PrintLast Go.Proofs.YtbfhhjekonafdaaW.PrintMore
attribute [local go_sem] max2_int min2_int max_two min_two max_three min_three max_four min_four   -- for this text's walks alone
set_option linter.unusedVariables false
set_option linter.unusedSimpArgs false

/-! ### spec_l10All: function 55 -/
mutual
def spec_l10All.l0 : Nat → List (List Int) → List (List Int) → Int → List Int → Option ((List (List Int)))
  | 0, _, _, _, _ => none
  | k + 1, x5, x6, x7, x251000 => if x7 < (x5.length : Int) then (if 0 ≤ x7 then ((spec_l10Digits.f k x251000 (rd_L2 x5 x7)).bind fun t100 => (spec_l10All.l1 k x5 x6 x7 t100 0 x251000)) else (none)) else (some x6)
def spec_l10All.l1 : Nat → List (List Int) → List (List Int) → Int → List (List Int) → Int → List Int → Option ((List (List Int)))
  | 0, _, _, _, _, _, _ => none
  | k + 1, x5, x6, x7, x8, x9, x251000 => if x9 < (x8.length : Int) then (if 0 ≤ x7 then (if x7 < (x5.length : Int) then ((spec_l01Own.f (rd_L2 x5 x7)).bind fun t101 => (if 0 ≤ x9 then (if t101.length + (rd_L2 x8 x9).length < 17592186044416 then (if x6.length < 5864062014805 then (spec_l10All.l1 k x5 (x6 ++ [(t101 ++ (rd_L2 x8 x9))]) x7 x8 (wrap64 (x9 + 1)) x251000) else (none)) else (none)) else (none))) else (none)) else (none)) else (spec_l10All.l0 k x5 x6 (wrap64 (x7 + 1)) x251000)
end
def spec_l10All.f (k : Nat) (l0_0 : List Int) (a1 : Int) : Option ((List (List Int))) := (spec_l10Places.f k l0_0 0 a1).bind fun t102 => (spec_l10All.l0 k t102 (([] : List (List Int))) 0 l0_0)
def spec_l10All.T9 : Bool × List (List Nat × List Nat) := (true, [([], []), ([], []), ([], []), ([1, 2], [1, 2]), ([3], [3]), ([4], [4]), ([], []), ([], []), ([6, 7], [6, 7]), ([8], [8]), ([5, 9, 5], [5, 9]), ([10], [10]), ([0, 11, 10], [0, 11]), ([12, 12, 0, 1, 2, 3, 4, 5, 6, 7, 8, 9, 10, 11, 12], [0, 12])])
def spec_l10All.B9 : List Nat := [0, 0, 0, 6, 14, 30, 0, 0, 192, 448, 1022, 2046, 4095, 8191]
theorem spec_l10All.tab9 : rtab .any (opsOf Try.f55 9) = spec_l10All.T9 := by kernel_rfl
theorem spec_l10All.bits9 : waitsOk spec_l10All.T9.2 spec_l10All.B9 = true := by kernel_rfl
set_option maxHeartbeats 8000000 in
set_option maxRecDepth 100000 in
theorem spec_l10All.calls (k : Nat) (A0_0 : Option Addr) (c0_0 : Nat) (l0_0 : List Int) (a1 : Int) (r : List (List Int)) (w : World) (hr0_0 : Kd.C (Kd.int .i64) w A0_0 l0_0.length l0_0) (hc0_0 : l0_0.length ≤ c0_0) (h : spec_l10All.f k l0_0 a1 = some r) :
    Calls Try.prog 55 #[.agg #[.slice A0_0 l0_0.length c0_0], .int .i64 a1] w fun e w' => ∃ v0_ : Value, e = .returned (v0_) ∧ Kd.N (Kd.slice 2 (Kd.int .i64)) 25 w' w.heap.size (fun k_ => (w.heap.size ≤ k_)) v0_ r ∧ Below w.heap.size w w' := by
  have hu27 := Try.underlying27
  have HR0_0 := zA hr0_0
  have HC0_0 := zA hc0_0
  clear hr0_0 hc0_0
  have HB := zA (Below.refl w.heap.size w)
  have H : ((spec_l10Places.f k l0_0 0 a1).bind fun t102 => (spec_l10All.l0 k t102 (([] : List (List Int))) 0 l0_0)) = some r := h
  clear h
  replace H := zi H
  obtain ⟨t102, A30, H⟩ := H
  (try dsimp -simprocs only at H)
  have A3 := zA A30
  clear A30
  obtain ⟨y103, hy103⟩ : ∃ y_ : List (List Int), y_ = (([] : List (List Int))) := ⟨_, rfl⟩
  replace H : (spec_l10All.l0 k t102 y103 0 l0_0) = some r := by first | (rw [hy103]; with_reducible exact H) | (have H2_ := (Option.bind_some _ _).symm.trans H; rw [hy103]; with_reducible exact H2_) | (have H2_ := (Option.bind_some _ _).symm.trans H; with_reducible exact H2_) | with_reducible exact H | (rw [hy103]; exact H) | exact H
  have Ny103 := zA hy103
  clear hy103
  have H' := zA H
  clear H
  go_enter Try.func55, Try.ntmps55
  go_wp2_with (first | ((with_reducible refine gate_dst (N := 2) rfl ?_); refine box_event ?hg (N := 2) ?hd (cs := #[.slice A0_0 l0_0.length c0_0]) (t := 27) ?hr ?_; (case hd => rfl); (case hg => rfl); (case hr => first | (go_simp; done) | (go_simp; rfl)); intro gb104 hg w4 hbox hb; have n0_ := zA (below_step z1 hb); have n1_ := zA (hbox); have n2_ := zA ((z178 : w.heap.size ≤ gb104)); have n3_ := zA ((z178 : w.heap.size ≤ gb104)); clear HB; have HB := n0_; have BK104 := n1_; have GW104 := n2_; have GE104 := n3_; clear n0_ n1_ n2_ n3_; clear hb hbox hg; obtain ⟨hcz5_0, hfz5_0⟩ := zC1 BK104.out) | ((with_reducible refine gate_callee (f := 84) rfl ?_); refine goesL_ (some 12) rfl rfl Try.func84 (by kernel_rfl) rfl #[.agg #[.slice A0_0 l0_0.length c0_0], .int .i64 0, .int .i64 a1] rfl z3 ?_; (with_reducible refine (spec_l10Places.calls k _ _ l0_0 0 a1 t102 _ ?side1 ?side2 A3.out).mono ?_); (case side1 => exact z5); (case side2 => exact HC0_0.out); rintro e w6 ⟨v105, rfl, ho0, hb⟩; refine ⟨_, rfl, ?_⟩; have n0_ := zA (Kd.N_lower (Kd.N_mono (ok' := fun k_ => (w.heap.size ≤ k_) ∧ k_ ≠ gb104) ho0 (fun k_ hk_ => ⟨(Nat.le_trans (below_size z7) hk_), (Kd.freshB (g := gb104) (o := .cells #[.slice A0_0 l0_0.length c0_0] 27 (0, 0)) z33 k_ hk_)⟩)) (below_size z7)); have n1_ := zBB BK104 hb; have n2_ := zA (below_step z7 hb); clear BK104 HB; have HO106 := n0_; have BK104 := n1_; have HB := n2_; clear n0_ n1_ n2_; (try clear hb); (try clear hb2); (try clear hk); (try clear hi); (try clear ho0)) | ((with_reducible refine gate_dst (N := 13) rfl ?_); refine Kd.N_lit (Kd.slice 2 (Kd.int .i64)) _ 25 ?hg (N' := 13) ?hd (xs := ([] : List (List Int))) (inner := []) (ok := (fun k_ => (w.heap.size ≤ k_) ∧ some k_ ≠ (v105 : Value).ownBlock ∧ k_ ≠ gb104)) (okp := (fun k_ => (w.heap.size ≤ k_) ∧ some k_ ≠ (v105 : Value).ownBlock ∧ k_ ≠ gb104)) ?hr ?hp (fun _ hk => hk) ((show ∀ k_, w6.heap.size ≤ k_ → (fun k_ => (w.heap.size ≤ k_) ∧ some k_ ≠ (v105 : Value).ownBlock ∧ k_ ≠ gb104) k_ from fun k_ hk => ⟨(Nat.le_trans (below_size z7) hk), Kd.fresh' (Kd.N_lt z161) k_ hk, Kd.freshB (g := gb104) (o := .cells #[.slice A0_0 l0_0.length c0_0] 27 (0, 0)) z33 k_ hk⟩) _ (Nat.le_refl _)) (Below.refl _ _) (Nat.le_refl _) (by simp) ?_; (case hd => rfl); (case hg => rfl); (case hr => first | (go_simp; done) | (go_simp; rfl)); (case hp => exact (Reps.none _ _)); intro v107 w7 ho8 hb hg_ hnew_; clear hg_ hnew_; (first | rw [← Ny103.out] at ho8 | (simp only [Int.reduceToNat] at ho8; rw [← Ny103.out] at ho8)); have n0_ := zA (Kd.N_elder' z161 (Kd.N_base ho8) hb); have n1_ := zA (Kd.N_lower ho8 (below_size z7)); have n2_ := zBB BK104 hb; have n3_ := zA (below_step z7 hb); clear HO106 BK104 HB; have HO106 := n0_; have HO108 := n1_; have BK104 := n2_; have HB := n3_; clear n0_ n1_ n2_ n3_; clear hb ho8))
  go_loopg [6, 7] k (fun kq v6 v7 w' => ∃ (x6_1 : List (List Int)) (x7_1 : Int), v7 = .int .i64 x7_1 ∧ Aside0 (spec_l10All.l0 kq t102 x6_1 x7_1 l0_0 = some r) ∧ Aside0 (kq ≤ k) ∧ Aside0 (Kd.N (Kd.slice 2 (Kd.int .i64)) 25 w' w.heap.size (fun k_ => (w.heap.size ≤ k_) ∧ some k_ ≠ (v6 : Value).ownBlock ∧ k_ ≠ gb104) v105 t102) ∧ Aside0 (Kd.N (Kd.slice 2 (Kd.int .i64)) 25 w' w.heap.size (fun k_ => (w.heap.size ≤ k_) ∧ some k_ ≠ (v105 : Value).ownBlock ∧ k_ ≠ gb104) v6 x6_1) ∧ Aside0 (w'.heap[gb104]? = some (.cells #[(.slice A0_0 l0_0.length c0_0)] 27 (0, 0))) ∧ Aside0 (Below w.heap.size w w'))
  case atStart => exact ⟨(y103), (0), z16, H', ⟨Nat.le_refl _⟩, ⟨(by (with_reducible repeat (first | apply Kd.N_alloc | apply Kd.N_drewN | apply Kd.N_drew)); exact Kd.N_mono HO106.out (fun _ hk => ⟨hk.1.1, ⟨hk.2, hk.1.2⟩⟩))⟩, ⟨(by (with_reducible repeat (first | apply Kd.N_alloc | apply Kd.N_drewN | apply Kd.N_drew)); exact HO108.out)⟩, ⟨z33⟩, ⟨z7⟩⟩
  case round =>
    clear H'
    try clear p2
    try clear c5
    try clear c8
    try clear hcz5_0
    try clear hfz5_0
    obtain ⟨x6_1, x7_1, rfl, HA, HK1, HO_5, HO_6, BK104, HB⟩ := hrel
    cases gk with
    | zero => exact absurd HA.out (by simp [spec_l10All.l0])
    | succ k1 =>
      have H := HA.out
      clear HA
      simp only [spec_l10All.l0] at H
      by_cases c9 : x7_1 < (t102.length : Int)
      · rw [if_pos c9] at H
        have c9b0 : decide (x7_1 < (t102.length : Int)) = true := decide_eq_true c9
        clear c9
        by_cases c10 : 0 ≤ x7_1
        · rw [if_pos c10] at H
          have c10b0 : decide (0 ≤ x7_1) = true := decide_eq_true c10
          clear c10
          replace H := zi H
          obtain ⟨t100, A110, H⟩ := H
          replace H : (spec_l10All.l1 k1 t102 x6_1 x7_1 t100 0 l0_0) = some r := H
          have A11 := zA A110
          clear A110
          have H' := zA H
          clear H
          obtain ⟨Ao12, co12, eo12⟩ := Kd.N_slice HO_5.out
          subst eo12
          try go_wp2
          have n0_ := zA (Kd.N_drew HO_5.out)
          have n1_ := zA (Kd.N_drew HO_6.out)
          have n2_ := zA (blk_drew BK104.out)
          have n3_ := zA (below_drew1 HB.out)
          clear HO_5 HO_6 BK104 HB
          have HO_5 := n0_
          have HO_6 := n1_
          have BK104 := n2_
          have HB := n3_
          clear n0_ n1_ n2_ n3_
          have p257 : 0 ≤ (x7_1 : Int) := of_decide_eq_true z14
          have q257 : x7_1 < (t102.length : Int) := of_decide_eq_true z14
          obtain ⟨ad257, A257_0, c257_0, e257, hx257_0, hl257_0, hi257_0⟩ := at_L2 (Kd.N_reads' HO_5.out).2.2 x7_1 p257 q257
          cases e257
          obtain ⟨ce257, hce257, hMe257, hcc257⟩ := Kd.N_get HO_5.out [] x7_1 p257 (by first | exact q257 | exact of_decide_eq_true z14 | (have e_ := (Kd.N_reads' HO_5.out).1; omega))
          obtain ⟨ua257_0, uc257_0, rfl, ul257_0, ge257_0⟩ := Kd.FK_slice_open hMe257
          have hv257_0 := hcc257 0 _ rfl
          rw [Nat.add_zero, show ((Kd.slice 2 (Kd.int .i64))).sz = 1 from rfl, Nat.mul_one] at hv257_0
          replace hv257_0 := Option.some.inj (hv257_0.symm.trans hx257_0)
          injection hv257_0 with hva_ hvn_ hvc_
          rw [hva_] at ge257_0
          rw [hvc_] at ul257_0
          have HL257_0 := zA (show Kd.V (Kd.int .i64) 2 _ w.heap.size _ _ (rd_L2 t102 x7_1) from Kd.V_mk ul257_0 ge257_0)
          clear hva_ hvn_ hvc_ ge257_0 ul257_0
          clear hcc257 hce257
          have HR257_0 := zA hi257_0
          have HC257_0 := zA hl257_0
          clear hi257_0 hl257_0
          replace p257 := eq_true p257
          replace q257 := eq_true q257
          refine start_ (n := 7) (S := fun w' => w'.cell? ⟨gb104, 0, none⟩ = some (.slice A0_0 l0_0.length c0_0) ∧ w'.cell? (ad257.add (x7_1).toNat) = some (.slice A257_0 (rd_L2 t102 x7_1).length c257_0)) (ds := []) #[false, false, false, false, false, false, false] (by kernel_rfl) rfl rfl ⟨(blk_cell BK104.out 0).trans rfl, hx257_0⟩ (fun hHeld => ?_)
          generalize wr.drew = w13 at HO_5 HO_6 BK104 HB HL257_0 HR257_0 hx257_0 hHeld ⊢
          refine pure_ (i := 1) (N := some 21) (v := ?_) (a' := ?_) #[false, true, false, false, false, false, false] rfl rfl (by kernel_rfl) (fun _ _ _ h => h) (Or.inl ⟨(by rfl), ?_⟩) ?_ ?_
          rotate_left
          · exact z35
          rotate_left
          · exact z9
          refine pure_ (i := 2) (N := some 22) (v := ?_) (a' := ?_) #[false, true, true, false, false, false, false] rfl rfl (by kernel_rfl) (fun _ _ _ h => h) (Or.inl ⟨(by rfl), ?_⟩) ?_ ?_
          rotate_left
          · exact z35
          rotate_left
          · exact z9
          refine pure_ (i := 3) (N := some 23) (v := ?_) (a' := ?_) #[false, true, true, true, false, false, false] rfl rfl (by kernel_rfl) (fun _ _ _ h => h) (Or.inl ⟨(by rfl), ?_⟩) ?_ ?_
          rotate_left
          · exact z35
          rotate_left
          · exact z9
          refine take_ (i := 0) (N := some 20) (v := ?_) (a' := ?_) #[true, true, true, true, false, false, false] rfl rfl (by kernel_rfl) (fun _ _ _ h => h) (Or.inl ⟨(by rfl), ?_⟩) hHeld ?_ ?_
          rotate_left
          · rintro w' ⟨s0, s1⟩
            go_simp
            with_reducible rfl
          rotate_left
          · exact z9
          refine take_ (i := 4) (N := some 24) (v := ?_) (a' := ?_) #[true, true, true, true, true, false, false] rfl rfl (by kernel_rfl) (fun _ _ _ h => h) (Or.inl ⟨(by rfl), ?_⟩) hHeld ?_ ?_
          rotate_left
          · rintro w' ⟨s0, s1⟩
            go_simp
            with_reducible rfl
          rotate_left
          · exact z9
          refine one_ (i := 5) (N := some 25) #[true, true, true, true, true, true, false] rfl rfl (by kernel_rfl) (by decide) (fun K hK => ?_)
          refine goes_ Try.func85 (by kernel_rfl) rfl #[.agg #[.slice A0_0 l0_0.length c0_0], .slice A257_0 (rd_L2 t102 x7_1).length c257_0] (by rfl) rfl rfl z3 ?_
          with_reducible refine (spec_l10Digits.calls k1 _ _ l0_0 _ _ (rd_L2 t102 x7_1) t100 _ ?side1 ?side2 ?side3 ?side4 A11.out).mono ?_
          (case side1 => exact z5)
          (case side2 => exact HC0_0.out)
          (case side3 => exact (by repeat (first | exact z126 | (with_reducible refine Kd.C_alloc ?_ _) | (with_reducible refine Kd.C_drewN ?_ _) | (with_reducible refine Kd.C_drew ?_))))
          (case side4 => exact HC257_0.out)
          rintro e w14 ⟨v109, rfl, ho0, hb⟩
          have HS1_ := (hb.cell (World.block_lt_of_cell? _ _ (hHeld.2))).trans (hHeld.2)
          refine ⟨_, rfl, ?_⟩
          have n0_ := zA (Kd.N_elder' z38 (Kd.N_base ho0) hb)
          have n1_ := zA (Kd.N_elder' z124 (Kd.N_base ho0) hb)
          have n2_ := zA (Kd.V_elder' (by (with_reducible repeat (first | apply Kd.V_alloc | apply Kd.V_drewN | apply Kd.V_drew)); exact HL257_0.out) (Kd.N_base ho0) hb)
          have n3_ := zA (Kd.N_lower (Kd.N_mono (ok' := fun k_ => (w.heap.size ≤ k_) ∧ some k_ ≠ (.slice (some ad257) t102.length co12 : Value).ownBlock ∧ some k_ ≠ (u6 : Value).ownBlock ∧ k_ ≠ gb104) ho0 (fun k_ hk_ => ⟨(Nat.le_trans (below_size z7) hk_), (Kd.fresh' (Kd.N_lt z38) k_ hk_), (Kd.fresh' (Kd.N_lt z124) k_ hk_), (Kd.freshB (g := gb104) (o := .cells #[.slice A0_0 l0_0.length c0_0] 27 (0, 0)) z33 k_ hk_)⟩)) (below_size z7))
          have n4_ := zBB BK104 hb
          have n5_ := zA (Kd.C_below z126 hb)
          have n6_ := zA (below_step z7 hb)
          clear HO_5 HO_6 HL257_0 BK104 HR257_0 HB
          have HO_5 := n0_
          have HO_6 := n1_
          have HL257_0 := n2_
          have HO110 := n3_
          have BK104 := n4_
          have HR257_0 := n5_
          have HB := n6_
          clear n0_ n1_ n2_ n3_ n4_ n5_ n6_
          (try clear hb)
          (try clear hb2)
          (try clear hk)
          (try clear hi)
          (try clear ho0)
          refine hK.out _ _ ⟨(blk_cell BK104.out 0).trans rfl, HS1_⟩ (fun hHeld => ?_)
          clear hK K
          refine norm_ (a' := ?_) ?_ ?_
          rotate_left
          · show Act.put _ (some 25) _ = _
            simp only [Act.put, List.setIfInBounds_toArray, List.set_cons_zero, List.set_cons_succ, i64_w, i32_w]
            rfl
          refine pure_ (i := 6) (N := some 8) (v := ?_) (a' := ?_) #[true, true, true, true, true, true, true] rfl rfl (by kernel_rfl) (fun _ _ _ h => h) (Or.inl ⟨(by rfl), ?_⟩) ?_ ?_
          rotate_left
          · exact z35
          rotate_left
          · exact z9
          refine done_ (by kernel_rfl) ?_
          try go_wp2
          go_loopg [6, 9] k1 (fun kq v6 v9 w' => ∃ (x6_2 : List (List Int)) (x9_2 : Int), v9 = .int .i64 x9_2 ∧ Aside0 (spec_l10All.l1 kq t102 x6_2 x7_1 t100 x9_2 l0_0 = some r) ∧ Aside0 (kq ≤ k1) ∧ Aside0 (Kd.N (Kd.slice 2 (Kd.int .i64)) 25 w' w.heap.size (fun k_ => (w.heap.size ≤ k_) ∧ some k_ ≠ (v6 : Value).ownBlock ∧ some k_ ≠ (v109 : Value).ownBlock ∧ k_ ≠ gb104) (.slice (some ad257) t102.length co12) t102) ∧ Aside0 (Kd.N (Kd.slice 2 (Kd.int .i64)) 25 w' w.heap.size (fun k_ => (w.heap.size ≤ k_) ∧ some k_ ≠ ((.slice (some ad257) t102.length co12) : Value).ownBlock ∧ some k_ ≠ (v109 : Value).ownBlock ∧ k_ ≠ gb104) v6 x6_2) ∧ Aside0 (Kd.N (Kd.slice 2 (Kd.int .i64)) 25 w' w.heap.size (fun k_ => (w.heap.size ≤ k_) ∧ some k_ ≠ ((.slice (some ad257) t102.length co12) : Value).ownBlock ∧ some k_ ≠ (v6 : Value).ownBlock ∧ k_ ≠ gb104) v109 t100) ∧ Aside0 (w'.heap[gb104]? = some (.cells #[(.slice A0_0 l0_0.length c0_0)] 27 (0, 0))) ∧ Aside0 (Below w.heap.size w w'))
          case atStart => exact ⟨(x6_1), (0), z16, H', ⟨Nat.le_refl _⟩, ⟨(by (with_reducible repeat (first | apply Kd.N_alloc | apply Kd.N_drewN | apply Kd.N_drew)); exact Kd.N_mono HO_5.out (fun _ hk => ⟨hk.1.1, ⟨hk.1.2.1, ⟨hk.2, hk.1.2.2⟩⟩⟩))⟩, ⟨(by (with_reducible repeat (first | apply Kd.N_alloc | apply Kd.N_drewN | apply Kd.N_drew)); exact Kd.N_mono HO_6.out (fun _ hk => ⟨hk.1.1, ⟨hk.1.2.1, ⟨hk.2, hk.1.2.2⟩⟩⟩))⟩, ⟨z143⟩, ⟨z33⟩, ⟨z7⟩⟩
          case round =>
            clear H'
            try clear c1
            try clear c2
            try clear p2
            try clear q2
            try clear hx2
            try clear c5
            try clear c8
            try clear c9
            try clear c9b0
            try clear c10
            try clear c10b0
            try clear hcz5_0
            try clear hfz5_0
            try clear hx257_0
            try clear p2
            try clear p257
            try clear q257
            obtain ⟨x6_2, x9_2, rfl, HA, HK2, HO_5, HO_6, HO_8, BK104, HB⟩ := hrel
            cases gk with
            | zero => exact absurd HA.out (by simp [spec_l10All.l1])
            | succ k2 =>
              have H := HA.out
              clear HA
              simp only [spec_l10All.l1] at H
              by_cases c15 : x9_2 < (t100.length : Int)
              · rw [if_pos c15] at H
                have c15b0 : decide (x9_2 < (t100.length : Int)) = true := decide_eq_true c15
                clear c15
                by_cases c16 : 0 ≤ x7_1
                · rw [if_pos c16] at H
                  have c16b0 : decide (0 ≤ x7_1) = true := decide_eq_true c16
                  clear c16
                  by_cases c17 : x7_1 < (t102.length : Int)
                  · rw [if_pos c17] at H
                    have c17b0 : decide (x7_1 < (t102.length : Int)) = true := decide_eq_true c17
                    clear c17
                    replace H := zi H
                    obtain ⟨t101, A180, H⟩ := H
                    (try dsimp -simprocs only at H)
                    have A18 := zA A180
                    clear A180
                    by_cases c19 : 0 ≤ x9_2
                    · rw [if_pos c19] at H
                      have c19b0 : decide (0 ≤ x9_2) = true := decide_eq_true c19
                      clear c19
                      by_cases c20 : t101.length + (rd_L2 t100 x9_2).length < 17592186044416
                      · rw [if_pos c20] at H
                        have LMc20 := zA c20
                        clear c20
                        obtain ⟨y111, hy111⟩ : ∃ y_ : List Int, y_ = (t101 ++ (rd_L2 t100 x9_2)) := ⟨_, rfl⟩
                        replace H : (if x6_2.length < 5864062014805 then (spec_l10All.l1 k2 t102 (x6_2 ++ [y111]) x7_1 t100 (wrap64 (x9_2 + 1)) l0_0) else (none)) = some r := by first | (rw [hy111]; with_reducible exact H) | (have H2_ := (Option.bind_some _ _).symm.trans H; rw [hy111]; with_reducible exact H2_) | (have H2_ := (Option.bind_some _ _).symm.trans H; with_reducible exact H2_) | with_reducible exact H | (rw [hy111]; exact H) | exact H
                        have Ny111 := zA hy111
                        clear hy111
                        by_cases c21 : x6_2.length < 5864062014805
                        · rw [if_pos c21] at H
                          have LMc21 := zA c21
                          clear c21
                          obtain ⟨y112, hy112⟩ : ∃ y_ : List (List Int), y_ = (x6_2 ++ [y111]) := ⟨_, rfl⟩
                          replace H : (spec_l10All.l1 k2 t102 y112 x7_1 t100 (wrap64 (x9_2 + 1)) l0_0) = some r := by first | (rw [hy112]; with_reducible exact H) | (have H2_ := (Option.bind_some _ _).symm.trans H; rw [hy112]; with_reducible exact H2_) | (have H2_ := (Option.bind_some _ _).symm.trans H; with_reducible exact H2_) | with_reducible exact H | (rw [hy112]; exact H) | exact H
                          have Ny112 := zA hy112
                          clear hy112
                          have H' := zA H
                          clear H
                          obtain ⟨Ao22, co22, eo22⟩ := Kd.N_slice HO_8.out
                          subst eo22
                          try go_wp2
                          have n0_ := zA (Kd.N_drew HO_5.out)
                          have n1_ := zA (Kd.N_drew HO_6.out)
                          have n2_ := zA (Kd.N_drew HO_8.out)
                          have n3_ := zA (blk_drew BK104.out)
                          have n4_ := zA (below_drew1 HB.out)
                          clear HO_5 HO_6 HO_8 BK104 HB
                          have HO_5 := n0_
                          have HO_6 := n1_
                          have HO_8 := n2_
                          have BK104 := n3_
                          have HB := n4_
                          clear n0_ n1_ n2_ n3_ n4_
                          have p261 : 0 ≤ (x7_1 : Int) := of_decide_eq_true z14
                          have q261 : x7_1 < (t102.length : Int) := of_decide_eq_true z14
                          obtain ⟨ad261, A261_0, c261_0, e261, hx261_0, hl261_0, hi261_0⟩ := at_L2 (Kd.N_reads' HO_5.out).2.2 x7_1 p261 q261
                          obtain rfl : ad257 = ad261 := (by injection e261)
                          obtain ⟨ce261, hce261, hMe261, hcc261⟩ := Kd.N_get HO_5.out [] x7_1 p261 (by first | exact q261 | exact of_decide_eq_true z14 | (have e_ := (Kd.N_reads' HO_5.out).1; omega))
                          obtain ⟨ua261_0, uc261_0, rfl, ul261_0, ge261_0⟩ := Kd.FK_slice_open hMe261
                          have hv261_0 := hcc261 0 _ rfl
                          rw [Nat.add_zero, show ((Kd.slice 2 (Kd.int .i64))).sz = 1 from rfl, Nat.mul_one] at hv261_0
                          replace hv261_0 := Option.some.inj (hv261_0.symm.trans hx261_0)
                          injection hv261_0 with hva_ hvn_ hvc_
                          rw [hva_] at ge261_0
                          rw [hvc_] at ul261_0
                          have HL261_0 := zA (show Kd.V (Kd.int .i64) 2 _ w.heap.size _ _ (rd_L2 t102 x7_1) from Kd.V_mk ul261_0 ge261_0)
                          clear hva_ hvn_ hvc_ ge261_0 ul261_0
                          clear hcc261 hce261
                          have HR261_0 := zA hi261_0
                          have HC261_0 := zA hl261_0
                          clear hi261_0 hl261_0
                          replace p261 := eq_true p261
                          replace q261 := eq_true q261
                          have p265 : 0 ≤ (x9_2 : Int) := of_decide_eq_true z14
                          have q265 : x9_2 < (t100.length : Int) := of_decide_eq_true z14
                          obtain ⟨ad265, A265_0, c265_0, e265, hx265_0, hl265_0, hi265_0⟩ := at_L2 (Kd.N_reads' HO_8.out).2.2 x9_2 p265 q265
                          cases e265
                          obtain ⟨ce265, hce265, hMe265, hcc265⟩ := Kd.N_get HO_8.out [] x9_2 p265 (by first | exact q265 | exact of_decide_eq_true z14 | (have e_ := (Kd.N_reads' HO_8.out).1; omega))
                          obtain ⟨ua265_0, uc265_0, rfl, ul265_0, ge265_0⟩ := Kd.FK_slice_open hMe265
                          have hv265_0 := hcc265 0 _ rfl
                          rw [Nat.add_zero, show ((Kd.slice 2 (Kd.int .i64))).sz = 1 from rfl, Nat.mul_one] at hv265_0
                          replace hv265_0 := Option.some.inj (hv265_0.symm.trans hx265_0)
                          injection hv265_0 with hva_ hvn_ hvc_
                          rw [hva_] at ge265_0
                          rw [hvc_] at ul265_0
                          have HL265_0 := zA (show Kd.V (Kd.int .i64) 2 _ w.heap.size _ _ (rd_L2 t100 x9_2) from Kd.V_mk ul265_0 ge265_0)
                          clear hva_ hvn_ hvc_ ge265_0 ul265_0
                          clear hcc265 hce265
                          have HR265_0 := zA hi265_0
                          have HC265_0 := zA hl265_0
                          clear hi265_0 hl265_0
                          replace p265 := eq_true p265
                          replace q265 := eq_true q265
                          refine start_ (n := 14) (S := fun w' => w'.cell? (ad257.add (x7_1).toNat) = some (.slice A261_0 (rd_L2 t102 x7_1).length c261_0) ∧ w'.cell? (ad265.add (x9_2).toNat) = some (.slice A265_0 (rd_L2 t100 x9_2).length c265_0)) (ds := [10, 11, 12]) #[false, false, false, false, false, false, false, false, false, false, false, false, false, false] (by kernel_rfl) rfl rfl ⟨hx261_0, hx265_0⟩ (fun hHeld => ?_); refine with_tabW spec_l10All.tab9 spec_l10All.bits9 (fun HT_ HW_ => ?_)
                          generalize wr.drew = w23 at HO_5 HO_6 HO_8 BK104 HB HL261_0 HL265_0 HR261_0 HR265_0 hx261_0 hx265_0 hHeld ⊢
                          refine pure_ (i := 0) (N := some 32) (v := ?_) (a' := ?_) #[true, false, false, false, false, false, false, false, false, false, false, false, false, false] rfl rfl (any_of HT_.out (by kernel_rfl)) (fun _ _ _ h => h) (Or.inl ⟨(by rfl), ?_⟩) ?_ ?_
                          rotate_left
                          · exact z35
                          rotate_left
                          · exact z9
                          refine pure_ (i := 1) (N := some 33) (v := ?_) (a' := ?_) #[true, true, false, false, false, false, false, false, false, false, false, false, false, false] rfl rfl (any_of HT_.out (by kernel_rfl)) (fun _ _ _ h => h) (Or.inl ⟨(by rfl), ?_⟩) ?_ ?_
                          rotate_left
                          · exact z35
                          rotate_left
                          · exact z9
                          refine pure_ (i := 2) (N := some 34) (v := ?_) (a' := ?_) #[true, true, true, false, false, false, false, false, false, false, false, false, false, false] rfl rfl (any_of HT_.out (by kernel_rfl)) (fun _ _ _ h => h) (Or.inl ⟨(by rfl), ?_⟩) ?_ ?_
                          rotate_left
                          · exact z35
                          rotate_left
                          · exact z9
                          refine pure_ (i := 3) (N := some 35) (v := ?_) (a' := ?_) #[true, true, true, true, false, false, false, false, false, false, false, false, false, false] rfl rfl (any_of HT_.out (by kernel_rfl)) (fun _ _ _ h => h) (Or.inl ⟨(by rfl), ?_⟩) ?_ ?_
                          rotate_left
                          · exact z35
                          rotate_left
                          · exact z9
                          refine pure_ (i := 6) (N := some 38) (v := ?_) (a' := ?_) #[true, true, true, true, false, false, true, false, false, false, false, false, false, false] rfl rfl (any_of HT_.out (by kernel_rfl)) (fun _ _ _ h => h) (Or.inl ⟨(by rfl), ?_⟩) ?_ ?_
                          rotate_left
                          · exact z35
                          rotate_left
                          · exact z9
                          refine pure_ (i := 7) (N := some 39) (v := ?_) (a' := ?_) #[true, true, true, true, false, false, true, true, false, false, false, false, false, false] rfl rfl (any_of HT_.out (by kernel_rfl)) (fun _ _ _ h => h) (Or.inl ⟨(by rfl), ?_⟩) ?_ ?_
                          rotate_left
                          · exact z35
                          rotate_left
                          · exact z9
                          refine pure_ (i := 8) (N := some 40) (v := ?_) (a' := ?_) #[true, true, true, true, false, false, true, true, true, false, false, false, false, false] rfl rfl (any_of HT_.out (by kernel_rfl)) (fun _ _ _ h => h) (Or.inl ⟨(by rfl), ?_⟩) ?_ ?_
                          rotate_left
                          · exact z35
                          rotate_left
                          · exact z9
                          refine take_ (i := 4) (N := some 36) (v := ?_) (a' := ?_) #[true, true, true, true, true, false, true, true, true, false, false, false, false, false] rfl rfl (take_ofW HT_.out HW_.out (by kernel_rfl)) (fun _ _ _ h => h) (Or.inl ⟨(by rfl), ?_⟩) hHeld ?_ ?_
                          rotate_left
                          · rintro w' ⟨s0, s1⟩
                            go_simp
                            with_reducible rfl
                          rotate_left
                          · exact z9
                          refine take_ (i := 9) (N := some 41) (v := ?_) (a' := ?_) #[true, true, true, true, true, false, true, true, true, true, false, false, false, false] rfl rfl (take_ofW HT_.out HW_.out (by kernel_rfl)) (fun _ _ _ h => h) (Or.inl ⟨(by rfl), ?_⟩) hHeld ?_ ?_
                          rotate_left
                          · rintro w' ⟨s0, s1⟩
                            go_simp
                            with_reducible rfl
                          rotate_left
                          · exact z9
                          refine one_ (i := 5) (N := some 37) #[true, true, true, true, true, true, true, true, true, true, false, false, false, false] rfl rfl (one_of HT_.out (by kernel_rfl)) (by decide) (fun K hK => ?_)
                          refine goes_ Try.func65 (by kernel_rfl) rfl #[.slice A261_0 (rd_L2 t102 x7_1).length c261_0] (by rfl) rfl rfl z3 ?_
                          with_reducible refine (spec_l01Own.calls _ _ (rd_L2 t102 x7_1) t101 _ ?side1 ?side2 A18.out).mono ?_
                          (case side1 => exact (by repeat (first | exact z127 | (with_reducible refine Kd.C_alloc ?_ _) | (with_reducible refine Kd.C_drewN ?_ _) | (with_reducible refine Kd.C_drew ?_))))
                          (case side2 => exact HC261_0.out)
                          rintro e w24 ⟨v113, rfl, ho0, hb⟩
                          have HS0_ := (hb.cell (World.block_lt_of_cell? _ _ (hHeld.1))).trans (hHeld.1)
                          have HS1_ := (hb.cell (World.block_lt_of_cell? _ _ (hHeld.2))).trans (hHeld.2)
                          refine ⟨_, rfl, ?_⟩
                          have n0_ := zA (Kd.N_elder' z38 (Kd.R_base ho0) hb)
                          have n1_ := zA (Kd.N_elder' z124 (Kd.R_base ho0) hb)
                          have n2_ := zA (Kd.N_elder' z146 (Kd.R_base ho0) hb)
                          have n3_ := zA (Kd.V_elder' (by (with_reducible repeat (first | apply Kd.V_alloc | apply Kd.V_drewN | apply Kd.V_drew)); exact HL261_0.out) (Kd.R_base ho0) hb)
                          have n4_ := zA (Kd.V_elder' (by (with_reducible repeat (first | apply Kd.V_alloc | apply Kd.V_drewN | apply Kd.V_drew)); exact HL265_0.out) (Kd.R_base ho0) hb)
                          have n5_ := zA (Kd.R_lower (Kd.R_newM (M := fun k_ => (w.heap.size ≤ k_)) ho0 (below_size z7) (fun k_ h_ => h_)) (below_size z7))
                          have n6_ := zBB BK104 hb
                          have n7_ := zA (Kd.C_below z127 hb)
                          have n8_ := zA (Kd.C_below z128 hb)
                          have n9_ := zA (below_step z7 hb)
                          clear HO_5 HO_6 HO_8 HL261_0 HL265_0 BK104 HR261_0 HR265_0 HB
                          have HO_5 := n0_
                          have HO_6 := n1_
                          have HO_8 := n2_
                          have HL261_0 := n3_
                          have HL265_0 := n4_
                          have HO114 := n5_
                          have BK104 := n6_
                          have HR261_0 := n7_
                          have HR265_0 := n8_
                          have HB := n9_
                          clear n0_ n1_ n2_ n3_ n4_ n5_ n6_ n7_ n8_ n9_
                          (try clear hb)
                          (try clear hb2)
                          (try clear hk)
                          (try clear hi)
                          (try clear ho0)
                          refine hK.out _ _ ⟨HS0_, HS1_⟩ (fun hHeld => ?_)
                          clear hK K
                          refine norm_ (a' := ?_) ?_ ?_
                          rotate_left
                          · show Act.put _ (some 37) _ = _
                            simp only [Act.put, List.setIfInBounds_toArray, List.set_cons_zero, List.set_cons_succ, i64_w, i32_w]
                            rfl
                          refine last_ (i := 10) (N := some 42) #[true, true, true, true, true, true, true, true, true, true, true, false, false, false] rfl rfl (one_of HT_.out (by kernel_rfl)) (by decide) (fun K hK => ?_)
                          refine Kd.R_append_rows_step (Kd.int .i64) (w0 := w) w.heap.size (by rfl) (.tmp 37) (.tmp 41) 25 2 (.int .i64 0) 8 rfl Try.underlying25 info2 rfl (by decide) (by omega) v113 t101 (rd_L2 t100 x9_2) _ _ _ (fun k_ => (w.heap.size ≤ k_)) (fun _ => False) rfl rfl ?aO ?aR (fun _ _ h => h) (fun _ h => h.elim) ?aF ?aB ?aS ?aL ?_
                          (case aR => repeat (first | exact z128 | (with_reducible refine Kd.C_alloc ?_ _) | (with_reducible refine Kd.C_drewN ?_ _) | (with_reducible refine Kd.C_drew ?_)))
                          (case aB => exact z7)
                          (case aF => exact (fun k_ hk => (Nat.le_trans (below_size z7) hk)))
                          (case aO => exact z102)
                          (case aS => exact (below_size z7))
                          (case aL => have := LMc20.out; omega)
                          intro v115 w25 ho hb hg hat
                          rw [← Ny111.out] at ho
                          have n0_ := zA (Kd.N_afterv (ok := (fun k_ => (w.heap.size ≤ k_) ∧ some k_ ≠ (u6 : Value).ownBlock ∧ some k_ ≠ (.slice (some ad265) t100.length co22 : Value).ownBlock ∧ k_ ≠ gb104)) z38 hg hat)
                          have n1_ := zA (Kd.N_afterv (ok := (fun k_ => (w.heap.size ≤ k_) ∧ some k_ ≠ (.slice (some ad257) t102.length co12 : Value).ownBlock ∧ some k_ ≠ (.slice (some ad265) t100.length co22 : Value).ownBlock ∧ k_ ≠ gb104)) z124 hg hat)
                          have n2_ := zA (Kd.N_afterv (ok := (fun k_ => (w.heap.size ≤ k_) ∧ some k_ ≠ (.slice (some ad257) t102.length co12 : Value).ownBlock ∧ some k_ ≠ (u6 : Value).ownBlock ∧ k_ ≠ gb104)) z146 hg hat)
                          have n3_ := zA (blk_grown (g := gb104) (o := .cells #[.slice A0_0 l0_0.length c0_0] 27 (0, 0)) z33 hg (Kd.R_ne HO114.out BK104.out (by decide)))
                          have n4_ := zA (Kd.V_afterv (ok := (fun k_ => (w.heap.size ≤ k_) ∧ some k_ ≠ (.slice (some ad257) t102.length co12 : Value).ownBlock ∧ some k_ ≠ (u6 : Value).ownBlock ∧ some k_ ≠ (.slice (some ad265) t100.length co22 : Value).ownBlock ∧ k_ ≠ gb104)) (by (with_reducible repeat (first | apply Kd.V_alloc | apply Kd.V_drewN | apply Kd.V_drew)); exact Kd.V_mono HL261_0.out (fun _ hk => ⟨⟨hk.1.1.1, ⟨hk.1.2, ⟨hk.1.1.2.1, ⟨hk.1.1.2.2.1, hk.1.1.2.2.2⟩⟩⟩⟩, hk.2⟩)) hg hat)
                          have n5_ := zA (Kd.V_afterv (ok := (fun k_ => (w.heap.size ≤ k_) ∧ some k_ ≠ (.slice (some ad257) t102.length co12 : Value).ownBlock ∧ some k_ ≠ (u6 : Value).ownBlock ∧ some k_ ≠ (.slice (some ad265) t100.length co22 : Value).ownBlock ∧ k_ ≠ gb104)) (by (with_reducible repeat (first | apply Kd.V_alloc | apply Kd.V_drewN | apply Kd.V_drew)); exact Kd.V_mono HL265_0.out (fun _ hk => ⟨⟨hk.1.1.1, ⟨hk.1.1.2.1, ⟨hk.1.1.2.2.1, ⟨hk.1.2, hk.1.1.2.2.2⟩⟩⟩⟩, hk.2⟩)) hg hat)
                          have n6_ := zA (hb)
                          have n7_ := zA (ho)
                          clear HO_5 HO_6 HO_8 BK104 HL261_0 HL265_0 HB HO114
                          have HO_5 := n0_
                          have HO_6 := n1_
                          have HO_8 := n2_
                          have BK104 := n3_
                          have HL261_0 := n4_
                          have HL265_0 := n5_
                          have HB := n6_
                          have HO116 := n7_
                          clear n0_ n1_ n2_ n3_ n4_ n5_ n6_ n7_
                          clear ho hb hg hat
                          obtain ⟨Ao27, co27, eo27⟩ := Kd.R_slice HO116.out
                          (first | subst eo27 | (injection eo27 with f1_ f2_ f3_; have f4_ := f1_.symm; have f5_ := f3_.symm; clear f1_ f2_ f3_; subst f4_; subst f5_))
                          refine hK.out _ _ ?_
                          clear hK K
                          refine norm_ (a' := ?_) ?_ ?_
                          rotate_left
                          · show Act.put _ (some 42) _ = _
                            simp only [Act.put, List.setIfInBounds_toArray, List.set_cons_zero, List.set_cons_succ, i64_w, i32_w]
                            rfl
                          refine last_ (i := 11) (N := some 43) #[true, true, true, true, true, true, true, true, true, true, true, true, false, false] rfl rfl (one_of HT_.out (by kernel_rfl)) (by decide) (fun K hK => ?_)
                          refine value_ (w1 := ?_) (v := ?_) (by rfl) rfl ?_ ?_
                          rotate_left 2
                          · go_simp
                            constructor
                            · rfl
                            · rfl
                          refine hK.out _ _ ?_
                          clear hK K
                          refine norm_ (a' := ?_) ?_ ?_
                          rotate_left
                          · show Act.put _ (some 43) _ = _
                            simp only [Act.put, List.setIfInBounds_toArray, List.set_cons_zero, List.set_cons_succ, i64_w, i32_w]
                            rfl
                          refine last_ (i := 12) (N := some 44) #[true, true, true, true, true, true, true, true, true, true, true, true, true, false] rfl rfl (one_of HT_.out (by kernel_rfl)) (by decide) (fun K hK => ?_)
                          refine Kd.N_append_step (Kd.slice 2 (Kd.int .i64)) (w0 := w) w.heap.size (by rfl) (.tmp 32) (.tmp 43) 42 25 (.slice none 0 0) 24 rfl Try.underlying42 info25 rfl (by decide) (by omega) u6 x6_2 y111 [.slice Ao27 y111.length co27] (fun k_ => (w.heap.size ≤ k_) ∧ some k_ ≠ (.slice (some ad257) t102.length co12 : Value).ownBlock ∧ some k_ ≠ (.slice (some ad265) t100.length co22 : Value).ownBlock ∧ k_ ≠ gb104) (fun k_ => ((fun k_ => (w.heap.size ≤ k_) ∧ some k_ ≠ (.slice (some ad257) t102.length co12 : Value).ownBlock ∧ some k_ ≠ (.slice (some ad265) t100.length co22 : Value).ownBlock ∧ k_ ≠ gb104)) k_ ∧ some k_ ≠ (u6 : Value).ownBlock) rfl rfl ?aP (fun _ hk => hk) ?aF ?aO ?aB ?aS ?aL ?_
                          (case aP => exact (Kd.FK_slice_mk (Kd.R_reads' (Kd.R_mono (ok' := (fun k_ => ((fun k_ => (w.heap.size ≤ k_) ∧ some k_ ≠ (.slice (some ad257) t102.length co12 : Value).ownBlock ∧ some k_ ≠ (.slice (some ad265) t100.length co22 : Value).ownBlock ∧ k_ ≠ gb104)) k_ ∧ some k_ ≠ (u6 : Value).ownBlock)) (Kd.R_types (Kd.R_apart' (Kd.R_apart' (Kd.R_apart' (HO116.out) (Kd.N_typed HO_5.out) (by decide)) (Kd.N_typed HO_8.out) (by decide)) (Kd.N_typed HO_6.out) (by decide)) BK104.out (by decide)) (fun k_ hk => ⟨⟨hk.1.1.1.1, ⟨hk.1.1.1.2, ⟨hk.1.1.2, hk.2⟩⟩⟩, hk.1.2⟩))).2.1 (Kd.R_F (Kd.R_mono (ok' := (fun k_ => ((fun k_ => (w.heap.size ≤ k_) ∧ some k_ ≠ (.slice (some ad257) t102.length co12 : Value).ownBlock ∧ some k_ ≠ (.slice (some ad265) t100.length co22 : Value).ownBlock ∧ k_ ≠ gb104)) k_ ∧ some k_ ≠ (u6 : Value).ownBlock)) (Kd.R_types (Kd.R_apart' (Kd.R_apart' (Kd.R_apart' (HO116.out) (Kd.N_typed HO_5.out) (by decide)) (Kd.N_typed HO_8.out) (by decide)) (Kd.N_typed HO_6.out) (by decide)) BK104.out (by decide)) (fun k_ hk => ⟨⟨hk.1.1.1.1, ⟨hk.1.1.1.2, ⟨hk.1.1.2, hk.2⟩⟩⟩, hk.1.2⟩)))))
                          (case aB => exact z7)
                          (case aF => exact (fun k_ hk => ⟨(Nat.le_trans (below_size z7) hk), Kd.fresh' (Kd.N_lt z38) k_ hk, Kd.fresh' (Kd.N_lt z146) k_ hk, Kd.freshB (g := gb104) (o := .cells #[.slice A0_0 l0_0.length c0_0] 27 (0, 0)) z33 k_ hk⟩))
                          (case aO => exact (by (with_reducible repeat (first | apply Kd.N_alloc | apply Kd.N_drewN | apply Kd.N_drew)); exact Kd.N_mono HO_6.out (fun _ hk => ⟨hk.1.1, ⟨hk.1.2.1, ⟨hk.1.2.2.1, hk.1.2.2.2⟩⟩⟩)))
                          (case aS => exact (below_size z7))
                          (case aL => have := LMc21.out; omega)
                          intro v117 w26 ho hb hg hat
                          rw [← Ny112.out] at ho
                          have n0_ := zA (Kd.N_afterv (ok := (fun k_ => (w.heap.size ≤ k_) ∧ some k_ ≠ (.slice (some ad265) t100.length co22 : Value).ownBlock ∧ some k_ ≠ (.slice Ao27 y111.length co27 : Value).ownBlock ∧ k_ ≠ gb104)) (by (with_reducible repeat (first | apply Kd.N_alloc | apply Kd.N_drewN | apply Kd.N_drew)); exact Kd.N_mono HO_5.out (fun _ hk => ⟨⟨hk.1.1, ⟨hk.1.2.2.1, ⟨hk.2, hk.1.2.2.2⟩⟩⟩, hk.1.2.1⟩)) hg hat)
                          have n1_ := zA (Kd.N_afterv (ok := (fun k_ => (w.heap.size ≤ k_) ∧ some k_ ≠ (.slice (some ad257) t102.length co12 : Value).ownBlock ∧ some k_ ≠ (.slice Ao27 y111.length co27 : Value).ownBlock ∧ k_ ≠ gb104)) (by (with_reducible repeat (first | apply Kd.N_alloc | apply Kd.N_drewN | apply Kd.N_drew)); exact Kd.N_mono HO_8.out (fun _ hk => ⟨⟨hk.1.1, ⟨hk.1.2.1, ⟨hk.2, hk.1.2.2.2⟩⟩⟩, hk.1.2.2.1⟩)) hg hat)
                          have n2_ := zA (blk_grown (g := gb104) (o := .cells #[.slice A0_0 l0_0.length c0_0] 27 (0, 0)) z33 hg (Kd.N_ne HO_6.out BK104.out (by decide)))
                          have n3_ := zA (Kd.V_afterv (ok := (fun k_ => (w.heap.size ≤ k_) ∧ some k_ ≠ (.slice (some ad257) t102.length co12 : Value).ownBlock ∧ some k_ ≠ (.slice (some ad265) t100.length co22 : Value).ownBlock ∧ some k_ ≠ (.slice Ao27 y111.length co27 : Value).ownBlock ∧ k_ ≠ gb104)) (by (with_reducible repeat (first | apply Kd.V_alloc | apply Kd.V_drewN | apply Kd.V_drew)); exact Kd.V_mono HL261_0.out (fun _ hk => ⟨⟨hk.1.1, ⟨hk.1.2.1, ⟨hk.1.2.2.2.1, ⟨hk.2, hk.1.2.2.2.2⟩⟩⟩⟩, hk.1.2.2.1⟩)) hg hat)
                          have n4_ := zA (Kd.V_afterv (ok := (fun k_ => (w.heap.size ≤ k_) ∧ some k_ ≠ (.slice (some ad257) t102.length co12 : Value).ownBlock ∧ some k_ ≠ (.slice (some ad265) t100.length co22 : Value).ownBlock ∧ some k_ ≠ (.slice Ao27 y111.length co27 : Value).ownBlock ∧ k_ ≠ gb104)) (by (with_reducible repeat (first | apply Kd.V_alloc | apply Kd.V_drewN | apply Kd.V_drew)); exact Kd.V_mono HL265_0.out (fun _ hk => ⟨⟨hk.1.1, ⟨hk.1.2.1, ⟨hk.1.2.2.2.1, ⟨hk.2, hk.1.2.2.2.2⟩⟩⟩⟩, hk.1.2.2.1⟩)) hg hat)
                          have n5_ := zA (hb)
                          have n6_ := zA (ho)
                          clear HO_5 HO_8 BK104 HL261_0 HL265_0 HB HO_6 HO116
                          have HO_5 := n0_
                          have HO_8 := n1_
                          have BK104 := n2_
                          have HL261_0 := n3_
                          have HL265_0 := n4_
                          have HB := n5_
                          have HO118 := n6_
                          clear n0_ n1_ n2_ n3_ n4_ n5_ n6_
                          clear ho hb hg hat
                          refine hK.out _ _ ?_
                          clear hK K
                          refine norm_ (a' := ?_) ?_ ?_
                          rotate_left
                          · show Act.put _ (some 44) _ = _
                            simp only [Act.put, List.setIfInBounds_toArray, List.set_cons_zero, List.set_cons_succ, i64_w, i32_w]
                            rfl
                          refine pure_ (i := 13) (N := some 6) (v := ?_) (a' := ?_) #[true, true, true, true, true, true, true, true, true, true, true, true, true, true] rfl rfl (any_of HT_.out (by kernel_rfl)) (fun _ _ _ h => h) (Or.inl ⟨(by rfl), ?_⟩) ?_ ?_
                          rotate_left
                          · exact z35
                          rotate_left
                          · exact z9
                          refine done_ (done_of HT_.out (by kernel_rfl)) ?_
                          try go_wp2
                          go_roundg k2
                          case measure => have := HK1.out; have := HK2.out; omega
                          case rel => exact ⟨(y112), (wrap64 (x9_2 + 1)), z16, H', ⟨z97⟩, ⟨(by (with_reducible repeat (first | apply Kd.N_alloc | apply Kd.N_drewN | apply Kd.N_drew)); exact Kd.N_mono HO_5.out (fun _ hk => ⟨hk.1.1, ⟨hk.2, ⟨hk.1.2.1, hk.1.2.2.2⟩⟩⟩))⟩, ⟨z160⟩, ⟨(by (with_reducible repeat (first | apply Kd.N_alloc | apply Kd.N_drewN | apply Kd.N_drew)); exact Kd.N_mono HO_8.out (fun _ hk => ⟨hk.1.1, ⟨hk.1.2.1, ⟨hk.2, hk.1.2.2.2⟩⟩⟩))⟩, ⟨z33⟩, ⟨z7⟩⟩
                        · rw [if_neg c21] at H
                          exact absurd H (by simp)
                      · rw [if_neg c20] at H
                        exact absurd H (by simp)
                    · rw [if_neg c19] at H
                      exact absurd H (by simp)
                  · rw [if_neg c17] at H
                    exact absurd H (by simp)
                · rw [if_neg c16] at H
                  exact absurd H (by simp)
              · rw [if_neg c15] at H
                have c15b0 : decide (x9_2 < (t100.length : Int)) = false := decide_eq_false c15
                clear c15
                have H' := zA H
                clear H
                obtain ⟨Ao28, co28, eo28⟩ := Kd.N_slice HO_8.out
                subst eo28
                go_wp2
                go_roundg k2
                case measure => have := HK1.out; have := HK2.out; omega
                case rel => exact ⟨(x6_2), (wrap64 (x7_1 + 1)), z16, H', ⟨z97⟩, ⟨(by (with_reducible repeat (first | apply Kd.N_alloc | apply Kd.N_drewN | apply Kd.N_drew)); exact Kd.N_mono HO_5.out (fun _ hk => ⟨hk.1, ⟨hk.2.1, hk.2.2.2⟩⟩))⟩, ⟨(by (with_reducible repeat (first | apply Kd.N_alloc | apply Kd.N_drewN | apply Kd.N_drew)); exact Kd.N_mono HO_6.out (fun _ hk => ⟨hk.1, ⟨hk.2.1, hk.2.2.2⟩⟩))⟩, ⟨z33⟩, ⟨z7⟩⟩
        · rw [if_neg c10] at H
          exact absurd H (by simp)
      · rw [if_neg c9] at H
        have c9b0 : decide (x7_1 < (t102.length : Int)) = false := decide_eq_false c9
        clear c9
        obtain rfl := Option.some.inj H
        obtain ⟨Ao29, co29, eo29⟩ := Kd.N_slice HO_5.out
        subst eo29
        go_wp2
        go_ret
        exact ⟨_, z15, (by (with_reducible repeat (first | apply Kd.N_alloc | apply Kd.N_drewN | apply Kd.N_drew)); exact Kd.N_mono HO_6.out (fun _ hk => hk.1)), z7⟩

/-! ### spec_l01N: function 60 -/
def spec_l01N.l0 : Nat → Int → Int → List Int → Option (Int)
  | 0, _, _, _ => none
  | k + 1, x3, x4, x273000 => if x4 < (x273000.length : Int) then (if 0 ≤ x4 then (spec_l01N.l0 k (wrap64 (x3 * (rd x273000 x4))) (wrap64 (x4 + 1)) x273000) else (none)) else (some x3)
def spec_l01N.f (k : Nat) (l0_0 : List Int) : Option (Int) := spec_l01N.l0 k 1 0 l0_0
set_option maxHeartbeats 8000000 in
set_option maxRecDepth 100000 in
theorem spec_l01N.calls (k : Nat) (A0_0 : Option Addr) (c0_0 : Nat) (l0_0 : List Int) (r : Int) (w : World) (hr0_0 : Kd.C (Kd.int .i64) w A0_0 l0_0.length l0_0) (hc0_0 : l0_0.length ≤ c0_0) (h : spec_l01N.f k l0_0 = some r) :
    Calls Try.prog 60 #[.agg #[.slice A0_0 l0_0.length c0_0]] w fun e w' => e = .returned (.int .i64 r) ∧ Below w.heap.size w w' := by
  have hu27 := Try.underlying27
  have HR0_0 := zA hr0_0
  have HC0_0 := zA hc0_0
  clear hr0_0 hc0_0
  have HB := zA (Below.refl w.heap.size w)
  have H : (spec_l01N.l0 k 1 0 l0_0) = some r := h
  clear h
  have H' := zA H
  clear H
  go_enter Try.func60, Try.ntmps60
  go_wp2_with (first | ((with_reducible refine gate_dst (N := 1) rfl ?_); refine box_event ?hg (N := 1) ?hd (cs := #[.slice A0_0 l0_0.length c0_0]) (t := 27) ?hr ?_; (case hd => rfl); (case hg => rfl); (case hr => first | (go_simp; done) | (go_simp; rfl)); intro gb100 hg w2 hbox hb; have n0_ := zA (below_step z1 hb); have n1_ := zA (hbox); have n2_ := zA ((z178 : w.heap.size ≤ gb100)); have n3_ := zA ((z178 : w.heap.size ≤ gb100)); clear HB; have HB := n0_; have BK100 := n1_; have GW100 := n2_; have GE100 := n3_; clear n0_ n1_ n2_ n3_; clear hb hbox hg))
  go_loopg [3, 4] k (fun kq v3 v4 w' => ∃ (x3_1 : Int) (x4_1 : Int), v3 = .int .i64 x3_1 ∧ v4 = .int .i64 x4_1 ∧ Aside0 (spec_l01N.l0 kq x3_1 x4_1 l0_0 = some r) ∧ Aside0 (kq ≤ k) ∧ Aside0 (w'.heap[gb100]? = some (.cells #[(.slice A0_0 l0_0.length c0_0)] 27 (0, 0))) ∧ Aside0 (Below w.heap.size w w'))
  case atStart => exact ⟨(1), (0), z16, z16, H', ⟨Nat.le_refl _⟩, ⟨z53⟩, ⟨z28⟩⟩
  case round =>
    clear H'
    try clear p2
    obtain ⟨x3_1, x4_1, rfl, rfl, HA, HK1, BK100, HB⟩ := hrel
    cases gk with
    | zero => exact absurd HA.out (by simp [spec_l01N.l0])
    | succ k1 =>
      have H := HA.out
      clear HA
      simp only [spec_l01N.l0] at H
      by_cases c3 : x4_1 < (l0_0.length : Int)
      · rw [if_pos c3] at H
        have c3b0 : decide (x4_1 < (l0_0.length : Int)) = true := decide_eq_true c3
        clear c3
        by_cases c4 : 0 ≤ x4_1
        · rw [if_pos c4] at H
          have c4b0 : decide (0 ≤ x4_1) = true := decide_eq_true c4
          clear c4
          have H' := zA H
          clear H
          obtain ⟨hcz5_0, hfz5_0⟩ := zC1 BK100.out
          have p273 : 0 ≤ (x4_1 : Int) := of_decide_eq_true z14
          have q273 : x4_1 < (l0_0.length : Int) := of_decide_eq_true z14
          obtain ⟨ad273, e273, hx273_0⟩ := Kd.at_int HR0_0.out x4_1 p273 q273
          cases e273
          try replace hx273_0 := (HB.out.cell (World.block_lt_of_cell? w _ hx273_0)).trans hx273_0
          replace p273 := eq_true p273
          replace q273 := eq_true q273
          go_wp2
          go_roundg k1
          case measure => have := HK1.out; omega
          case rel => exact ⟨(wrap64 (x3_1 * (rd l0_0 x4_1))), (wrap64 (x4_1 + 1)), z16, z16, H', ⟨z99⟩, ⟨z53⟩, ⟨z28⟩⟩
        · rw [if_neg c4] at H
          exact absurd H (by simp)
      · rw [if_neg c3] at H
        have c3b0 : decide (x4_1 < (l0_0.length : Int)) = false := decide_eq_false c3
        clear c3
        obtain rfl := Option.some.inj H
        obtain ⟨hcz6_0, hfz6_0⟩ := zC1 BK100.out
        go_wp2
        go_ret
        exact ⟨z15, z28⟩

end Go.Proofs.Ytbfhhjekonafdaa.PFnPairRows
