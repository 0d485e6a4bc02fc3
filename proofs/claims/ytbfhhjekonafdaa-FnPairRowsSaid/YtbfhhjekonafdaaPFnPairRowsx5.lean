-- WALKS, by a program and by hand
import Derived.Test.YtbfhhjekonafdaaPFnPairRowsx0
import Derived.Test.YtbfhhjekonafdaaPFnPairRowsx4
namespace Go.Proofs.Ytbfhhjekonafdaa.PFnPairRows
open Go.RowKit Go.Proofs.Ytbfhhjekonafdaa.DG Go.Proofs.YtbfhhjekonafdaaW.PrintWords Go.Proofs.YtbfhhjekonafdaaW.PrintLast Go.Proofs.YtbfhhjekonafdaaW.PrintMore
attribute [local go_sem] max2_int min2_int max_two min_two max_three min_three max_four min_four   -- for this text's walks alone
set_option linter.unusedVariables false
set_option linter.unusedSimpArgs false

/-! ### spec_l10Places: function 84 -/
mutual
def spec_l10Places.l0 : Nat → Int → List (List Int) → Int → List Int → Option ((List (List Int)))
  | 0, _, _, _, _ => none
  | k + 1, x2, x7, x8, x206000 => if x8 < (x206000.length : Int) then ((spec_l10Places.f k x206000 (wrap64 (x8 + 1)) (wrap64 (x2 - 1))).bind fun t100 => (spec_l10Places.l1 k x2 x7 x8 t100 0 x206000)) else (some x7)
def spec_l10Places.l1 : Nat → Int → List (List Int) → Int → List (List Int) → Int → List Int → Option ((List (List Int)))
  | 0, _, _, _, _, _, _ => none
  | k + 1, x2, x7, x8, x9, x10, x206000 => if x10 < (x9.length : Int) then ((some (([x8] : List Int) : List Int)).bind fun y101 => (if 0 ≤ x10 then (if y101.length + (rd_L2 x9 x10).length < 17592186044416 then (if x7.length < 5864062014805 then (spec_l10Places.l1 k x2 (x7 ++ [(y101 ++ (rd_L2 x9 x10))]) x8 x9 (wrap64 (x10 + 1)) x206000) else (none)) else (none)) else (none))) else (spec_l10Places.l0 k x2 x7 (wrap64 (x8 + 1)) x206000)
def spec_l10Places.f : Nat → List Int → Int → Int → Option ((List (List Int)))
  | 0, _, _, _ => none
  | k + 1, l0_0, a1, a2 => if a2 = 0 then (some (([(([] : List Int))] : List (List Int)))) else (spec_l10Places.l0 k a2 (([] : List (List Int))) a1 l0_0)
end
set_option maxHeartbeats 8000000 in
set_option maxRecDepth 100000 in
theorem spec_l10Places.calls (k : Nat) : ∀ (A0_0 : Option Addr) (c0_0 : Nat) (l0_0 : List Int) (a1 : Int) (a2 : Int) (r : List (List Int)) (w : World) (hr0_0 : Kd.C (Kd.int .i64) w A0_0 l0_0.length l0_0) (hc0_0 : l0_0.length ≤ c0_0) (h : spec_l10Places.f k l0_0 a1 a2 = some r),
    Calls Try.prog 84 #[.agg #[.slice A0_0 l0_0.length c0_0], .int .i64 a1, .int .i64 a2] w fun e w' => ∃ v0_ : Value, e = .returned (v0_) ∧ Kd.N (Kd.slice 2 (Kd.int .i64)) 25 w' w.heap.size (fun k_ => (w.heap.size ≤ k_)) v0_ r ∧ Below w.heap.size w w' := by
  induction k using Nat.strongRecOn with
  | _ k ih =>
  intro A0_0 c0_0 l0_0 a1 a2 r w hr0_0 hc0_0 h
  cases k with
  | zero => exact absurd h (by simp [spec_l10Places.f])
  | succ k =>
  simp only [spec_l10Places.f] at h
  have hu27 := Try.underlying27
  have HR0_0 := zA hr0_0
  have HC0_0 := zA hc0_0
  clear hr0_0 hc0_0
  have HB := zA (Below.refl w.heap.size w)
  have H : (if a2 = 0 then (some (([(([] : List Int))] : List (List Int)))) else (spec_l10Places.l0 k a2 (([] : List (List Int))) a1 l0_0)) = some r := h
  clear h
  by_cases c4 : a2 = 0
  · rw [if_pos c4] at H
    have c4b0 : (a2 == 0) = true := beq_iff_eq.mpr c4
    have c4b1 : (a2 != 0) = false := bne_eq_false_iff_eq.mpr c4
    clear c4
    obtain ⟨y102, hy102⟩ : ∃ y_ : List Int, y_ = (([] : List Int)) := ⟨_, rfl⟩
    replace H : (some (([y102] : List (List Int)))) = some r := by first | (rw [hy102]; with_reducible exact H) | (have H2_ := (Option.bind_some _ _).symm.trans H; rw [hy102]; with_reducible exact H2_) | (have H2_ := (Option.bind_some _ _).symm.trans H; with_reducible exact H2_) | with_reducible exact H | (rw [hy102]; exact H) | exact H
    have Ny102 := zA hy102
    clear hy102
    obtain ⟨y103, hy103⟩ : ∃ y_ : List (List Int), y_ = (([y102] : List (List Int))) := ⟨_, rfl⟩
    replace H : (some y103) = some r := by first | (rw [hy103]; with_reducible exact H) | (have H2_ := (Option.bind_some _ _).symm.trans H; rw [hy103]; with_reducible exact H2_) | (have H2_ := (Option.bind_some _ _).symm.trans H; with_reducible exact H2_) | with_reducible exact H | (rw [hy103]; exact H) | exact H
    have Ny103 := zA hy103
    clear hy103
    obtain rfl := Option.some.inj H
    go_enter Try.func84, Try.ntmps84
    go_wp2_with (first | ((with_reducible refine gate_dst (N := 3) rfl ?_); refine box_event ?hg (N := 3) ?hd (cs := #[.slice A0_0 l0_0.length c0_0]) (t := 27) ?hr ?_; (case hd => rfl); (case hg => rfl); (case hr => first | (go_simp; done) | (go_simp; rfl)); intro gb104 hg w5 hbox hb; have n0_ := zA (below_step z1 hb); have n1_ := zA (hbox); have n2_ := zA ((z178 : w.heap.size ≤ gb104)); have n3_ := zA ((z178 : w.heap.size ≤ gb104)); clear HB; have HB := n0_; have BK104 := n1_; have GW104 := n2_; have GE104 := n3_; clear n0_ n1_ n2_ n3_; clear hb hbox hg) | ((with_reducible refine gate_dst (N := 13) rfl ?_); refine Kd.R_lit (Kd.int .i64) _ 2 ?hg (N := 13) ?hd (xs := ([] : List Int)) (inner := []) (ok := fun _ => True) (okp := fun _ => True) ?hr ?hp (fun _ hk => hk) trivial (Below.refl _ _) (Nat.le_refl _) (by simp) ?_; (case hd => rfl); (case hg => rfl); (case hr => first | (go_simp; done) | (go_simp; rfl)); (case hp => exact (Reps.none _ _)); intro v105 w6 ho7 hb hg_ hnew_; clear hg_ hnew_; (first | rw [← Ny102.out] at ho7 | (simp only [Int.reduceToNat] at ho7; rw [← Ny102.out] at ho7)); have n0_ := zA (Kd.R_lower (Kd.R_newM (M := fun k_ => (w.heap.size ≤ k_)) ho7 (below_size z7) (fun k_ h_ => h_)) (below_size z7)); have n1_ := zBB BK104 hb; have n2_ := zA (below_step z7 hb); clear BK104 HB; have HO106 := n0_; have BK104 := n1_; have HB := n2_; clear n0_ n1_ n2_; clear hb ho7; obtain ⟨Ao8, co8, eo8⟩ := Kd.R_slice HO106.out; subst eo8) | ((with_reducible refine gate_dst (N := 14) rfl ?_); refine Kd.N_lit (Kd.slice 2 (Kd.int .i64)) _ 25 ?hg (N' := 14) ?hd (xs := ([y102] : List (List Int))) (inner := [.slice Ao8 y102.length co8]) (ok := (fun k_ => (w.heap.size ≤ k_) ∧ k_ ≠ gb104)) (okp := (fun k_ => (w.heap.size ≤ k_) ∧ k_ ≠ gb104)) ?hr ?hp (fun _ hk => hk) ((show ∀ k_, w6.heap.size ≤ k_ → (fun k_ => (w.heap.size ≤ k_) ∧ k_ ≠ gb104) k_ from fun k_ hk => ⟨(Nat.le_trans (below_size z7) hk), Kd.freshB (g := gb104) (o := .cells #[.slice A0_0 l0_0.length c0_0] 27 (0, 0)) z33 k_ hk⟩) _ (Nat.le_refl _)) (Below.refl _ _) (Nat.le_refl _) (by simp) ?_; (case hd => rfl); (case hg => rfl); (case hr => first | (go_simp; done) | (go_simp; rfl)); (case hp => exact (Reps.one (show Kd.FK (Kd.slice 2 (Kd.int .i64)) _ _ y102 [.slice Ao8 y102.length co8] from (Kd.FK_slice_mk (Kd.R_reads' (Kd.R_mono (ok' := (fun k_ => (w.heap.size ≤ k_) ∧ k_ ≠ gb104)) (Kd.R_types (HO106.out) BK104.out (by decide)) (fun k_ hk => ⟨hk.1.1, hk.2⟩))).2.1 (Kd.R_F (Kd.R_mono (ok' := (fun k_ => (w.heap.size ≤ k_) ∧ k_ ≠ gb104)) (Kd.R_types (HO106.out) BK104.out (by decide)) (fun k_ hk => ⟨hk.1.1, hk.2⟩))))) (Reps.none _ _))); intro v107 w9 ho10 hb hg_ hnew_; clear hg_ hnew_; (first | rw [← Ny103.out] at ho10 | (simp only [Int.reduceToNat] at ho10; rw [← Ny103.out] at ho10)); have n0_ := zA (Kd.N_lower ho10 (below_size z7)); have n1_ := zBB BK104 hb; have n2_ := zA (below_step z7 hb); clear BK104 HB HO106; have HO108 := n0_; have BK104 := n1_; have HB := n2_; clear n0_ n1_ n2_; clear hb ho10))
    go_ret
    exact ⟨_, z15, (by (with_reducible repeat (first | apply Kd.N_alloc | apply Kd.N_drewN | apply Kd.N_drew)); exact Kd.N_mono HO108.out (fun _ hk => hk.1)), z7⟩
  · rw [if_neg c4] at H
    have c4b0 : (a2 == 0) = false := beq_eq_false_iff_ne.mpr c4
    have c4b1 : (a2 != 0) = true := bne_iff_ne.mpr c4
    obtain ⟨y109, hy109⟩ : ∃ y_ : List (List Int), y_ = (([] : List (List Int))) := ⟨_, rfl⟩
    replace H : (spec_l10Places.l0 k a2 y109 a1 l0_0) = some r := by first | (rw [hy109]; with_reducible exact H) | (have H2_ := (Option.bind_some _ _).symm.trans H; rw [hy109]; with_reducible exact H2_) | (have H2_ := (Option.bind_some _ _).symm.trans H; with_reducible exact H2_) | with_reducible exact H | (rw [hy109]; exact H) | exact H
    have Ny109 := zA hy109
    clear hy109
    have H' := zA H
    clear H
    go_enter Try.func84, Try.ntmps84
    go_wp2_with (first | ((with_reducible refine gate_dst (N := 3) rfl ?_); refine box_event ?hg (N := 3) ?hd (cs := #[.slice A0_0 l0_0.length c0_0]) (t := 27) ?hr ?_; (case hd => rfl); (case hg => rfl); (case hr => first | (go_simp; done) | (go_simp; rfl)); intro gb104 hg w11 hbox hb; have n0_ := zA (below_step z1 hb); have n1_ := zA (hbox); have n2_ := zA ((z178 : w.heap.size ≤ gb104)); have n3_ := zA ((z178 : w.heap.size ≤ gb104)); clear HB; have HB := n0_; have BK104 := n1_; have GW104 := n2_; have GE104 := n3_; clear n0_ n1_ n2_ n3_; clear hb hbox hg) | ((with_reducible refine gate_dst (N := 15) rfl ?_); refine Kd.N_lit (Kd.slice 2 (Kd.int .i64)) _ 25 ?hg (N' := 15) ?hd (xs := ([] : List (List Int))) (inner := []) (ok := (fun k_ => (w.heap.size ≤ k_) ∧ k_ ≠ gb104)) (okp := (fun k_ => (w.heap.size ≤ k_) ∧ k_ ≠ gb104)) ?hr ?hp (fun _ hk => hk) ((show ∀ k_, w11.heap.size ≤ k_ → (fun k_ => (w.heap.size ≤ k_) ∧ k_ ≠ gb104) k_ from fun k_ hk => ⟨(Nat.le_trans (below_size z7) hk), Kd.freshB (g := gb104) (o := .cells #[.slice A0_0 l0_0.length c0_0] 27 (0, 0)) z33 k_ hk⟩) _ (Nat.le_refl _)) (Below.refl _ _) (Nat.le_refl _) (by simp) ?_; (case hd => rfl); (case hg => rfl); (case hr => first | (go_simp; done) | (go_simp; rfl)); (case hp => exact (Reps.none _ _)); intro v110 w12 ho13 hb hg_ hnew_; clear hg_ hnew_; (first | rw [← Ny109.out] at ho13 | (simp only [Int.reduceToNat] at ho13; rw [← Ny109.out] at ho13)); have n0_ := zA (Kd.N_lower ho13 (below_size z7)); have n1_ := zBB BK104 hb; have n2_ := zA (below_step z7 hb); clear BK104 HB; have HO111 := n0_; have BK104 := n1_; have HB := n2_; clear n0_ n1_ n2_; clear hb ho13))
    go_loopg [7, 8] k (fun kq v7 v8 w' => ∃ (x7_1 : List (List Int)) (x8_1 : Int), v8 = .int .i64 x8_1 ∧ Aside0 (spec_l10Places.l0 kq a2 x7_1 x8_1 l0_0 = some r) ∧ Aside0 (kq ≤ k) ∧ Aside0 (Kd.N (Kd.slice 2 (Kd.int .i64)) 25 w' w.heap.size (fun k_ => (w.heap.size ≤ k_) ∧ k_ ≠ gb104) v7 x7_1) ∧ Aside0 (w'.heap[gb104]? = some (.cells #[(.slice A0_0 l0_0.length c0_0)] 27 (0, 0))) ∧ Aside0 (Below w.heap.size w w'))
    case atStart => exact ⟨(y109), (a1), z16, H', ⟨Nat.le_refl _⟩, ⟨(by (with_reducible repeat (first | apply Kd.N_alloc | apply Kd.N_drewN | apply Kd.N_drew)); exact HO111.out)⟩, ⟨z33⟩, ⟨z7⟩⟩
    case round =>
      clear H'
      try clear p2
      try clear c4
      try clear c4b0
      try clear c4b1
      try clear c8
      obtain ⟨x7_1, x8_1, rfl, HA, HK1, HO_7, BK104, HB⟩ := hrel
      cases gk with
      | zero => exact absurd HA.out (by simp [spec_l10Places.l0])
      | succ k1 =>
        have H := HA.out
        clear HA
        simp only [spec_l10Places.l0] at H
        by_cases c14 : x8_1 < (l0_0.length : Int)
        · rw [if_pos c14] at H
          have c14b0 : decide (x8_1 < (l0_0.length : Int)) = true := decide_eq_true c14
          clear c14
          replace H := zi H
          obtain ⟨t100, A150, H⟩ := H
          replace H : (spec_l10Places.l1 k1 a2 x7_1 x8_1 t100 0 l0_0) = some r := H
          have A15 := zA A150
          clear A150
          have H' := zA H
          clear H
          obtain ⟨hcz16_0, hfz16_0⟩ := zC1 BK104.out
          go_wp2_with (first | ((with_reducible refine gate_callee (f := 84) rfl ?_); refine goesL_ (some 29) rfl rfl Try.func84 (by kernel_rfl) rfl #[.agg #[.slice A0_0 l0_0.length c0_0], .int .i64 (wrap64 (x8_1 + 1)), .int .i64 (wrap64 (a2 - 1))] rfl z3 ?_; (with_reducible refine (ih k1 z99 _ _ l0_0 (wrap64 (x8_1 + 1)) (wrap64 (a2 - 1)) t100 _ ?side1 ?side2 A15.out).mono ?_); (case side1 => exact z5); (case side2 => exact HC0_0.out); rintro e w17 ⟨v112, rfl, ho0, hb⟩; refine ⟨_, rfl, ?_⟩; have n0_ := zA (Kd.N_elder' z22 (Kd.N_base ho0) hb); have n1_ := zA (Kd.N_lower (Kd.N_mono (ok' := fun k_ => (w.heap.size ≤ k_) ∧ some k_ ≠ (u7 : Value).ownBlock ∧ k_ ≠ gb104) ho0 (fun k_ hk_ => ⟨(Nat.le_trans (below_size z7) hk_), (Kd.fresh' (Kd.N_lt z22) k_ hk_), (Kd.freshB (g := gb104) (o := .cells #[.slice A0_0 l0_0.length c0_0] 27 (0, 0)) z33 k_ hk_)⟩)) (below_size z7)); have n2_ := zBB BK104 hb; have n3_ := zA (below_step z7 hb); clear HO_7 BK104 HB; have HO_7 := n0_; have HO113 := n1_; have BK104 := n2_; have HB := n3_; clear n0_ n1_ n2_ n3_; (try clear hb); (try clear hb2); (try clear hk); (try clear hi); (try clear ho0)))
          go_loopg [7, 10] k1 (fun kq v7 v10 w' => ∃ (x7_2 : List (List Int)) (x10_2 : Int), v10 = .int .i64 x10_2 ∧ Aside0 (spec_l10Places.l1 kq a2 x7_2 x8_1 t100 x10_2 l0_0 = some r) ∧ Aside0 (kq ≤ k1) ∧ Aside0 (Kd.N (Kd.slice 2 (Kd.int .i64)) 25 w' w.heap.size (fun k_ => (w.heap.size ≤ k_) ∧ some k_ ≠ (v112 : Value).ownBlock ∧ k_ ≠ gb104) v7 x7_2) ∧ Aside0 (Kd.N (Kd.slice 2 (Kd.int .i64)) 25 w' w.heap.size (fun k_ => (w.heap.size ≤ k_) ∧ some k_ ≠ (v7 : Value).ownBlock ∧ k_ ≠ gb104) v112 t100) ∧ Aside0 (w'.heap[gb104]? = some (.cells #[(.slice A0_0 l0_0.length c0_0)] 27 (0, 0))) ∧ Aside0 (Below w.heap.size w w'))
          case atStart => exact ⟨(x7_1), (0), z16, H', ⟨Nat.le_refl _⟩, ⟨(by (with_reducible repeat (first | apply Kd.N_alloc | apply Kd.N_drewN | apply Kd.N_drew)); exact Kd.N_mono HO_7.out (fun _ hk => ⟨hk.1.1, ⟨hk.2, hk.1.2⟩⟩))⟩, ⟨(by (with_reducible repeat (first | apply Kd.N_alloc | apply Kd.N_drewN | apply Kd.N_drew)); exact HO113.out)⟩, ⟨z33⟩, ⟨z7⟩⟩
          case round =>
            clear H'
            try clear c1
            try clear p2
            try clear c4
            try clear c4b0
            try clear c4b1
            try clear p6
            try clear c8
            try clear c14
            try clear c14b0
            try clear hcz16_0
            try clear hfz16_0
            try clear p2
            obtain ⟨x7_2, x10_2, rfl, HA, HK2, HO_7, HO_9, BK104, HB⟩ := hrel
            cases gk with
            | zero => exact absurd HA.out (by simp [spec_l10Places.l1])
            | succ k2 =>
              have H := HA.out
              clear HA
              simp only [spec_l10Places.l1] at H
              by_cases c18 : x10_2 < (t100.length : Int)
              · rw [if_pos c18] at H
                have c18b0 : decide (x10_2 < (t100.length : Int)) = true := decide_eq_true c18
                clear c18
                obtain ⟨y101, hy101⟩ : ∃ y_ : List Int, y_ = (([x8_1] : List Int)) := ⟨_, rfl⟩
                replace H : (if 0 ≤ x10_2 then (if y101.length + (rd_L2 t100 x10_2).length < 17592186044416 then (if x7_2.length < 5864062014805 then (spec_l10Places.l1 k2 a2 (x7_2 ++ [(y101 ++ (rd_L2 t100 x10_2))]) x8_1 t100 (wrap64 (x10_2 + 1)) l0_0) else (none)) else (none)) else (none)) = some r := by first | (rw [hy101]; with_reducible exact H) | (have H2_ := (Option.bind_some _ _).symm.trans H; rw [hy101]; with_reducible exact H2_) | (have H2_ := (Option.bind_some _ _).symm.trans H; with_reducible exact H2_) | with_reducible exact H | (rw [hy101]; exact H) | exact H
                have Ny101 := zA hy101
                clear hy101
                by_cases c19 : 0 ≤ x10_2
                · rw [if_pos c19] at H
                  have c19b0 : decide (0 ≤ x10_2) = true := decide_eq_true c19
                  clear c19
                  by_cases c20 : y101.length + (rd_L2 t100 x10_2).length < 17592186044416
                  · rw [if_pos c20] at H
                    have LMc20 := zA c20
                    clear c20
                    obtain ⟨y114, hy114⟩ : ∃ y_ : List Int, y_ = (y101 ++ (rd_L2 t100 x10_2)) := ⟨_, rfl⟩
                    replace H : (if x7_2.length < 5864062014805 then (spec_l10Places.l1 k2 a2 (x7_2 ++ [y114]) x8_1 t100 (wrap64 (x10_2 + 1)) l0_0) else (none)) = some r := by first | (rw [hy114]; with_reducible exact H) | (have H2_ := (Option.bind_some _ _).symm.trans H; rw [hy114]; with_reducible exact H2_) | (have H2_ := (Option.bind_some _ _).symm.trans H; with_reducible exact H2_) | with_reducible exact H | (rw [hy114]; exact H) | exact H
                    have Ny114 := zA hy114
                    clear hy114
                    by_cases c21 : x7_2.length < 5864062014805
                    · rw [if_pos c21] at H
                      have LMc21 := zA c21
                      clear c21
                      obtain ⟨y115, hy115⟩ : ∃ y_ : List (List Int), y_ = (x7_2 ++ [y114]) := ⟨_, rfl⟩
                      replace H : (spec_l10Places.l1 k2 a2 y115 x8_1 t100 (wrap64 (x10_2 + 1)) l0_0) = some r := by first | (rw [hy115]; with_reducible exact H) | (have H2_ := (Option.bind_some _ _).symm.trans H; rw [hy115]; with_reducible exact H2_) | (have H2_ := (Option.bind_some _ _).symm.trans H; with_reducible exact H2_) | with_reducible exact H | (rw [hy115]; exact H) | exact H
                      have Ny115 := zA hy115
                      clear hy115
                      have H' := zA H
                      clear H
                      obtain ⟨Ao22, co22, eo22⟩ := Kd.N_slice HO_9.out
                      subst eo22
                      go_wp2_with (first | ((with_reducible refine gate_dst (N := 38) rfl ?_); refine Kd.R_lit (Kd.int .i64) _ 2 ?hg (N := 38) ?hd (xs := ([x8_1] : List Int)) (inner := [.int .i64 x8_1]) (ok := fun _ => True) (okp := fun _ => True) ?hr ?hp (fun _ hk => hk) trivial (Below.refl _ _) (Nat.le_refl _) (by simp) ?_; (case hd => rfl); (case hg => rfl); (case hr => first | (go_simp; done) | (go_simp; rfl)); (case hp => exact (Reps.one (show Kd.M (Kd.int .i64) _ _ _ x8_1 [.int .i64 x8_1] from rfl) (Reps.none _ _))); intro v116 w23 ho24 hb hg_ hnew_; clear hg_ hnew_; (first | rw [← Ny101.out] at ho24 | (simp only [Int.reduceToNat] at ho24; rw [← Ny101.out] at ho24)); have n0_ := zA (Kd.N_elder' z22 (Kd.R_base ho24) hb); have n1_ := zA (Kd.N_elder' z145 (Kd.R_base ho24) hb); have n2_ := zA (Kd.R_lower (Kd.R_newM (M := fun k_ => (w.heap.size ≤ k_)) ho24 (below_size z7) (fun k_ h_ => h_)) (below_size z7)); have n3_ := zBB BK104 hb; have n4_ := zA (below_step z7 hb); clear HO_7 HO_9 BK104 HB; have HO_7 := n0_; have HO_9 := n1_; have HO117 := n2_; have BK104 := n3_; have HB := n4_; clear n0_ n1_ n2_ n3_ n4_; clear hb ho24; have p221 : 0 ≤ (x10_2 : Int) := of_decide_eq_true z14; have q221 : x10_2 < (t100.length : Int) := of_decide_eq_true z14; obtain ⟨ad221, A221_0, c221_0, e221, hx221_0, hl221_0, hi221_0⟩ := at_L2 (Kd.N_reads' HO_9.out).2.2 x10_2 p221 q221; cases e221; obtain ⟨ce221, hce221, hMe221, hcc221⟩ := Kd.N_get HO_9.out [] x10_2 p221 (by first | exact q221 | exact of_decide_eq_true z14 | (have e_ := (Kd.N_reads' HO_9.out).1; omega)); obtain ⟨ua221_0, uc221_0, rfl, ul221_0, ge221_0⟩ := Kd.FK_slice_open hMe221; have hv221_0 := hcc221 0 _ rfl; rw [Nat.add_zero, show ((Kd.slice 2 (Kd.int .i64))).sz = 1 from rfl, Nat.mul_one] at hv221_0; replace hv221_0 := Option.some.inj (hv221_0.symm.trans hx221_0); injection hv221_0 with hva_ hvn_ hvc_; rw [hva_] at ge221_0; rw [hvc_] at ul221_0; have HL221_0 := zA (show Kd.V (Kd.int .i64) 2 _ w.heap.size _ _ (rd_L2 t100 x10_2) from Kd.V_mk ul221_0 ge221_0); clear hva_ hvn_ hvc_ ge221_0 ul221_0; clear hcc221 hce221; have HR221_0 := zA hi221_0; have HC221_0 := zA hl221_0; clear hi221_0 hl221_0; replace p221 := eq_true p221; replace q221 := eq_true q221) | ((with_reducible refine gate_builtin (b := .append) (xs := #[.tmp 38, .tmp 42]) rfl ?_); at_builtin; refine Kd.R_append_rows (Kd.int .i64) (w0 := w) w.heap.size rfl (.tmp 38) (.tmp 42) 25 2 (.int .i64 0) 8 rfl Try.underlying25 info2 rfl (by decide) (by omega) v116 y101 (rd_L2 t100 x10_2) _ _ _ (fun k_ => (w.heap.size ≤ k_)) (fun _ => False) rfl rfl ?aO ?aR (fun _ _ h => h) (fun _ h => h.elim) ?aF ?aB ?aS ?aL ?_; (case aR => repeat (first | exact (by repeat (first | (with_reducible exact HR221_0.out) | (with_reducible refine Kd.C_alloc ?_ _) | (with_reducible refine Kd.C_drewN ?_ _) | (with_reducible refine Kd.C_drew ?_) | exact HR221_0.out)) | (with_reducible refine Kd.C_alloc ?_ _) | (with_reducible refine Kd.C_drewN ?_ _) | (with_reducible refine Kd.C_drew ?_))); (case aB => exact z7); (case aF => exact (fun k_ hk => (Nat.le_trans (below_size z7) hk))); (case aO => exact (by (with_reducible repeat (first | apply Kd.R_alloc | apply Kd.R_drewN | apply Kd.R_drew)); exact Kd.R_mono HO117.out (fun _ hk => hk.1))); (case aS => exact (below_size z7)); (case aL => have := LMc20.out; omega); intro v118 w25 ho hb hg hat; rw [← Ny114.out] at ho; have n0_ := zA (Kd.N_afterv (ok := (fun k_ => (w.heap.size ≤ k_) ∧ some k_ ≠ (.slice (some ad221) t100.length co22 : Value).ownBlock ∧ k_ ≠ gb104)) z22 hg hat); have n1_ := zA (Kd.N_afterv (ok := (fun k_ => (w.heap.size ≤ k_) ∧ some k_ ≠ (u7 : Value).ownBlock ∧ k_ ≠ gb104)) z145 hg hat); have n2_ := zA (blk_grown (g := gb104) (o := .cells #[.slice A0_0 l0_0.length c0_0] 27 (0, 0)) z33 hg (Kd.R_ne HO117.out BK104.out (by decide))); have n3_ := zA (Kd.V_afterv (ok := (fun k_ => (w.heap.size ≤ k_) ∧ some k_ ≠ (u7 : Value).ownBlock ∧ some k_ ≠ (.slice (some ad221) t100.length co22 : Value).ownBlock ∧ k_ ≠ gb104)) (by (with_reducible repeat (first | apply Kd.V_alloc | apply Kd.V_drewN | apply Kd.V_drew)); exact Kd.V_mono HL221_0.out (fun _ hk => ⟨⟨hk.1.1.1, ⟨hk.1.1.2.1, ⟨hk.2, hk.1.1.2.2⟩⟩⟩, hk.1.2⟩)) hg hat); have n4_ := zA (hb); have n5_ := zA (ho); clear HO_7 HO_9 BK104 HL221_0 HB HO117; have HO_7 := n0_; have HO_9 := n1_; have BK104 := n2_; have HL221_0 := n3_; have HB := n4_; have HO119 := n5_; clear n0_ n1_ n2_ n3_ n4_ n5_; clear ho hb hg hat; obtain ⟨Ao27, co27, eo27⟩ := Kd.R_slice HO119.out; subst eo27) | ((with_reducible refine gate_builtin (b := .append) (xs := #[.tmp 36, .tmp 44]) rfl ?_); at_builtin; refine Kd.N_append (Kd.slice 2 (Kd.int .i64)) (w0 := w) w.heap.size rfl (.tmp 36) (.tmp 44) 42 25 (.slice none 0 0) 24 rfl Try.underlying42 info25 rfl (by decide) (by omega) u7 x7_2 y114 [.slice Ao27 y114.length co27] (fun k_ => (w.heap.size ≤ k_) ∧ some k_ ≠ (.slice (some ad221) t100.length co22 : Value).ownBlock ∧ k_ ≠ gb104) (fun k_ => ((fun k_ => (w.heap.size ≤ k_) ∧ some k_ ≠ (.slice (some ad221) t100.length co22 : Value).ownBlock ∧ k_ ≠ gb104)) k_ ∧ some k_ ≠ (u7 : Value).ownBlock) rfl rfl ?aP (fun _ hk => hk) ?aF ?aO ?aB ?aS ?aL ?_; (case aP => exact (Kd.FK_slice_mk (Kd.R_reads' (Kd.R_mono (ok' := (fun k_ => ((fun k_ => (w.heap.size ≤ k_) ∧ some k_ ≠ (.slice (some ad221) t100.length co22 : Value).ownBlock ∧ k_ ≠ gb104)) k_ ∧ some k_ ≠ (u7 : Value).ownBlock)) (Kd.R_types (Kd.R_apart' (Kd.R_apart' (HO119.out) (Kd.N_typed HO_9.out) (by decide)) (Kd.N_typed HO_7.out) (by decide)) BK104.out (by decide)) (fun k_ hk => ⟨⟨hk.1.1.1, ⟨hk.1.1.2, hk.2⟩⟩, hk.1.2⟩))).2.1 (Kd.R_F (Kd.R_mono (ok' := (fun k_ => ((fun k_ => (w.heap.size ≤ k_) ∧ some k_ ≠ (.slice (some ad221) t100.length co22 : Value).ownBlock ∧ k_ ≠ gb104)) k_ ∧ some k_ ≠ (u7 : Value).ownBlock)) (Kd.R_types (Kd.R_apart' (Kd.R_apart' (HO119.out) (Kd.N_typed HO_9.out) (by decide)) (Kd.N_typed HO_7.out) (by decide)) BK104.out (by decide)) (fun k_ hk => ⟨⟨hk.1.1.1, ⟨hk.1.1.2, hk.2⟩⟩, hk.1.2⟩))))); (case aB => exact z7); (case aF => exact (fun k_ hk => ⟨(Nat.le_trans (below_size z7) hk), Kd.fresh' (Kd.N_lt z145) k_ hk, Kd.freshB (g := gb104) (o := .cells #[.slice A0_0 l0_0.length c0_0] 27 (0, 0)) z33 k_ hk⟩)); (case aO => exact z93); (case aS => exact (below_size z7)); (case aL => have := LMc21.out; omega); intro v120 w26 ho hb hg hat; rw [← Ny115.out] at ho; have n0_ := zA (Kd.N_afterv (ok := (fun k_ => (w.heap.size ≤ k_) ∧ some k_ ≠ (.slice Ao27 y114.length co27 : Value).ownBlock ∧ k_ ≠ gb104)) (by (with_reducible repeat (first | apply Kd.N_alloc | apply Kd.N_drewN | apply Kd.N_drew)); exact Kd.N_mono HO_9.out (fun _ hk => ⟨⟨hk.1.1, ⟨hk.2, hk.1.2.2⟩⟩, hk.1.2.1⟩)) hg hat); have n1_ := zA (blk_grown (g := gb104) (o := .cells #[.slice A0_0 l0_0.length c0_0] 27 (0, 0)) z33 hg (Kd.N_ne HO_7.out BK104.out (by decide))); have n2_ := zA (Kd.V_afterv (ok := (fun k_ => (w.heap.size ≤ k_) ∧ some k_ ≠ (.slice (some ad221) t100.length co22 : Value).ownBlock ∧ some k_ ≠ (.slice Ao27 y114.length co27 : Value).ownBlock ∧ k_ ≠ gb104)) (by (with_reducible repeat (first | apply Kd.V_alloc | apply Kd.V_drewN | apply Kd.V_drew)); exact Kd.V_mono HL221_0.out (fun _ hk => ⟨⟨hk.1.1, ⟨hk.1.2.2.1, ⟨hk.2, hk.1.2.2.2⟩⟩⟩, hk.1.2.1⟩)) hg hat); have n3_ := zA (hb); have n4_ := zA (ho); clear HO_9 BK104 HL221_0 HB HO_7 HO119; have HO_9 := n0_; have BK104 := n1_; have HL221_0 := n2_; have HB := n3_; have HO121 := n4_; clear n0_ n1_ n2_ n3_ n4_; clear ho hb hg hat))
                      go_roundg k2
                      case measure => have := HK1.out; have := HK2.out; omega
                      case rel => exact ⟨(y115), (wrap64 (x10_2 + 1)), z16, H', ⟨z97⟩, ⟨(by (with_reducible repeat (first | apply Kd.N_alloc | apply Kd.N_drewN | apply Kd.N_drew)); exact HO121.out)⟩, ⟨(by (with_reducible repeat (first | apply Kd.N_alloc | apply Kd.N_drewN | apply Kd.N_drew)); exact Kd.N_mono HO_9.out (fun _ hk => ⟨hk.1.1, ⟨hk.2, hk.1.2.2⟩⟩))⟩, ⟨z33⟩, ⟨z7⟩⟩
                    · rw [if_neg c21] at H
                      exact absurd H (by simp)
                  · rw [if_neg c20] at H
                    exact absurd H (by simp)
                · rw [if_neg c19] at H
                  exact absurd H (by simp)
              · rw [if_neg c18] at H
                have c18b0 : decide (x10_2 < (t100.length : Int)) = false := decide_eq_false c18
                clear c18
                have H' := zA H
                clear H
                obtain ⟨Ao28, co28, eo28⟩ := Kd.N_slice HO_9.out
                subst eo28
                go_wp2
                go_roundg k2
                case measure => have := HK1.out; have := HK2.out; omega
                case rel => exact ⟨(x7_2), (wrap64 (x8_1 + 1)), z16, H', ⟨z97⟩, ⟨z151⟩, ⟨z33⟩, ⟨z7⟩⟩
        · rw [if_neg c14] at H
          have c14b0 : decide (x8_1 < (l0_0.length : Int)) = false := decide_eq_false c14
          clear c14
          obtain rfl := Option.some.inj H
          obtain ⟨hcz29_0, hfz29_0⟩ := zC1 BK104.out
          go_wp2
          go_ret
          exact ⟨_, z15, z104, z7⟩

/-! ### spec_l10Digits: function 85 -/
mutual
def spec_l10Digits.l0 : Nat → List Int → List (List Int) → Int → List Int → Option ((List (List Int)))
  | 0, _, _, _, _ => none
  | k + 1, x1, x5, x6, x229000 => if x6 < (x1.length : Int) then (spec_l10Digits.l1 k x1 x5 x6 (([] : List (List Int))) 0 x229000) else (some x5)
def spec_l10Digits.l1 : Nat → List Int → List (List Int) → Int → List (List Int) → Int → List Int → Option ((List (List Int)))
  | 0, _, _, _, _, _, _ => none
  | k + 1, x1, x5, x6, x7, x8, x229000 => if x8 < (x5.length : Int) then (spec_l10Digits.l2 k x1 x5 x6 x7 x8 0 x229000) else (spec_l10Digits.l0 k x1 x7 (wrap64 (x6 + 1)) x229000)
def spec_l10Digits.l2 : Nat → List Int → List (List Int) → Int → List (List Int) → Int → Int → List Int → Option ((List (List Int)))
  | 0, _, _, _, _, _, _, _ => none
  | k + 1, x1, x5, x6, x7, x8, x9, x229000 => if 0 ≤ x6 then (if x6 < (x1.length : Int) then (if 0 ≤ (rd x1 x6) then (if (rd x1 x6) < (x229000.length : Int) then (if x9 < (rd x229000 (rd x1 x6)) then (if 0 ≤ x8 then (if x8 < (x5.length : Int) then ((spec_l01Own.f (rd_L2 x5 x8)).bind fun t100 => (if t100.length < 17592186044416 then (if x7.length < 5864062014805 then (spec_l10Digits.l2 k x1 x5 x6 (x7 ++ [(t100 ++ [x9])]) x8 (wrap64 (x9 + 1)) x229000) else (none)) else (none))) else (none)) else (none)) else (spec_l10Digits.l1 k x1 x5 x6 x7 (wrap64 (x8 + 1)) x229000)) else (none)) else (none)) else (none)) else (none)
end
def spec_l10Digits.f (k : Nat) (l0_0 : List Int) (l1 : List Int) : Option ((List (List Int))) := spec_l10Digits.l0 k l1 (([(([] : List Int))] : List (List Int))) 0 l0_0
set_option maxHeartbeats 8000000 in
set_option maxRecDepth 100000 in
theorem spec_l10Digits.calls (k : Nat) (A0_0 : Option Addr) (c0_0 : Nat) (l0_0 : List Int) (A1 : Option Addr) (c1 : Nat) (l1 : List Int) (r : List (List Int)) (w : World) (hr0_0 : Kd.C (Kd.int .i64) w A0_0 l0_0.length l0_0) (hc0_0 : l0_0.length ≤ c0_0) (hr1 : Kd.C (Kd.int .i64) w A1 l1.length l1) (hc1 : l1.length ≤ c1) (h : spec_l10Digits.f k l0_0 l1 = some r) :
    Calls Try.prog 85 #[.agg #[.slice A0_0 l0_0.length c0_0], .slice A1 l1.length c1] w fun e w' => ∃ v0_ : Value, e = .returned (v0_) ∧ Kd.N (Kd.slice 2 (Kd.int .i64)) 25 w' w.heap.size (fun k_ => (w.heap.size ≤ k_)) v0_ r ∧ Below w.heap.size w w' := by
  have hu27 := Try.underlying27
  have HR0_0 := zA hr0_0
  have HC0_0 := zA hc0_0
  clear hr0_0 hc0_0
  have HR1 := zA hr1
  have HC1 := zA hc1
  clear hr1 hc1
  have HB := zA (Below.refl w.heap.size w)
  have H : (spec_l10Digits.l0 k l1 (([(([] : List Int))] : List (List Int))) 0 l0_0) = some r := h
  clear h
  obtain ⟨y101, hy101⟩ : ∃ y_ : List Int, y_ = (([] : List Int)) := ⟨_, rfl⟩
  replace H : (spec_l10Digits.l0 k l1 (([y101] : List (List Int))) 0 l0_0) = some r := by first | (rw [hy101]; with_reducible exact H) | (have H2_ := (Option.bind_some _ _).symm.trans H; rw [hy101]; with_reducible exact H2_) | (have H2_ := (Option.bind_some _ _).symm.trans H; with_reducible exact H2_) | with_reducible exact H | (rw [hy101]; exact H) | exact H
  have Ny101 := zA hy101
  clear hy101
  obtain ⟨y102, hy102⟩ : ∃ y_ : List (List Int), y_ = (([y101] : List (List Int))) := ⟨_, rfl⟩
  replace H : (spec_l10Digits.l0 k l1 y102 0 l0_0) = some r := by first | (rw [hy102]; with_reducible exact H) | (have H2_ := (Option.bind_some _ _).symm.trans H; rw [hy102]; with_reducible exact H2_) | (have H2_ := (Option.bind_some _ _).symm.trans H; with_reducible exact H2_) | with_reducible exact H | (rw [hy102]; exact H) | exact H
  have Ny102 := zA hy102
  clear hy102
  have H' := zA H
  clear H
  go_enter Try.func85, Try.ntmps85
  go_wp2_with (first | ((with_reducible refine gate_dst (N := 2) rfl ?_); refine box_event ?hg (N := 2) ?hd (cs := #[.slice A0_0 l0_0.length c0_0]) (t := 27) ?hr ?_; (case hd => rfl); (case hg => rfl); (case hr => first | (go_simp; done) | (go_simp; rfl)); intro gb103 hg w3 hbox hb; have n0_ := zA (below_step z1 hb); have n1_ := zA (hbox); have n2_ := zA ((z178 : w.heap.size ≤ gb103)); have n3_ := zA ((z178 : w.heap.size ≤ gb103)); clear HB; have HB := n0_; have BK103 := n1_; have GW103 := n2_; have GE103 := n3_; clear n0_ n1_ n2_ n3_; clear hb hbox hg) | ((with_reducible refine gate_dst (N := 10) rfl ?_); refine Kd.R_lit (Kd.int .i64) _ 2 ?hg (N := 10) ?hd (xs := ([] : List Int)) (inner := []) (ok := fun _ => True) (okp := fun _ => True) ?hr ?hp (fun _ hk => hk) trivial (Below.refl _ _) (Nat.le_refl _) (by simp) ?_; (case hd => rfl); (case hg => rfl); (case hr => first | (go_simp; done) | (go_simp; rfl)); (case hp => exact (Reps.none _ _)); intro v104 w4 ho5 hb hg_ hnew_; clear hg_ hnew_; (first | rw [← Ny101.out] at ho5 | (simp only [Int.reduceToNat] at ho5; rw [← Ny101.out] at ho5)); have n0_ := zA (Kd.R_lower (Kd.R_newM (M := fun k_ => (w.heap.size ≤ k_)) ho5 (below_size z2) (fun k_ h_ => h_)) (below_size z2)); have n1_ := zBB BK103 hb; have n2_ := zA (below_step z2 hb); clear BK103 HB; have HO105 := n0_; have BK103 := n1_; have HB := n2_; clear n0_ n1_ n2_; clear hb ho5; obtain ⟨Ao6, co6, eo6⟩ := Kd.R_slice HO105.out; subst eo6) | ((with_reducible refine gate_dst (N := 11) rfl ?_); refine Kd.N_lit (Kd.slice 2 (Kd.int .i64)) _ 25 ?hg (N' := 11) ?hd (xs := ([y101] : List (List Int))) (inner := [.slice Ao6 y101.length co6]) (ok := (fun k_ => (w.heap.size ≤ k_) ∧ k_ ≠ gb103)) (okp := (fun k_ => (w.heap.size ≤ k_) ∧ k_ ≠ gb103)) ?hr ?hp (fun _ hk => hk) ((show ∀ k_, w4.heap.size ≤ k_ → (fun k_ => (w.heap.size ≤ k_) ∧ k_ ≠ gb103) k_ from fun k_ hk => ⟨(Nat.le_trans (below_size z2) hk), Kd.freshB (g := gb103) (o := .cells #[.slice A0_0 l0_0.length c0_0] 27 (0, 0)) z24 k_ hk⟩) _ (Nat.le_refl _)) (Below.refl _ _) (Nat.le_refl _) (by simp) ?_; (case hd => rfl); (case hg => rfl); (case hr => first | (go_simp; done) | (go_simp; rfl)); (case hp => exact (Reps.one (show Kd.FK (Kd.slice 2 (Kd.int .i64)) _ _ y101 [.slice Ao6 y101.length co6] from (Kd.FK_slice_mk (Kd.R_reads' (Kd.R_mono (ok' := (fun k_ => (w.heap.size ≤ k_) ∧ k_ ≠ gb103)) (Kd.R_types (HO105.out) BK103.out (by decide)) (fun k_ hk => ⟨hk.1.1, hk.2⟩))).2.1 (Kd.R_F (Kd.R_mono (ok' := (fun k_ => (w.heap.size ≤ k_) ∧ k_ ≠ gb103)) (Kd.R_types (HO105.out) BK103.out (by decide)) (fun k_ hk => ⟨hk.1.1, hk.2⟩))))) (Reps.none _ _))); intro v106 w7 ho8 hb hg_ hnew_; clear hg_ hnew_; (first | rw [← Ny102.out] at ho8 | (simp only [Int.reduceToNat] at ho8; rw [← Ny102.out] at ho8)); have n0_ := zA (Kd.N_lower ho8 (below_size z2)); have n1_ := zBB BK103 hb; have n2_ := zA (below_step z2 hb); clear BK103 HB HO105; have HO107 := n0_; have BK103 := n1_; have HB := n2_; clear n0_ n1_ n2_; clear hb ho8))
  repeat (go_quiet (first | ((with_reducible refine gate_dst (N := 2) rfl ?_); refine box_event ?hg (N := 2) ?hd (cs := #[.slice A0_0 l0_0.length c0_0]) (t := 27) ?hr ?_; (case hd => rfl); (case hg => rfl); (case hr => first | (go_simp; done) | (go_simp; rfl)); intro gb103 hg w3 hbox hb; have n0_ := zA (below_step z1 hb); have n1_ := zA (hbox); have n2_ := zA ((z178 : w.heap.size ≤ gb103)); have n3_ := zA ((z178 : w.heap.size ≤ gb103)); clear HB; have HB := n0_; have BK103 := n1_; have GW103 := n2_; have GE103 := n3_; clear n0_ n1_ n2_ n3_; clear hb hbox hg) | ((with_reducible refine gate_dst (N := 10) rfl ?_); refine Kd.R_lit (Kd.int .i64) _ 2 ?hg (N := 10) ?hd (xs := ([] : List Int)) (inner := []) (ok := fun _ => True) (okp := fun _ => True) ?hr ?hp (fun _ hk => hk) trivial (Below.refl _ _) (Nat.le_refl _) (by simp) ?_; (case hd => rfl); (case hg => rfl); (case hr => first | (go_simp; done) | (go_simp; rfl)); (case hp => exact (Reps.none _ _)); intro v104 w4 ho5 hb hg_ hnew_; clear hg_ hnew_; (first | rw [← Ny101.out] at ho5 | (simp only [Int.reduceToNat] at ho5; rw [← Ny101.out] at ho5)); have n0_ := zA (Kd.R_lower (Kd.R_newM (M := fun k_ => (w.heap.size ≤ k_)) ho5 (below_size z2) (fun k_ h_ => h_)) (below_size z2)); have n1_ := zBB BK103 hb; have n2_ := zA (below_step z2 hb); clear BK103 HB; have HO105 := n0_; have BK103 := n1_; have HB := n2_; clear n0_ n1_ n2_; clear hb ho5; obtain ⟨Ao6, co6, eo6⟩ := Kd.R_slice HO105.out; subst eo6) | ((with_reducible refine gate_dst (N := 11) rfl ?_); refine Kd.N_lit (Kd.slice 2 (Kd.int .i64)) _ 25 ?hg (N' := 11) ?hd (xs := ([y101] : List (List Int))) (inner := [.slice Ao6 y101.length co6]) (ok := (fun k_ => (w.heap.size ≤ k_) ∧ k_ ≠ gb103)) (okp := (fun k_ => (w.heap.size ≤ k_) ∧ k_ ≠ gb103)) ?hr ?hp (fun _ hk => hk) ((show ∀ k_, w4.heap.size ≤ k_ → (fun k_ => (w.heap.size ≤ k_) ∧ k_ ≠ gb103) k_ from fun k_ hk => ⟨(Nat.le_trans (below_size z2) hk), Kd.freshB (g := gb103) (o := .cells #[.slice A0_0 l0_0.length c0_0] 27 (0, 0)) z24 k_ hk⟩) _ (Nat.le_refl _)) (Below.refl _ _) (Nat.le_refl _) (by simp) ?_; (case hd => rfl); (case hg => rfl); (case hr => first | (go_simp; done) | (go_simp; rfl)); (case hp => exact (Reps.one (show Kd.FK (Kd.slice 2 (Kd.int .i64)) _ _ y101 [.slice Ao6 y101.length co6] from (Kd.FK_slice_mk (Kd.R_reads' (Kd.R_mono (ok' := (fun k_ => (w.heap.size ≤ k_) ∧ k_ ≠ gb103)) (Kd.R_types (HO105.out) BK103.out (by decide)) (fun k_ hk => ⟨hk.1.1, hk.2⟩))).2.1 (Kd.R_F (Kd.R_mono (ok' := (fun k_ => (w.heap.size ≤ k_) ∧ k_ ≠ gb103)) (Kd.R_types (HO105.out) BK103.out (by decide)) (fun k_ hk => ⟨hk.1.1, hk.2⟩))))) (Reps.none _ _))); intro v106 w7 ho8 hb hg_ hnew_; clear hg_ hnew_; (first | rw [← Ny102.out] at ho8 | (simp only [Int.reduceToNat] at ho8; rw [← Ny102.out] at ho8)); have n0_ := zA (Kd.N_lower ho8 (below_size z2)); have n1_ := zBB BK103 hb; have n2_ := zA (below_step z2 hb); clear BK103 HB HO105; have HO107 := n0_; have BK103 := n1_; have HB := n2_; clear n0_ n1_ n2_; clear hb ho8)); try go_wp2_with (first | ((with_reducible refine gate_dst (N := 2) rfl ?_); refine box_event ?hg (N := 2) ?hd (cs := #[.slice A0_0 l0_0.length c0_0]) (t := 27) ?hr ?_; (case hd => rfl); (case hg => rfl); (case hr => first | (go_simp; done) | (go_simp; rfl)); intro gb103 hg w3 hbox hb; have n0_ := zA (below_step z1 hb); have n1_ := zA (hbox); have n2_ := zA ((z178 : w.heap.size ≤ gb103)); have n3_ := zA ((z178 : w.heap.size ≤ gb103)); clear HB; have HB := n0_; have BK103 := n1_; have GW103 := n2_; have GE103 := n3_; clear n0_ n1_ n2_ n3_; clear hb hbox hg) | ((with_reducible refine gate_dst (N := 10) rfl ?_); refine Kd.R_lit (Kd.int .i64) _ 2 ?hg (N := 10) ?hd (xs := ([] : List Int)) (inner := []) (ok := fun _ => True) (okp := fun _ => True) ?hr ?hp (fun _ hk => hk) trivial (Below.refl _ _) (Nat.le_refl _) (by simp) ?_; (case hd => rfl); (case hg => rfl); (case hr => first | (go_simp; done) | (go_simp; rfl)); (case hp => exact (Reps.none _ _)); intro v104 w4 ho5 hb hg_ hnew_; clear hg_ hnew_; (first | rw [← Ny101.out] at ho5 | (simp only [Int.reduceToNat] at ho5; rw [← Ny101.out] at ho5)); have n0_ := zA (Kd.R_lower (Kd.R_newM (M := fun k_ => (w.heap.size ≤ k_)) ho5 (below_size z2) (fun k_ h_ => h_)) (below_size z2)); have n1_ := zBB BK103 hb; have n2_ := zA (below_step z2 hb); clear BK103 HB; have HO105 := n0_; have BK103 := n1_; have HB := n2_; clear n0_ n1_ n2_; clear hb ho5; obtain ⟨Ao6, co6, eo6⟩ := Kd.R_slice HO105.out; subst eo6) | ((with_reducible refine gate_dst (N := 11) rfl ?_); refine Kd.N_lit (Kd.slice 2 (Kd.int .i64)) _ 25 ?hg (N' := 11) ?hd (xs := ([y101] : List (List Int))) (inner := [.slice Ao6 y101.length co6]) (ok := (fun k_ => (w.heap.size ≤ k_) ∧ k_ ≠ gb103)) (okp := (fun k_ => (w.heap.size ≤ k_) ∧ k_ ≠ gb103)) ?hr ?hp (fun _ hk => hk) ((show ∀ k_, w4.heap.size ≤ k_ → (fun k_ => (w.heap.size ≤ k_) ∧ k_ ≠ gb103) k_ from fun k_ hk => ⟨(Nat.le_trans (below_size z2) hk), Kd.freshB (g := gb103) (o := .cells #[.slice A0_0 l0_0.length c0_0] 27 (0, 0)) z24 k_ hk⟩) _ (Nat.le_refl _)) (Below.refl _ _) (Nat.le_refl _) (by simp) ?_; (case hd => rfl); (case hg => rfl); (case hr => first | (go_simp; done) | (go_simp; rfl)); (case hp => exact (Reps.one (show Kd.FK (Kd.slice 2 (Kd.int .i64)) _ _ y101 [.slice Ao6 y101.length co6] from (Kd.FK_slice_mk (Kd.R_reads' (Kd.R_mono (ok' := (fun k_ => (w.heap.size ≤ k_) ∧ k_ ≠ gb103)) (Kd.R_types (HO105.out) BK103.out (by decide)) (fun k_ hk => ⟨hk.1.1, hk.2⟩))).2.1 (Kd.R_F (Kd.R_mono (ok' := (fun k_ => (w.heap.size ≤ k_) ∧ k_ ≠ gb103)) (Kd.R_types (HO105.out) BK103.out (by decide)) (fun k_ hk => ⟨hk.1.1, hk.2⟩))))) (Reps.none _ _))); intro v106 w7 ho8 hb hg_ hnew_; clear hg_ hnew_; (first | rw [← Ny102.out] at ho8 | (simp only [Int.reduceToNat] at ho8; rw [← Ny102.out] at ho8)); have n0_ := zA (Kd.N_lower ho8 (below_size z2)); have n1_ := zBB BK103 hb; have n2_ := zA (below_step z2 hb); clear BK103 HB HO105; have HO107 := n0_; have BK103 := n1_; have HB := n2_; clear n0_ n1_ n2_; clear hb ho8)))
  go_loopg [5, 6] k (fun kq v5 v6 w' => ∃ (x5_1 : List (List Int)) (x6_1 : Int), v6 = .int .i64 x6_1 ∧ Aside0 (spec_l10Digits.l0 kq l1 x5_1 x6_1 l0_0 = some r) ∧ Aside0 (kq ≤ k) ∧ Aside0 (Kd.N (Kd.slice 2 (Kd.int .i64)) 25 w' w.heap.size (fun k_ => (w.heap.size ≤ k_) ∧ k_ ≠ gb103) v5 x5_1) ∧ Aside0 (w'.heap[gb103]? = some (.cells #[(.slice A0_0 l0_0.length c0_0)] 27 (0, 0))) ∧ Aside0 (Below w.heap.size w w'))
  case atStart => exact ⟨(y102), (0), z16, H', ⟨Nat.le_refl _⟩, ⟨z141⟩, ⟨z24⟩, ⟨z2⟩⟩
  case round =>
    clear H'
    try clear c1
    try clear p2
    try clear c8
    obtain ⟨x5_1, x6_1, rfl, HA, HK1, HO_5, BK103, HB⟩ := hrel
    cases gk with
    | zero => exact absurd HA.out (by simp [spec_l10Digits.l0])
    | succ k1 =>
      have H := HA.out
      clear HA
      simp only [spec_l10Digits.l0] at H
      by_cases c9 : x6_1 < (l1.length : Int)
      · rw [if_pos c9] at H
        have c9b0 : decide (x6_1 < (l1.length : Int)) = true := decide_eq_true c9
        clear c9
        obtain ⟨y108, hy108⟩ : ∃ y_ : List (List Int), y_ = (([] : List (List Int))) := ⟨_, rfl⟩
        replace H : (spec_l10Digits.l1 k1 l1 x5_1 x6_1 y108 0 l0_0) = some r := by first | (rw [hy108]; with_reducible exact H) | (have H2_ := (Option.bind_some _ _).symm.trans H; rw [hy108]; with_reducible exact H2_) | (have H2_ := (Option.bind_some _ _).symm.trans H; with_reducible exact H2_) | with_reducible exact H | (rw [hy108]; exact H) | exact H
        have Ny108 := zA hy108
        clear hy108
        have H' := zA H
        clear H
        go_wp2_with (first | ((with_reducible refine gate_dst (N := 18) rfl ?_); refine Kd.N_lit (Kd.slice 2 (Kd.int .i64)) _ 25 ?hg (N' := 18) ?hd (xs := ([] : List (List Int))) (inner := []) (ok := (fun k_ => (w.heap.size ≤ k_) ∧ some k_ ≠ (u5 : Value).ownBlock ∧ k_ ≠ gb103)) (okp := (fun k_ => (w.heap.size ≤ k_) ∧ some k_ ≠ (u5 : Value).ownBlock ∧ k_ ≠ gb103)) ?hr ?hp (fun _ hk => hk) ((show ∀ k_, wr.heap.size ≤ k_ → (fun k_ => (w.heap.size ≤ k_) ∧ some k_ ≠ (u5 : Value).ownBlock ∧ k_ ≠ gb103) k_ from fun k_ hk => ⟨(Nat.le_trans (below_size z2) hk), Kd.fresh' (Kd.N_lt z38) k_ hk, Kd.freshB (g := gb103) (o := .cells #[.slice A0_0 l0_0.length c0_0] 27 (0, 0)) z24 k_ hk⟩) _ (Nat.le_refl _)) (Below.refl _ _) (Nat.le_refl _) (by simp) ?_; (case hd => rfl); (case hg => rfl); (case hr => first | (go_simp; done) | (go_simp; rfl)); (case hp => exact (Reps.none _ _)); intro v109 w10 ho11 hb hg_ hnew_; clear hg_ hnew_; (first | rw [← Ny108.out] at ho11 | (simp only [Int.reduceToNat] at ho11; rw [← Ny108.out] at ho11)); have n0_ := zA (Kd.N_elder' z38 (Kd.N_base ho11) hb); have n1_ := zA (Kd.N_lower ho11 (below_size z2)); have n2_ := zBB BK103 hb; have n3_ := zA (below_step z2 hb); clear HO_5 BK103 HB; have HO_5 := n0_; have HO110 := n1_; have BK103 := n2_; have HB := n3_; clear n0_ n1_ n2_ n3_; clear hb ho11))
        repeat (go_quiet (first | ((with_reducible refine gate_dst (N := 18) rfl ?_); refine Kd.N_lit (Kd.slice 2 (Kd.int .i64)) _ 25 ?hg (N' := 18) ?hd (xs := ([] : List (List Int))) (inner := []) (ok := (fun k_ => (w.heap.size ≤ k_) ∧ some k_ ≠ (u5 : Value).ownBlock ∧ k_ ≠ gb103)) (okp := (fun k_ => (w.heap.size ≤ k_) ∧ some k_ ≠ (u5 : Value).ownBlock ∧ k_ ≠ gb103)) ?hr ?hp (fun _ hk => hk) ((show ∀ k_, wr.heap.size ≤ k_ → (fun k_ => (w.heap.size ≤ k_) ∧ some k_ ≠ (u5 : Value).ownBlock ∧ k_ ≠ gb103) k_ from fun k_ hk => ⟨(Nat.le_trans (below_size z2) hk), Kd.fresh' (Kd.N_lt z38) k_ hk, Kd.freshB (g := gb103) (o := .cells #[.slice A0_0 l0_0.length c0_0] 27 (0, 0)) z24 k_ hk⟩) _ (Nat.le_refl _)) (Below.refl _ _) (Nat.le_refl _) (by simp) ?_; (case hd => rfl); (case hg => rfl); (case hr => first | (go_simp; done) | (go_simp; rfl)); (case hp => exact (Reps.none _ _)); intro v109 w10 ho11 hb hg_ hnew_; clear hg_ hnew_; (first | rw [← Ny108.out] at ho11 | (simp only [Int.reduceToNat] at ho11; rw [← Ny108.out] at ho11)); have n0_ := zA (Kd.N_elder' z38 (Kd.N_base ho11) hb); have n1_ := zA (Kd.N_lower ho11 (below_size z2)); have n2_ := zBB BK103 hb; have n3_ := zA (below_step z2 hb); clear HO_5 BK103 HB; have HO_5 := n0_; have HO110 := n1_; have BK103 := n2_; have HB := n3_; clear n0_ n1_ n2_ n3_; clear hb ho11)); try go_wp2_with (first | ((with_reducible refine gate_dst (N := 18) rfl ?_); refine Kd.N_lit (Kd.slice 2 (Kd.int .i64)) _ 25 ?hg (N' := 18) ?hd (xs := ([] : List (List Int))) (inner := []) (ok := (fun k_ => (w.heap.size ≤ k_) ∧ some k_ ≠ (u5 : Value).ownBlock ∧ k_ ≠ gb103)) (okp := (fun k_ => (w.heap.size ≤ k_) ∧ some k_ ≠ (u5 : Value).ownBlock ∧ k_ ≠ gb103)) ?hr ?hp (fun _ hk => hk) ((show ∀ k_, wr.heap.size ≤ k_ → (fun k_ => (w.heap.size ≤ k_) ∧ some k_ ≠ (u5 : Value).ownBlock ∧ k_ ≠ gb103) k_ from fun k_ hk => ⟨(Nat.le_trans (below_size z2) hk), Kd.fresh' (Kd.N_lt z38) k_ hk, Kd.freshB (g := gb103) (o := .cells #[.slice A0_0 l0_0.length c0_0] 27 (0, 0)) z24 k_ hk⟩) _ (Nat.le_refl _)) (Below.refl _ _) (Nat.le_refl _) (by simp) ?_; (case hd => rfl); (case hg => rfl); (case hr => first | (go_simp; done) | (go_simp; rfl)); (case hp => exact (Reps.none _ _)); intro v109 w10 ho11 hb hg_ hnew_; clear hg_ hnew_; (first | rw [← Ny108.out] at ho11 | (simp only [Int.reduceToNat] at ho11; rw [← Ny108.out] at ho11)); have n0_ := zA (Kd.N_elder' z38 (Kd.N_base ho11) hb); have n1_ := zA (Kd.N_lower ho11 (below_size z2)); have n2_ := zBB BK103 hb; have n3_ := zA (below_step z2 hb); clear HO_5 BK103 HB; have HO_5 := n0_; have HO110 := n1_; have BK103 := n2_; have HB := n3_; clear n0_ n1_ n2_ n3_; clear hb ho11)))
        go_loopg [7, 8] k1 (fun kq v7 v8 w' => ∃ (x7_2 : List (List Int)) (x8_2 : Int), v8 = .int .i64 x8_2 ∧ Aside0 (spec_l10Digits.l1 kq l1 x5_1 x6_1 x7_2 x8_2 l0_0 = some r) ∧ Aside0 (kq ≤ k1) ∧ Aside0 (Kd.N (Kd.slice 2 (Kd.int .i64)) 25 w' w.heap.size (fun k_ => (w.heap.size ≤ k_) ∧ some k_ ≠ (v7 : Value).ownBlock ∧ k_ ≠ gb103) u5 x5_1) ∧ Aside0 (Kd.N (Kd.slice 2 (Kd.int .i64)) 25 w' w.heap.size (fun k_ => (w.heap.size ≤ k_) ∧ some k_ ≠ (u5 : Value).ownBlock ∧ k_ ≠ gb103) v7 x7_2) ∧ Aside0 (w'.heap[gb103]? = some (.cells #[(.slice A0_0 l0_0.length c0_0)] 27 (0, 0))) ∧ Aside0 (Below w.heap.size w w'))
        case atStart => exact ⟨(y108), (0), z16, H', ⟨Nat.le_refl _⟩, ⟨(by (with_reducible repeat (first | apply Kd.N_alloc | apply Kd.N_drewN | apply Kd.N_drew)); exact Kd.N_mono HO_5.out (fun _ hk => ⟨hk.1.1, ⟨hk.2, hk.1.2⟩⟩))⟩, ⟨z143⟩, ⟨z24⟩, ⟨z2⟩⟩
        case round =>
          clear H'
          try clear c1
          try clear p2
          try clear c8
          try clear c9
          try clear c9b0
          try clear p2
          obtain ⟨x7_2, x8_2, rfl, HA, HK2, HO_5, HO_7, BK103, HB⟩ := hrel
          cases gk with
          | zero => exact absurd HA.out (by simp [spec_l10Digits.l1])
          | succ k2 =>
            have H := HA.out
            clear HA
            simp only [spec_l10Digits.l1] at H
            by_cases c12 : x8_2 < (x5_1.length : Int)
            · rw [if_pos c12] at H
              have c12b0 : decide (x8_2 < (x5_1.length : Int)) = true := decide_eq_true c12
              clear c12
              have H' := zA H
              clear H
              obtain ⟨Ao13, co13, eo13⟩ := Kd.N_slice HO_5.out
              subst eo13
              go_wp2
              repeat (go_quiet (fail); try go_wp2)
              go_loopg [7, 9] k2 (fun kq v7 v9 w' => ∃ (x7_3 : List (List Int)) (x9_3 : Int), v9 = .int .i64 x9_3 ∧ Aside0 (spec_l10Digits.l2 kq l1 x5_1 x6_1 x7_3 x8_2 x9_3 l0_0 = some r) ∧ Aside0 (kq ≤ k2) ∧ Aside0 (Kd.N (Kd.slice 2 (Kd.int .i64)) 25 w' w.heap.size (fun k_ => (w.heap.size ≤ k_) ∧ some k_ ≠ (v7 : Value).ownBlock ∧ k_ ≠ gb103) (.slice Ao13 x5_1.length co13) x5_1) ∧ Aside0 (Kd.N (Kd.slice 2 (Kd.int .i64)) 25 w' w.heap.size (fun k_ => (w.heap.size ≤ k_) ∧ some k_ ≠ ((.slice Ao13 x5_1.length co13) : Value).ownBlock ∧ k_ ≠ gb103) v7 x7_3) ∧ Aside0 (w'.heap[gb103]? = some (.cells #[(.slice A0_0 l0_0.length c0_0)] 27 (0, 0))) ∧ Aside0 (Below w.heap.size w w'))
              case atStart => exact ⟨(x7_2), (0), z16, H', ⟨Nat.le_refl _⟩, ⟨z38⟩, ⟨z22⟩, ⟨z24⟩, ⟨z2⟩⟩
              case round =>
                clear H'
                try clear c1
                try clear p2
                try clear c8
                try clear c9
                try clear c9b0
                try clear c12
                try clear c12b0
                try clear p2
                obtain ⟨x7_3, x9_3, rfl, HA, HK3, HO_5, HO_7, BK103, HB⟩ := hrel
                cases gk with
                | zero => exact absurd HA.out (by simp [spec_l10Digits.l2])
                | succ k3 =>
                  have H := HA.out
                  clear HA
                  simp only [spec_l10Digits.l2] at H
                  by_cases c14 : 0 ≤ x6_1
                  · rw [if_pos c14] at H
                    have c14b0 : decide (0 ≤ x6_1) = true := decide_eq_true c14
                    clear c14
                    by_cases c15 : x6_1 < (l1.length : Int)
                    · rw [if_pos c15] at H
                      have c15b0 : decide (x6_1 < (l1.length : Int)) = true := decide_eq_true c15
                      clear c15
                      by_cases c16 : 0 ≤ (rd l1 x6_1)
                      · rw [if_pos c16] at H
                        have c16b0 : decide (0 ≤ (rd l1 x6_1)) = true := decide_eq_true c16
                        clear c16
                        by_cases c17 : (rd l1 x6_1) < (l0_0.length : Int)
                        · rw [if_pos c17] at H
                          have c17b0 : decide ((rd l1 x6_1) < (l0_0.length : Int)) = true := decide_eq_true c17
                          clear c17
                          by_cases c18 : x9_3 < (rd l0_0 (rd l1 x6_1))
                          · rw [if_pos c18] at H
                            have c18b0 : decide (x9_3 < (rd l0_0 (rd l1 x6_1))) = true := decide_eq_true c18
                            clear c18
                            by_cases c19 : 0 ≤ x8_2
                            · rw [if_pos c19] at H
                              have c19b0 : decide (0 ≤ x8_2) = true := decide_eq_true c19
                              clear c19
                              by_cases c20 : x8_2 < (x5_1.length : Int)
                              · rw [if_pos c20] at H
                                have c20b0 : decide (x8_2 < (x5_1.length : Int)) = true := decide_eq_true c20
                                clear c20
                                replace H := zi H
                                obtain ⟨t100, A210, H⟩ := H
                                (try dsimp -simprocs only at H)
                                have A21 := zA A210
                                clear A210
                                by_cases c22 : t100.length < 17592186044416
                                · rw [if_pos c22] at H
                                  have LMc22 := zA c22
                                  clear c22
                                  obtain ⟨y111, hy111⟩ : ∃ y_ : List Int, y_ = (t100 ++ [x9_3]) := ⟨_, rfl⟩
                                  replace H : (if x7_3.length < 5864062014805 then (spec_l10Digits.l2 k3 l1 x5_1 x6_1 (x7_3 ++ [y111]) x8_2 (wrap64 (x9_3 + 1)) l0_0) else (none)) = some r := by first | (rw [hy111]; with_reducible exact H) | (have H2_ := (Option.bind_some _ _).symm.trans H; rw [hy111]; with_reducible exact H2_) | (have H2_ := (Option.bind_some _ _).symm.trans H; with_reducible exact H2_) | with_reducible exact H | (rw [hy111]; exact H) | exact H
                                  have Ny111 := zA hy111
                                  clear hy111
                                  by_cases c23 : x7_3.length < 5864062014805
                                  · rw [if_pos c23] at H
                                    have LMc23 := zA c23
                                    clear c23
                                    obtain ⟨y112, hy112⟩ : ∃ y_ : List (List Int), y_ = (x7_3 ++ [y111]) := ⟨_, rfl⟩
                                    replace H : (spec_l10Digits.l2 k3 l1 x5_1 x6_1 y112 x8_2 (wrap64 (x9_3 + 1)) l0_0) = some r := by first | (rw [hy112]; with_reducible exact H) | (have H2_ := (Option.bind_some _ _).symm.trans H; rw [hy112]; with_reducible exact H2_) | (have H2_ := (Option.bind_some _ _).symm.trans H; with_reducible exact H2_) | with_reducible exact H | (rw [hy112]; exact H) | exact H
                                    have Ny112 := zA hy112
                                    clear hy112
                                    have H' := zA H
                                    clear H
                                    obtain ⟨hcz24_0, hfz24_0⟩ := zC1 BK103.out
                                    have p238 : 0 ≤ (x6_1 : Int) := of_decide_eq_true z14
                                    have q238 : x6_1 < (l1.length : Int) := of_decide_eq_true z14
                                    obtain ⟨ad238, e238, hx238_0⟩ := Kd.at_int HR1.out x6_1 p238 q238
                                    cases e238
                                    try replace hx238_0 := (HB.out.cell (World.block_lt_of_cell? w _ hx238_0)).trans hx238_0
                                    replace p238 := eq_true p238
                                    replace q238 := eq_true q238
                                    have p239 : 0 ≤ ((rd l1 x6_1) : Int) := of_decide_eq_true z14
                                    have q239 : (rd l1 x6_1) < (l0_0.length : Int) := of_decide_eq_true z14
                                    obtain ⟨ad239, e239, hx239_0⟩ := Kd.at_int HR0_0.out (rd l1 x6_1) p239 q239
                                    cases e239
                                    try replace hx239_0 := (HB.out.cell (World.block_lt_of_cell? w _ hx239_0)).trans hx239_0
                                    replace p239 := eq_true p239
                                    replace q239 := eq_true q239
                                    have p240 : 0 ≤ (x8_2 : Int) := of_decide_eq_true z14
                                    have q240 : x8_2 < (x5_1.length : Int) := of_decide_eq_true z14
                                    obtain ⟨ad240, A240_0, c240_0, e240, hx240_0, hl240_0, hi240_0⟩ := at_L2 (Kd.N_reads' HO_5.out).2.2 x8_2 p240 q240
                                    cases e240
                                    obtain ⟨ce240, hce240, hMe240, hcc240⟩ := Kd.N_get HO_5.out [] x8_2 p240 (by first | exact q240 | exact of_decide_eq_true z14 | (have e_ := (Kd.N_reads' HO_5.out).1; omega))
                                    obtain ⟨ua240_0, uc240_0, rfl, ul240_0, ge240_0⟩ := Kd.FK_slice_open hMe240
                                    have hv240_0 := hcc240 0 _ rfl
                                    rw [Nat.add_zero, show ((Kd.slice 2 (Kd.int .i64))).sz = 1 from rfl, Nat.mul_one] at hv240_0
                                    replace hv240_0 := Option.some.inj (hv240_0.symm.trans hx240_0)
                                    injection hv240_0 with hva_ hvn_ hvc_
                                    rw [hva_] at ge240_0
                                    rw [hvc_] at ul240_0
                                    have HL240_0 := zA (show Kd.V (Kd.int .i64) 2 _ w.heap.size _ _ (rd_L2 x5_1 x8_2) from Kd.V_mk ul240_0 ge240_0)
                                    clear hva_ hvn_ hvc_ ge240_0 ul240_0
                                    clear hcc240 hce240
                                    have HR240_0 := zA hi240_0
                                    have HC240_0 := zA hl240_0
                                    clear hi240_0 hl240_0
                                    replace p240 := eq_true p240
                                    replace q240 := eq_true q240
                                    go_wp2_with (first | (go_at_call 65; (with_reducible refine (spec_l01Own.calls _ _ (rd_L2 x5_1 x8_2) t100 _ ?side1 ?side2 A21.out).mono ?_); (case side1 => exact z184); (case side2 => exact HC240_0.out); rintro e w25 ⟨v113, rfl, ho0, hb⟩; have n0_ := zA (Kd.N_elder' z38 (Kd.R_base ho0) hb); have n1_ := zA (Kd.N_elder' z22 (Kd.R_base ho0) hb); have n2_ := zA (Kd.V_elder' z138 (Kd.R_base ho0) hb); have n3_ := zA (Kd.R_lower (Kd.R_newM (M := fun k_ => (w.heap.size ≤ k_)) ho0 (below_size z2) (fun k_ h_ => h_)) (below_size z2)); have n4_ := zBB BK103 hb; have n5_ := zA (Kd.C_below z70 hb); have n6_ := zA (below_step z2 hb); clear HO_5 HO_7 HL240_0 BK103 HR240_0 HB; have HO_5 := n0_; have HO_7 := n1_; have HL240_0 := n2_; have HO114 := n3_; have BK103 := n4_; have HR240_0 := n5_; have HB := n6_; clear n0_ n1_ n2_ n3_ n4_ n5_ n6_; (try clear hb); (try clear hb2); (try clear hk); (try clear hi); (try clear ho0)) | ((with_reducible refine gate_builtin (b := .append) (xs := #[.tmp 42, .tmp 44]) rfl ?_); at_builtin; refine Kd.R_append (Kd.int .i64) (w0 := w) w.heap.size rfl (.tmp 42) (.tmp 44) 25 2 (.int .i64 0) 8 rfl Try.underlying25 info2 rfl (by decide) (by omega) v113 t100 x9_3 [.int .i64 x9_3] (fun k_ => (w.heap.size ≤ k_)) (fun _ => False) rfl rfl ?aP (fun _ hk => hk.elim) ?aF ?aO ?aB ?aS ?aL ?_; (case aP => exact rfl); (case aB => exact z2); (case aF => exact (fun k_ hk => (Nat.le_trans (below_size z2) hk))); (case aO => exact z102); (case aS => exact (below_size z2)); (case aL => have := LMc22.out; omega); intro v115 w26 ho hb hg hat; rw [← Ny111.out] at ho; have n0_ := zA (Kd.N_afterv (ok := (fun k_ => (w.heap.size ≤ k_) ∧ some k_ ≠ (u7 : Value).ownBlock ∧ k_ ≠ gb103)) z38 hg hat); have n1_ := zA (Kd.N_afterv (ok := (fun k_ => (w.heap.size ≤ k_) ∧ some k_ ≠ (.slice (some ad240) x5_1.length co13 : Value).ownBlock ∧ k_ ≠ gb103)) z22 hg hat); have n2_ := zA (blk_grown (g := gb103) (o := .cells #[.slice (some ad239) l0_0.length c0_0] 27 (0, 0)) z24 hg (Kd.R_ne HO114.out BK103.out (by decide))); have n3_ := zA (Kd.V_afterv (ok := (fun k_ => (w.heap.size ≤ k_) ∧ some k_ ≠ (.slice (some ad240) x5_1.length co13 : Value).ownBlock ∧ some k_ ≠ (u7 : Value).ownBlock ∧ k_ ≠ gb103)) z95 hg hat); have n4_ := zA (hb); have n5_ := zA (ho); clear HO_5 HO_7 BK103 HL240_0 HB HO114; have HO_5 := n0_; have HO_7 := n1_; have BK103 := n2_; have HL240_0 := n3_; have HB := n4_; have HO116 := n5_; clear n0_ n1_ n2_ n3_ n4_ n5_; clear ho hb hg hat; obtain ⟨Ao28, co28, eo28⟩ := Kd.R_slice HO116.out; subst eo28) | ((with_reducible refine gate_builtin (b := .append) (xs := #[.tmp 37, .tmp 46]) rfl ?_); at_builtin; refine Kd.N_append (Kd.slice 2 (Kd.int .i64)) (w0 := w) w.heap.size rfl (.tmp 37) (.tmp 46) 42 25 (.slice none 0 0) 24 rfl Try.underlying42 info25 rfl (by decide) (by omega) u7 x7_3 y111 [.slice Ao28 y111.length co28] (fun k_ => (w.heap.size ≤ k_) ∧ some k_ ≠ (.slice (some ad240) x5_1.length co13 : Value).ownBlock ∧ k_ ≠ gb103) (fun k_ => ((fun k_ => (w.heap.size ≤ k_) ∧ some k_ ≠ (.slice (some ad240) x5_1.length co13 : Value).ownBlock ∧ k_ ≠ gb103)) k_ ∧ some k_ ≠ (u7 : Value).ownBlock) rfl rfl ?aP (fun _ hk => hk) ?aF ?aO ?aB ?aS ?aL ?_; (case aP => exact (Kd.FK_slice_mk (Kd.R_reads' (Kd.R_mono (ok' := (fun k_ => ((fun k_ => (w.heap.size ≤ k_) ∧ some k_ ≠ (.slice (some ad240) x5_1.length co13 : Value).ownBlock ∧ k_ ≠ gb103)) k_ ∧ some k_ ≠ (u7 : Value).ownBlock)) (Kd.R_types (Kd.R_apart' (Kd.R_apart' (HO116.out) (Kd.N_typed HO_5.out) (by decide)) (Kd.N_typed HO_7.out) (by decide)) BK103.out (by decide)) (fun k_ hk => ⟨⟨hk.1.1.1, ⟨hk.1.1.2, hk.2⟩⟩, hk.1.2⟩))).2.1 (Kd.R_F (Kd.R_mono (ok' := (fun k_ => ((fun k_ => (w.heap.size ≤ k_) ∧ some k_ ≠ (.slice (some ad240) x5_1.length co13 : Value).ownBlock ∧ k_ ≠ gb103)) k_ ∧ some k_ ≠ (u7 : Value).ownBlock)) (Kd.R_types (Kd.R_apart' (Kd.R_apart' (HO116.out) (Kd.N_typed HO_5.out) (by decide)) (Kd.N_typed HO_7.out) (by decide)) BK103.out (by decide)) (fun k_ hk => ⟨⟨hk.1.1.1, ⟨hk.1.1.2, hk.2⟩⟩, hk.1.2⟩))))); (case aB => exact z2); (case aF => exact (fun k_ hk => ⟨(Nat.le_trans (below_size z2) hk), Kd.fresh' (Kd.N_lt z38) k_ hk, Kd.freshB (g := gb103) (o := .cells #[.slice (some ad239) l0_0.length c0_0] 27 (0, 0)) z24 k_ hk⟩)); (case aO => exact z93); (case aS => exact (below_size z2)); (case aL => have := LMc23.out; omega); intro v117 w27 ho hb hg hat; rw [← Ny112.out] at ho; have n0_ := zA (Kd.N_afterv (ok := (fun k_ => (w.heap.size ≤ k_) ∧ some k_ ≠ (.slice Ao28 y111.length co28 : Value).ownBlock ∧ k_ ≠ gb103)) z103 hg hat); have n1_ := zA (blk_grown (g := gb103) (o := .cells #[.slice (some ad239) l0_0.length c0_0] 27 (0, 0)) z24 hg (Kd.N_ne HO_7.out BK103.out (by decide))); have n2_ := zA (Kd.V_afterv (ok := (fun k_ => (w.heap.size ≤ k_) ∧ some k_ ≠ (.slice (some ad240) x5_1.length co13 : Value).ownBlock ∧ some k_ ≠ (.slice Ao28 y111.length co28 : Value).ownBlock ∧ k_ ≠ gb103)) z96 hg hat); have n3_ := zA (hb); have n4_ := zA (ho); clear HO_5 BK103 HL240_0 HB HO_7 HO116; have HO_5 := n0_; have BK103 := n1_; have HL240_0 := n2_; have HB := n3_; have HO118 := n4_; clear n0_ n1_ n2_ n3_ n4_; clear ho hb hg hat))
                                    repeat (go_quiet (first | (go_at_call 65; (with_reducible refine (spec_l01Own.calls _ _ (rd_L2 x5_1 x8_2) t100 _ ?side1 ?side2 A21.out).mono ?_); (case side1 => exact z184); (case side2 => exact HC240_0.out); rintro e w25 ⟨v113, rfl, ho0, hb⟩; have n0_ := zA (Kd.N_elder' z38 (Kd.R_base ho0) hb); have n1_ := zA (Kd.N_elder' z22 (Kd.R_base ho0) hb); have n2_ := zA (Kd.V_elder' z138 (Kd.R_base ho0) hb); have n3_ := zA (Kd.R_lower (Kd.R_newM (M := fun k_ => (w.heap.size ≤ k_)) ho0 (below_size z2) (fun k_ h_ => h_)) (below_size z2)); have n4_ := zBB BK103 hb; have n5_ := zA (Kd.C_below z70 hb); have n6_ := zA (below_step z2 hb); clear HO_5 HO_7 HL240_0 BK103 HR240_0 HB; have HO_5 := n0_; have HO_7 := n1_; have HL240_0 := n2_; have HO114 := n3_; have BK103 := n4_; have HR240_0 := n5_; have HB := n6_; clear n0_ n1_ n2_ n3_ n4_ n5_ n6_; (try clear hb); (try clear hb2); (try clear hk); (try clear hi); (try clear ho0)) | ((with_reducible refine gate_builtin (b := .append) (xs := #[.tmp 42, .tmp 44]) rfl ?_); at_builtin; refine Kd.R_append (Kd.int .i64) (w0 := w) w.heap.size rfl (.tmp 42) (.tmp 44) 25 2 (.int .i64 0) 8 rfl Try.underlying25 info2 rfl (by decide) (by omega) v113 t100 x9_3 [.int .i64 x9_3] (fun k_ => (w.heap.size ≤ k_)) (fun _ => False) rfl rfl ?aP (fun _ hk => hk.elim) ?aF ?aO ?aB ?aS ?aL ?_; (case aP => exact rfl); (case aB => exact z2); (case aF => exact (fun k_ hk => (Nat.le_trans (below_size z2) hk))); (case aO => exact z102); (case aS => exact (below_size z2)); (case aL => have := LMc22.out; omega); intro v115 w26 ho hb hg hat; rw [← Ny111.out] at ho; have n0_ := zA (Kd.N_afterv (ok := (fun k_ => (w.heap.size ≤ k_) ∧ some k_ ≠ (u7 : Value).ownBlock ∧ k_ ≠ gb103)) z38 hg hat); have n1_ := zA (Kd.N_afterv (ok := (fun k_ => (w.heap.size ≤ k_) ∧ some k_ ≠ (.slice (some ad240) x5_1.length co13 : Value).ownBlock ∧ k_ ≠ gb103)) z22 hg hat); have n2_ := zA (blk_grown (g := gb103) (o := .cells #[.slice (some ad239) l0_0.length c0_0] 27 (0, 0)) z24 hg (Kd.R_ne HO114.out BK103.out (by decide))); have n3_ := zA (Kd.V_afterv (ok := (fun k_ => (w.heap.size ≤ k_) ∧ some k_ ≠ (.slice (some ad240) x5_1.length co13 : Value).ownBlock ∧ some k_ ≠ (u7 : Value).ownBlock ∧ k_ ≠ gb103)) z95 hg hat); have n4_ := zA (hb); have n5_ := zA (ho); clear HO_5 HO_7 BK103 HL240_0 HB HO114; have HO_5 := n0_; have HO_7 := n1_; have BK103 := n2_; have HL240_0 := n3_; have HB := n4_; have HO116 := n5_; clear n0_ n1_ n2_ n3_ n4_ n5_; clear ho hb hg hat; obtain ⟨Ao28, co28, eo28⟩ := Kd.R_slice HO116.out; subst eo28) | ((with_reducible refine gate_builtin (b := .append) (xs := #[.tmp 37, .tmp 46]) rfl ?_); at_builtin; refine Kd.N_append (Kd.slice 2 (Kd.int .i64)) (w0 := w) w.heap.size rfl (.tmp 37) (.tmp 46) 42 25 (.slice none 0 0) 24 rfl Try.underlying42 info25 rfl (by decide) (by omega) u7 x7_3 y111 [.slice Ao28 y111.length co28] (fun k_ => (w.heap.size ≤ k_) ∧ some k_ ≠ (.slice (some ad240) x5_1.length co13 : Value).ownBlock ∧ k_ ≠ gb103) (fun k_ => ((fun k_ => (w.heap.size ≤ k_) ∧ some k_ ≠ (.slice (some ad240) x5_1.length co13 : Value).ownBlock ∧ k_ ≠ gb103)) k_ ∧ some k_ ≠ (u7 : Value).ownBlock) rfl rfl ?aP (fun _ hk => hk) ?aF ?aO ?aB ?aS ?aL ?_; (case aP => exact (Kd.FK_slice_mk (Kd.R_reads' (Kd.R_mono (ok' := (fun k_ => ((fun k_ => (w.heap.size ≤ k_) ∧ some k_ ≠ (.slice (some ad240) x5_1.length co13 : Value).ownBlock ∧ k_ ≠ gb103)) k_ ∧ some k_ ≠ (u7 : Value).ownBlock)) (Kd.R_types (Kd.R_apart' (Kd.R_apart' (HO116.out) (Kd.N_typed HO_5.out) (by decide)) (Kd.N_typed HO_7.out) (by decide)) BK103.out (by decide)) (fun k_ hk => ⟨⟨hk.1.1.1, ⟨hk.1.1.2, hk.2⟩⟩, hk.1.2⟩))).2.1 (Kd.R_F (Kd.R_mono (ok' := (fun k_ => ((fun k_ => (w.heap.size ≤ k_) ∧ some k_ ≠ (.slice (some ad240) x5_1.length co13 : Value).ownBlock ∧ k_ ≠ gb103)) k_ ∧ some k_ ≠ (u7 : Value).ownBlock)) (Kd.R_types (Kd.R_apart' (Kd.R_apart' (HO116.out) (Kd.N_typed HO_5.out) (by decide)) (Kd.N_typed HO_7.out) (by decide)) BK103.out (by decide)) (fun k_ hk => ⟨⟨hk.1.1.1, ⟨hk.1.1.2, hk.2⟩⟩, hk.1.2⟩))))); (case aB => exact z2); (case aF => exact (fun k_ hk => ⟨(Nat.le_trans (below_size z2) hk), Kd.fresh' (Kd.N_lt z38) k_ hk, Kd.freshB (g := gb103) (o := .cells #[.slice (some ad239) l0_0.length c0_0] 27 (0, 0)) z24 k_ hk⟩)); (case aO => exact z93); (case aS => exact (below_size z2)); (case aL => have := LMc23.out; omega); intro v117 w27 ho hb hg hat; rw [← Ny112.out] at ho; have n0_ := zA (Kd.N_afterv (ok := (fun k_ => (w.heap.size ≤ k_) ∧ some k_ ≠ (.slice Ao28 y111.length co28 : Value).ownBlock ∧ k_ ≠ gb103)) z103 hg hat); have n1_ := zA (blk_grown (g := gb103) (o := .cells #[.slice (some ad239) l0_0.length c0_0] 27 (0, 0)) z24 hg (Kd.N_ne HO_7.out BK103.out (by decide))); have n2_ := zA (Kd.V_afterv (ok := (fun k_ => (w.heap.size ≤ k_) ∧ some k_ ≠ (.slice (some ad240) x5_1.length co13 : Value).ownBlock ∧ some k_ ≠ (.slice Ao28 y111.length co28 : Value).ownBlock ∧ k_ ≠ gb103)) z96 hg hat); have n3_ := zA (hb); have n4_ := zA (ho); clear HO_5 BK103 HL240_0 HB HO_7 HO116; have HO_5 := n0_; have BK103 := n1_; have HL240_0 := n2_; have HB := n3_; have HO118 := n4_; clear n0_ n1_ n2_ n3_ n4_; clear ho hb hg hat)); try go_wp2_with (first | (go_at_call 65; (with_reducible refine (spec_l01Own.calls _ _ (rd_L2 x5_1 x8_2) t100 _ ?side1 ?side2 A21.out).mono ?_); (case side1 => exact z184); (case side2 => exact HC240_0.out); rintro e w25 ⟨v113, rfl, ho0, hb⟩; have n0_ := zA (Kd.N_elder' z38 (Kd.R_base ho0) hb); have n1_ := zA (Kd.N_elder' z22 (Kd.R_base ho0) hb); have n2_ := zA (Kd.V_elder' z138 (Kd.R_base ho0) hb); have n3_ := zA (Kd.R_lower (Kd.R_newM (M := fun k_ => (w.heap.size ≤ k_)) ho0 (below_size z2) (fun k_ h_ => h_)) (below_size z2)); have n4_ := zBB BK103 hb; have n5_ := zA (Kd.C_below z70 hb); have n6_ := zA (below_step z2 hb); clear HO_5 HO_7 HL240_0 BK103 HR240_0 HB; have HO_5 := n0_; have HO_7 := n1_; have HL240_0 := n2_; have HO114 := n3_; have BK103 := n4_; have HR240_0 := n5_; have HB := n6_; clear n0_ n1_ n2_ n3_ n4_ n5_ n6_; (try clear hb); (try clear hb2); (try clear hk); (try clear hi); (try clear ho0)) | ((with_reducible refine gate_builtin (b := .append) (xs := #[.tmp 42, .tmp 44]) rfl ?_); at_builtin; refine Kd.R_append (Kd.int .i64) (w0 := w) w.heap.size rfl (.tmp 42) (.tmp 44) 25 2 (.int .i64 0) 8 rfl Try.underlying25 info2 rfl (by decide) (by omega) v113 t100 x9_3 [.int .i64 x9_3] (fun k_ => (w.heap.size ≤ k_)) (fun _ => False) rfl rfl ?aP (fun _ hk => hk.elim) ?aF ?aO ?aB ?aS ?aL ?_; (case aP => exact rfl); (case aB => exact z2); (case aF => exact (fun k_ hk => (Nat.le_trans (below_size z2) hk))); (case aO => exact z102); (case aS => exact (below_size z2)); (case aL => have := LMc22.out; omega); intro v115 w26 ho hb hg hat; rw [← Ny111.out] at ho; have n0_ := zA (Kd.N_afterv (ok := (fun k_ => (w.heap.size ≤ k_) ∧ some k_ ≠ (u7 : Value).ownBlock ∧ k_ ≠ gb103)) z38 hg hat); have n1_ := zA (Kd.N_afterv (ok := (fun k_ => (w.heap.size ≤ k_) ∧ some k_ ≠ (.slice (some ad240) x5_1.length co13 : Value).ownBlock ∧ k_ ≠ gb103)) z22 hg hat); have n2_ := zA (blk_grown (g := gb103) (o := .cells #[.slice (some ad239) l0_0.length c0_0] 27 (0, 0)) z24 hg (Kd.R_ne HO114.out BK103.out (by decide))); have n3_ := zA (Kd.V_afterv (ok := (fun k_ => (w.heap.size ≤ k_) ∧ some k_ ≠ (.slice (some ad240) x5_1.length co13 : Value).ownBlock ∧ some k_ ≠ (u7 : Value).ownBlock ∧ k_ ≠ gb103)) z95 hg hat); have n4_ := zA (hb); have n5_ := zA (ho); clear HO_5 HO_7 BK103 HL240_0 HB HO114; have HO_5 := n0_; have HO_7 := n1_; have BK103 := n2_; have HL240_0 := n3_; have HB := n4_; have HO116 := n5_; clear n0_ n1_ n2_ n3_ n4_ n5_; clear ho hb hg hat; obtain ⟨Ao28, co28, eo28⟩ := Kd.R_slice HO116.out; subst eo28) | ((with_reducible refine gate_builtin (b := .append) (xs := #[.tmp 37, .tmp 46]) rfl ?_); at_builtin; refine Kd.N_append (Kd.slice 2 (Kd.int .i64)) (w0 := w) w.heap.size rfl (.tmp 37) (.tmp 46) 42 25 (.slice none 0 0) 24 rfl Try.underlying42 info25 rfl (by decide) (by omega) u7 x7_3 y111 [.slice Ao28 y111.length co28] (fun k_ => (w.heap.size ≤ k_) ∧ some k_ ≠ (.slice (some ad240) x5_1.length co13 : Value).ownBlock ∧ k_ ≠ gb103) (fun k_ => ((fun k_ => (w.heap.size ≤ k_) ∧ some k_ ≠ (.slice (some ad240) x5_1.length co13 : Value).ownBlock ∧ k_ ≠ gb103)) k_ ∧ some k_ ≠ (u7 : Value).ownBlock) rfl rfl ?aP (fun _ hk => hk) ?aF ?aO ?aB ?aS ?aL ?_; (case aP => exact (Kd.FK_slice_mk (Kd.R_reads' (Kd.R_mono (ok' := (fun k_ => ((fun k_ => (w.heap.size ≤ k_) ∧ some k_ ≠ (.slice (some ad240) x5_1.length co13 : Value).ownBlock ∧ k_ ≠ gb103)) k_ ∧ some k_ ≠ (u7 : Value).ownBlock)) (Kd.R_types (Kd.R_apart' (Kd.R_apart' (HO116.out) (Kd.N_typed HO_5.out) (by decide)) (Kd.N_typed HO_7.out) (by decide)) BK103.out (by decide)) (fun k_ hk => ⟨⟨hk.1.1.1, ⟨hk.1.1.2, hk.2⟩⟩, hk.1.2⟩))).2.1 (Kd.R_F (Kd.R_mono (ok' := (fun k_ => ((fun k_ => (w.heap.size ≤ k_) ∧ some k_ ≠ (.slice (some ad240) x5_1.length co13 : Value).ownBlock ∧ k_ ≠ gb103)) k_ ∧ some k_ ≠ (u7 : Value).ownBlock)) (Kd.R_types (Kd.R_apart' (Kd.R_apart' (HO116.out) (Kd.N_typed HO_5.out) (by decide)) (Kd.N_typed HO_7.out) (by decide)) BK103.out (by decide)) (fun k_ hk => ⟨⟨hk.1.1.1, ⟨hk.1.1.2, hk.2⟩⟩, hk.1.2⟩))))); (case aB => exact z2); (case aF => exact (fun k_ hk => ⟨(Nat.le_trans (below_size z2) hk), Kd.fresh' (Kd.N_lt z38) k_ hk, Kd.freshB (g := gb103) (o := .cells #[.slice (some ad239) l0_0.length c0_0] 27 (0, 0)) z24 k_ hk⟩)); (case aO => exact z93); (case aS => exact (below_size z2)); (case aL => have := LMc23.out; omega); intro v117 w27 ho hb hg hat; rw [← Ny112.out] at ho; have n0_ := zA (Kd.N_afterv (ok := (fun k_ => (w.heap.size ≤ k_) ∧ some k_ ≠ (.slice Ao28 y111.length co28 : Value).ownBlock ∧ k_ ≠ gb103)) z103 hg hat); have n1_ := zA (blk_grown (g := gb103) (o := .cells #[.slice (some ad239) l0_0.length c0_0] 27 (0, 0)) z24 hg (Kd.N_ne HO_7.out BK103.out (by decide))); have n2_ := zA (Kd.V_afterv (ok := (fun k_ => (w.heap.size ≤ k_) ∧ some k_ ≠ (.slice (some ad240) x5_1.length co13 : Value).ownBlock ∧ some k_ ≠ (.slice Ao28 y111.length co28 : Value).ownBlock ∧ k_ ≠ gb103)) z96 hg hat); have n3_ := zA (hb); have n4_ := zA (ho); clear HO_5 BK103 HL240_0 HB HO_7 HO116; have HO_5 := n0_; have BK103 := n1_; have HL240_0 := n2_; have HB := n3_; have HO118 := n4_; clear n0_ n1_ n2_ n3_ n4_; clear ho hb hg hat)))
                                    go_roundg k3
                                    case measure => have := HK1.out; have := HK2.out; have := HK3.out; omega
                                    case rel => exact ⟨(y112), (wrap64 (x9_3 + 1)), z16, H', ⟨z149⟩, ⟨(by (with_reducible repeat (first | apply Kd.N_alloc | apply Kd.N_drewN | apply Kd.N_drew)); exact Kd.N_mono HO_5.out (fun _ hk => ⟨hk.1.1, ⟨hk.2, hk.1.2.2⟩⟩))⟩, ⟨z160⟩, ⟨z24⟩, ⟨z2⟩⟩
                                  · rw [if_neg c23] at H
                                    exact absurd H (by simp)
                                · rw [if_neg c22] at H
                                  exact absurd H (by simp)
                              · rw [if_neg c20] at H
                                exact absurd H (by simp)
                            · rw [if_neg c19] at H
                              exact absurd H (by simp)
                          · rw [if_neg c18] at H
                            have c18b0 : decide (x9_3 < (rd l0_0 (rd l1 x6_1))) = false := decide_eq_false c18
                            clear c18
                            have H' := zA H
                            clear H
                            obtain ⟨hcz29_0, hfz29_0⟩ := zC1 BK103.out
                            have p238 : 0 ≤ (x6_1 : Int) := of_decide_eq_true z14
                            have q238 : x6_1 < (l1.length : Int) := of_decide_eq_true z14
                            obtain ⟨ad238, e238, hx238_0⟩ := Kd.at_int HR1.out x6_1 p238 q238
                            cases e238
                            try replace hx238_0 := (HB.out.cell (World.block_lt_of_cell? w _ hx238_0)).trans hx238_0
                            replace p238 := eq_true p238
                            replace q238 := eq_true q238
                            have p239 : 0 ≤ ((rd l1 x6_1) : Int) := of_decide_eq_true z14
                            have q239 : (rd l1 x6_1) < (l0_0.length : Int) := of_decide_eq_true z14
                            obtain ⟨ad239, e239, hx239_0⟩ := Kd.at_int HR0_0.out (rd l1 x6_1) p239 q239
                            cases e239
                            try replace hx239_0 := (HB.out.cell (World.block_lt_of_cell? w _ hx239_0)).trans hx239_0
                            replace p239 := eq_true p239
                            replace q239 := eq_true q239
                            go_wp2
                            repeat (go_quiet (fail); try go_wp2)
                            go_roundg k3
                            case measure => have := HK1.out; have := HK2.out; have := HK3.out; omega
                            case rel => exact ⟨(x7_3), (wrap64 (x8_2 + 1)), z16, H', ⟨z149⟩, ⟨z38⟩, ⟨z22⟩, ⟨z24⟩, ⟨z2⟩⟩
                        · rw [if_neg c17] at H
                          exact absurd H (by simp)
                      · rw [if_neg c16] at H
                        exact absurd H (by simp)
                    · rw [if_neg c15] at H
                      exact absurd H (by simp)
                  · rw [if_neg c14] at H
                    exact absurd H (by simp)
            · rw [if_neg c12] at H
              have c12b0 : decide (x8_2 < (x5_1.length : Int)) = false := decide_eq_false c12
              clear c12
              have H' := zA H
              clear H
              obtain ⟨Ao30, co30, eo30⟩ := Kd.N_slice HO_5.out
              subst eo30
              go_wp2
              repeat (go_quiet (fail); try go_wp2)
              go_roundg k2
              case measure => have := HK1.out; have := HK2.out; omega
              case rel => exact ⟨(x7_2), (wrap64 (x6_1 + 1)), z16, H', ⟨z97⟩, ⟨z151⟩, ⟨z24⟩, ⟨z2⟩⟩
      · rw [if_neg c9] at H
        have c9b0 : decide (x6_1 < (l1.length : Int)) = false := decide_eq_false c9
        clear c9
        obtain rfl := Option.some.inj H
        go_wp2
        repeat (go_quiet (fail); try go_wp2)
        go_ret
        exact ⟨_, z15, (by (with_reducible repeat (first | apply Kd.N_alloc | apply Kd.N_drewN | apply Kd.N_drew)); exact Kd.N_mono HO_5.out (fun _ hk => hk.1)), z2⟩

end Go.Proofs.Ytbfhhjekonafdaa.PFnPairRows
