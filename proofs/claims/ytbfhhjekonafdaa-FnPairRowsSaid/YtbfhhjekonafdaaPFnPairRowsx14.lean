-- WALKS, by a program and by hand
import Derived.Test.YtbfhhjekonafdaaPFnPairRowsx0
import Derived.Test.YtbfhhjekonafdaaPFnPairRowsx6
import Derived.Test.YtbfhhjekonafdaaPFnPairRowsx7
namespace Go.Proofs.Ytbfhhjekonafdaa.PFnPairRows
open Go.RowKit Go.Proofs.Ytbfhhjekonafdaa.DG Go.Proofs.YtbfhhjekonafdaaW.PrintWords Go.Proofs.YtbfhhjekonafdaaW.PrintLast Go.Proofs.YtbfhhjekonafdaaW.PrintMore
attribute [local go_sem] max2_int min2_int max_two min_two max_three min_three max_four min_four   -- for this text's walks alone
set_option linter.unusedVariables false
set_option linter.unusedSimpArgs false

/-! ### spec_l04Over: function 61 -/
mutual
def spec_l04Over.l0 : Nat → Int → List Int → Int → Int → List Int → Option (Int)
  | 0, _, _, _, _, _ => none
  | k + 1, x1, x5, x6, x7, x518000 => if x7 < (x518000.length : Int) then (if 0 ≤ x7 then (if x5.length < 17592186044416 then (spec_l04Over.l1 k x1 (x5 ++ [rd x518000 x7]) x6 x7 (x5.length : Int) x518000) else (none)) else (none)) else (spec_l04Over.l2 k x1 x5 x6 0)
def spec_l04Over.l1 : Nat → Int → List Int → Int → Int → Int → List Int → Option (Int)
  | 0, _, _, _, _, _, _ => none
  | k + 1, x1, x5, x6, x7, x8, x518000 => if x8 > 0 then (if 0 ≤ (wrap64 (x8 - 1)) then (if (wrap64 (x8 - 1)) < (x5.length : Int) then (if 0 ≤ x7 then (if x7 < (x518000.length : Int) then (if (rd x5 (wrap64 (x8 - 1))) < (rd x518000 x7) then (if 0 ≤ x8 then (if x8 < (x5.length : Int) then (spec_l04Over.l1 k x1 (x5.set (x8 : Int).toNat (rd x5 (wrap64 (x8 - 1)))) x6 x7 (wrap64 (x8 - 1)) x518000) else (none)) else (none)) else (if 0 ≤ x8 then (if x8 < (x5.length : Int) then (spec_l04Over.l0 k x1 (x5.set (x8 : Int).toNat (rd x518000 x7)) x6 (wrap64 (x7 + 1)) x518000) else (none)) else (none))) else (none)) else (none)) else (none)) else (none)) else (if 0 ≤ x7 then (if x7 < (x518000.length : Int) then (if 0 ≤ x8 then (if x8 < (x5.length : Int) then (spec_l04Over.l0 k x1 (x5.set (x8 : Int).toNat (rd x518000 x7)) x6 (wrap64 (x7 + 1)) x518000) else (none)) else (none)) else (none)) else (none))
def spec_l04Over.l2 : Nat → Int → List Int → Int → Int → Option (Int)
  | 0, _, _, _, _ => none
  | k + 1, x1, x5, x6, x9 => if x9 < x1 then (if x9 < (x5.length : Int) then (if 0 ≤ x9 then (if (rd x5 x9) = 0 then (none) else (spec_l04Over.l2 k x1 x5 (wrap64 (Int.tdiv x6 (rd x5 x9))) (wrap64 (x9 + 1)))) else (none)) else (some x6)) else (some x6)
end
def spec_l04Over.f (k : Nat) (l0_0 : List Int) (a1 : Int) : Option (Int) := (spec_l01N.f k l0_0).bind fun t100 => (spec_l04Over.l0 k a1 (([] : List Int)) t100 0 l0_0)
set_option maxHeartbeats 8000000 in
set_option maxRecDepth 100000 in
theorem spec_l04Over.calls (k : Nat) (A0_0 : Option Addr) (c0_0 : Nat) (l0_0 : List Int) (a1 : Int) (r : Int) (w : World) (hr0_0 : Kd.C (Kd.int .i64) w A0_0 l0_0.length l0_0) (hc0_0 : l0_0.length ≤ c0_0) (h : spec_l04Over.f k l0_0 a1 = some r) :
    Calls Try.prog 61 #[.agg #[.slice A0_0 l0_0.length c0_0], .int .i64 a1] w fun e w' => e = .returned (.int .i64 r) ∧ Below w.heap.size w w' := by
  have hu27 := Try.underlying27
  have HR0_0 := zA hr0_0
  have HC0_0 := zA hc0_0
  clear hr0_0 hc0_0
  have HB := zA (Below.refl w.heap.size w)
  have H : ((spec_l01N.f k l0_0).bind fun t100 => (spec_l04Over.l0 k a1 (([] : List Int)) t100 0 l0_0)) = some r := h
  clear h
  obtain ⟨y101, hy101⟩ : ∃ y_ : List Int, y_ = (([] : List Int)) := ⟨_, rfl⟩
  replace H : ((spec_l01N.f k l0_0).bind fun t100 => (spec_l04Over.l0 k a1 y101 t100 0 l0_0)) = some r := by first | (rw [hy101]; with_reducible exact H) | (have H2_ := (Option.bind_some _ _).symm.trans H; rw [hy101]; with_reducible exact H2_) | (have H2_ := (Option.bind_some _ _).symm.trans H; with_reducible exact H2_) | with_reducible exact H | (rw [hy101]; exact H) | exact H
  have Ny101 := zA hy101
  clear hy101
  replace H := zi H
  obtain ⟨t100, A30, H⟩ := H
  replace H : (spec_l04Over.l0 k a1 y101 t100 0 l0_0) = some r := H
  have A3 := zA A30
  clear A30
  have H' := zA H
  clear H
  go_enter Try.func61, Try.ntmps61
  go_wp2_with (first | ((with_reducible refine gate_dst (N := 2) rfl ?_); (try (refine gate_guard (by rfl) ?_; dsimp only)); refine box_event ?hg (N := 2) ?hd (cs := #[.slice A0_0 l0_0.length c0_0]) (t := 27) ?hr ?_; (case hd => rfl); (case hg => rfl); (case hr => first | (go_simp; done) | (go_simp; rfl)); intro gb102 hg w4 hbox hb; have n0_ := zA (below_step z1 hb); have n1_ := zA (hbox); have n2_ := zA ((z178 : w.heap.size ≤ gb102)); have n3_ := zA ((z178 : w.heap.size ≤ gb102)); clear HB; have HB := n0_; have BK102 := n1_; have GW102 := n2_; have GE102 := n3_; clear n0_ n1_ n2_ n3_; clear hb hbox hg) | ((with_reducible refine gate_dst (N := 10) rfl ?_); (try (refine gate_guard (by rfl) ?_; dsimp only)); refine Kd.R_lit (Kd.int .i64) _ 2 ?hg (N := 10) ?hd (xs := ([] : List Int)) (inner := []) (ok := fun _ => True) (okp := fun _ => True) ?hr ?hp (fun _ hk => hk) trivial (Below.refl _ _) (Nat.le_refl _) (by simp) ?_; (case hd => rfl); (case hg => rfl); (case hr => first | (go_simp; done) | (go_simp; rfl)); (case hp => exact (Reps.none _ _)); intro v103 w5 ho6 hb hg_ hnew_; clear hg_ hnew_; (first | rw [← Ny101.out] at ho6 | (simp only [Int.reduceToNat] at ho6; rw [← Ny101.out] at ho6)); have n0_ := zA (Kd.R_lower ho6 (below_size z11)); have n1_ := zBB BK102 hb; have n2_ := zA (below_step z11 hb); clear BK102 HB; have HO104 := n0_; have BK102 := n1_; have HB := n2_; clear n0_ n1_ n2_; clear hb ho6; obtain ⟨hcz7_0, hfz7_0⟩ := zC1 BK102.out) | (go_at_call 60; (with_reducible refine (spec_l01N.calls k _ _ l0_0 t100 _ ?side1 ?side2 A3.out).mono ?_); (case side1 => exact z5); (case side2 => exact HC0_0.out); rintro e w8 ⟨rfl, hb⟩; have n0_ := zA (Kd.R_below z121 hb); have n1_ := zBB BK102 hb; have n2_ := zA (below_step z11 hb); clear HO104 BK102 HB; have HO104 := n0_; have BK102 := n1_; have HB := n2_; clear n0_ n1_ n2_; (try clear hb); (try clear hb2); (try clear hk); (try clear hi)))
  repeat (go_quiet (first | ((with_reducible refine gate_dst (N := 2) rfl ?_); (try (refine gate_guard (by rfl) ?_; dsimp only)); refine box_event ?hg (N := 2) ?hd (cs := #[.slice A0_0 l0_0.length c0_0]) (t := 27) ?hr ?_; (case hd => rfl); (case hg => rfl); (case hr => first | (go_simp; done) | (go_simp; rfl)); intro gb102 hg w4 hbox hb; have n0_ := zA (below_step z1 hb); have n1_ := zA (hbox); have n2_ := zA ((z178 : w.heap.size ≤ gb102)); have n3_ := zA ((z178 : w.heap.size ≤ gb102)); clear HB; have HB := n0_; have BK102 := n1_; have GW102 := n2_; have GE102 := n3_; clear n0_ n1_ n2_ n3_; clear hb hbox hg) | ((with_reducible refine gate_dst (N := 10) rfl ?_); (try (refine gate_guard (by rfl) ?_; dsimp only)); refine Kd.R_lit (Kd.int .i64) _ 2 ?hg (N := 10) ?hd (xs := ([] : List Int)) (inner := []) (ok := fun _ => True) (okp := fun _ => True) ?hr ?hp (fun _ hk => hk) trivial (Below.refl _ _) (Nat.le_refl _) (by simp) ?_; (case hd => rfl); (case hg => rfl); (case hr => first | (go_simp; done) | (go_simp; rfl)); (case hp => exact (Reps.none _ _)); intro v103 w5 ho6 hb hg_ hnew_; clear hg_ hnew_; (first | rw [← Ny101.out] at ho6 | (simp only [Int.reduceToNat] at ho6; rw [← Ny101.out] at ho6)); have n0_ := zA (Kd.R_lower ho6 (below_size z11)); have n1_ := zBB BK102 hb; have n2_ := zA (below_step z11 hb); clear BK102 HB; have HO104 := n0_; have BK102 := n1_; have HB := n2_; clear n0_ n1_ n2_; clear hb ho6; obtain ⟨hcz7_0, hfz7_0⟩ := zC1 BK102.out) | (go_at_call 60; (with_reducible refine (spec_l01N.calls k _ _ l0_0 t100 _ ?side1 ?side2 A3.out).mono ?_); (case side1 => exact z5); (case side2 => exact HC0_0.out); rintro e w8 ⟨rfl, hb⟩; have n0_ := zA (Kd.R_below z121 hb); have n1_ := zBB BK102 hb; have n2_ := zA (below_step z11 hb); clear HO104 BK102 HB; have HO104 := n0_; have BK102 := n1_; have HB := n2_; clear n0_ n1_ n2_; (try clear hb); (try clear hb2); (try clear hk); (try clear hi))); try go_wp2_with (first | ((with_reducible refine gate_dst (N := 2) rfl ?_); (try (refine gate_guard (by rfl) ?_; dsimp only)); refine box_event ?hg (N := 2) ?hd (cs := #[.slice A0_0 l0_0.length c0_0]) (t := 27) ?hr ?_; (case hd => rfl); (case hg => rfl); (case hr => first | (go_simp; done) | (go_simp; rfl)); intro gb102 hg w4 hbox hb; have n0_ := zA (below_step z1 hb); have n1_ := zA (hbox); have n2_ := zA ((z178 : w.heap.size ≤ gb102)); have n3_ := zA ((z178 : w.heap.size ≤ gb102)); clear HB; have HB := n0_; have BK102 := n1_; have GW102 := n2_; have GE102 := n3_; clear n0_ n1_ n2_ n3_; clear hb hbox hg) | ((with_reducible refine gate_dst (N := 10) rfl ?_); (try (refine gate_guard (by rfl) ?_; dsimp only)); refine Kd.R_lit (Kd.int .i64) _ 2 ?hg (N := 10) ?hd (xs := ([] : List Int)) (inner := []) (ok := fun _ => True) (okp := fun _ => True) ?hr ?hp (fun _ hk => hk) trivial (Below.refl _ _) (Nat.le_refl _) (by simp) ?_; (case hd => rfl); (case hg => rfl); (case hr => first | (go_simp; done) | (go_simp; rfl)); (case hp => exact (Reps.none _ _)); intro v103 w5 ho6 hb hg_ hnew_; clear hg_ hnew_; (first | rw [← Ny101.out] at ho6 | (simp only [Int.reduceToNat] at ho6; rw [← Ny101.out] at ho6)); have n0_ := zA (Kd.R_lower ho6 (below_size z11)); have n1_ := zBB BK102 hb; have n2_ := zA (below_step z11 hb); clear BK102 HB; have HO104 := n0_; have BK102 := n1_; have HB := n2_; clear n0_ n1_ n2_; clear hb ho6; obtain ⟨hcz7_0, hfz7_0⟩ := zC1 BK102.out) | (go_at_call 60; (with_reducible refine (spec_l01N.calls k _ _ l0_0 t100 _ ?side1 ?side2 A3.out).mono ?_); (case side1 => exact z5); (case side2 => exact HC0_0.out); rintro e w8 ⟨rfl, hb⟩; have n0_ := zA (Kd.R_below z121 hb); have n1_ := zBB BK102 hb; have n2_ := zA (below_step z11 hb); clear HO104 BK102 HB; have HO104 := n0_; have BK102 := n1_; have HB := n2_; clear n0_ n1_ n2_; (try clear hb); (try clear hb2); (try clear hk); (try clear hi))))
  go_loopg [5, 7] k (fun kq v5 v7 w' => ∃ (x5_1 : List Int) (x7_1 : Int), v7 = .int .i64 x7_1 ∧ Aside0 (spec_l04Over.l0 kq a1 x5_1 t100 x7_1 l0_0 = some r) ∧ Aside0 (kq ≤ k) ∧ Aside0 (Kd.R (Kd.int .i64) 2 w' w.heap.size (fun _ => True) v5 x5_1) ∧ Aside0 (w'.heap[gb102]? = some (.cells #[(.slice A0_0 l0_0.length c0_0)] 27 (0, 0))) ∧ Aside0 (Below w.heap.size w w'))
  case atStart => exact ⟨(y101), (0), z16, H', ⟨Nat.le_refl _⟩, ⟨z121⟩, ⟨z30⟩, ⟨z11⟩⟩
  case round =>
    clear H'
    try clear p2
    try clear c6
    try clear hcz7_0
    try clear hfz7_0
    obtain ⟨x5_1, x7_1, rfl, HA, HK1, HO_5, BK102, HB⟩ := hrel
    cases gk with
    | zero => exact absurd HA.out (by simp [spec_l04Over.l0])
    | succ k1 =>
      have H := HA.out
      clear HA
      simp only [spec_l04Over.l0] at H
      by_cases c9 : x7_1 < (l0_0.length : Int)
      · rw [if_pos c9] at H
        have c9b0 : decide (x7_1 < (l0_0.length : Int)) = true := decide_eq_true c9
        clear c9
        by_cases c10 : 0 ≤ x7_1
        · rw [if_pos c10] at H
          have c10b0 : decide (0 ≤ x7_1) = true := decide_eq_true c10
          clear c10
          by_cases c11 : x5_1.length < 17592186044416
          · rw [if_pos c11] at H
            have LMc11 := zA c11
            clear c11
            obtain ⟨y105, hy105⟩ : ∃ y_ : List Int, y_ = (x5_1 ++ [rd l0_0 x7_1]) := ⟨_, rfl⟩
            replace H : (spec_l04Over.l1 k1 a1 y105 t100 x7_1 (x5_1.length : Int) l0_0) = some r := by first | (rw [hy105]; with_reducible exact H) | (have H2_ := (Option.bind_some _ _).symm.trans H; rw [hy105]; with_reducible exact H2_) | (have H2_ := (Option.bind_some _ _).symm.trans H; with_reducible exact H2_) | with_reducible exact H | (rw [hy105]; exact H) | exact H
            have Ny105 := zA hy105
            clear hy105
            have H' := zA H
            clear H
            obtain ⟨hcz12_0, hfz12_0⟩ := zC1 BK102.out
            obtain ⟨Ao13, co13, eo13⟩ := Kd.R_slice HO_5.out
            subst eo13
            have p522 : 0 ≤ (x7_1 : Int) := of_decide_eq_true z14
            have q522 : x7_1 < (l0_0.length : Int) := of_decide_eq_true z14
            obtain ⟨ad522, e522, hx522_0⟩ := Kd.at_int HR0_0.out x7_1 p522 q522
            cases e522
            try replace hx522_0 := (HB.out.cell (World.block_lt_of_cell? w _ hx522_0)).trans hx522_0
            replace p522 := eq_true p522
            replace q522 := eq_true q522
            go_wp2_with (first | ((with_reducible refine gate_builtin (b := .append) (xs := #[.tmp 22, .tmp 28]) rfl ?_); (try (refine gate_guard (by rfl) ?_; dsimp only)); at_builtin; refine Kd.R_append (Kd.int .i64) (w0 := w) w.heap.size rfl (.tmp 22) (.tmp 28) 25 2 (.int .i64 0) 8 rfl Try.underlying25 info2 rfl (by decide) (by omega) (.slice Ao13 x5_1.length co13) x5_1 (rd l0_0 x7_1) [.int .i64 (rd l0_0 x7_1)] (fun _ => True) (fun _ => False) rfl rfl ?aP (fun _ hk => hk.elim) ?aF ?aO ?aB ?aS ?aL ?_; (case aP => exact rfl); (case aB => exact z11); (case aF => exact (fun _ _ => trivial)); (case aO => exact z74); (case aS => exact (below_size z11)); (case aL => have := LMc11.out; omega); intro v106 w14 ho hb hg hat; rw [← Ny105.out] at ho; have n0_ := zA (blk_grown (g := gb102) (o := .cells #[.slice (some ad522) l0_0.length c0_0] 27 (0, 0)) z30 hg (Kd.R_ne HO_5.out BK102.out (by decide))); have n1_ := zA (hb); have n2_ := zA (ho); clear BK102 HB HO_5; have BK102 := n0_; have HB := n1_; have HO107 := n2_; clear n0_ n1_ n2_; clear ho hb hg hat))
            repeat (go_quiet (first | ((with_reducible refine gate_builtin (b := .append) (xs := #[.tmp 22, .tmp 28]) rfl ?_); (try (refine gate_guard (by rfl) ?_; dsimp only)); at_builtin; refine Kd.R_append (Kd.int .i64) (w0 := w) w.heap.size rfl (.tmp 22) (.tmp 28) 25 2 (.int .i64 0) 8 rfl Try.underlying25 info2 rfl (by decide) (by omega) (.slice Ao13 x5_1.length co13) x5_1 (rd l0_0 x7_1) [.int .i64 (rd l0_0 x7_1)] (fun _ => True) (fun _ => False) rfl rfl ?aP (fun _ hk => hk.elim) ?aF ?aO ?aB ?aS ?aL ?_; (case aP => exact rfl); (case aB => exact z11); (case aF => exact (fun _ _ => trivial)); (case aO => exact z74); (case aS => exact (below_size z11)); (case aL => have := LMc11.out; omega); intro v106 w14 ho hb hg hat; rw [← Ny105.out] at ho; have n0_ := zA (blk_grown (g := gb102) (o := .cells #[.slice (some ad522) l0_0.length c0_0] 27 (0, 0)) z30 hg (Kd.R_ne HO_5.out BK102.out (by decide))); have n1_ := zA (hb); have n2_ := zA (ho); clear BK102 HB HO_5; have BK102 := n0_; have HB := n1_; have HO107 := n2_; clear n0_ n1_ n2_; clear ho hb hg hat)); try go_wp2_with (first | ((with_reducible refine gate_builtin (b := .append) (xs := #[.tmp 22, .tmp 28]) rfl ?_); (try (refine gate_guard (by rfl) ?_; dsimp only)); at_builtin; refine Kd.R_append (Kd.int .i64) (w0 := w) w.heap.size rfl (.tmp 22) (.tmp 28) 25 2 (.int .i64 0) 8 rfl Try.underlying25 info2 rfl (by decide) (by omega) (.slice Ao13 x5_1.length co13) x5_1 (rd l0_0 x7_1) [.int .i64 (rd l0_0 x7_1)] (fun _ => True) (fun _ => False) rfl rfl ?aP (fun _ hk => hk.elim) ?aF ?aO ?aB ?aS ?aL ?_; (case aP => exact rfl); (case aB => exact z11); (case aF => exact (fun _ _ => trivial)); (case aO => exact z74); (case aS => exact (below_size z11)); (case aL => have := LMc11.out; omega); intro v106 w14 ho hb hg hat; rw [← Ny105.out] at ho; have n0_ := zA (blk_grown (g := gb102) (o := .cells #[.slice (some ad522) l0_0.length c0_0] 27 (0, 0)) z30 hg (Kd.R_ne HO_5.out BK102.out (by decide))); have n1_ := zA (hb); have n2_ := zA (ho); clear BK102 HB HO_5; have BK102 := n0_; have HB := n1_; have HO107 := n2_; clear n0_ n1_ n2_; clear ho hb hg hat)))
            go_loopg [8] k1 (fun kq v8 w' => ∃ (x5_2 : List Int) (x8_2 : Int), v8 = .int .i64 x8_2 ∧ Aside0 (spec_l04Over.l1 kq a1 x5_2 t100 x7_1 x8_2 l0_0 = some r) ∧ Aside0 (kq ≤ k1) ∧ Aside0 (Kd.R (Kd.int .i64) 2 w' w.heap.size (fun _ => True) v106 x5_2) ∧ Aside0 (w'.heap[gb102]? = some (.cells #[(.slice (some ad522) l0_0.length c0_0)] 27 (0, 0))) ∧ Aside0 (Below w.heap.size w w'))
            case atStart => exact ⟨(y105), ((x5_1.length : Int)), z16, H', ⟨Nat.le_refl _⟩, ⟨z119⟩, ⟨z30⟩, ⟨z11⟩⟩
            case round =>
              clear H'
              try clear c1
              try clear p2
              try clear p5
              try clear q5
              try clear hx5
              try clear c6
              try clear c9
              try clear c9b0
              try clear c10
              try clear c10b0
              try clear c11
              try clear hcz12_0
              try clear hcz7_0
              try clear hfz12_0
              try clear hfz7_0
              try clear hx522_0
              try clear p2
              try clear p522
              try clear q522
              obtain ⟨x5_2, x8_2, rfl, HA, HK2, HO_5, BK102, HB⟩ := hrel
              cases gk with
              | zero => exact absurd HA.out (by simp [spec_l04Over.l1])
              | succ k2 =>
                have H := HA.out
                clear HA
                simp only [spec_l04Over.l1] at H
                by_cases c15 : x8_2 > 0
                · rw [if_pos c15] at H
                  have c15b0 : decide (0 < x8_2) = true := decide_eq_true c15
                  clear c15
                  obtain ⟨ji16, hji16⟩ : ∃ j_ : Int, (wrap64 (x8_2 - 1)) = j_ := ⟨_, rfl⟩
                  replace H : (if 0 ≤ (ji16) then (if (ji16) < (x5_2.length : Int) then (if 0 ≤ x7_1 then (if x7_1 < (l0_0.length : Int) then (if (rd x5_2 (ji16)) < (rd l0_0 x7_1) then (if 0 ≤ x8_2 then (if x8_2 < (x5_2.length : Int) then (spec_l04Over.l1 k2 a1 (x5_2.set (x8_2 : Int).toNat (rd x5_2 (ji16))) t100 x7_1 ji16 l0_0) else (none)) else (none)) else (if 0 ≤ x8_2 then (if x8_2 < (x5_2.length : Int) then (spec_l04Over.l0 k2 a1 (x5_2.set (x8_2 : Int).toNat (rd l0_0 x7_1)) t100 (wrap64 (x7_1 + 1)) l0_0) else (none)) else (none))) else (none)) else (none)) else (none)) else (none)) = some r := by first | (rw [hji16] at H; exact H) | (simp only [hji16] at H ⊢; exact H)
                  have hji16w : (IntKind.i64.wrap (x8_2 - 1)) = ji16 := (i64_w _).trans hji16
                  by_cases c17 : 0 ≤ (ji16)
                  · rw [if_pos c17] at H
                    have c17b0 : decide (0 ≤ (ji16)) = true := decide_eq_true c17
                    clear c17
                    by_cases c18 : (ji16) < (x5_2.length : Int)
                    · rw [if_pos c18] at H
                      have c18b0 : decide ((ji16) < (x5_2.length : Int)) = true := decide_eq_true c18
                      clear c18
                      by_cases c19 : 0 ≤ x7_1
                      · rw [if_pos c19] at H
                        have c19b0 : decide (0 ≤ x7_1) = true := decide_eq_true c19
                        clear c19
                        by_cases c20 : x7_1 < (l0_0.length : Int)
                        · rw [if_pos c20] at H
                          have c20b0 : decide (x7_1 < (l0_0.length : Int)) = true := decide_eq_true c20
                          clear c20
                          by_cases c21 : (rd x5_2 (ji16)) < (rd l0_0 x7_1)
                          · rw [if_pos c21] at H
                            have c21b0 : decide ((rd x5_2 (ji16)) < (rd l0_0 x7_1)) = true := decide_eq_true c21
                            clear c21
                            by_cases c22 : 0 ≤ x8_2
                            · rw [if_pos c22] at H
                              have c22b0 : decide (0 ≤ x8_2) = true := decide_eq_true c22
                              clear c22
                              by_cases c23 : x8_2 < (x5_2.length : Int)
                              · rw [if_pos c23] at H
                                have c23b0 : decide (x8_2 < (x5_2.length : Int)) = true := decide_eq_true c23
                                clear c23
                                obtain ⟨y108, hy108⟩ : ∃ y_ : List Int, y_ = (x5_2.set (x8_2 : Int).toNat (rd x5_2 (ji16))) := ⟨_, rfl⟩
                                replace H : (spec_l04Over.l1 k2 a1 y108 t100 x7_1 ji16 l0_0) = some r := by first | (rw [hy108]; with_reducible exact H) | (have H2_ := (Option.bind_some _ _).symm.trans H; rw [hy108]; with_reducible exact H2_) | (have H2_ := (Option.bind_some _ _).symm.trans H; with_reducible exact H2_) | with_reducible exact H | (rw [hy108]; exact H) | exact H
                                have Ny108 := zA hy108
                                clear hy108
                                have H' := zA H
                                clear H
                                obtain ⟨Ao25, co25, eo25⟩ := Kd.R_slice HO_5.out
                                subst eo25
                                have p526 : 0 ≤ ((ji16) : Int) := of_decide_eq_true z14
                                have q526 : (ji16) < (x5_2.length : Int) := of_decide_eq_true z14
                                obtain ⟨ad526, e526, hx526_0⟩ := Kd.at_int (Kd.R_reads' HO_5.out).2.2 (ji16) p526 q526
                                cases e526
                                replace p526 := eq_true p526
                                replace q526 := eq_true q526
                                obtain ⟨hcz26_0, hfz26_0⟩ := zC1 BK102.out
                                have p527 : 0 ≤ (x7_1 : Int) := of_decide_eq_true z14
                                have q527 : x7_1 < (l0_0.length : Int) := of_decide_eq_true z14
                                obtain ⟨ad527, e527, hx527_0⟩ := Kd.at_int HR0_0.out x7_1 p527 q527
                                obtain rfl : ad522 = ad527 := (by injection e527)
                                try replace hx527_0 := (HB.out.cell (World.block_lt_of_cell? w _ hx527_0)).trans hx527_0
                                replace p527 := eq_true p527
                                replace q527 := eq_true q527
                                have p528 : 0 ≤ ((ji16) : Int) := of_decide_eq_true z14
                                have q528 : (ji16) < (x5_2.length : Int) := of_decide_eq_true z14
                                obtain ⟨ad528, e528, hx528_0⟩ := Kd.at_int (Kd.R_reads' HO_5.out).2.2 (ji16) p528 q528
                                obtain rfl : ad526 = ad528 := (by injection e528)
                                replace p528 := eq_true p528
                                replace q528 := eq_true q528
                                have p24 : 0 ≤ (x8_2 : Int) := of_decide_eq_true z14
                                have q24 : (x8_2 : Int) < ((x5_2.length : Int) : Int) := of_decide_eq_true z14
                                obtain ⟨go24, co24, eo24, gb24, gl24, cl24, HG24⟩ := Kd.R_form HO_5.out (by omega)
                                (first | cases eo24 | (injection eo24 with ea_ en_ ec_; (first | subst ea_ | (injection ea_ with ea_; subst ea_)); subst ec_; clear en_))
                                have GB24 := zA gb24
                                have GG24 := zA HG24
                                clear gb24 gl24 HG24
                                (first | simp only [add_plain] at hx526_0 | skip)
                                (first | simp only [add_plain] at hx528_0 | skip)
                                obtain ⟨hx24_0, hf24_0⟩ := Kd.R_celln 0 HO_5.out (x8_2 : Int) p24 q24
                                replace p24 := eq_true p24
                                replace q24 := eq_true q24
                                have HP27 := Kd.R_putg HO_5.out (x8_2 : Int) (rd x5_2 (ji16))
                                go_wp2_with (first | ((with_reducible refine gate_store (t := 2) (p := 52) rfl ?_); (try (rw [drewN_self wr]; generalize hq_ : World.drewN wr _ = wr; have n0_ := zA (Kd.R_at hq_ HO_5.out); have n1_ := zA (blk_at hq_ BK102.out); have n2_ := zA (below_at hq_ HB.out); clear hq_ HO_5 BK102 HB; have HO_5 := n0_; have BK102 := n1_; have HB := n2_; clear n0_ n1_ n2_; (try (have HP27 := Kd.R_putg HO_5.out (x8_2 : Int) (rd x5_2 (ji16)))))); refine store_event (t := 2) (p := 52) (v := ?vo_w28) (w1 := (wr.setCell ⟨go24, (x8_2 : Int).toNat, none⟩ (.int .i64 (rd x5_2 (ji16))))) ?hg ?ho ?hn ?hr ?_; (case ho => rfl); (case hg => rfl); (case hn => rfl); (case hr => first | (go_simp; done) | (go_simp; rfl)); intro w28 hw; have hg : wr.grownBy w28 (some go24) := (by rw [hw]; exact HP27.2); have hp_ : Kd.R (Kd.int .i64) 2 w28 w.heap.size (fun _ => True) (.slice (some ⟨go24, 0, none⟩) x5_2.length co25) y108 := z175; clear HP27; have n0_ := zA (hp_); have n1_ := zA (blk_grown (g := gb102) (o := .cells #[.slice (some ad522) l0_0.length c0_0] 27 (0, 0)) z30 hg (Kd.R_ne HO_5.out BK102.out (by decide))); have n2_ := zA ((z171 : Below w.heap.size w w28)); clear HO_5 BK102 HB; have HO_5 := n0_; have BK102 := n1_; have HB := n2_; clear n0_ n1_ n2_; clear hg hw hp_))
                                repeat (go_quiet (first | ((with_reducible refine gate_store (t := 2) (p := 52) rfl ?_); (try (rw [drewN_self wr]; generalize hq_ : World.drewN wr _ = wr; have n0_ := zA (Kd.R_at hq_ HO_5.out); have n1_ := zA (blk_at hq_ BK102.out); have n2_ := zA (below_at hq_ HB.out); clear hq_ HO_5 BK102 HB; have HO_5 := n0_; have BK102 := n1_; have HB := n2_; clear n0_ n1_ n2_; (try (have HP27 := Kd.R_putg HO_5.out (x8_2 : Int) (rd x5_2 (ji16)))))); refine store_event (t := 2) (p := 52) (v := ?vo_w28) (w1 := (wr.setCell ⟨go24, (x8_2 : Int).toNat, none⟩ (.int .i64 (rd x5_2 (ji16))))) ?hg ?ho ?hn ?hr ?_; (case ho => rfl); (case hg => rfl); (case hn => rfl); (case hr => first | (go_simp; done) | (go_simp; rfl)); intro w28 hw; have hg : wr.grownBy w28 (some go24) := (by rw [hw]; exact HP27.2); have hp_ : Kd.R (Kd.int .i64) 2 w28 w.heap.size (fun _ => True) (.slice (some ⟨go24, 0, none⟩) x5_2.length co25) y108 := z175; clear HP27; have n0_ := zA (hp_); have n1_ := zA (blk_grown (g := gb102) (o := .cells #[.slice (some ad522) l0_0.length c0_0] 27 (0, 0)) z30 hg (Kd.R_ne HO_5.out BK102.out (by decide))); have n2_ := zA ((z171 : Below w.heap.size w w28)); clear HO_5 BK102 HB; have HO_5 := n0_; have BK102 := n1_; have HB := n2_; clear n0_ n1_ n2_; clear hg hw hp_)); try go_wp2_with (first | ((with_reducible refine gate_store (t := 2) (p := 52) rfl ?_); (try (rw [drewN_self wr]; generalize hq_ : World.drewN wr _ = wr; have n0_ := zA (Kd.R_at hq_ HO_5.out); have n1_ := zA (blk_at hq_ BK102.out); have n2_ := zA (below_at hq_ HB.out); clear hq_ HO_5 BK102 HB; have HO_5 := n0_; have BK102 := n1_; have HB := n2_; clear n0_ n1_ n2_; (try (have HP27 := Kd.R_putg HO_5.out (x8_2 : Int) (rd x5_2 (ji16)))))); refine store_event (t := 2) (p := 52) (v := ?vo_w28) (w1 := (wr.setCell ⟨go24, (x8_2 : Int).toNat, none⟩ (.int .i64 (rd x5_2 (ji16))))) ?hg ?ho ?hn ?hr ?_; (case ho => rfl); (case hg => rfl); (case hn => rfl); (case hr => first | (go_simp; done) | (go_simp; rfl)); intro w28 hw; have hg : wr.grownBy w28 (some go24) := (by rw [hw]; exact HP27.2); have hp_ : Kd.R (Kd.int .i64) 2 w28 w.heap.size (fun _ => True) (.slice (some ⟨go24, 0, none⟩) x5_2.length co25) y108 := z175; clear HP27; have n0_ := zA (hp_); have n1_ := zA (blk_grown (g := gb102) (o := .cells #[.slice (some ad522) l0_0.length c0_0] 27 (0, 0)) z30 hg (Kd.R_ne HO_5.out BK102.out (by decide))); have n2_ := zA ((z171 : Below w.heap.size w w28)); clear HO_5 BK102 HB; have HO_5 := n0_; have BK102 := n1_; have HB := n2_; clear n0_ n1_ n2_; clear hg hw hp_)))
                                go_roundg k2
                                case measure => have := HK1.out; have := HK2.out; omega
                                case rel => exact ⟨(y108), (ji16), (by first | rfl | (simp; done) | (simp only [← hji16] <;> (first | rfl | simp)) | (simp [*]; done)), H', ⟨z97⟩, ⟨(by first | exact HO_5.out | (rw [Ny108.out]; exact (Kd.R_putg (Kd.R_drewN HO_5.out _) (x8_2 : Int) (rd x5_2 (ji16))).1))⟩, ⟨(by first | exact BK102.out | exact blk_grown (blk_drewN BK102.out _) (Kd.R_putg (Kd.R_drewN HO_5.out _) (x8_2 : Int) (rd x5_2 (ji16))).2 (Kd.R_ne HO_5.out BK102.out (by decide)))⟩, ⟨(by first | exact HB.out | exact below_set (pw_below_drewN HB.out _) GB24.out)⟩⟩
                              · rw [if_neg c23] at H
                                exact absurd H (by simp)
                            · rw [if_neg c22] at H
                              exact absurd H (by simp)
                          · rw [if_neg c21] at H
                            have c21b0 : decide ((rd x5_2 (ji16)) < (rd l0_0 x7_1)) = false := decide_eq_false c21
                            clear c21
                            by_cases c29 : 0 ≤ x8_2
                            · rw [if_pos c29] at H
                              have c29b0 : decide (0 ≤ x8_2) = true := decide_eq_true c29
                              clear c29
                              by_cases c30 : x8_2 < (x5_2.length : Int)
                              · rw [if_pos c30] at H
                                have c30b0 : decide (x8_2 < (x5_2.length : Int)) = true := decide_eq_true c30
                                clear c30
                                obtain ⟨y109, hy109⟩ : ∃ y_ : List Int, y_ = (x5_2.set (x8_2 : Int).toNat (rd l0_0 x7_1)) := ⟨_, rfl⟩
                                replace H : (spec_l04Over.l0 k2 a1 y109 t100 (wrap64 (x7_1 + 1)) l0_0) = some r := by first | (rw [hy109]; with_reducible exact H) | (have H2_ := (Option.bind_some _ _).symm.trans H; rw [hy109]; with_reducible exact H2_) | (have H2_ := (Option.bind_some _ _).symm.trans H; with_reducible exact H2_) | with_reducible exact H | (rw [hy109]; exact H) | exact H
                                have Ny109 := zA hy109
                                clear hy109
                                have H' := zA H
                                clear H
                                obtain ⟨Ao32, co32, eo32⟩ := Kd.R_slice HO_5.out
                                subst eo32
                                have p526 : 0 ≤ ((ji16) : Int) := of_decide_eq_true z14
                                have q526 : (ji16) < (x5_2.length : Int) := of_decide_eq_true z14
                                obtain ⟨ad526, e526, hx526_0⟩ := Kd.at_int (Kd.R_reads' HO_5.out).2.2 (ji16) p526 q526
                                cases e526
                                replace p526 := eq_true p526
                                replace q526 := eq_true q526
                                obtain ⟨hcz33_0, hfz33_0⟩ := zC1 BK102.out
                                have p527 : 0 ≤ (x7_1 : Int) := of_decide_eq_true z14
                                have q527 : x7_1 < (l0_0.length : Int) := of_decide_eq_true z14
                                obtain ⟨ad527, e527, hx527_0⟩ := Kd.at_int HR0_0.out x7_1 p527 q527
                                obtain rfl : ad522 = ad527 := (by injection e527)
                                try replace hx527_0 := (HB.out.cell (World.block_lt_of_cell? w _ hx527_0)).trans hx527_0
                                replace p527 := eq_true p527
                                replace q527 := eq_true q527
                                have p530 : 0 ≤ (x7_1 : Int) := of_decide_eq_true z14
                                have q530 : x7_1 < (l0_0.length : Int) := of_decide_eq_true z14
                                obtain ⟨ad530, e530, hx530_0⟩ := Kd.at_int HR0_0.out x7_1 p530 q530
                                obtain rfl : ad522 = ad530 := (by injection e530)
                                try replace hx530_0 := (HB.out.cell (World.block_lt_of_cell? w _ hx530_0)).trans hx530_0
                                replace p530 := eq_true p530
                                replace q530 := eq_true q530
                                have p31 : 0 ≤ (x8_2 : Int) := of_decide_eq_true z14
                                have q31 : (x8_2 : Int) < ((x5_2.length : Int) : Int) := of_decide_eq_true z14
                                obtain ⟨go31, co31, eo31, gb31, gl31, cl31, HG31⟩ := Kd.R_form HO_5.out (by omega)
                                (first | cases eo31 | (injection eo31 with ea_ en_ ec_; (first | subst ea_ | (injection ea_ with ea_; subst ea_)); subst ec_; clear en_))
                                have GB31 := zA gb31
                                have GG31 := zA HG31
                                clear gb31 gl31 HG31
                                (first | simp only [add_plain] at hx526_0 | skip)
                                obtain ⟨hx31_0, hf31_0⟩ := Kd.R_celln 0 HO_5.out (x8_2 : Int) p31 q31
                                replace p31 := eq_true p31
                                replace q31 := eq_true q31
                                have HP34 := Kd.R_putg HO_5.out (x8_2 : Int) (rd l0_0 x7_1)
                                go_wp2_with (first | ((with_reducible refine gate_store (t := 2) (p := 62) rfl ?_); (try (rw [drewN_self wr]; generalize hq_ : World.drewN wr _ = wr; have n0_ := zA (Kd.R_at hq_ HO_5.out); have n1_ := zA (blk_at hq_ BK102.out); have n2_ := zA (below_at hq_ HB.out); clear hq_ HO_5 BK102 HB; have HO_5 := n0_; have BK102 := n1_; have HB := n2_; clear n0_ n1_ n2_; (try (have HP34 := Kd.R_putg HO_5.out (x8_2 : Int) (rd l0_0 x7_1))))); refine store_event (t := 2) (p := 62) (v := ?vo_w35) (w1 := (wr.setCell ⟨go31, (x8_2 : Int).toNat, none⟩ (.int .i64 (rd l0_0 x7_1)))) ?hg ?ho ?hn ?hr ?_; (case ho => rfl); (case hg => rfl); (case hn => rfl); (case hr => first | (go_simp; done) | (go_simp; rfl)); intro w35 hw; have hg : wr.grownBy w35 (some go31) := (by rw [hw]; exact HP34.2); have hp_ : Kd.R (Kd.int .i64) 2 w35 w.heap.size (fun _ => True) (.slice (some ⟨go31, 0, none⟩) x5_2.length co32) y109 := z176; clear HP34; have n0_ := zA (hp_); have n1_ := zA (blk_grown (g := gb102) (o := .cells #[.slice (some ad522) l0_0.length c0_0] 27 (0, 0)) z30 hg (Kd.R_ne HO_5.out BK102.out (by decide))); have n2_ := zA ((z172 : Below w.heap.size w w35)); clear HO_5 BK102 HB; have HO_5 := n0_; have BK102 := n1_; have HB := n2_; clear n0_ n1_ n2_; clear hg hw hp_))
                                repeat (go_quiet (first | ((with_reducible refine gate_store (t := 2) (p := 62) rfl ?_); (try (rw [drewN_self wr]; generalize hq_ : World.drewN wr _ = wr; have n0_ := zA (Kd.R_at hq_ HO_5.out); have n1_ := zA (blk_at hq_ BK102.out); have n2_ := zA (below_at hq_ HB.out); clear hq_ HO_5 BK102 HB; have HO_5 := n0_; have BK102 := n1_; have HB := n2_; clear n0_ n1_ n2_; (try (have HP34 := Kd.R_putg HO_5.out (x8_2 : Int) (rd l0_0 x7_1))))); refine store_event (t := 2) (p := 62) (v := ?vo_w35) (w1 := (wr.setCell ⟨go31, (x8_2 : Int).toNat, none⟩ (.int .i64 (rd l0_0 x7_1)))) ?hg ?ho ?hn ?hr ?_; (case ho => rfl); (case hg => rfl); (case hn => rfl); (case hr => first | (go_simp; done) | (go_simp; rfl)); intro w35 hw; have hg : wr.grownBy w35 (some go31) := (by rw [hw]; exact HP34.2); have hp_ : Kd.R (Kd.int .i64) 2 w35 w.heap.size (fun _ => True) (.slice (some ⟨go31, 0, none⟩) x5_2.length co32) y109 := z176; clear HP34; have n0_ := zA (hp_); have n1_ := zA (blk_grown (g := gb102) (o := .cells #[.slice (some ad522) l0_0.length c0_0] 27 (0, 0)) z30 hg (Kd.R_ne HO_5.out BK102.out (by decide))); have n2_ := zA ((z172 : Below w.heap.size w w35)); clear HO_5 BK102 HB; have HO_5 := n0_; have BK102 := n1_; have HB := n2_; clear n0_ n1_ n2_; clear hg hw hp_)); try go_wp2_with (first | ((with_reducible refine gate_store (t := 2) (p := 62) rfl ?_); (try (rw [drewN_self wr]; generalize hq_ : World.drewN wr _ = wr; have n0_ := zA (Kd.R_at hq_ HO_5.out); have n1_ := zA (blk_at hq_ BK102.out); have n2_ := zA (below_at hq_ HB.out); clear hq_ HO_5 BK102 HB; have HO_5 := n0_; have BK102 := n1_; have HB := n2_; clear n0_ n1_ n2_; (try (have HP34 := Kd.R_putg HO_5.out (x8_2 : Int) (rd l0_0 x7_1))))); refine store_event (t := 2) (p := 62) (v := ?vo_w35) (w1 := (wr.setCell ⟨go31, (x8_2 : Int).toNat, none⟩ (.int .i64 (rd l0_0 x7_1)))) ?hg ?ho ?hn ?hr ?_; (case ho => rfl); (case hg => rfl); (case hn => rfl); (case hr => first | (go_simp; done) | (go_simp; rfl)); intro w35 hw; have hg : wr.grownBy w35 (some go31) := (by rw [hw]; exact HP34.2); have hp_ : Kd.R (Kd.int .i64) 2 w35 w.heap.size (fun _ => True) (.slice (some ⟨go31, 0, none⟩) x5_2.length co32) y109 := z176; clear HP34; have n0_ := zA (hp_); have n1_ := zA (blk_grown (g := gb102) (o := .cells #[.slice (some ad522) l0_0.length c0_0] 27 (0, 0)) z30 hg (Kd.R_ne HO_5.out BK102.out (by decide))); have n2_ := zA ((z172 : Below w.heap.size w w35)); clear HO_5 BK102 HB; have HO_5 := n0_; have BK102 := n1_; have HB := n2_; clear n0_ n1_ n2_; clear hg hw hp_)))
                                go_roundg k2
                                case measure => have := HK1.out; have := HK2.out; omega
                                case rel => exact ⟨(y109), (wrap64 (x7_1 + 1)), z16, H', ⟨z97⟩, ⟨(by first | exact HO_5.out | (rw [Ny109.out]; exact (Kd.R_putg (Kd.R_drewN HO_5.out _) (x8_2 : Int) (rd l0_0 x7_1)).1))⟩, ⟨z133⟩, ⟨(by first | exact HB.out | exact below_set (pw_below_drewN HB.out _) GB31.out)⟩⟩
                              · rw [if_neg c30] at H
                                exact absurd H (by simp)
                            · rw [if_neg c29] at H
                              exact absurd H (by simp)
                        · rw [if_neg c20] at H
                          exact absurd H (by simp)
                      · rw [if_neg c19] at H
                        exact absurd H (by simp)
                    · rw [if_neg c18] at H
                      exact absurd H (by simp)
                  · rw [if_neg c17] at H
                    exact absurd H (by simp)
                · rw [if_neg c15] at H
                  have c15b0 : decide (0 < x8_2) = false := decide_eq_false c15
                  clear c15
                  by_cases c36 : 0 ≤ x7_1
                  · rw [if_pos c36] at H
                    have c36b0 : decide (0 ≤ x7_1) = true := decide_eq_true c36
                    clear c36
                    by_cases c37 : x7_1 < (l0_0.length : Int)
                    · rw [if_pos c37] at H
                      have c37b0 : decide (x7_1 < (l0_0.length : Int)) = true := decide_eq_true c37
                      clear c37
                      by_cases c38 : 0 ≤ x8_2
                      · rw [if_pos c38] at H
                        have c38b0 : decide (0 ≤ x8_2) = true := decide_eq_true c38
                        clear c38
                        by_cases c39 : x8_2 < (x5_2.length : Int)
                        · rw [if_pos c39] at H
                          have c39b0 : decide (x8_2 < (x5_2.length : Int)) = true := decide_eq_true c39
                          clear c39
                          obtain ⟨y110, hy110⟩ : ∃ y_ : List Int, y_ = (x5_2.set (x8_2 : Int).toNat (rd l0_0 x7_1)) := ⟨_, rfl⟩
                          replace H : (spec_l04Over.l0 k2 a1 y110 t100 (wrap64 (x7_1 + 1)) l0_0) = some r := by first | (rw [hy110]; with_reducible exact H) | (have H2_ := (Option.bind_some _ _).symm.trans H; rw [hy110]; with_reducible exact H2_) | (have H2_ := (Option.bind_some _ _).symm.trans H; with_reducible exact H2_) | with_reducible exact H | (rw [hy110]; exact H) | exact H
                          have Ny110 := zA hy110
                          clear hy110
                          have H' := zA H
                          clear H
                          obtain ⟨hcz41_0, hfz41_0⟩ := zC1 BK102.out
                          have p532 : 0 ≤ (x7_1 : Int) := of_decide_eq_true z14
                          have q532 : x7_1 < (l0_0.length : Int) := of_decide_eq_true z14
                          obtain ⟨ad532, e532, hx532_0⟩ := Kd.at_int HR0_0.out x7_1 p532 q532
                          obtain rfl : ad522 = ad532 := (by injection e532)
                          try replace hx532_0 := (HB.out.cell (World.block_lt_of_cell? w _ hx532_0)).trans hx532_0
                          replace p532 := eq_true p532
                          replace q532 := eq_true q532
                          have p40 : 0 ≤ (x8_2 : Int) := of_decide_eq_true z14
                          have q40 : (x8_2 : Int) < ((x5_2.length : Int) : Int) := of_decide_eq_true z14
                          obtain ⟨go40, co40, eo40, gb40, gl40, cl40, HG40⟩ := Kd.R_form HO_5.out (by omega)
                          (first | cases eo40 | (injection eo40 with ea_ en_ ec_; (first | subst ea_ | (injection ea_ with ea_; subst ea_)); subst ec_; clear en_))
                          have GB40 := zA gb40
                          have GG40 := zA HG40
                          clear gb40 gl40 HG40
                          obtain ⟨hx40_0, hf40_0⟩ := Kd.R_celln 0 HO_5.out (x8_2 : Int) p40 q40
                          replace p40 := eq_true p40
                          replace q40 := eq_true q40
                          have HP42 := Kd.R_putg HO_5.out (x8_2 : Int) (rd l0_0 x7_1)
                          go_wp2_with (first | ((with_reducible refine gate_store (t := 2) (p := 62) rfl ?_); (try (rw [drewN_self wr]; generalize hq_ : World.drewN wr _ = wr; have n0_ := zA (Kd.R_at hq_ HO_5.out); have n1_ := zA (blk_at hq_ BK102.out); have n2_ := zA (below_at hq_ HB.out); clear hq_ HO_5 BK102 HB; have HO_5 := n0_; have BK102 := n1_; have HB := n2_; clear n0_ n1_ n2_; (try (have HP42 := Kd.R_putg HO_5.out (x8_2 : Int) (rd l0_0 x7_1))))); refine store_event (t := 2) (p := 62) (v := ?vo_w43) (w1 := (wr.setCell ⟨go40, (x8_2 : Int).toNat, none⟩ (.int .i64 (rd l0_0 x7_1)))) ?hg ?ho ?hn ?hr ?_; (case ho => rfl); (case hg => rfl); (case hn => rfl); (case hr => first | (go_simp; done) | (go_simp; rfl)); intro w43 hw; have hg : wr.grownBy w43 (some go40) := (by rw [hw]; exact HP42.2); have hp_ : Kd.R (Kd.int .i64) 2 w43 w.heap.size (fun _ => True) (.slice (some ⟨go40, 0, none⟩) x5_2.length co40) y110 := z177; clear HP42; have n0_ := zA (hp_); have n1_ := zA (blk_grown (g := gb102) (o := .cells #[.slice (some ad522) l0_0.length c0_0] 27 (0, 0)) z30 hg (Kd.R_ne HO_5.out BK102.out (by decide))); have n2_ := zA ((z173 : Below w.heap.size w w43)); clear HO_5 BK102 HB; have HO_5 := n0_; have BK102 := n1_; have HB := n2_; clear n0_ n1_ n2_; clear hg hw hp_))
                          repeat (go_quiet (first | ((with_reducible refine gate_store (t := 2) (p := 62) rfl ?_); (try (rw [drewN_self wr]; generalize hq_ : World.drewN wr _ = wr; have n0_ := zA (Kd.R_at hq_ HO_5.out); have n1_ := zA (blk_at hq_ BK102.out); have n2_ := zA (below_at hq_ HB.out); clear hq_ HO_5 BK102 HB; have HO_5 := n0_; have BK102 := n1_; have HB := n2_; clear n0_ n1_ n2_; (try (have HP42 := Kd.R_putg HO_5.out (x8_2 : Int) (rd l0_0 x7_1))))); refine store_event (t := 2) (p := 62) (v := ?vo_w43) (w1 := (wr.setCell ⟨go40, (x8_2 : Int).toNat, none⟩ (.int .i64 (rd l0_0 x7_1)))) ?hg ?ho ?hn ?hr ?_; (case ho => rfl); (case hg => rfl); (case hn => rfl); (case hr => first | (go_simp; done) | (go_simp; rfl)); intro w43 hw; have hg : wr.grownBy w43 (some go40) := (by rw [hw]; exact HP42.2); have hp_ : Kd.R (Kd.int .i64) 2 w43 w.heap.size (fun _ => True) (.slice (some ⟨go40, 0, none⟩) x5_2.length co40) y110 := z177; clear HP42; have n0_ := zA (hp_); have n1_ := zA (blk_grown (g := gb102) (o := .cells #[.slice (some ad522) l0_0.length c0_0] 27 (0, 0)) z30 hg (Kd.R_ne HO_5.out BK102.out (by decide))); have n2_ := zA ((z173 : Below w.heap.size w w43)); clear HO_5 BK102 HB; have HO_5 := n0_; have BK102 := n1_; have HB := n2_; clear n0_ n1_ n2_; clear hg hw hp_)); try go_wp2_with (first | ((with_reducible refine gate_store (t := 2) (p := 62) rfl ?_); (try (rw [drewN_self wr]; generalize hq_ : World.drewN wr _ = wr; have n0_ := zA (Kd.R_at hq_ HO_5.out); have n1_ := zA (blk_at hq_ BK102.out); have n2_ := zA (below_at hq_ HB.out); clear hq_ HO_5 BK102 HB; have HO_5 := n0_; have BK102 := n1_; have HB := n2_; clear n0_ n1_ n2_; (try (have HP42 := Kd.R_putg HO_5.out (x8_2 : Int) (rd l0_0 x7_1))))); refine store_event (t := 2) (p := 62) (v := ?vo_w43) (w1 := (wr.setCell ⟨go40, (x8_2 : Int).toNat, none⟩ (.int .i64 (rd l0_0 x7_1)))) ?hg ?ho ?hn ?hr ?_; (case ho => rfl); (case hg => rfl); (case hn => rfl); (case hr => first | (go_simp; done) | (go_simp; rfl)); intro w43 hw; have hg : wr.grownBy w43 (some go40) := (by rw [hw]; exact HP42.2); have hp_ : Kd.R (Kd.int .i64) 2 w43 w.heap.size (fun _ => True) (.slice (some ⟨go40, 0, none⟩) x5_2.length co40) y110 := z177; clear HP42; have n0_ := zA (hp_); have n1_ := zA (blk_grown (g := gb102) (o := .cells #[.slice (some ad522) l0_0.length c0_0] 27 (0, 0)) z30 hg (Kd.R_ne HO_5.out BK102.out (by decide))); have n2_ := zA ((z173 : Below w.heap.size w w43)); clear HO_5 BK102 HB; have HO_5 := n0_; have BK102 := n1_; have HB := n2_; clear n0_ n1_ n2_; clear hg hw hp_)))
                          go_roundg k2
                          case measure => have := HK1.out; have := HK2.out; omega
                          case rel => exact ⟨(y110), (wrap64 (x7_1 + 1)), z16, H', ⟨z97⟩, ⟨(by first | exact HO_5.out | (rw [Ny110.out]; exact (Kd.R_putg (Kd.R_drewN HO_5.out _) (x8_2 : Int) (rd l0_0 x7_1)).1))⟩, ⟨z133⟩, ⟨(by first | exact HB.out | exact below_set (pw_below_drewN HB.out _) GB40.out)⟩⟩
                        · rw [if_neg c39] at H
                          exact absurd H (by simp)
                      · rw [if_neg c38] at H
                        exact absurd H (by simp)
                    · rw [if_neg c37] at H
                      exact absurd H (by simp)
                  · rw [if_neg c36] at H
                    exact absurd H (by simp)
          · rw [if_neg c11] at H
            exact absurd H (by simp)
        · rw [if_neg c10] at H
          exact absurd H (by simp)
      · rw [if_neg c9] at H
        have c9b0 : decide (x7_1 < (l0_0.length : Int)) = false := decide_eq_false c9
        clear c9
        have H' := zA H
        clear H
        obtain ⟨hcz44_0, hfz44_0⟩ := zC1 BK102.out
        go_wp2
        repeat (go_quiet (fail); try go_wp2)
        go_loopg [6, 9] k1 (fun kq v6 v9 w' => ∃ (x6_2 : Int) (x9_2 : Int), v6 = .int .i64 x6_2 ∧ v9 = .int .i64 x9_2 ∧ Aside0 (spec_l04Over.l2 kq a1 x5_1 x6_2 x9_2 = some r) ∧ Aside0 (kq ≤ k1) ∧ Aside0 (Kd.R (Kd.int .i64) 2 w' w.heap.size (fun _ => True) u5 x5_1) ∧ Aside0 (w'.heap[gb102]? = some (.cells #[(.slice A0_0 l0_0.length c0_0)] 27 (0, 0))) ∧ Aside0 (Below w.heap.size w w'))
        case atStart => exact ⟨(t100), (0), z16, z16, H', ⟨Nat.le_refl _⟩, ⟨z74⟩, ⟨z30⟩, ⟨z11⟩⟩
        case round =>
          clear H'
          try clear c1
          try clear c2
          try clear p2
          try clear q2
          try clear hx2
          try clear hf2
          try clear c3
          try clear p3
          try clear q3
          try clear hx3
          try clear hf3
          try clear p4
          try clear q4
          try clear hx4
          try clear hf4
          try clear p5
          try clear q5
          try clear hx5
          try clear c6
          try clear p6
          try clear c9
          try clear c9b0
          try clear c10
          try clear c10b0
          try clear c11
          try clear c15
          try clear c15b0
          try clear c17
          try clear c17b0
          try clear c18
          try clear c18b0
          try clear c19
          try clear c19b0
          try clear c20
          try clear c20b0
          try clear c21
          try clear c21b0
          try clear c22
          try clear c22b0
          try clear c23
          try clear c23b0
          try clear p24
          try clear q24
          try clear hx24
          try clear hf24
          try clear c29
          try clear c29b0
          try clear c30
          try clear c30b0
          try clear p31
          try clear q31
          try clear hx31
          try clear hf31
          try clear c36
          try clear c36b0
          try clear c37
          try clear c37b0
          try clear c38
          try clear c38b0
          try clear c39
          try clear c39b0
          try clear p40
          try clear q40
          try clear hx40
          try clear hf40
          try clear hcz12_0
          try clear hcz26_0
          try clear hcz33_0
          try clear hcz41_0
          try clear hcz44_0
          try clear hcz7_0
          try clear hfz12_0
          try clear hfz26_0
          try clear hfz33_0
          try clear hfz41_0
          try clear hfz44_0
          try clear hfz7_0
          try clear hx24_0
          try clear hx31_0
          try clear hx40_0
          try clear hx522_0
          try clear hx526_0
          try clear hx527_0
          try clear hx528_0
          try clear hx530_0
          try clear hx532_0
          try clear p2
          try clear p24
          try clear p31
          try clear p40
          try clear p5
          try clear p522
          try clear p526
          try clear p527
          try clear p528
          try clear p530
          try clear p532
          try clear q24
          try clear q31
          try clear q40
          try clear q5
          try clear q522
          try clear q526
          try clear q527
          try clear q528
          try clear q530
          try clear q532
          obtain ⟨x6_2, x9_2, rfl, rfl, HA, HK2, HO_5, BK102, HB⟩ := hrel
          cases gk with
          | zero => exact absurd HA.out (by simp [spec_l04Over.l2])
          | succ k2 =>
            have H := HA.out
            clear HA
            simp only [spec_l04Over.l2] at H
            by_cases c45 : x9_2 < a1
            · rw [if_pos c45] at H
              have c45b0 : decide (x9_2 < a1) = true := decide_eq_true c45
              clear c45
              by_cases c46 : x9_2 < (x5_1.length : Int)
              · rw [if_pos c46] at H
                have c46b0 : decide (x9_2 < (x5_1.length : Int)) = true := decide_eq_true c46
                clear c46
                by_cases c47 : 0 ≤ x9_2
                · rw [if_pos c47] at H
                  have c47b0 : decide (0 ≤ x9_2) = true := decide_eq_true c47
                  clear c47
                  by_cases c48 : (rd x5_1 x9_2) = 0
                  · rw [if_pos c48] at H
                    exact absurd H (by simp)
                  · rw [if_neg c48] at H
                    have c48b0 : ((rd x5_1 x9_2) == 0) = false := beq_eq_false_iff_ne.mpr c48
                    have c48b1 : ((rd x5_1 x9_2) != 0) = true := bne_iff_ne.mpr c48
                    have H' := zA H
                    clear H
                    obtain ⟨Ao49, co49, eo49⟩ := Kd.R_slice HO_5.out
                    subst eo49
                    have p534 : 0 ≤ (x9_2 : Int) := of_decide_eq_true z14
                    have q534 : x9_2 < (x5_1.length : Int) := of_decide_eq_true z14
                    obtain ⟨ad534, e534, hx534_0⟩ := Kd.at_int (Kd.R_reads' HO_5.out).2.2 x9_2 p534 q534
                    cases e534
                    replace p534 := eq_true p534
                    replace q534 := eq_true q534
                    go_wp2
                    repeat (go_quiet (fail); try go_wp2)
                    go_roundg k2
                    case measure => have := HK1.out; have := HK2.out; omega
                    case rel => exact ⟨(wrap64 (Int.tdiv x6_2 (rd x5_1 x9_2))), (wrap64 (x9_2 + 1)), z16, z16, H', ⟨z97⟩, ⟨z74⟩, ⟨z30⟩, ⟨z11⟩⟩
                · rw [if_neg c47] at H
                  exact absurd H (by simp)
              · rw [if_neg c46] at H
                have c46b0 : decide (x9_2 < (x5_1.length : Int)) = false := decide_eq_false c46
                clear c46
                obtain rfl := Option.some.inj H
                obtain ⟨Ao50, co50, eo50⟩ := Kd.R_slice HO_5.out
                subst eo50
                go_wp2
                repeat (go_quiet (fail); try go_wp2)
                go_ret
                exact ⟨z15, z11⟩
            · rw [if_neg c45] at H
              have c45b0 : decide (x9_2 < a1) = false := decide_eq_false c45
              clear c45
              obtain rfl := Option.some.inj H
              go_wp2
              repeat (go_quiet (fail); try go_wp2)
              go_ret
              exact ⟨z15, z11⟩

/-! ### spec_ChoiceBound: function 17 -/
def spec_ChoiceBound.f (k : Nat) (l0_0 : List Int) (a1 : Int) : Option (Int × Int) := (spec_l10Code.f k l0_0 a1).bind fun t100 => (if t100 = 0 then ((spec_l01N.f k l0_0).bind fun t101 => ((spec_l04Over.f k l0_0 a1).bind fun t102 => (if t102 = 0 then (none) else (some (wrap64 (Int.tdiv t101 t102), 0))))) else (some (0, t100)))
def spec_ChoiceBound.T4 : Bool × List (List Nat × List Nat) := (true, [([], []), ([0], [0]), ([], []), ([], []), ([2, 3, 1], [2, 3]), ([1, 4], [1, 4]), ([5, 4, 0, 1, 2, 3, 4, 5], [5]), ([6, 0, 1, 2, 3, 4, 5, 6], [])])
def spec_ChoiceBound.B4 : List Nat := [0, 1, 0, 0, 15, 31, 63, 127]
theorem spec_ChoiceBound.tab4 : rtab .any (opsOf Try.f17 4) = spec_ChoiceBound.T4 := by kernel_rfl
theorem spec_ChoiceBound.bits4 : waitsOk spec_ChoiceBound.T4.2 spec_ChoiceBound.B4 = true := by kernel_rfl
set_option maxHeartbeats 8000000 in
set_option maxRecDepth 100000 in
theorem spec_ChoiceBound.calls (k : Nat) (A0_0 : Option Addr) (c0_0 : Nat) (l0_0 : List Int) (a1 : Int) (r1 : Int) (r2 : Int) (w : World) (hr0_0 : Kd.C (Kd.int .i64) w A0_0 l0_0.length l0_0) (hc0_0 : l0_0.length ≤ c0_0) (h : spec_ChoiceBound.f k l0_0 a1 = some (r1, r2)) :
    Calls Try.prog 17 #[.agg #[.slice A0_0 l0_0.length c0_0], .int .i64 a1] w fun e w' => e = .returned (.tuple #[.int .i64 r1, .int .i64 r2]) ∧ Below w.heap.size w w' := by
  have hu27 := Try.underlying27
  have HR0_0 := zA hr0_0
  have HC0_0 := zA hc0_0
  clear hr0_0 hc0_0
  have HB := zA (Below.refl w.heap.size w)
  have H := h
  unfold spec_ChoiceBound.f at H
  (try dsimp -simprocs only at H)
  clear h
  replace H := zi H
  obtain ⟨t100, A30, H⟩ := H
  (try dsimp -simprocs only at H)
  have A3 := zA A30
  clear A30
  by_cases c4 : t100 = 0
  · rw [if_pos c4] at H
    have c4b0 : (t100 == 0) = true := beq_iff_eq.mpr c4
    have c4b1 : (t100 != 0) = false := bne_eq_false_iff_eq.mpr c4
    clear c4
    replace H := zi H
    obtain ⟨t101, A50, H⟩ := H
    (try dsimp -simprocs only at H)
    have A5 := zA A50
    clear A50
    replace H := zi H
    obtain ⟨t102, A60, H⟩ := H
    (try dsimp -simprocs only at H)
    have A6 := zA A60
    clear A60
    by_cases c7 : t102 = 0
    · rw [if_pos c7] at H
      exact absurd H (by simp)
    · rw [if_neg c7] at H
      have c7b0 : (t102 == 0) = false := beq_eq_false_iff_ne.mpr c7
      have c7b1 : (t102 != 0) = true := bne_iff_ne.mpr c7
      simp only [Option.some.injEq, Prod.mk.injEq] at H
      obtain ⟨rfl, rfl⟩ := H
      go_enter Try.func17, Try.ntmps17
      try go_wp2_with (first | ((with_reducible refine gate_dst (N := 2) rfl ?_); refine box_event ?hg (N := 2) ?hd (cs := #[.slice A0_0 l0_0.length c0_0]) (t := 27) ?hr ?_; (case hd => rfl); (case hg => rfl); (case hr => first | (go_simp; done) | (go_simp; rfl)); intro gb103 hg w8 hbox hb; have n0_ := zA (below_step z1 hb); have n1_ := zA (hbox); have n2_ := zA ((z178 : w.heap.size ≤ gb103)); have n3_ := zA ((z178 : w.heap.size ≤ gb103)); clear HB; have HB := n0_; have BK103 := n1_; have GW103 := n2_; have GE103 := n3_; clear n0_ n1_ n2_ n3_; clear hb hbox hg; obtain ⟨hcz9_0, hfz9_0⟩ := zC1 BK103.out) | ((with_reducible refine gate_callee (f := 59) rfl ?_); refine goesL_ (some 9) rfl rfl Try.func59 (by kernel_rfl) rfl #[.agg #[.slice A0_0 l0_0.length c0_0], .int .i64 a1] rfl z3 ?_; (with_reducible refine (spec_l10Code.calls k _ _ l0_0 a1 t100 _ ?side1 ?side2 A3.out).mono ?_); (case side1 => exact z5); (case side2 => exact HC0_0.out); rintro e w10 ⟨rfl, hb⟩; refine ⟨_, rfl, ?_⟩; have n0_ := zBB BK103 hb; have n1_ := zA (below_step z2 hb); clear BK103 HB; have BK103 := n0_; have HB := n1_; clear n0_ n1_; (try clear hb); (try clear hb2); (try clear hk); (try clear hi)))
      have n0_ := zA (blk_drew BK103.out)
      have n1_ := zA (below_drew1 HB.out)
      clear BK103 HB
      have BK103 := n0_
      have HB := n1_
      clear n0_ n1_
      refine start_ (n := 8) (S := fun w' => w'.cell? ⟨gb103, 0, none⟩ = some (.slice A0_0 l0_0.length c0_0)) (ds := []) #[false, false, false, false, false, false, false, false] (by kernel_rfl) rfl rfl ((blk_cell BK103.out 0).trans rfl) (fun hHeld => ?_); refine with_tabW spec_ChoiceBound.tab4 spec_ChoiceBound.bits4 (fun HT_ HW_ => ?_)
      generalize w10.drew = w11 at BK103 HB hHeld ⊢
      refine pure_ (i := 3) (N := some 16) (v := ?_) (a' := ?_) #[false, false, false, true, false, false, false, false] rfl rfl (any_of HT_.out (by kernel_rfl)) (fun _ _ _ h => h) (Or.inl ⟨(by rfl), ?_⟩) ?_ ?_
      rotate_left
      · exact z35
      rotate_left
      · exact z9
      refine take_ (i := 0) (N := some 13) (v := ?_) (a' := ?_) #[true, false, false, true, false, false, false, false] rfl rfl (take_ofW HT_.out HW_.out (by kernel_rfl)) (fun _ _ _ h => h) (Or.inl ⟨(by rfl), ?_⟩) hHeld ?_ ?_
      rotate_left
      · intro w' s0
        go_simp
        with_reducible rfl
      rotate_left
      · exact z9
      refine take_ (i := 2) (N := some 15) (v := ?_) (a' := ?_) #[true, false, true, true, false, false, false, false] rfl rfl (take_ofW HT_.out HW_.out (by kernel_rfl)) (fun _ _ _ h => h) (Or.inl ⟨(by rfl), ?_⟩) hHeld ?_ ?_
      rotate_left
      · intro w' s0
        go_simp
        with_reducible rfl
      rotate_left
      · exact z9
      refine one_ (i := 1) (N := some 14) #[true, true, true, true, false, false, false, false] rfl rfl (one_of HT_.out (by kernel_rfl)) (by decide) (fun K hK => ?_)
      refine goes_ Try.func60 (by kernel_rfl) rfl #[.agg #[.slice A0_0 l0_0.length c0_0]] (by rfl) rfl rfl z3 ?_
      with_reducible refine (spec_l01N.calls k _ _ l0_0 t101 _ ?side1 ?side2 A5.out).mono ?_
      (case side1 => exact z5)
      (case side2 => exact HC0_0.out)
      rintro e w12 ⟨rfl, hb⟩
      refine ⟨_, rfl, ?_⟩
      have n0_ := zBB BK103 hb
      have n1_ := zA (below_step z2 hb)
      clear BK103 HB
      have BK103 := n0_
      have HB := n1_
      clear n0_ n1_
      (try clear hb)
      (try clear hb2)
      (try clear hk)
      (try clear hi)
      refine hK.out _ _ ((blk_cell BK103.out 0).trans rfl) (fun hHeld => ?_)
      clear hK K
      refine norm_ (a' := ?_) ?_ ?_
      rotate_left
      · show Act.put _ (some 14) _ = _
        simp only [Act.put, List.setIfInBounds_toArray, List.set_cons_zero, List.set_cons_succ, i64_w, i32_w]
        rfl
      refine one_ (i := 4) (N := some 17) #[true, true, true, true, true, false, false, false] rfl rfl (one_of HT_.out (by kernel_rfl)) (by decide) (fun K hK => ?_)
      refine goes_ Try.func61 (by kernel_rfl) rfl #[.agg #[.slice A0_0 l0_0.length c0_0], .int .i64 a1] (by rfl) rfl rfl z3 ?_
      with_reducible refine (spec_l04Over.calls k _ _ l0_0 a1 t102 _ ?side1 ?side2 A6.out).mono ?_
      (case side1 => exact z5)
      (case side2 => exact HC0_0.out)
      rintro e w13 ⟨rfl, hb⟩
      refine ⟨_, rfl, ?_⟩
      have n0_ := zBB BK103 hb
      have n1_ := zA (below_step z2 hb)
      clear BK103 HB
      have BK103 := n0_
      have HB := n1_
      clear n0_ n1_
      (try clear hb)
      (try clear hb2)
      (try clear hk)
      (try clear hi)
      refine hK.out _ _ ((blk_cell BK103.out 0).trans rfl) (fun hHeld => ?_)
      clear hK K
      refine norm_ (a' := ?_) ?_ ?_
      rotate_left
      · show Act.put _ (some 17) _ = _
        simp only [Act.put, List.setIfInBounds_toArray, List.set_cons_zero, List.set_cons_succ, i64_w, i32_w]
        rfl
      refine pure_ (i := 5) (N := some 18) (v := ?_) (a' := ?_) #[true, true, true, true, true, true, false, false] rfl rfl (any_of HT_.out (by kernel_rfl)) (fun _ _ _ h => h) (Or.inl ⟨(by rfl), ?_⟩) ?_ ?_
      rotate_left
      · exact z35
      rotate_left
      · exact z9
      refine pure_ (i := 6) (N := some 4) (v := ?_) (a' := ?_) #[true, true, true, true, true, true, true, false] rfl rfl (any_of HT_.out (by kernel_rfl)) (fun _ _ _ h => h) (Or.inl ⟨(by rfl), ?_⟩) ?_ ?_
      rotate_left
      · exact z35
      rotate_left
      · exact z9
      refine pure_ (i := 7) (N := some 5) (v := ?_) (a' := ?_) #[true, true, true, true, true, true, true, true] rfl rfl (any_of HT_.out (by kernel_rfl)) (fun _ _ _ h => h) (Or.inl ⟨(by rfl), ?_⟩) ?_ ?_
      rotate_left
      · exact z35
      rotate_left
      · exact z9
      refine done_ (done_of HT_.out (by kernel_rfl)) ?_
      try go_wp2
      go_ret2
      exact ⟨z15, z2⟩
  · rw [if_neg c4] at H
    have c4b0 : (t100 == 0) = false := beq_eq_false_iff_ne.mpr c4
    have c4b1 : (t100 != 0) = true := bne_iff_ne.mpr c4
    simp only [Option.some.injEq, Prod.mk.injEq] at H
    obtain ⟨rfl, rfl⟩ := H
    go_enter Try.func17, Try.ntmps17
    go_wp2_with (first | ((with_reducible refine gate_dst (N := 2) rfl ?_); refine box_event ?hg (N := 2) ?hd (cs := #[.slice A0_0 l0_0.length c0_0]) (t := 27) ?hr ?_; (case hd => rfl); (case hg => rfl); (case hr => first | (go_simp; done) | (go_simp; rfl)); intro gb103 hg w14 hbox hb; have n0_ := zA (below_step z1 hb); have n1_ := zA (hbox); have n2_ := zA ((z178 : w.heap.size ≤ gb103)); have n3_ := zA ((z178 : w.heap.size ≤ gb103)); clear HB; have HB := n0_; have BK103 := n1_; have GW103 := n2_; have GE103 := n3_; clear n0_ n1_ n2_ n3_; clear hb hbox hg; obtain ⟨hcz15_0, hfz15_0⟩ := zC1 BK103.out) | ((with_reducible refine gate_callee (f := 59) rfl ?_); refine goesL_ (some 9) rfl rfl Try.func59 (by kernel_rfl) rfl #[.agg #[.slice A0_0 l0_0.length c0_0], .int .i64 a1] rfl z3 ?_; (with_reducible refine (spec_l10Code.calls k _ _ l0_0 a1 t100 _ ?side1 ?side2 A3.out).mono ?_); (case side1 => exact z5); (case side2 => exact HC0_0.out); rintro e w16 ⟨rfl, hb⟩; refine ⟨_, rfl, ?_⟩; have n0_ := zBB BK103 hb; have n1_ := zA (below_step z2 hb); clear BK103 HB; have BK103 := n0_; have HB := n1_; clear n0_ n1_; (try clear hb); (try clear hb2); (try clear hk); (try clear hi)))
    go_ret2
    exact ⟨z15, z2⟩

end Go.Proofs.Ytbfhhjekonafdaa.PFnPairRows
