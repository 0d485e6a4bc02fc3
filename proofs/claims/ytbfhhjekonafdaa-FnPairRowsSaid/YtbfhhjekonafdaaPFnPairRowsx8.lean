-- WALKS, by a program and by hand
import Derived.Test.YtbfhhjekonafdaaPFnPairRowsx0
import Derived.Test.YtbfhhjekonafdaaPFnPairRowsx1
import Derived.Test.YtbfhhjekonafdaaPFnPairRowsx6
namespace Go.Proofs.Ytbfhhjekonafdaa.PFnPairRows
open Go.RowKit Go.Proofs.Ytbfhhjekonafdaa.DG Go.Proofs.YtbfhhjekonafdaaW.PrintWords Go.Proofs.YtbfhhjekonafdaaW.PrintLast Go.Proofs.YtbfhhjekonafdaaW.PrintMore
attribute [local go_sem] max2_int min2_int max_two min_two max_three min_three max_four min_four   -- for this text's walks alone
set_option linter.unusedVariables false
set_option linter.unusedSimpArgs false

/-! ### spec_l01DrawOf: function 94 -/
def spec_l01DrawOf.l0 : Nat → Int → Int → Int → List Int → Int → Int → List Int → Option (List Int × Int × Int)
  | 0, _, _, _, _, _, _, _ => none
  | k + 1, x1, x6, x7, x1000, x1001, x1002, x323000 => if x7 > 0 then (if x6 = 0 then ((spec_l01Pick.f x1000 x1001 x1002 (([2, 2, 3, 4] : List Int))).bind fun bt100 => ((spec_l01N.f k x323000).bind fun t101 => (if (wrap64 (t101 * bt100.1)) > x1 then (if (x323000.length : Int) = 0 then (if x323000.length < 17592186044416 then (some ((x323000 ++ [2]), bt100.2.1, bt100.2.2)) else (none)) else (some (x323000, bt100.2.1, bt100.2.2))) else (if x323000.length < 17592186044416 then (spec_l01DrawOf.l0 k x1 x6 (wrap64 (x7 - 1)) x1000 bt100.2.1 bt100.2.2 (x323000 ++ [bt100.1])) else (none))))) else ((spec_l01N.f k x323000).bind fun t102 => (if (wrap64 (t102 * x6)) > x1 then (if (x323000.length : Int) = 0 then (if x323000.length < 17592186044416 then (some ((x323000 ++ [2]), x1001, x1002)) else (none)) else (some (x323000, x1001, x1002))) else (if x323000.length < 17592186044416 then (spec_l01DrawOf.l0 k x1 x6 (wrap64 (x7 - 1)) x1000 x1001 x1002 (x323000 ++ [x6])) else (none))))) else (if (x323000.length : Int) = 0 then (if x323000.length < 17592186044416 then (some ((x323000 ++ [2]), x1001, x1002)) else (none)) else (some (x323000, x1001, x1002)))
def spec_l01DrawOf.f (k : Nat) (s0_0 : List Int) (s0_1 : Int) (s0_2 : Int) (a1 : Int) : Option (List Int × Int × Int) := (spec_l01Pick.f s0_0 s0_1 s0_2 (([0, 2, 2, 3, 3] : List Int))).bind fun bt103 => ((spec_l01Next.f s0_0 bt103.2.1 bt103.2.2 8).bind fun bt104 => (spec_l01DrawOf.l0 k a1 bt103.1 (wrap64 (1 + bt104.1)) s0_0 bt104.2.1 bt104.2.2 (([] : List Int))))
set_option maxHeartbeats 8000000 in
set_option maxRecDepth 100000 in
theorem spec_l01DrawOf.calls (k : Nat) (g : Nat) (s0_0 : List Int) (s0_1 : Int) (s0_2 : Int) (a1 : Int) (r1 : List Int) (r2 : Int) (r3 : Int) (w0 w : World) (hI : IsS88 w0 w g s0_0 s0_1 s0_2) (hB : Below w0.heap.size w0 w) (h : spec_l01DrawOf.f k s0_0 s0_1 s0_2 a1 = some (r1, r2, r3)) :
    Calls Try.prog 94 #[.pointer (some ⟨g, 0, none⟩), .int .i64 a1] w fun e w' => ∃ v0_ : Value, e = .returned (.agg #[v0_]) ∧ Kd.R (Kd.int .i64) 2 w' w.heap.size (fun _ => True) v0_ r1 ∧ IsS88 w0 w' g s0_0 r2 r3 ∧ Below w0.heap.size w0 w' ∧ KeepBut w w' g none := by
  have hu27 := Try.underlying27
  have HI0 := zA hI
  have HK := zA (KeepBut.refl w g none)
  have HL := zA hB.size
  clear hI
  have HW0 := zA hB.size
  have HB := zA hB
  clear hB
  have H := h
  unfold spec_l01DrawOf.f at H
  (try dsimp -simprocs only at H)
  clear h
  obtain ⟨y105, hy105⟩ : ∃ y_ : List Int, y_ = (([] : List Int)) := ⟨_, rfl⟩
  replace H : ((spec_l01Pick.f s0_0 s0_1 s0_2 (([0, 2, 2, 3, 3] : List Int))).bind fun bt103 => ((spec_l01Next.f s0_0 bt103.2.1 bt103.2.2 8).bind fun bt104 => (spec_l01DrawOf.l0 k a1 bt103.1 (wrap64 (1 + bt104.1)) s0_0 bt104.2.1 bt104.2.2 y105))) = some (r1, r2, r3) := by first | (rw [hy105]; with_reducible exact H) | (have H2_ := (Option.bind_some _ _).symm.trans H; rw [hy105]; with_reducible exact H2_) | (have H2_ := (Option.bind_some _ _).symm.trans H; with_reducible exact H2_) | with_reducible exact H | (rw [hy105]; exact H) | exact H
  have Ny105 := zA hy105
  clear hy105
  obtain ⟨y106, hy106⟩ : ∃ y_ : List Int, y_ = (([0, 2, 2, 3, 3] : List Int)) := ⟨_, rfl⟩
  replace H : ((spec_l01Pick.f s0_0 s0_1 s0_2 y106).bind fun bt103 => ((spec_l01Next.f s0_0 bt103.2.1 bt103.2.2 8).bind fun bt104 => (spec_l01DrawOf.l0 k a1 bt103.1 (wrap64 (1 + bt104.1)) s0_0 bt104.2.1 bt104.2.2 y105))) = some (r1, r2, r3) := by first | (rw [hy106]; with_reducible exact H) | (have H2_ := (Option.bind_some _ _).symm.trans H; rw [hy106]; with_reducible exact H2_) | (have H2_ := (Option.bind_some _ _).symm.trans H; with_reducible exact H2_) | with_reducible exact H | (rw [hy106]; exact H) | exact H
  have Ny106 := zA hy106
  clear hy106
  replace H := zi H
  obtain ⟨⟨t103, t107, t108⟩, A30, H⟩ := H
  (try dsimp -simprocs only at H)
  have A3 := zA A30
  clear A30
  replace H := zi H
  obtain ⟨⟨t104, t109, t110⟩, A40, H⟩ := H
  (try dsimp -simprocs only at H)
  have A4 := zA A40
  clear A40
  have H' := zA H
  clear H
  go_enter Try.func94, Try.ntmps94
  go_wp2_with (first | ((with_reducible refine gate_dst (N := 4) rfl ?_); refine box_event ?hg (N := 4) ?hd (cs := #[.slice none 0 0]) (t := 27) ?hr ?_; (case hd => rfl); (case hg => rfl); (case hr => first | (go_simp; done) | (go_simp; rfl)); intro gb111 hg w5 hbox hb; have n0_ := zA (IsS88.below z20 hb); have n1_ := zA (KeepBut.trans z32 (KeepBut.of_below hb g none) (.inl rfl)); have n2_ := zA (below_step z26 hb); have n3_ := zA (hbox); have n4_ := zA ((z192 : w.heap.size ≤ gb111)); have n5_ := zA ((Nat.le_trans HW0.out (z192 : w.heap.size ≤ gb111) : w0.heap.size ≤ gb111)); have n6_ := zA ((z180 : g ≠ gb111)); have n7_ := zA ((z181 : gb111 ≠ g)); clear HI0 HK HB; have HI0 := n0_; have HK := n1_; have HB := n2_; have BK111 := n3_; have GW111 := n4_; have GE111 := n5_; have NB0_312 := n6_; have NB312_0 := n7_; clear n0_ n1_ n2_ n3_ n4_ n5_ n6_ n7_; clear hb hbox hg) | ((with_reducible refine gate_dst (N := 9) rfl ?_); refine Kd.R_lit (Kd.int .i64) _ 2 ?hg (N := 9) ?hd (xs := ([] : List Int)) (inner := []) (ok := fun _ => True) (okp := fun _ => True) ?hr ?hp (fun _ hk => hk) trivial (Below.refl _ _) (Nat.le_refl _) (by simp) ?_; (case hd => rfl); (case hg => rfl); (case hr => first | (go_simp; done) | (go_simp; rfl)); (case hp => exact (Reps.none _ _)); intro v112 w6 ho7 hb hg_ hnew_; clear hg_ hnew_; (first | rw [← Ny105.out] at ho7 | (simp only [Int.reduceToNat] at ho7; rw [← Ny105.out] at ho7)); have n0_ := zA (Kd.R_lower ho7 (keep_size (w := w) (g := g) (row := none) z56)); have n1_ := zA (IsS88.below z50 hb); have n2_ := zBB BK111 hb; have n3_ := zA (KeepBut.trans z56 (KeepBut.of_below hb g none) (.inl rfl)); have n4_ := zA (below_step z83 hb); clear HI0 BK111 HK HB; have HO113 := n0_; have HI0 := n1_; have BK111 := n2_; have HK := n3_; have HB := n4_; clear n0_ n1_ n2_ n3_ n4_; clear hb ho7; obtain ⟨Ao8, co8, eo8⟩ := Kd.R_slice HO113.out; subst eo8) | ((with_reducible refine gate_dst (N := 12) rfl ?_); refine Kd.R_lit (Kd.int .i64) _ 2 ?hg (N := 12) ?hd (xs := ([0, 2, 2, 3, 3] : List Int)) (inner := [.int .i64 0, .int .i64 2, .int .i64 2, .int .i64 3, .int .i64 3]) (ok := fun _ => True) (okp := fun _ => True) ?hr ?hp (fun _ hk => hk) trivial (Below.refl _ _) (Nat.le_refl _) (by simp) ?_; (case hd => rfl); (case hg => rfl); (case hr => first | (go_simp; done) | (go_simp; rfl)); (case hp => exact (Reps.one (show Kd.M (Kd.int .i64) _ _ _ 0 [.int .i64 0] from rfl) (Reps.one (show Kd.M (Kd.int .i64) _ _ _ 2 [.int .i64 2] from rfl) (Reps.one (show Kd.M (Kd.int .i64) _ _ _ 2 [.int .i64 2] from rfl) (Reps.one (show Kd.M (Kd.int .i64) _ _ _ 3 [.int .i64 3] from rfl) (Reps.one (show Kd.M (Kd.int .i64) _ _ _ 3 [.int .i64 3] from rfl) (Reps.none _ _))))))); intro v114 w9 ho10 hb hg_ hnew_; clear hg_ hnew_; (first | rw [← Ny106.out] at ho10 | (simp only [Int.reduceToNat] at ho10; rw [← Ny106.out] at ho10)); have n0_ := zA (Kd.R_elder' z120 (Kd.R_base ho10) hb); have n1_ := zA (Kd.R_lower (Kd.R_new' ho10 (Kd.R_lt z120)) (keep_size (w := w) (g := g) (row := none) z56)); have n2_ := zA (IsS88.below z50 hb); have n3_ := zBB BK111 hb; have n4_ := zA (KeepBut.trans z56 (KeepBut.of_below hb g none) (.inl rfl)); have n5_ := zA (below_step z83 hb); clear HO113 HI0 BK111 HK HB; have HO113 := n0_; have HO115 := n1_; have HI0 := n2_; have BK111 := n3_; have HK := n4_; have HB := n5_; clear n0_ n1_ n2_ n3_ n4_ n5_; clear hb ho10; obtain ⟨Ao11, co11, eo11⟩ := Kd.R_slice HO115.out; subst eo11) | ((with_reducible refine gate_callee (f := 70) rfl ?_); refine goesL_ (some 13) rfl rfl Try.func70 (by kernel_rfl) rfl #[.pointer (some ⟨g, 0, none⟩), .slice Ao11 y106.length co11] rfl z3 ?_; (with_reducible refine (spec_l01Pick.calls g s0_0 s0_1 s0_2 _ _ y106 t103 t107 t108 w0 _ ?side1 ?side2 ?side3 ?side4 ?side5 A3.out).mono ?_); (case side1 => exact z50); (case side2 => exact z83); (case side3 => exact (by repeat (first | exact (Kd.R_reads' HO115.out).2.2 | (with_reducible refine Kd.C_alloc ?_ _) | (with_reducible refine Kd.C_drewN ?_ _) | (with_reducible refine Kd.C_drew ?_)))); (case side4 => exact (Kd.R_reads' HO115.out).2.1); (case side5 => exact far_slice (IsS88.own_ne HI0.out HO115.out (by decide))); rintro e w12 ⟨rfl, hi, hb, hk⟩; refine ⟨_, rfl, ?_⟩; have n0_ := zKB BK111 hk NB312_0; have n1_ := zA (Kd.R_mono (Kd.R_keep (IsS88.apart (show IsS88 w0 _ g s0_0 s0_1 s0_2 from z50) z120 (by decide)) hk (fun _ h => h.2)) (fun _ h => h.1)); have n2_ := zA (Kd.R_mono (Kd.R_keep (IsS88.apart (show IsS88 w0 _ g s0_0 s0_1 s0_2 from z50) z163 (by decide)) hk (fun _ h => h.2)) (fun _ h => h.1)); have n3_ := zA (KeepBut.trans z56 hk (.inl rfl)); have n4_ := zA (hb); have n5_ := zA (hi); clear BK111 HO113 HO115 HK HB HI0; have BK111 := n0_; have HO113 := n1_; have HO115 := n2_; have HK := n3_; have HB := n4_; have HI0 := n5_; clear n0_ n1_ n2_ n3_ n4_ n5_; (try clear hb); (try clear hb2); (try clear hk); (try clear hi)) | ((with_reducible refine gate_dst (N := 5) rfl ?_); refine box_event ?hg (N := 5) ?hd (cs := #[.slice none 0 0]) (t := 27) ?hr ?_; (case hd => rfl); (case hg => rfl); (case hr => first | (go_simp; done) | (go_simp; rfl)); intro gb116 hg w13 hbox hb; have n0_ := zA (Kd.R_below z120 hb); have n1_ := zA (Kd.R_below z163 hb); have n2_ := zA (IsS88.below z50 hb); have n3_ := zBB BK111 hb; have n4_ := zA (KeepBut.trans z56 (KeepBut.of_below hb g none) (.inl rfl)); have n5_ := zA (below_step z83 hb); have n6_ := zA (hbox); have n7_ := zA ((z207 : w.heap.size ≤ gb116)); have n8_ := zA ((Nat.le_trans HW0.out (z207 : w.heap.size ≤ gb116) : w0.heap.size ≤ gb116)); have n9_ := zA (((by rw [hg]; exact Nat.ne_of_lt (blk_lt (g := gb111) (o := .cells #[.slice none 0 0] 27 (0, 0)) z78)) : gb111 ≠ gb116)); have n10_ := zA (((by rw [hg]; exact Nat.ne_of_gt (blk_lt (g := gb111) (o := .cells #[.slice none 0 0] 27 (0, 0)) z78)) : gb116 ≠ gb111)); have n11_ := zA (((by rw [hg]; exact Nat.ne_of_lt (IsS88.lt (show IsS88 w0 _ g s0_0 t107 t108 from z50))) : g ≠ gb116)); have n12_ := zA (((by rw [hg]; exact Nat.ne_of_gt (IsS88.lt (show IsS88 w0 _ g s0_0 t107 t108 from z50))) : gb116 ≠ g)); clear HO113 HO115 HI0 BK111 HK HB; have HO113 := n0_; have HO115 := n1_; have HI0 := n2_; have BK111 := n3_; have HK := n4_; have HB := n5_; have BK116 := n6_; have GW116 := n7_; have GE116 := n8_; have NB111_116 := n9_; have NB116_111 := n10_; have NB0_322 := n11_; have NB322_0 := n12_; clear n0_ n1_ n2_ n3_ n4_ n5_ n6_ n7_ n8_ n9_ n10_ n11_ n12_; clear hb hbox hg; have hnb14 := NB116_111.out; have hnc14 := NB111_116.out; have hnb15 := NB322_0.out; have hnc15 := NB0_322.out; obtain ⟨hcz16_0, hfz16_0⟩ := zC1 BK116.out) | ((with_reducible refine gate_callee (f := 69) rfl ?_); refine goesL_ (some 15) rfl rfl Try.func69 (by kernel_rfl) rfl #[.pointer (some ⟨g, 0, none⟩), .int .i64 8] rfl z3 ?_; (with_reducible refine (spec_l01Next.calls g s0_0 t107 t108 8 t104 t109 t110 w0 _ ?side1 ?side2 A4.out).mono ?_); (case side1 => exact z10); (case side2 => exact z17); rintro e w17 ⟨rfl, hi, hb, hk⟩; refine ⟨_, rfl, ?_⟩; have n0_ := zA (KeepBut.blk hk (g' := gb111) (o := .cells #[.slice none 0 0] 27 (0, 0)) z88 NB312_0.out (by simp)); have n1_ := zA (Kd.R_mono (Kd.R_keep (IsS88.apart (show IsS88 w0 _ g s0_0 t107 t108 from z10) (by (with_reducible repeat (first | apply Kd.R_alloc | apply Kd.R_drewN | apply Kd.R_drew)); exact (Kd.R_mono (Kd.R_far (p := ⟨gb116, 0, none⟩) (Kd.R_types HO113.out BK116.out (by decide)) (fun _ hk => hk.2) (.slice Ao8 y105.length co8)) (fun _ h_ => h_.1))) (by decide)) hk (fun _ h => h.2)) (fun _ h => h.1)); have n2_ := zA (Kd.R_mono (Kd.R_keep (IsS88.apart (show IsS88 w0 _ g s0_0 t107 t108 from z10) (by (with_reducible repeat (first | apply Kd.R_alloc | apply Kd.R_drewN | apply Kd.R_drew)); exact (Kd.R_mono (Kd.R_far (p := ⟨gb116, 0, none⟩) (Kd.R_types HO115.out BK116.out (by decide)) (fun _ hk => hk.2) (.slice Ao8 y105.length co8)) (fun _ h_ => h_.1))) (by decide)) hk (fun _ h => h.2)) (fun _ h => h.1)); have n3_ := zA (KeepBut.blk hk (g' := gb116) (o := .cells #[.slice Ao8 y105.length co8] 27 (0, 0)) z101 NB322_0.out (by simp)); have n4_ := zA (KeepBut.trans z13 hk (.inl rfl)); have n5_ := zA (hb); have n6_ := zA (hi); clear BK111 HO113 HO115 BK116 HK HB HI0; have BK111 := n0_; have HO113 := n1_; have HO115 := n2_; have BK116 := n3_; have HK := n4_; have HB := n5_; have HI0 := n6_; clear n0_ n1_ n2_ n3_ n4_ n5_ n6_; (try clear hb); (try clear hb2); (try clear hk); (try clear hi)))
  go_loopg [7] k (fun kq v7 w' => ∃ (x7_1 : Int) (x1001_1 : Int) (x1002_1 : Int) (x323000_1 : List Int) (u323000 : Value), v7 = .int .i64 x7_1 ∧ Aside0 (spec_l01DrawOf.l0 kq a1 t103 x7_1 s0_0 x1001_1 x1002_1 x323000_1 = some (r1, r2, r3)) ∧ Aside0 (kq ≤ k) ∧ Aside0 (Kd.R (Kd.int .i64) 2 w' w.heap.size (fun _ => True) u323000 x323000_1) ∧ Aside0 (w'.heap[gb111]? = some (.cells #[(.slice none 0 0)] 27 (0, 0))) ∧ Aside0 (w'.heap[gb116]? = some (.cells #[u323000] 27 (0, 0))) ∧ Aside0 (IsS88 w0 w' g s0_0 x1001_1 x1002_1) ∧ Aside0 (KeepBut w w' g none) ∧ Aside0 (Below w0.heap.size w0 w'))
  case atStart => exact ⟨(wrap64 (1 + t104)), (t109), (t110), (y105), (.slice Ao8 y105.length co8), z16, H', ⟨Nat.le_refl _⟩, ⟨(by (with_reducible repeat (first | apply Kd.R_alloc | apply Kd.R_drewN | apply Kd.R_drew)); exact Kd.R_mono HO113.out (fun _ hk => trivial))⟩, ⟨z78⟩, ⟨z61⟩, ⟨z10⟩, ⟨z13⟩, ⟨z17⟩⟩
  case round =>
    clear H'
    try clear c1
    try clear p2
    try clear c6
    try clear p6
    try clear c7
    try clear c9
    try clear c14
    try clear c15
    try clear hcz16_0
    try clear hfz16_0
    obtain ⟨x7_1, x1001_1, x1002_1, x323000_1, u323000, rfl, HA, HK1, HO_323000, BK111, BK116, HI0, HK, HB⟩ := hrel
    cases gk with
    | zero => exact absurd HA.out (by simp [spec_l01DrawOf.l0])
    | succ k1 =>
      have H := HA.out
      clear HA
      simp only [spec_l01DrawOf.l0] at H
      by_cases c18 : x7_1 > 0
      · rw [if_pos c18] at H
        have c18b0 : decide (0 < x7_1) = true := decide_eq_true c18
        clear c18
        by_cases c19 : t103 = 0
        · rw [if_pos c19] at H
          have c19b0 : (t103 == 0) = true := beq_iff_eq.mpr c19
          have c19b1 : (t103 != 0) = false := bne_eq_false_iff_eq.mpr c19
          clear c19
          obtain ⟨y117, hy117⟩ : ∃ y_ : List Int, y_ = (([2, 2, 3, 4] : List Int)) := ⟨_, rfl⟩
          replace H : ((spec_l01Pick.f s0_0 x1001_1 x1002_1 y117).bind fun bt100 => ((spec_l01N.f k1 x323000_1).bind fun t101 => (if (wrap64 (t101 * bt100.1)) > a1 then (if (x323000_1.length : Int) = 0 then (if x323000_1.length < 17592186044416 then (some ((x323000_1 ++ [2]), bt100.2.1, bt100.2.2)) else (none)) else (some (x323000_1, bt100.2.1, bt100.2.2))) else (if x323000_1.length < 17592186044416 then (spec_l01DrawOf.l0 k1 a1 t103 (wrap64 (x7_1 - 1)) s0_0 bt100.2.1 bt100.2.2 (x323000_1 ++ [bt100.1])) else (none))))) = some (r1, r2, r3) := by first | (rw [hy117]; with_reducible exact H) | (have H2_ := (Option.bind_some _ _).symm.trans H; rw [hy117]; with_reducible exact H2_) | (have H2_ := (Option.bind_some _ _).symm.trans H; with_reducible exact H2_) | with_reducible exact H | (rw [hy117]; exact H) | exact H
          have Ny117 := zA hy117
          clear hy117
          replace H := zi H
          obtain ⟨⟨t100, t118, t119⟩, A200, H⟩ := H
          (try dsimp -simprocs only at H)
          have A20 := zA A200
          clear A200
          replace H := zi H
          obtain ⟨t101, A210, H⟩ := H
          (try dsimp -simprocs only at H)
          have A21 := zA A210
          clear A210
          by_cases c22 : (wrap64 (t101 * t100)) > a1
          · rw [if_pos c22] at H
            have c22b0 : decide (a1 < (wrap64 (t101 * t100))) = true := decide_eq_true c22
            clear c22
            by_cases c23 : (x323000_1.length : Int) = 0
            · rw [if_pos c23] at H
              have c23b0 : ((x323000_1.length : Int) == 0) = true := beq_iff_eq.mpr c23
              have c23b1 : ((x323000_1.length : Int) != 0) = false := bne_eq_false_iff_eq.mpr c23
              clear c23
              by_cases c24 : x323000_1.length < 17592186044416
              · rw [if_pos c24] at H
                have LMc24 := zA c24
                clear c24
                obtain ⟨y120, hy120⟩ : ∃ y_ : List Int, y_ = (x323000_1 ++ [2]) := ⟨_, rfl⟩
                replace H : (some (y120, t118, t119)) = some (r1, r2, r3) := by first | (rw [hy120]; with_reducible exact H) | (have H2_ := (Option.bind_some _ _).symm.trans H; rw [hy120]; with_reducible exact H2_) | (have H2_ := (Option.bind_some _ _).symm.trans H; with_reducible exact H2_) | with_reducible exact H | (rw [hy120]; exact H) | exact H
                have Ny120 := zA hy120
                clear hy120
                simp only [Option.some.injEq, Prod.mk.injEq] at H
                obtain ⟨rfl, rfl, rfl⟩ := H
                go_wp2_with (first | ((with_reducible refine gate_dst (N := 25) rfl ?_); refine Kd.R_lit (Kd.int .i64) _ 2 ?hg (N := 25) ?hd (xs := ([2, 2, 3, 4] : List Int)) (inner := [.int .i64 2, .int .i64 2, .int .i64 3, .int .i64 4]) (ok := fun _ => True) (okp := fun _ => True) ?hr ?hp (fun _ hk => hk) trivial (Below.refl _ _) (Nat.le_refl _) (by simp) ?_; (case hd => rfl); (case hg => rfl); (case hr => first | (go_simp; done) | (go_simp; rfl)); (case hp => exact (Reps.one (show Kd.M (Kd.int .i64) _ _ _ 2 [.int .i64 2] from rfl) (Reps.one (show Kd.M (Kd.int .i64) _ _ _ 2 [.int .i64 2] from rfl) (Reps.one (show Kd.M (Kd.int .i64) _ _ _ 3 [.int .i64 3] from rfl) (Reps.one (show Kd.M (Kd.int .i64) _ _ _ 4 [.int .i64 4] from rfl) (Reps.none _ _)))))); intro v121 w25 ho26 hb hg_ hnew_; clear hg_ hnew_; (first | rw [← Ny117.out] at ho26 | (simp only [Int.reduceToNat] at ho26; rw [← Ny117.out] at ho26)); have n0_ := zA (Kd.R_elder' z45 (Kd.R_base ho26) hb); have n1_ := zA (Kd.R_lower (Kd.R_new' ho26 (Kd.R_lt z45)) (keep_size (w := w) (g := g) (row := none) z13)); have n2_ := zBB BK111 hb; have n3_ := zBB BK116 hb; have n4_ := zA (IsS88.below z10 hb); have n5_ := zA (KeepBut.trans z13 (KeepBut.of_below hb g none) (.inl rfl)); have n6_ := zA (below_step z17 hb); clear HO_323000 BK111 BK116 HI0 HK HB; have HO_323000 := n0_; have HO122 := n1_; have BK111 := n2_; have BK116 := n3_; have HI0 := n4_; have HK := n5_; have HB := n6_; clear n0_ n1_ n2_ n3_ n4_ n5_ n6_; clear hb ho26; obtain ⟨Ao27, co27, eo27⟩ := Kd.R_slice HO122.out; subst eo27) | ((with_reducible refine gate_callee (f := 70) rfl ?_); refine goesL_ (some 26) rfl rfl Try.func70 (by kernel_rfl) rfl #[.pointer (some ⟨g, 0, none⟩), .slice Ao27 y117.length co27] rfl z3 ?_; (with_reducible refine (spec_l01Pick.calls g s0_0 x1001_1 x1002_1 _ _ y117 t100 t118 t119 w0 _ ?side1 ?side2 ?side3 ?side4 ?side5 A20.out).mono ?_); (case side1 => exact z10); (case side2 => exact z17); (case side3 => exact z107); (case side4 => exact (Kd.R_reads' HO122.out).2.1); (case side5 => exact far_slice (IsS88.own_ne HI0.out HO122.out (by decide))); rintro e w28 ⟨rfl, hi, hb, hk⟩; refine ⟨_, rfl, ?_⟩; have n0_ := zA (Kd.R_mono (Kd.R_keep (IsS88.apart (show IsS88 w0 _ g s0_0 x1001_1 x1002_1 from z10) z45 (by decide)) hk (fun _ h => h.2)) (fun _ h => h.1)); have n1_ := zKB BK111 hk NB312_0; have n2_ := zKB BK116 hk NB322_0; have n3_ := zA (Kd.R_mono (Kd.R_keep (IsS88.apart (show IsS88 w0 _ g s0_0 x1001_1 x1002_1 from z10) z54 (by decide)) hk (fun _ h => h.2)) (fun _ h => h.1)); have n4_ := zA (KeepBut.trans z13 hk (.inl rfl)); have n5_ := zA (hb); have n6_ := zA (hi); clear HO_323000 BK111 BK116 HO122 HK HB HI0; have HO_323000 := n0_; have BK111 := n1_; have BK116 := n2_; have HO122 := n3_; have HK := n4_; have HB := n5_; have HI0 := n6_; clear n0_ n1_ n2_ n3_ n4_ n5_ n6_; (try clear hb); (try clear hb2); (try clear hk); (try clear hi); have hnb29 := NB116_111.out; have hnc29 := NB111_116.out; have hnb30 := NB322_0.out; have hnc30 := NB0_322.out; obtain ⟨hcz31_0, hfz31_0⟩ := zC1 BK116.out; obtain ⟨Ao32, co32, eo32⟩ := Kd.R_slice HO_323000.out; subst eo32) | ((with_reducible refine gate_callee (f := 60) rfl ?_); refine goesL_ (some 28) rfl rfl Try.func60 (by kernel_rfl) rfl #[.agg #[.slice Ao32 x323000_1.length co32]] rfl z3 ?_; (with_reducible refine (spec_l01N.calls k1 _ _ x323000_1 t101 _ ?side1 ?side2 A21.out).mono ?_); (case side1 => exact z73); (case side2 => exact (Kd.R_reads' HO_323000.out).2.1); rintro e w33 ⟨rfl, hb⟩; refine ⟨_, rfl, ?_⟩; have n0_ := zA (Kd.R_below z45 hb); have n1_ := zA (Kd.R_below z54 hb); have n2_ := zBB BK111 hb; have n3_ := zBB BK116 hb; have n4_ := zA (IsS88.below z10 hb); have n5_ := zA (KeepBut.trans z13 (KeepBut.of_below hb g none) (.inl rfl)); have n6_ := zA (below_step z17 hb); clear HO_323000 HO122 BK111 BK116 HI0 HK HB; have HO_323000 := n0_; have HO122 := n1_; have BK111 := n2_; have BK116 := n3_; have HI0 := n4_; have HK := n5_; have HB := n6_; clear n0_ n1_ n2_ n3_ n4_ n5_ n6_; (try clear hb); (try clear hb2); (try clear hk); (try clear hi); obtain ⟨hcz34_0, hfz34_0⟩ := zC1 BK116.out) | ((with_reducible refine gate_builtin (b := .append) (xs := #[.tmp 44, .tmp 45]) rfl ?_); at_builtin; refine Kd.R_append (Kd.int .i64) w.heap.size rfl (.tmp 44) (.tmp 45) 25 2 (.int .i64 0) 8 rfl Try.underlying25 info2 rfl (by decide) (by omega) (.slice Ao32 x323000_1.length co32) x323000_1 2 [.int .i64 2] (fun k_ => some k_ ≠ (.slice Ao27 y117.length co27 : Value).ownBlock) (fun _ => False) rfl rfl ?aP (fun _ hk => hk.elim) ?aF ?aO (Below.refl _ _) ?aS ?aL ?_; (case aP => exact rfl); (case aF => exact (fun k_ hk => Kd.fresh' (Kd.R_lt z54) k_ hk)); (case aO => exact z153); (case aS => exact (keep_size (w := w) (g := g) (row := none) z13)); (case aL => have := LMc24.out; omega); intro v123 w35 ho hb hg hat; rw [← Ny120.out] at ho; have n0_ := zA (blk_grown (g := gb111) (o := .cells #[.slice none 0 0] 27 (0, 0)) z78 hg (Kd.R_ne HO_323000.out BK111.out (by decide))); have n1_ := zA (blk_grown (g := gb116) (o := .cells #[.slice Ao32 x323000_1.length co32] 27 (0, 0)) z61 hg (Kd.R_ne HO_323000.out BK116.out (by decide))); have n2_ := zA (IsS88.grown z10 hg (IsS88.own_ne HI0.out HO_323000.out (by decide))); have n3_ := zA (Kd.R_after (ok := (fun _ => True)) z54 hg hat); have n4_ := zA (below_weaken z17 HL.out hb); have n5_ := zA (KeepBut.trans z13 (KeepBut.of_grown hg g) (Kd.R_base2 HO_323000.out)); have n6_ := zA (ho); clear BK111 BK116 HI0 HO122 HB HK HO_323000; have BK111 := n0_; have BK116 := n1_; have HI0 := n2_; have HO122 := n3_; have HB := n4_; have HK := n5_; have HO124 := n6_; clear n0_ n1_ n2_ n3_ n4_ n5_ n6_; clear ho hb hg hat; obtain ⟨Ao36, co36, eo36⟩ := Kd.R_slice HO124.out; subst eo36; obtain ⟨hcz37_0, hfz37_0⟩ := zC1 BK116.out; have hnb38 := NB312_0.out; have hnc38 := NB0_312.out; obtain ⟨hcz39_0, hfz39_0⟩ := zC1 BK111.out))
                refine bodyPost_ret (results_cell_row rfl _ _ gb111 27 #[.slice Ao36 y120.length co36] (0, 0) _ rfl z68 Try.underlying27 rfl (by kernel_rfl)) rfl ?_
                exact ⟨_, z15, (by (with_reducible repeat (first | apply Kd.R_alloc | apply Kd.R_drewN | apply Kd.R_drew)); exact Kd.R_mono (Kd.R_far (p := ⟨gb111, 0, none⟩) (Kd.R_far (p := ⟨gb116, 0, none⟩) (Kd.R_types (Kd.R_types HO124.out BK116.out (by decide)) BK111.out (by decide)) (fun _ hk => hk.1.2) (.slice Ao36 y120.length co36)) (fun _ hk => hk.2) (.slice Ao36 y120.length co36)) (fun _ hk => trivial)), z10, z17, z13⟩
              · rw [if_neg c24] at H
                exact absurd H (by simp)
            · rw [if_neg c23] at H
              have c23b0 : ((x323000_1.length : Int) == 0) = false := beq_eq_false_iff_ne.mpr c23
              have c23b1 : ((x323000_1.length : Int) != 0) = true := bne_iff_ne.mpr c23
              have c23b2 : ¬ (x323000_1 = []) := fun h_ => c23 (by rw [h_]; rfl)
              simp only [Option.some.injEq, Prod.mk.injEq] at H
              obtain ⟨rfl, rfl, rfl⟩ := H
              go_wp2_with (first | ((with_reducible refine gate_dst (N := 25) rfl ?_); refine Kd.R_lit (Kd.int .i64) _ 2 ?hg (N := 25) ?hd (xs := ([2, 2, 3, 4] : List Int)) (inner := [.int .i64 2, .int .i64 2, .int .i64 3, .int .i64 4]) (ok := fun _ => True) (okp := fun _ => True) ?hr ?hp (fun _ hk => hk) trivial (Below.refl _ _) (Nat.le_refl _) (by simp) ?_; (case hd => rfl); (case hg => rfl); (case hr => first | (go_simp; done) | (go_simp; rfl)); (case hp => exact (Reps.one (show Kd.M (Kd.int .i64) _ _ _ 2 [.int .i64 2] from rfl) (Reps.one (show Kd.M (Kd.int .i64) _ _ _ 2 [.int .i64 2] from rfl) (Reps.one (show Kd.M (Kd.int .i64) _ _ _ 3 [.int .i64 3] from rfl) (Reps.one (show Kd.M (Kd.int .i64) _ _ _ 4 [.int .i64 4] from rfl) (Reps.none _ _)))))); intro v121 w40 ho41 hb hg_ hnew_; clear hg_ hnew_; (first | rw [← Ny117.out] at ho41 | (simp only [Int.reduceToNat] at ho41; rw [← Ny117.out] at ho41)); have n0_ := zA (Kd.R_elder' z45 (Kd.R_base ho41) hb); have n1_ := zA (Kd.R_lower (Kd.R_new' ho41 (Kd.R_lt z45)) (keep_size (w := w) (g := g) (row := none) z13)); have n2_ := zBB BK111 hb; have n3_ := zBB BK116 hb; have n4_ := zA (IsS88.below z10 hb); have n5_ := zA (KeepBut.trans z13 (KeepBut.of_below hb g none) (.inl rfl)); have n6_ := zA (below_step z17 hb); clear HO_323000 BK111 BK116 HI0 HK HB; have HO_323000 := n0_; have HO122 := n1_; have BK111 := n2_; have BK116 := n3_; have HI0 := n4_; have HK := n5_; have HB := n6_; clear n0_ n1_ n2_ n3_ n4_ n5_ n6_; clear hb ho41; obtain ⟨Ao42, co42, eo42⟩ := Kd.R_slice HO122.out; subst eo42) | ((with_reducible refine gate_callee (f := 70) rfl ?_); refine goesL_ (some 26) rfl rfl Try.func70 (by kernel_rfl) rfl #[.pointer (some ⟨g, 0, none⟩), .slice Ao42 y117.length co42] rfl z3 ?_; (with_reducible refine (spec_l01Pick.calls g s0_0 x1001_1 x1002_1 _ _ y117 t100 t118 t119 w0 _ ?side1 ?side2 ?side3 ?side4 ?side5 A20.out).mono ?_); (case side1 => exact z10); (case side2 => exact z17); (case side3 => exact z107); (case side4 => exact (Kd.R_reads' HO122.out).2.1); (case side5 => exact far_slice (IsS88.own_ne HI0.out HO122.out (by decide))); rintro e w43 ⟨rfl, hi, hb, hk⟩; refine ⟨_, rfl, ?_⟩; have n0_ := zA (Kd.R_mono (Kd.R_keep (IsS88.apart (show IsS88 w0 _ g s0_0 x1001_1 x1002_1 from z10) z45 (by decide)) hk (fun _ h => h.2)) (fun _ h => h.1)); have n1_ := zKB BK111 hk NB312_0; have n2_ := zKB BK116 hk NB322_0; have n3_ := zA (Kd.R_mono (Kd.R_keep (IsS88.apart (show IsS88 w0 _ g s0_0 x1001_1 x1002_1 from z10) z54 (by decide)) hk (fun _ h => h.2)) (fun _ h => h.1)); have n4_ := zA (KeepBut.trans z13 hk (.inl rfl)); have n5_ := zA (hb); have n6_ := zA (hi); clear HO_323000 BK111 BK116 HO122 HK HB HI0; have HO_323000 := n0_; have BK111 := n1_; have BK116 := n2_; have HO122 := n3_; have HK := n4_; have HB := n5_; have HI0 := n6_; clear n0_ n1_ n2_ n3_ n4_ n5_ n6_; (try clear hb); (try clear hb2); (try clear hk); (try clear hi); have hnb44 := NB116_111.out; have hnc44 := NB111_116.out; have hnb45 := NB322_0.out; have hnc45 := NB0_322.out; obtain ⟨hcz46_0, hfz46_0⟩ := zC1 BK116.out; obtain ⟨Ao47, co47, eo47⟩ := Kd.R_slice HO_323000.out; subst eo47) | ((with_reducible refine gate_callee (f := 60) rfl ?_); refine goesL_ (some 28) rfl rfl Try.func60 (by kernel_rfl) rfl #[.agg #[.slice Ao47 x323000_1.length co47]] rfl z3 ?_; (with_reducible refine (spec_l01N.calls k1 _ _ x323000_1 t101 _ ?side1 ?side2 A21.out).mono ?_); (case side1 => exact z73); (case side2 => exact (Kd.R_reads' HO_323000.out).2.1); rintro e w48 ⟨rfl, hb⟩; refine ⟨_, rfl, ?_⟩; have n0_ := zA (Kd.R_below z45 hb); have n1_ := zA (Kd.R_below z54 hb); have n2_ := zBB BK111 hb; have n3_ := zBB BK116 hb; have n4_ := zA (IsS88.below z10 hb); have n5_ := zA (KeepBut.trans z13 (KeepBut.of_below hb g none) (.inl rfl)); have n6_ := zA (below_step z17 hb); clear HO_323000 HO122 BK111 BK116 HI0 HK HB; have HO_323000 := n0_; have HO122 := n1_; have BK111 := n2_; have BK116 := n3_; have HI0 := n4_; have HK := n5_; have HB := n6_; clear n0_ n1_ n2_ n3_ n4_ n5_ n6_; (try clear hb); (try clear hb2); (try clear hk); (try clear hi); obtain ⟨hcz49_0, hfz49_0⟩ := zC1 BK116.out; have hnb50 := NB312_0.out; have hnc50 := NB0_312.out; obtain ⟨hcz51_0, hfz51_0⟩ := zC1 BK111.out))
              refine bodyPost_ret (results_cell_row rfl _ _ gb111 27 #[.slice Ao47 x323000_1.length co47] (0, 0) _ rfl z85 Try.underlying27 rfl (by kernel_rfl)) rfl ?_
              exact ⟨_, z15, (by (with_reducible repeat (first | apply Kd.R_alloc | apply Kd.R_drewN | apply Kd.R_drew)); exact Kd.R_mono (Kd.R_far (p := ⟨gb111, 0, none⟩) (Kd.R_types HO_323000.out BK111.out (by decide)) (fun _ hk => hk.2) (.slice Ao47 x323000_1.length co47)) (fun _ hk => trivial)), z10, z17, z13⟩
          · rw [if_neg c22] at H
            have c22b0 : decide (a1 < (wrap64 (t101 * t100))) = false := decide_eq_false c22
            clear c22
            by_cases c52 : x323000_1.length < 17592186044416
            · rw [if_pos c52] at H
              have LMc52 := zA c52
              clear c52
              obtain ⟨y125, hy125⟩ : ∃ y_ : List Int, y_ = (x323000_1 ++ [t100]) := ⟨_, rfl⟩
              replace H : (spec_l01DrawOf.l0 k1 a1 t103 (wrap64 (x7_1 - 1)) s0_0 t118 t119 y125) = some (r1, r2, r3) := by first | (rw [hy125]; with_reducible exact H) | (have H2_ := (Option.bind_some _ _).symm.trans H; rw [hy125]; with_reducible exact H2_) | (have H2_ := (Option.bind_some _ _).symm.trans H; with_reducible exact H2_) | with_reducible exact H | (rw [hy125]; exact H) | exact H
              have Ny125 := zA hy125
              clear hy125
              have H' := zA H
              clear H
              go_wp2_with (first | ((with_reducible refine gate_dst (N := 25) rfl ?_); refine Kd.R_lit (Kd.int .i64) _ 2 ?hg (N := 25) ?hd (xs := ([2, 2, 3, 4] : List Int)) (inner := [.int .i64 2, .int .i64 2, .int .i64 3, .int .i64 4]) (ok := fun _ => True) (okp := fun _ => True) ?hr ?hp (fun _ hk => hk) trivial (Below.refl _ _) (Nat.le_refl _) (by simp) ?_; (case hd => rfl); (case hg => rfl); (case hr => first | (go_simp; done) | (go_simp; rfl)); (case hp => exact (Reps.one (show Kd.M (Kd.int .i64) _ _ _ 2 [.int .i64 2] from rfl) (Reps.one (show Kd.M (Kd.int .i64) _ _ _ 2 [.int .i64 2] from rfl) (Reps.one (show Kd.M (Kd.int .i64) _ _ _ 3 [.int .i64 3] from rfl) (Reps.one (show Kd.M (Kd.int .i64) _ _ _ 4 [.int .i64 4] from rfl) (Reps.none _ _)))))); intro v121 w53 ho54 hb hg_ hnew_; clear hg_ hnew_; (first | rw [← Ny117.out] at ho54 | (simp only [Int.reduceToNat] at ho54; rw [← Ny117.out] at ho54)); have n0_ := zA (Kd.R_elder' z45 (Kd.R_base ho54) hb); have n1_ := zA (Kd.R_lower (Kd.R_new' ho54 (Kd.R_lt z45)) (keep_size (w := w) (g := g) (row := none) z13)); have n2_ := zBB BK111 hb; have n3_ := zBB BK116 hb; have n4_ := zA (IsS88.below z10 hb); have n5_ := zA (KeepBut.trans z13 (KeepBut.of_below hb g none) (.inl rfl)); have n6_ := zA (below_step z17 hb); clear HO_323000 BK111 BK116 HI0 HK HB; have HO_323000 := n0_; have HO122 := n1_; have BK111 := n2_; have BK116 := n3_; have HI0 := n4_; have HK := n5_; have HB := n6_; clear n0_ n1_ n2_ n3_ n4_ n5_ n6_; clear hb ho54; obtain ⟨Ao55, co55, eo55⟩ := Kd.R_slice HO122.out; subst eo55) | ((with_reducible refine gate_callee (f := 70) rfl ?_); refine goesL_ (some 26) rfl rfl Try.func70 (by kernel_rfl) rfl #[.pointer (some ⟨g, 0, none⟩), .slice Ao55 y117.length co55] rfl z3 ?_; (with_reducible refine (spec_l01Pick.calls g s0_0 x1001_1 x1002_1 _ _ y117 t100 t118 t119 w0 _ ?side1 ?side2 ?side3 ?side4 ?side5 A20.out).mono ?_); (case side1 => exact z10); (case side2 => exact z17); (case side3 => exact z107); (case side4 => exact (Kd.R_reads' HO122.out).2.1); (case side5 => exact far_slice (IsS88.own_ne HI0.out HO122.out (by decide))); rintro e w56 ⟨rfl, hi, hb, hk⟩; refine ⟨_, rfl, ?_⟩; have n0_ := zA (Kd.R_mono (Kd.R_keep (IsS88.apart (show IsS88 w0 _ g s0_0 x1001_1 x1002_1 from z10) z45 (by decide)) hk (fun _ h => h.2)) (fun _ h => h.1)); have n1_ := zKB BK111 hk NB312_0; have n2_ := zKB BK116 hk NB322_0; have n3_ := zA (Kd.R_mono (Kd.R_keep (IsS88.apart (show IsS88 w0 _ g s0_0 x1001_1 x1002_1 from z10) z54 (by decide)) hk (fun _ h => h.2)) (fun _ h => h.1)); have n4_ := zA (KeepBut.trans z13 hk (.inl rfl)); have n5_ := zA (hb); have n6_ := zA (hi); clear HO_323000 BK111 BK116 HO122 HK HB HI0; have HO_323000 := n0_; have BK111 := n1_; have BK116 := n2_; have HO122 := n3_; have HK := n4_; have HB := n5_; have HI0 := n6_; clear n0_ n1_ n2_ n3_ n4_ n5_ n6_; (try clear hb); (try clear hb2); (try clear hk); (try clear hi); have hnb57 := NB116_111.out; have hnc57 := NB111_116.out; have hnb58 := NB322_0.out; have hnc58 := NB0_322.out; obtain ⟨hcz59_0, hfz59_0⟩ := zC1 BK116.out; obtain ⟨Ao60, co60, eo60⟩ := Kd.R_slice HO_323000.out; subst eo60) | ((with_reducible refine gate_callee (f := 60) rfl ?_); refine goesL_ (some 28) rfl rfl Try.func60 (by kernel_rfl) rfl #[.agg #[.slice Ao60 x323000_1.length co60]] rfl z3 ?_; (with_reducible refine (spec_l01N.calls k1 _ _ x323000_1 t101 _ ?side1 ?side2 A21.out).mono ?_); (case side1 => exact z73); (case side2 => exact (Kd.R_reads' HO_323000.out).2.1); rintro e w61 ⟨rfl, hb⟩; refine ⟨_, rfl, ?_⟩; have n0_ := zA (Kd.R_below z45 hb); have n1_ := zA (Kd.R_below z54 hb); have n2_ := zBB BK111 hb; have n3_ := zBB BK116 hb; have n4_ := zA (IsS88.below z10 hb); have n5_ := zA (KeepBut.trans z13 (KeepBut.of_below hb g none) (.inl rfl)); have n6_ := zA (below_step z17 hb); clear HO_323000 HO122 BK111 BK116 HI0 HK HB; have HO_323000 := n0_; have HO122 := n1_; have BK111 := n2_; have BK116 := n3_; have HI0 := n4_; have HK := n5_; have HB := n6_; clear n0_ n1_ n2_ n3_ n4_ n5_ n6_; (try clear hb); (try clear hb2); (try clear hk); (try clear hi); obtain ⟨hcz62_0, hfz62_0⟩ := zC1 BK116.out) | ((with_reducible refine gate_builtin (b := .append) (xs := #[.tmp 34, .tmp 36]) rfl ?_); at_builtin; refine Kd.R_append (Kd.int .i64) w.heap.size rfl (.tmp 34) (.tmp 36) 25 2 (.int .i64 0) 8 rfl Try.underlying25 info2 rfl (by decide) (by omega) (.slice Ao60 x323000_1.length co60) x323000_1 t100 [.int .i64 t100] (fun k_ => some k_ ≠ (.slice Ao55 y117.length co55 : Value).ownBlock) (fun _ => False) rfl rfl ?aP (fun _ hk => hk.elim) ?aF ?aO (Below.refl _ _) ?aS ?aL ?_; (case aP => exact rfl); (case aF => exact (fun k_ hk => Kd.fresh' (Kd.R_lt z54) k_ hk)); (case aO => exact z153); (case aS => exact (keep_size (w := w) (g := g) (row := none) z13)); (case aL => have := LMc52.out; omega); intro v126 w63 ho hb hg hat; rw [← Ny125.out] at ho; have n0_ := zA (blk_grown (g := gb111) (o := .cells #[.slice none 0 0] 27 (0, 0)) z78 hg (Kd.R_ne HO_323000.out BK111.out (by decide))); have n1_ := zA (blk_grown (g := gb116) (o := .cells #[.slice Ao60 x323000_1.length co60] 27 (0, 0)) z61 hg (Kd.R_ne HO_323000.out BK116.out (by decide))); have n2_ := zA (IsS88.grown z10 hg (IsS88.own_ne HI0.out HO_323000.out (by decide))); have n3_ := zA (Kd.R_after (ok := (fun _ => True)) z54 hg hat); have n4_ := zA (below_weaken z17 HL.out hb); have n5_ := zA (KeepBut.trans z13 (KeepBut.of_grown hg g) (Kd.R_base2 HO_323000.out)); have n6_ := zA (ho); clear BK111 BK116 HI0 HO122 HB HK HO_323000; have BK111 := n0_; have BK116 := n1_; have HI0 := n2_; have HO122 := n3_; have HB := n4_; have HK := n5_; have HO127 := n6_; clear n0_ n1_ n2_ n3_ n4_ n5_ n6_; clear ho hb hg hat; obtain ⟨Ao64, co64, eo64⟩ := Kd.R_slice HO127.out; subst eo64; obtain ⟨hcz65_0, hfz65_0⟩ := zC1 BK116.out))
              go_roundg k1
              case measure => have := HK1.out; omega
              case rel => exact ⟨(wrap64 (x7_1 - 1)), (t118), (t119), (y125), (.slice Ao64 y125.length co64), z16, H', ⟨z99⟩, ⟨(by (with_reducible repeat (first | apply Kd.R_alloc | apply Kd.R_drewN | apply Kd.R_drew)); exact Kd.R_mono (Kd.R_far (p := ⟨gb116, 0, none⟩) (Kd.R_types HO127.out BK116.out (by decide)) (fun _ hk => hk.2) (.slice Ao64 y125.length co64)) (fun _ hk => trivial))⟩, ⟨z88⟩, ⟨(by (with_reducible repeat (first | refine blk_drewN ?_ _ | refine blk_drew ?_ | refine blk_alloc ?_ _)); refine blk_put (cs := #[.slice Ao60 x323000_1.length co60]) ?_ 0 _ rfl; (with_reducible repeat (first | refine blk_drewN ?_ _ | refine blk_drew ?_ | refine blk_alloc ?_ _)); exact BK116.out)⟩, ⟨z10⟩, ⟨z13⟩, ⟨z17⟩⟩
            · rw [if_neg c52] at H
              exact absurd H (by simp)
        · rw [if_neg c19] at H
          have c19b0 : (t103 == 0) = false := beq_eq_false_iff_ne.mpr c19
          have c19b1 : (t103 != 0) = true := bne_iff_ne.mpr c19
          replace H := zi H
          obtain ⟨t102, A660, H⟩ := H
          (try dsimp -simprocs only at H)
          have A66 := zA A660
          clear A660
          by_cases c67 : (wrap64 (t102 * t103)) > a1
          · rw [if_pos c67] at H
            have c67b0 : decide (a1 < (wrap64 (t102 * t103))) = true := decide_eq_true c67
            clear c67
            by_cases c68 : (x323000_1.length : Int) = 0
            · rw [if_pos c68] at H
              have c68b0 : ((x323000_1.length : Int) == 0) = true := beq_iff_eq.mpr c68
              have c68b1 : ((x323000_1.length : Int) != 0) = false := bne_eq_false_iff_eq.mpr c68
              clear c68
              by_cases c69 : x323000_1.length < 17592186044416
              · rw [if_pos c69] at H
                have LMc69 := zA c69
                clear c69
                obtain ⟨y128, hy128⟩ : ∃ y_ : List Int, y_ = (x323000_1 ++ [2]) := ⟨_, rfl⟩
                replace H : (some (y128, x1001_1, x1002_1)) = some (r1, r2, r3) := by first | (rw [hy128]; with_reducible exact H) | (have H2_ := (Option.bind_some _ _).symm.trans H; rw [hy128]; with_reducible exact H2_) | (have H2_ := (Option.bind_some _ _).symm.trans H; with_reducible exact H2_) | with_reducible exact H | (rw [hy128]; exact H) | exact H
                have Ny128 := zA hy128
                clear hy128
                simp only [Option.some.injEq, Prod.mk.injEq] at H
                obtain ⟨rfl, rfl, rfl⟩ := H
                have hnb70 := NB116_111.out
                have hnc70 := NB111_116.out
                have hnb71 := NB322_0.out
                have hnc71 := NB0_322.out
                obtain ⟨hcz72_0, hfz72_0⟩ := zC1 BK116.out
                obtain ⟨Ao73, co73, eo73⟩ := Kd.R_slice HO_323000.out
                subst eo73
                go_wp2_with (first | ((with_reducible refine gate_callee (f := 60) rfl ?_); refine goesL_ (some 28) rfl rfl Try.func60 (by kernel_rfl) rfl #[.agg #[.slice Ao73 x323000_1.length co73]] rfl z3 ?_; (with_reducible refine (spec_l01N.calls k1 _ _ x323000_1 t102 _ ?side1 ?side2 A66.out).mono ?_); (case side1 => exact z73); (case side2 => exact (Kd.R_reads' HO_323000.out).2.1); rintro e w74 ⟨rfl, hb⟩; refine ⟨_, rfl, ?_⟩; have n0_ := zA (Kd.R_below z45 hb); have n1_ := zBB BK111 hb; have n2_ := zBB BK116 hb; have n3_ := zA (IsS88.below z10 hb); have n4_ := zA (KeepBut.trans z13 (KeepBut.of_below hb g none) (.inl rfl)); have n5_ := zA (below_step z17 hb); clear HO_323000 BK111 BK116 HI0 HK HB; have HO_323000 := n0_; have BK111 := n1_; have BK116 := n2_; have HI0 := n3_; have HK := n4_; have HB := n5_; clear n0_ n1_ n2_ n3_ n4_ n5_; (try clear hb); (try clear hb2); (try clear hk); (try clear hi); obtain ⟨hcz75_0, hfz75_0⟩ := zC1 BK116.out) | ((with_reducible refine gate_builtin (b := .append) (xs := #[.tmp 44, .tmp 45]) rfl ?_); at_builtin; refine Kd.R_append (Kd.int .i64) w.heap.size rfl (.tmp 44) (.tmp 45) 25 2 (.int .i64 0) 8 rfl Try.underlying25 info2 rfl (by decide) (by omega) (.slice Ao73 x323000_1.length co73) x323000_1 2 [.int .i64 2] (fun _ => True) (fun _ => False) rfl rfl ?aP (fun _ hk => hk.elim) ?aF ?aO (Below.refl _ _) ?aS ?aL ?_; (case aP => exact rfl); (case aF => exact (fun _ _ => trivial)); (case aO => exact z45); (case aS => exact (keep_size (w := w) (g := g) (row := none) z13)); (case aL => have := LMc69.out; omega); intro v129 w76 ho hb hg hat; rw [← Ny128.out] at ho; have n0_ := zA (blk_grown (g := gb111) (o := .cells #[.slice none 0 0] 27 (0, 0)) z78 hg (Kd.R_ne HO_323000.out BK111.out (by decide))); have n1_ := zA (blk_grown (g := gb116) (o := .cells #[.slice Ao73 x323000_1.length co73] 27 (0, 0)) z61 hg (Kd.R_ne HO_323000.out BK116.out (by decide))); have n2_ := zA (IsS88.grown z10 hg (IsS88.own_ne HI0.out HO_323000.out (by decide))); have n3_ := zA (below_weaken z17 HL.out hb); have n4_ := zA (KeepBut.trans z13 (KeepBut.of_grown hg g) (Kd.R_base2 HO_323000.out)); have n5_ := zA (ho); clear BK111 BK116 HI0 HB HK HO_323000; have BK111 := n0_; have BK116 := n1_; have HI0 := n2_; have HB := n3_; have HK := n4_; have HO130 := n5_; clear n0_ n1_ n2_ n3_ n4_ n5_; clear ho hb hg hat; obtain ⟨Ao77, co77, eo77⟩ := Kd.R_slice HO130.out; subst eo77; obtain ⟨hcz78_0, hfz78_0⟩ := zC1 BK116.out; have hnb79 := NB312_0.out; have hnc79 := NB0_312.out; obtain ⟨hcz80_0, hfz80_0⟩ := zC1 BK111.out))
                refine bodyPost_ret (results_cell_row rfl _ _ gb111 27 #[.slice Ao77 y128.length co77] (0, 0) _ rfl z68 Try.underlying27 rfl (by kernel_rfl)) rfl ?_
                exact ⟨_, z15, (by (with_reducible repeat (first | apply Kd.R_alloc | apply Kd.R_drewN | apply Kd.R_drew)); exact Kd.R_mono (Kd.R_far (p := ⟨gb111, 0, none⟩) (Kd.R_far (p := ⟨gb116, 0, none⟩) (Kd.R_types (Kd.R_types HO130.out BK116.out (by decide)) BK111.out (by decide)) (fun _ hk => hk.1.2) (.slice Ao77 y128.length co77)) (fun _ hk => hk.2) (.slice Ao77 y128.length co77)) (fun _ hk => trivial)), z10, z17, z13⟩
              · rw [if_neg c69] at H
                exact absurd H (by simp)
            · rw [if_neg c68] at H
              have c68b0 : ((x323000_1.length : Int) == 0) = false := beq_eq_false_iff_ne.mpr c68
              have c68b1 : ((x323000_1.length : Int) != 0) = true := bne_iff_ne.mpr c68
              have c68b2 : ¬ (x323000_1 = []) := fun h_ => c68 (by rw [h_]; rfl)
              simp only [Option.some.injEq, Prod.mk.injEq] at H
              obtain ⟨rfl, rfl, rfl⟩ := H
              have hnb81 := NB116_111.out
              have hnc81 := NB111_116.out
              have hnb82 := NB322_0.out
              have hnc82 := NB0_322.out
              obtain ⟨hcz83_0, hfz83_0⟩ := zC1 BK116.out
              obtain ⟨Ao84, co84, eo84⟩ := Kd.R_slice HO_323000.out
              subst eo84
              go_wp2_with (first | ((with_reducible refine gate_callee (f := 60) rfl ?_); refine goesL_ (some 28) rfl rfl Try.func60 (by kernel_rfl) rfl #[.agg #[.slice Ao84 x323000_1.length co84]] rfl z3 ?_; (with_reducible refine (spec_l01N.calls k1 _ _ x323000_1 t102 _ ?side1 ?side2 A66.out).mono ?_); (case side1 => exact z73); (case side2 => exact (Kd.R_reads' HO_323000.out).2.1); rintro e w85 ⟨rfl, hb⟩; refine ⟨_, rfl, ?_⟩; have n0_ := zA (Kd.R_below z45 hb); have n1_ := zBB BK111 hb; have n2_ := zBB BK116 hb; have n3_ := zA (IsS88.below z10 hb); have n4_ := zA (KeepBut.trans z13 (KeepBut.of_below hb g none) (.inl rfl)); have n5_ := zA (below_step z17 hb); clear HO_323000 BK111 BK116 HI0 HK HB; have HO_323000 := n0_; have BK111 := n1_; have BK116 := n2_; have HI0 := n3_; have HK := n4_; have HB := n5_; clear n0_ n1_ n2_ n3_ n4_ n5_; (try clear hb); (try clear hb2); (try clear hk); (try clear hi); obtain ⟨hcz86_0, hfz86_0⟩ := zC1 BK116.out; have hnb87 := NB312_0.out; have hnc87 := NB0_312.out; obtain ⟨hcz88_0, hfz88_0⟩ := zC1 BK111.out))
              refine bodyPost_ret (results_cell_row rfl _ _ gb111 27 #[.slice Ao84 x323000_1.length co84] (0, 0) _ rfl z85 Try.underlying27 rfl (by kernel_rfl)) rfl ?_
              exact ⟨_, z15, (by (with_reducible repeat (first | apply Kd.R_alloc | apply Kd.R_drewN | apply Kd.R_drew)); exact Kd.R_mono (Kd.R_far (p := ⟨gb111, 0, none⟩) (Kd.R_types HO_323000.out BK111.out (by decide)) (fun _ hk => hk.2) (.slice Ao84 x323000_1.length co84)) (fun _ hk => trivial)), z10, z17, z13⟩
          · rw [if_neg c67] at H
            have c67b0 : decide (a1 < (wrap64 (t102 * t103))) = false := decide_eq_false c67
            clear c67
            by_cases c89 : x323000_1.length < 17592186044416
            · rw [if_pos c89] at H
              have LMc89 := zA c89
              clear c89
              obtain ⟨y131, hy131⟩ : ∃ y_ : List Int, y_ = (x323000_1 ++ [t103]) := ⟨_, rfl⟩
              replace H : (spec_l01DrawOf.l0 k1 a1 t103 (wrap64 (x7_1 - 1)) s0_0 x1001_1 x1002_1 y131) = some (r1, r2, r3) := by first | (rw [hy131]; with_reducible exact H) | (have H2_ := (Option.bind_some _ _).symm.trans H; rw [hy131]; with_reducible exact H2_) | (have H2_ := (Option.bind_some _ _).symm.trans H; with_reducible exact H2_) | with_reducible exact H | (rw [hy131]; exact H) | exact H
              have Ny131 := zA hy131
              clear hy131
              have H' := zA H
              clear H
              have hnb90 := NB116_111.out
              have hnc90 := NB111_116.out
              have hnb91 := NB322_0.out
              have hnc91 := NB0_322.out
              obtain ⟨hcz92_0, hfz92_0⟩ := zC1 BK116.out
              obtain ⟨Ao93, co93, eo93⟩ := Kd.R_slice HO_323000.out
              subst eo93
              go_wp2_with (first | ((with_reducible refine gate_callee (f := 60) rfl ?_); refine goesL_ (some 28) rfl rfl Try.func60 (by kernel_rfl) rfl #[.agg #[.slice Ao93 x323000_1.length co93]] rfl z3 ?_; (with_reducible refine (spec_l01N.calls k1 _ _ x323000_1 t102 _ ?side1 ?side2 A66.out).mono ?_); (case side1 => exact z73); (case side2 => exact (Kd.R_reads' HO_323000.out).2.1); rintro e w94 ⟨rfl, hb⟩; refine ⟨_, rfl, ?_⟩; have n0_ := zA (Kd.R_below z45 hb); have n1_ := zBB BK111 hb; have n2_ := zBB BK116 hb; have n3_ := zA (IsS88.below z10 hb); have n4_ := zA (KeepBut.trans z13 (KeepBut.of_below hb g none) (.inl rfl)); have n5_ := zA (below_step z17 hb); clear HO_323000 BK111 BK116 HI0 HK HB; have HO_323000 := n0_; have BK111 := n1_; have BK116 := n2_; have HI0 := n3_; have HK := n4_; have HB := n5_; clear n0_ n1_ n2_ n3_ n4_ n5_; (try clear hb); (try clear hb2); (try clear hk); (try clear hi); obtain ⟨hcz95_0, hfz95_0⟩ := zC1 BK116.out) | ((with_reducible refine gate_builtin (b := .append) (xs := #[.tmp 34, .tmp 36]) rfl ?_); at_builtin; refine Kd.R_append (Kd.int .i64) w.heap.size rfl (.tmp 34) (.tmp 36) 25 2 (.int .i64 0) 8 rfl Try.underlying25 info2 rfl (by decide) (by omega) (.slice Ao93 x323000_1.length co93) x323000_1 t103 [.int .i64 t103] (fun _ => True) (fun _ => False) rfl rfl ?aP (fun _ hk => hk.elim) ?aF ?aO (Below.refl _ _) ?aS ?aL ?_; (case aP => exact rfl); (case aF => exact (fun _ _ => trivial)); (case aO => exact z45); (case aS => exact (keep_size (w := w) (g := g) (row := none) z13)); (case aL => have := LMc89.out; omega); intro v132 w96 ho hb hg hat; rw [← Ny131.out] at ho; have n0_ := zA (blk_grown (g := gb111) (o := .cells #[.slice none 0 0] 27 (0, 0)) z78 hg (Kd.R_ne HO_323000.out BK111.out (by decide))); have n1_ := zA (blk_grown (g := gb116) (o := .cells #[.slice Ao93 x323000_1.length co93] 27 (0, 0)) z61 hg (Kd.R_ne HO_323000.out BK116.out (by decide))); have n2_ := zA (IsS88.grown z10 hg (IsS88.own_ne HI0.out HO_323000.out (by decide))); have n3_ := zA (below_weaken z17 HL.out hb); have n4_ := zA (KeepBut.trans z13 (KeepBut.of_grown hg g) (Kd.R_base2 HO_323000.out)); have n5_ := zA (ho); clear BK111 BK116 HI0 HB HK HO_323000; have BK111 := n0_; have BK116 := n1_; have HI0 := n2_; have HB := n3_; have HK := n4_; have HO133 := n5_; clear n0_ n1_ n2_ n3_ n4_ n5_; clear ho hb hg hat; obtain ⟨Ao97, co97, eo97⟩ := Kd.R_slice HO133.out; subst eo97; obtain ⟨hcz98_0, hfz98_0⟩ := zC1 BK116.out))
              go_roundg k1
              case measure => have := HK1.out; omega
              case rel => exact ⟨(wrap64 (x7_1 - 1)), (x1001_1), (x1002_1), (y131), (.slice Ao97 y131.length co97), z16, H', ⟨z99⟩, ⟨(by (with_reducible repeat (first | apply Kd.R_alloc | apply Kd.R_drewN | apply Kd.R_drew)); exact Kd.R_mono (Kd.R_far (p := ⟨gb116, 0, none⟩) (Kd.R_types HO133.out BK116.out (by decide)) (fun _ hk => hk.2) (.slice Ao97 y131.length co97)) (fun _ hk => trivial))⟩, ⟨z88⟩, ⟨(by (with_reducible repeat (first | refine blk_drewN ?_ _ | refine blk_drew ?_ | refine blk_alloc ?_ _)); refine blk_put (cs := #[.slice Ao93 x323000_1.length co93]) ?_ 0 _ rfl; (with_reducible repeat (first | refine blk_drewN ?_ _ | refine blk_drew ?_ | refine blk_alloc ?_ _)); exact BK116.out)⟩, ⟨z10⟩, ⟨z13⟩, ⟨z17⟩⟩
            · rw [if_neg c89] at H
              exact absurd H (by simp)
      · rw [if_neg c18] at H
        have c18b0 : decide (0 < x7_1) = false := decide_eq_false c18
        clear c18
        by_cases c99 : (x323000_1.length : Int) = 0
        · rw [if_pos c99] at H
          have c99b0 : ((x323000_1.length : Int) == 0) = true := beq_iff_eq.mpr c99
          have c99b1 : ((x323000_1.length : Int) != 0) = false := bne_eq_false_iff_eq.mpr c99
          clear c99
          by_cases c100 : x323000_1.length < 17592186044416
          · rw [if_pos c100] at H
            have LMc100 := zA c100
            clear c100
            obtain ⟨y134, hy134⟩ : ∃ y_ : List Int, y_ = (x323000_1 ++ [2]) := ⟨_, rfl⟩
            replace H : (some (y134, x1001_1, x1002_1)) = some (r1, r2, r3) := by first | (rw [hy134]; with_reducible exact H) | (have H2_ := (Option.bind_some _ _).symm.trans H; rw [hy134]; with_reducible exact H2_) | (have H2_ := (Option.bind_some _ _).symm.trans H; with_reducible exact H2_) | with_reducible exact H | (rw [hy134]; exact H) | exact H
            have Ny134 := zA hy134
            clear hy134
            simp only [Option.some.injEq, Prod.mk.injEq] at H
            obtain ⟨rfl, rfl, rfl⟩ := H
            have hnb101 := NB116_111.out
            have hnc101 := NB111_116.out
            have hnb102 := NB322_0.out
            have hnc102 := NB0_322.out
            obtain ⟨hcz103_0, hfz103_0⟩ := zC1 BK116.out
            obtain ⟨Ao135, co135, eo135⟩ := Kd.R_slice HO_323000.out
            subst eo135
            go_wp2_with (first | ((with_reducible refine gate_builtin (b := .append) (xs := #[.tmp 44, .tmp 45]) rfl ?_); at_builtin; refine Kd.R_append (Kd.int .i64) w.heap.size rfl (.tmp 44) (.tmp 45) 25 2 (.int .i64 0) 8 rfl Try.underlying25 info2 rfl (by decide) (by omega) (.slice Ao135 x323000_1.length co135) x323000_1 2 [.int .i64 2] (fun _ => True) (fun _ => False) rfl rfl ?aP (fun _ hk => hk.elim) ?aF ?aO (Below.refl _ _) ?aS ?aL ?_; (case aP => exact rfl); (case aF => exact (fun _ _ => trivial)); (case aO => exact z45); (case aS => exact (keep_size (w := w) (g := g) (row := none) z13)); (case aL => have := LMc100.out; omega); intro v136 w105 ho hb hg hat; rw [← Ny134.out] at ho; have n0_ := zA (blk_grown (g := gb111) (o := .cells #[.slice none 0 0] 27 (0, 0)) z78 hg (Kd.R_ne HO_323000.out BK111.out (by decide))); have n1_ := zA (blk_grown (g := gb116) (o := .cells #[.slice Ao135 x323000_1.length co135] 27 (0, 0)) z61 hg (Kd.R_ne HO_323000.out BK116.out (by decide))); have n2_ := zA (IsS88.grown z10 hg (IsS88.own_ne HI0.out HO_323000.out (by decide))); have n3_ := zA (below_weaken z17 HL.out hb); have n4_ := zA (KeepBut.trans z13 (KeepBut.of_grown hg g) (Kd.R_base2 HO_323000.out)); have n5_ := zA (ho); clear BK111 BK116 HI0 HB HK HO_323000; have BK111 := n0_; have BK116 := n1_; have HI0 := n2_; have HB := n3_; have HK := n4_; have HO137 := n5_; clear n0_ n1_ n2_ n3_ n4_ n5_; clear ho hb hg hat; obtain ⟨Ao138, co138, eo138⟩ := Kd.R_slice HO137.out; subst eo138; obtain ⟨hcz107_0, hfz107_0⟩ := zC1 BK116.out; have hnb108 := NB312_0.out; have hnc108 := NB0_312.out; obtain ⟨hcz109_0, hfz109_0⟩ := zC1 BK111.out))
            refine bodyPost_ret (results_cell_row rfl _ _ gb111 27 #[.slice Ao138 y134.length co138] (0, 0) _ rfl z68 Try.underlying27 rfl (by kernel_rfl)) rfl ?_
            exact ⟨_, z15, (by (with_reducible repeat (first | apply Kd.R_alloc | apply Kd.R_drewN | apply Kd.R_drew)); exact Kd.R_mono (Kd.R_far (p := ⟨gb111, 0, none⟩) (Kd.R_far (p := ⟨gb116, 0, none⟩) (Kd.R_types (Kd.R_types HO137.out BK116.out (by decide)) BK111.out (by decide)) (fun _ hk => hk.1.2) (.slice Ao138 y134.length co138)) (fun _ hk => hk.2) (.slice Ao138 y134.length co138)) (fun _ hk => trivial)), z10, z17, z13⟩
          · rw [if_neg c100] at H
            exact absurd H (by simp)
        · rw [if_neg c99] at H
          have c99b0 : ((x323000_1.length : Int) == 0) = false := beq_eq_false_iff_ne.mpr c99
          have c99b1 : ((x323000_1.length : Int) != 0) = true := bne_iff_ne.mpr c99
          have c99b2 : ¬ (x323000_1 = []) := fun h_ => c99 (by rw [h_]; rfl)
          simp only [Option.some.injEq, Prod.mk.injEq] at H
          obtain ⟨rfl, rfl, rfl⟩ := H
          have hnb110 := NB116_111.out
          have hnc110 := NB111_116.out
          have hnb111 := NB322_0.out
          have hnc111 := NB0_322.out
          obtain ⟨hcz112_0, hfz112_0⟩ := zC1 BK116.out
          obtain ⟨Ao139, co139, eo139⟩ := Kd.R_slice HO_323000.out
          subst eo139
          have hnb114 := NB312_0.out
          have hnc114 := NB0_312.out
          obtain ⟨hcz115_0, hfz115_0⟩ := zC1 BK111.out
          go_wp2
          refine bodyPost_ret (results_cell_row rfl _ _ gb111 27 #[.slice Ao139 x323000_1.length co139] (0, 0) _ rfl z85 Try.underlying27 rfl (by kernel_rfl)) rfl ?_
          exact ⟨_, z15, (by (with_reducible repeat (first | apply Kd.R_alloc | apply Kd.R_drewN | apply Kd.R_drew)); exact Kd.R_mono (Kd.R_far (p := ⟨gb111, 0, none⟩) (Kd.R_types HO_323000.out BK111.out (by decide)) (fun _ hk => hk.2) (.slice Ao139 x323000_1.length co139)) (fun _ hk => trivial)), z10, z17, z13⟩

/-! ### spec_l01Small: function 86 -/
def spec_l01Small.f (k : Nat) (s0_0 : List Int) (s0_1 : Int) (s0_2 : Int) : Option (List Int × Int × Int) := (spec_l01Pick.f s0_0 s0_1 s0_2 (([8, 27, 81] : List Int))).bind fun bt100 => ((spec_l01DrawOf.f k s0_0 bt100.2.1 bt100.2.2 bt100.1).bind fun bt101 => (some (bt101.1, bt101.2.1, bt101.2.2)))
set_option maxHeartbeats 8000000 in
set_option maxRecDepth 100000 in
theorem spec_l01Small.calls (k : Nat) (g : Nat) (s0_0 : List Int) (s0_1 : Int) (s0_2 : Int) (r1 : List Int) (r2 : Int) (r3 : Int) (w0 w : World) (hI : IsS88 w0 w g s0_0 s0_1 s0_2) (hB : Below w0.heap.size w0 w) (h : spec_l01Small.f k s0_0 s0_1 s0_2 = some (r1, r2, r3)) :
    Calls Try.prog 86 #[.pointer (some ⟨g, 0, none⟩)] w fun e w' => ∃ v0_ : Value, e = .returned (.agg #[v0_]) ∧ Kd.R (Kd.int .i64) 2 w' w.heap.size (fun _ => True) v0_ r1 ∧ IsS88 w0 w' g s0_0 r2 r3 ∧ Below w0.heap.size w0 w' ∧ KeepBut w w' g none := by
  have hu27 := Try.underlying27
  have HI0 := zA hI
  have HK := zA (KeepBut.refl w g none)
  have HL := zA hB.size
  clear hI
  have HW0 := zA hB.size
  have HB := zA hB
  clear hB
  have H := h
  unfold spec_l01Small.f at H
  (try dsimp -simprocs only at H)
  clear h
  obtain ⟨y102, hy102⟩ : ∃ y_ : List Int, y_ = (([8, 27, 81] : List Int)) := ⟨_, rfl⟩
  replace H : ((spec_l01Pick.f s0_0 s0_1 s0_2 y102).bind fun bt100 => ((spec_l01DrawOf.f k s0_0 bt100.2.1 bt100.2.2 bt100.1).bind fun bt101 => (some (bt101.1, bt101.2.1, bt101.2.2)))) = some (r1, r2, r3) := by first | (rw [hy102]; with_reducible exact H) | (have H2_ := (Option.bind_some _ _).symm.trans H; rw [hy102]; with_reducible exact H2_) | (have H2_ := (Option.bind_some _ _).symm.trans H; with_reducible exact H2_) | with_reducible exact H | (rw [hy102]; exact H) | exact H
  have Ny102 := zA hy102
  clear hy102
  replace H := zi H
  obtain ⟨⟨t100, t103, t104⟩, A20, H⟩ := H
  (try dsimp -simprocs only at H)
  have A2 := zA A20
  clear A20
  replace H := zi H
  obtain ⟨⟨t101, t105, t106⟩, A30, H⟩ := H
  replace H : (some (t101, t105, t106)) = some (r1, r2, r3) := H
  have A3 := zA A30
  clear A30
  simp only [Option.some.injEq, Prod.mk.injEq] at H
  obtain ⟨rfl, rfl, rfl⟩ := H
  go_enter Try.func86, Try.ntmps86
  go_wp2_with (first | ((with_reducible refine gate_dst (N := 2) rfl ?_); refine box_event ?hg (N := 2) ?hd (cs := #[.slice none 0 0]) (t := 27) ?hr ?_; (case hd => rfl); (case hg => rfl); (case hr => first | (go_simp; done) | (go_simp; rfl)); intro gb107 hg w4 hbox hb; have n0_ := zA (IsS88.below z20 hb); have n1_ := zA (KeepBut.trans z32 (KeepBut.of_below hb g none) (.inl rfl)); have n2_ := zA (below_step z26 hb); have n3_ := zA (hbox); have n4_ := zA ((z192 : w.heap.size ≤ gb107)); have n5_ := zA ((Nat.le_trans HW0.out (z192 : w.heap.size ≤ gb107) : w0.heap.size ≤ gb107)); have n6_ := zA ((z180 : g ≠ gb107)); have n7_ := zA ((z181 : gb107 ≠ g)); clear HI0 HK HB; have HI0 := n0_; have HK := n1_; have HB := n2_; have BK107 := n3_; have GW107 := n4_; have GE107 := n5_; have NB0_349 := n6_; have NB349_0 := n7_; clear n0_ n1_ n2_ n3_ n4_ n5_ n6_ n7_; clear hb hbox hg) | ((with_reducible refine gate_dst (N := 5) rfl ?_); refine Kd.R_lit (Kd.int .i64) _ 2 ?hg (N := 5) ?hd (xs := ([8, 27, 81] : List Int)) (inner := [.int .i64 8, .int .i64 27, .int .i64 81]) (ok := fun _ => True) (okp := fun _ => True) ?hr ?hp (fun _ hk => hk) trivial (Below.refl _ _) (Nat.le_refl _) (by simp) ?_; (case hd => rfl); (case hg => rfl); (case hr => first | (go_simp; done) | (go_simp; rfl)); (case hp => exact (Reps.one (show Kd.M (Kd.int .i64) _ _ _ 8 [.int .i64 8] from rfl) (Reps.one (show Kd.M (Kd.int .i64) _ _ _ 27 [.int .i64 27] from rfl) (Reps.one (show Kd.M (Kd.int .i64) _ _ _ 81 [.int .i64 81] from rfl) (Reps.none _ _))))); intro v108 w5 ho6 hb hg_ hnew_; clear hg_ hnew_; (first | rw [← Ny102.out] at ho6 | (simp only [Int.reduceToNat] at ho6; rw [← Ny102.out] at ho6)); have n0_ := zA (Kd.R_lower ho6 (keep_size (w := w) (g := g) (row := none) z72)); have n1_ := zA (IsS88.below z66 hb); have n2_ := zBB BK107 hb; have n3_ := zA (KeepBut.trans z72 (KeepBut.of_below hb g none) (.inl rfl)); have n4_ := zA (below_step z84 hb); clear HI0 BK107 HK HB; have HO109 := n0_; have HI0 := n1_; have BK107 := n2_; have HK := n3_; have HB := n4_; clear n0_ n1_ n2_ n3_ n4_; clear hb ho6; obtain ⟨Ao7, co7, eo7⟩ := Kd.R_slice HO109.out; subst eo7) | ((with_reducible refine gate_callee (f := 70) rfl ?_); refine goesL_ (some 6) rfl rfl Try.func70 (by kernel_rfl) rfl #[.pointer (some ⟨g, 0, none⟩), .slice Ao7 y102.length co7] rfl z3 ?_; (with_reducible refine (spec_l01Pick.calls g s0_0 s0_1 s0_2 _ _ y102 t100 t103 t104 w0 _ ?side1 ?side2 ?side3 ?side4 ?side5 A2.out).mono ?_); (case side1 => exact z66); (case side2 => exact z84); (case side3 => exact z131); (case side4 => exact (Kd.R_reads' HO109.out).2.1); (case side5 => exact far_slice (IsS88.own_ne HI0.out HO109.out (by decide))); rintro e w8 ⟨rfl, hi, hb, hk⟩; refine ⟨_, rfl, ?_⟩; have n0_ := zKB BK107 hk NB349_0; have n1_ := zA (Kd.R_mono (Kd.R_keep (IsS88.apart (show IsS88 w0 _ g s0_0 s0_1 s0_2 from z66) z52 (by decide)) hk (fun _ h => h.2)) (fun _ h => h.1)); have n2_ := zA (KeepBut.trans z72 hk (.inl rfl)); have n3_ := zA (hb); have n4_ := zA (hi); clear BK107 HO109 HK HB HI0; have BK107 := n0_; have HO109 := n1_; have HK := n2_; have HB := n3_; have HI0 := n4_; clear n0_ n1_ n2_ n3_ n4_; (try clear hb); (try clear hb2); (try clear hk); (try clear hi)) | ((with_reducible refine gate_callee (f := 94) rfl ?_); refine goesL_ (some 7) rfl rfl Try.func94 (by kernel_rfl) rfl #[.pointer (some ⟨g, 0, none⟩), .int .i64 t100] rfl z3 ?_; (with_reducible refine (spec_l01DrawOf.calls k g s0_0 t103 t104 t100 t101 t105 t106 w0 _ ?side1 ?side2 A3.out).mono ?_); (case side1 => exact z66); (case side2 => exact z84); rintro e w9 ⟨v110, rfl, ho0, hi, hb, hk⟩; refine ⟨_, rfl, ?_⟩; have n0_ := zKB BK107 hk NB349_0; have n1_ := zA (Kd.R_mono (Kd.R_told (Kd.R_oldK (IsS88.apart (show IsS88 w0 _ g s0_0 t103 t104 from z66) z52 (by decide)) hk) (Kd.R_base ho0)) (fun _ h_ => h_.1)); have n2_ := zA (Kd.R_lower (Kd.R_new' ho0 (Kd.R_lt z52)) (keep_size (w := w) (g := g) (row := none) z72)); have n3_ := zA (KeepBut.trans z72 hk (.inl rfl)); have n4_ := zA (hb); have n5_ := zA (hi); clear BK107 HO109 HK HB HI0; have BK107 := n0_; have HO109 := n1_; have HO111 := n2_; have HK := n3_; have HB := n4_; have HI0 := n5_; clear n0_ n1_ n2_ n3_ n4_ n5_; (try clear hb); (try clear hb2); (try clear hk); (try clear hi); (try clear ho0); obtain ⟨Ao10, co10, eo10⟩ := Kd.R_slice HO111.out; subst eo10; have hnb11 := NB349_0.out; have hnc11 := NB0_349.out; obtain ⟨hcz12_0, hfz12_0⟩ := zC1 BK107.out))
  refine bodyPost_ret (results_cell_row rfl _ _ gb107 27 #[.slice Ao10 t101.length co10] (0, 0) _ rfl z60 Try.underlying27 rfl (by kernel_rfl)) rfl ?_
  exact ⟨_, z15, (by (with_reducible repeat (first | apply Kd.R_alloc | apply Kd.R_drewN | apply Kd.R_drew)); exact Kd.R_mono (Kd.R_far (p := ⟨gb107, 0, none⟩) (Kd.R_types HO111.out BK107.out (by decide)) (fun _ hk => hk.2) (.slice Ao10 t101.length co10)) (fun _ hk => trivial)), z66, z84, z72⟩

end Go.Proofs.Ytbfhhjekonafdaa.PFnPairRows
