-- WALKS, by a program and by hand
import Derived.Test.YtbfhhjekonafdaaPFnPairRowsx0
import Derived.Test.YtbfhhjekonafdaaPFnPairRowsx1
import Derived.Test.YtbfhhjekonafdaaPFnPairRowsx4
import Derived.Test.YtbfhhjekonafdaaPFnPairRowsx8
namespace Go.Proofs.Ytbfhhjekonafdaa.PFnPairRows
open Go.RowKit Go.Proofs.Ytbfhhjekonafdaa.DG Go.Proofs.YtbfhhjekonafdaaW.PrintWords Go.Proofs.YtbfhhjekonafdaaW.PrintLast Go.Proofs.YtbfhhjekonafdaaW.PrintMore
attribute [local go_sem] max2_int min2_int max_two min_two max_three min_three max_four min_four   -- for this text's walks alone
set_option linter.unusedVariables false
set_option linter.unusedSimpArgs false

/-! ### spec_l01Bad: function 87 -/
def spec_l01Bad.l0 : Nat → List Int → Int → Int → List Int → Option (List Int × Int × Int)
  | 0, _, _, _, _ => none
  | k + 1, x1000, x1001, x1002, x367000 => if (x367000.length : Int) < 6 then (if x367000.length < 17592186044416 then (spec_l01Bad.l0 k x1000 x1001 x1002 (x367000 ++ [4])) else (none)) else (some (x367000, x1001, x1002))
def spec_l01Bad.f (k : Nat) (s0_0 : List Int) (s0_1 : Int) (s0_2 : Int) (l1_0 : List Int) : Option (List Int × Int × Int) := (spec_l01Own.f l1_0).bind fun t100 => ((spec_l01Next.f s0_0 s0_1 s0_2 50).bind fun bt101 => (if bt101.1 = 0 then (some (([] : List Int), bt101.2.1, bt101.2.2)) else (if bt101.1 = 1 then ((spec_l01Next.f s0_0 bt101.2.1 bt101.2.2 (t100.length : Int)).bind fun bt102 => ((spec_l01Pick.f s0_0 bt102.2.1 bt102.2.2 (([1, 5, 0, (-1), 1099511627776] : List Int))).bind fun bt103 => (if 0 ≤ bt102.1 then (if bt102.1 < (t100.length : Int) then (some ((t100.set (bt102.1 : Int).toNat bt103.1), bt103.2.1, bt103.2.2)) else (none)) else (none)))) else (if bt101.1 = 2 then (spec_l01Bad.l0 k s0_0 bt101.2.1 bt101.2.2 t100) else (some (l1_0, bt101.2.1, bt101.2.2))))))
def spec_l01Bad.T6 : Bool × List (List Nat × List Nat) := (true, [([], []), ([0], [0]), ([], []), ([], []), ([3], [3]), ([4], [4]), ([2, 5], [2, 5]), ([], []), ([], []), ([7, 8, 6], [7, 8]), ([1, 6, 0, 1, 2, 3, 4, 5, 6, 7, 8, 9], [1, 6]), ([10, 9, 9, 0, 1, 2, 3, 4, 5, 6, 7, 8, 9], [9, 10])])
def spec_l01Bad.B6 : List Nat := [0, 1, 0, 0, 8, 24, 60, 0, 0, 508, 1023, 2047]
theorem spec_l01Bad.tab6 : rtab .any (opsOf Try.f87 6) = spec_l01Bad.T6 := by kernel_rfl
theorem spec_l01Bad.bits6 : waitsOk spec_l01Bad.T6.2 spec_l01Bad.B6 = true := by kernel_rfl
set_option maxHeartbeats 8000000 in
set_option maxRecDepth 100000 in
theorem spec_l01Bad.calls (k : Nat) (g : Nat) (s0_0 : List Int) (s0_1 : Int) (s0_2 : Int) (P1_0_ : Nat → Prop) (u9000_ : Value) (l1_0 : List Int) (r1 : List Int) (r2 : Int) (r3 : Int) (w0 w : World) (hI : IsS88 w0 w g s0_0 s0_1 s0_2) (hB : Below w0.heap.size w0 w) (ho1_0 : Kd.R (Kd.int .i64) 2 w w0.heap.size P1_0_ u9000_ l1_0) (h : spec_l01Bad.f k s0_0 s0_1 s0_2 l1_0 = some (r1, r2, r3)) :
    Calls Try.prog 87 #[.pointer (some ⟨g, 0, none⟩), .agg #[u9000_]] w fun e w' => ∃ v0_ : Value, e = .returned (.agg #[v0_]) ∧ Kd.R (Kd.int .i64) 2 w' w0.heap.size (fun k_ => (P1_0_ k_ ∨ w.heap.size ≤ k_)) v0_ r1 ∧ IsS88 w0 w' g s0_0 r2 r3 ∧ Below w0.heap.size w0 w' ∧ Kept w w' (fun k_ => (P1_0_ k_) ∨ k_ = g) := by
  have hu27 := Try.underlying27
  have HO1_0 := zA (show Kd.R (Kd.int .i64) 2 w w0.heap.size (fun k_ => (P1_0_ k_ ∨ w.heap.size ≤ k_)) u9000_ l1_0 from Kd.R_mono ho1_0 (fun k_ hk => (.inl hk)))
  have HI0 := zA hI
  have HL := zA hB.size
  clear hI
  have HK := zA (Kept.refl w (fun k_ => (P1_0_ k_) ∨ k_ = g))
  have HW0 := zA hB.size
  have HB := zA hB
  clear hB
  have H := h
  unfold spec_l01Bad.f at H
  (try dsimp -simprocs only at H)
  clear h
  replace H := zi H
  obtain ⟨t100, A30, H⟩ := H
  (try dsimp -simprocs only at H)
  have A3 := zA A30
  clear A30
  replace H := zi H
  obtain ⟨⟨t101, t104, t105⟩, A40, H⟩ := H
  (try dsimp -simprocs only at H)
  have A4 := zA A40
  clear A40
  by_cases c5 : t101 = 0
  · rw [if_pos c5] at H
    have c5b0 : (t101 == 0) = true := beq_iff_eq.mpr c5
    have c5b1 : (t101 != 0) = false := bne_eq_false_iff_eq.mpr c5
    clear c5
    simp only [Option.some.injEq, Prod.mk.injEq] at H
    obtain ⟨rfl, rfl, rfl⟩ := H
    obtain ⟨Ao6, co6, eo6⟩ := Kd.R_slice HO1_0.out
    subst eo6
    go_enter Try.func87, Try.ntmps87
    go_wp2_with (first | ((with_reducible refine gate_dst (N := 3) rfl ?_); refine box_event ?hg (N := 3) ?hd (cs := #[.slice Ao6 l1_0.length co6]) (t := 27) ?hr ?_; (case hd => rfl); (case hg => rfl); (case hr => first | (go_simp; done) | (go_simp; rfl)); intro gb106 hg w7 hbox hb; have n0_ := zA (Kd.R_below z31 hb); have n1_ := zA (IsS88.below z20 hb); have n2_ := zA (Kept.below (S := (fun k_ => (P1_0_ k_) ∨ k_ = g)) z59 hb); have n3_ := zA (below_step z26 hb); have n4_ := zA (hbox); have n5_ := zA ((z182 : w.heap.size ≤ gb106)); have n6_ := zA ((z204 : w0.heap.size ≤ gb106)); have n7_ := zA ((z180 : g ≠ gb106)); have n8_ := zA ((z181 : gb106 ≠ g)); clear HO1_0 HI0 HK HB; have HO1_0 := n0_; have HI0 := n1_; have HK := n2_; have HB := n3_; have BK106 := n4_; have GW106 := n5_; have GE106 := n6_; have NB0_361 := n7_; have NB361_0 := n8_; clear n0_ n1_ n2_ n3_ n4_ n5_ n6_ n7_ n8_; clear hb hbox hg) | ((with_reducible refine gate_dst (N := 4) rfl ?_); refine box_event ?hg (N := 4) ?hd (cs := #[.slice none 0 0]) (t := 27) ?hr ?_; (case hd => rfl); (case hg => rfl); (case hr => first | (go_simp; done) | (go_simp; rfl)); intro gb107 hg w8 hbox hb; have n0_ := zA (Kd.R_below z31 hb); have n1_ := zA (IsS88.below z34 hb); have n2_ := zBB BK106 hb; have n3_ := zA (Kept.below (S := (fun k_ => (P1_0_ k_) ∨ k_ = g)) z47 hb); have n4_ := zA (below_step z51 hb); have n5_ := zA (hbox); have n6_ := zA ((z183 : w.heap.size ≤ gb107)); have n7_ := zA ((z205 : w0.heap.size ≤ gb107)); have n8_ := zA ((z199 : gb106 ≠ gb107)); have n9_ := zA ((z200 : gb107 ≠ gb106)); have n10_ := zA ((z187 : g ≠ gb107)); have n11_ := zA ((z188 : gb107 ≠ g)); clear HO1_0 HI0 BK106 HK HB; have HO1_0 := n0_; have HI0 := n1_; have BK106 := n2_; have HK := n3_; have HB := n4_; have BK107 := n5_; have GW107 := n6_; have GE107 := n7_; have NB106_107 := n8_; have NB107_106 := n9_; have NB0_362 := n10_; have NB362_0 := n11_; clear n0_ n1_ n2_ n3_ n4_ n5_ n6_ n7_ n8_ n9_ n10_ n11_; clear hb hbox hg; have hnb9 := NB106_107.out; have hnc9 := NB107_106.out; have hnb10 := NB361_0.out; have hnc10 := NB0_361.out; obtain ⟨hcz11_0, hfz11_0⟩ := zC1 BK106.out) | ((with_reducible refine gate_callee (f := 65) rfl ?_); refine goesL_ (some 8) rfl rfl Try.func65 (by kernel_rfl) rfl #[.slice Ao6 l1_0.length co6] rfl z3 ?_; (with_reducible refine (spec_l01Own.calls _ _ l1_0 t100 _ ?side1 ?side2 A3.out).mono ?_); (case side1 => exact z90); (case side2 => exact (Kd.R_reads' HO1_0.out).2.1); rintro e w12 ⟨v108, rfl, ho0, hb⟩; refine ⟨_, rfl, ?_⟩; have n0_ := zA (Kd.R_elder' z31 (Kd.R_base ho0) hb); have n1_ := zA (Kd.R_lower (Kd.R_new' (Kd.R_newM (M := fun k_ => (P1_0_ k_ ∨ w.heap.size ≤ k_)) ho0 z179 (fun k_ h_ => .inr h_)) (Kd.R_lt z31)) (below_size z27)); have n2_ := zA (IsS88.below z25 hb); have n3_ := zBB BK106 hb; have n4_ := zBB BK107 hb; have n5_ := zA (Kept.below (S := (fun k_ => (P1_0_ k_) ∨ k_ = g)) z23 hb); have n6_ := zA (below_step z27 hb); clear HO1_0 HI0 BK106 BK107 HK HB; have HO1_0 := n0_; have HO109 := n1_; have HI0 := n2_; have BK106 := n3_; have BK107 := n4_; have HK := n5_; have HB := n6_; clear n0_ n1_ n2_ n3_ n4_ n5_ n6_; (try clear hb); (try clear hb2); (try clear hk); (try clear hi); (try clear ho0); obtain ⟨Ao13, co13, eo13⟩ := Kd.R_slice HO109.out; subst eo13) | ((with_reducible refine gate_dst (N := 5) rfl ?_); refine box_event ?hg (N := 5) ?hd (cs := #[.slice none 0 0]) (t := 27) ?hr ?_; (case hd => rfl); (case hg => rfl); (case hr => first | (go_simp; done) | (go_simp; rfl)); intro gb110 hg w14 hbox hb; have n0_ := zA (Kd.R_below z31 hb); have n1_ := zA (Kd.R_below z52 hb); have n2_ := zA (IsS88.below z25 hb); have n3_ := zBB BK106 hb; have n4_ := zBB BK107 hb; have n5_ := zA (Kept.below (S := (fun k_ => (P1_0_ k_) ∨ k_ = g)) z23 hb); have n6_ := zA (below_step z27 hb); have n7_ := zA (hbox); have n8_ := zA (((by rw [hg]; exact z179) : w.heap.size ≤ gb110)); have n9_ := zA ((z206 : w0.heap.size ≤ gb110)); have n10_ := zA ((z199 : gb106 ≠ gb110)); have n11_ := zA ((z200 : gb110 ≠ gb106)); have n12_ := zA ((z185 : gb107 ≠ gb110)); have n13_ := zA ((z186 : gb110 ≠ gb107)); have n14_ := zA ((z189 : g ≠ gb110)); have n15_ := zA ((z190 : gb110 ≠ g)); clear HO1_0 HO109 HI0 BK106 BK107 HK HB; have HO1_0 := n0_; have HO109 := n1_; have HI0 := n2_; have BK106 := n3_; have BK107 := n4_; have HK := n5_; have HB := n6_; have BK110 := n7_; have GW110 := n8_; have GE110 := n9_; have NB106_110 := n10_; have NB110_106 := n11_; have NB107_110 := n12_; have NB110_107 := n13_; have NB0_366 := n14_; have NB366_0 := n15_; clear n0_ n1_ n2_ n3_ n4_ n5_ n6_ n7_ n8_ n9_ n10_ n11_ n12_ n13_ n14_ n15_; clear hb hbox hg; have hnb15 := NB110_106.out; have hnc15 := NB106_110.out; have hnb16 := NB110_107.out; have hnc16 := NB107_110.out; have hnb17 := NB366_0.out; have hnc17 := NB0_366.out; obtain ⟨hcz18_0, hfz18_0⟩ := zC1 BK110.out) | ((with_reducible refine gate_callee (f := 69) rfl ?_); refine goesL_ (some 11) rfl rfl Try.func69 (by kernel_rfl) rfl #[.pointer (some ⟨g, 0, none⟩), .int .i64 50] rfl z3 ?_; (with_reducible refine (spec_l01Next.calls g s0_0 s0_1 s0_2 50 t101 t104 t105 w0 _ ?side1 ?side2 A4.out).mono ?_); (case side1 => exact z8); (case side2 => exact z19); rintro e w19 ⟨rfl, hi, hb, hk⟩; refine ⟨_, rfl, ?_⟩; have n0_ := zA (Kd.R_mono (Kd.R_keep (IsS88.apart (show IsS88 w0 _ g s0_0 s0_1 s0_2 from z8) (by (with_reducible repeat (first | apply Kd.R_alloc | apply Kd.R_drewN | apply Kd.R_drew)); exact (Kd.R_mono (Kd.R_far (p := ⟨gb110, 0, none⟩) (Kd.R_types HO1_0.out BK110.out (by decide)) (fun _ hk => hk.2) (.slice Ao13 t100.length co13)) (fun _ h_ => h_.1))) (by decide)) hk (fun _ h => h.2)) (fun _ h => h.1)); have n1_ := zA (KeepBut.blk hk (g' := gb106) (o := .cells #[.slice Ao6 l1_0.length co6] 27 (0, 0)) z64 NB361_0.out (by simp)); have n2_ := zA (KeepBut.blk hk (g' := gb107) (o := .cells #[.slice none 0 0] 27 (0, 0)) z65 NB362_0.out (by simp)); have n3_ := zA (Kd.R_mono (Kd.R_keep (IsS88.apart (show IsS88 w0 _ g s0_0 s0_1 s0_2 from z8) (by (with_reducible repeat (first | apply Kd.R_alloc | apply Kd.R_drewN | apply Kd.R_drew)); exact (Kd.R_mono (Kd.R_far (p := ⟨gb110, 0, none⟩) (Kd.R_types HO109.out BK110.out (by decide)) (fun _ hk => hk.2) (.slice Ao13 t100.length co13)) (fun _ h_ => h_.1))) (by decide)) hk (fun _ h => h.2)) (fun _ h => h.1)); have n4_ := zA (KeepBut.blk hk (g' := gb110) (o := .cells #[.slice Ao13 t100.length co13] 27 (0, 0)) z71 NB366_0.out (by simp)); have n5_ := zA (Kept.of_keep (S := (fun k_ => (P1_0_ k_) ∨ k_ = g)) z18 hk (.inl (.inr rfl))); have n6_ := zA (hb); have n7_ := zA (hi); clear HO1_0 BK106 BK107 HO109 BK110 HK HB HI0; have HO1_0 := n0_; have BK106 := n1_; have BK107 := n2_; have HO109 := n3_; have BK110 := n4_; have HK := n5_; have HB := n6_; have HI0 := n7_; clear n0_ n1_ n2_ n3_ n4_ n5_ n6_ n7_; (try clear hb); (try clear hb2); (try clear hk); (try clear hi); have hnb20 := NB362_0.out; have hnc20 := NB0_362.out; obtain ⟨hcz21_0, hfz21_0⟩ := zC1 BK107.out))
    refine bodyPost_ret (results_cell_row rfl _ _ gb107 27 #[.slice none 0 0] (0, 0) _ rfl z60 Try.underlying27 rfl (by kernel_rfl)) rfl ?_
    exact ⟨_, z15, z89, z8, z19, z18⟩
  · rw [if_neg c5] at H
    have c5b0 : (t101 == 0) = false := beq_eq_false_iff_ne.mpr c5
    have c5b1 : (t101 != 0) = true := bne_iff_ne.mpr c5
    by_cases c22 : t101 = 1
    · rw [if_pos c22] at H
      have c22b0 : (t101 == 1) = true := beq_iff_eq.mpr c22
      have c22b1 : (t101 != 1) = false := bne_eq_false_iff_eq.mpr c22
      clear c22
      replace H := zi H
      obtain ⟨⟨t102, t111, t112⟩, A230, H⟩ := H
      (try dsimp -simprocs only at H)
      have A23 := zA A230
      clear A230
      obtain ⟨y113, hy113⟩ : ∃ y_ : List Int, y_ = (([1, 5, 0, (-1), 1099511627776] : List Int)) := ⟨_, rfl⟩
      replace H : ((spec_l01Pick.f s0_0 t111 t112 y113).bind fun bt103 => (if 0 ≤ t102 then (if t102 < (t100.length : Int) then (some ((t100.set (t102 : Int).toNat bt103.1), bt103.2.1, bt103.2.2)) else (none)) else (none))) = some (r1, r2, r3) := by first | (rw [hy113]; with_reducible exact H) | (have H2_ := (Option.bind_some _ _).symm.trans H; rw [hy113]; with_reducible exact H2_) | (have H2_ := (Option.bind_some _ _).symm.trans H; with_reducible exact H2_) | with_reducible exact H | (rw [hy113]; exact H) | exact H
      have Ny113 := zA hy113
      clear hy113
      replace H := zi H
      obtain ⟨⟨t103, t114, t115⟩, A240, H⟩ := H
      (try dsimp -simprocs only at H)
      have A24 := zA A240
      clear A240
      by_cases c25 : 0 ≤ t102
      · rw [if_pos c25] at H
        have c25b0 : decide (0 ≤ t102) = true := decide_eq_true c25
        clear c25
        by_cases c26 : t102 < (t100.length : Int)
        · rw [if_pos c26] at H
          have c26b0 : decide (t102 < (t100.length : Int)) = true := decide_eq_true c26
          clear c26
          obtain ⟨y116, hy116⟩ : ∃ y_ : List Int, y_ = (t100.set (t102 : Int).toNat t103) := ⟨_, rfl⟩
          replace H : (some (y116, t114, t115)) = some (r1, r2, r3) := by first | (rw [hy116]; with_reducible exact H) | (have H2_ := (Option.bind_some _ _).symm.trans H; rw [hy116]; with_reducible exact H2_) | (have H2_ := (Option.bind_some _ _).symm.trans H; with_reducible exact H2_) | with_reducible exact H | (rw [hy116]; exact H) | exact H
          have Ny116 := zA hy116
          clear hy116
          simp only [Option.some.injEq, Prod.mk.injEq] at H
          obtain ⟨rfl, rfl, rfl⟩ := H
          obtain ⟨Ao28, co28, eo28⟩ := Kd.R_slice HO1_0.out
          subst eo28
          go_enter Try.func87, Try.ntmps87
          try go_wp2_with (first | ((with_reducible refine gate_dst (N := 3) rfl ?_); refine box_event ?hg (N := 3) ?hd (cs := #[.slice Ao28 l1_0.length co28]) (t := 27) ?hr ?_; (case hd => rfl); (case hg => rfl); (case hr => first | (go_simp; done) | (go_simp; rfl)); intro gb106 hg w29 hbox hb; have n0_ := zA (Kd.R_below z31 hb); have n1_ := zA (IsS88.below z20 hb); have n2_ := zA (Kept.below (S := (fun k_ => (P1_0_ k_) ∨ k_ = g)) z59 hb); have n3_ := zA (below_step z26 hb); have n4_ := zA (hbox); have n5_ := zA ((z182 : w.heap.size ≤ gb106)); have n6_ := zA ((z204 : w0.heap.size ≤ gb106)); have n7_ := zA ((z180 : g ≠ gb106)); have n8_ := zA ((z181 : gb106 ≠ g)); clear HO1_0 HI0 HK HB; have HO1_0 := n0_; have HI0 := n1_; have HK := n2_; have HB := n3_; have BK106 := n4_; have GW106 := n5_; have GE106 := n6_; have NB0_361 := n7_; have NB361_0 := n8_; clear n0_ n1_ n2_ n3_ n4_ n5_ n6_ n7_ n8_; clear hb hbox hg) | ((with_reducible refine gate_dst (N := 4) rfl ?_); refine box_event ?hg (N := 4) ?hd (cs := #[.slice none 0 0]) (t := 27) ?hr ?_; (case hd => rfl); (case hg => rfl); (case hr => first | (go_simp; done) | (go_simp; rfl)); intro gb107 hg w30 hbox hb; have n0_ := zA (Kd.R_below z31 hb); have n1_ := zA (IsS88.below z34 hb); have n2_ := zBB BK106 hb; have n3_ := zA (Kept.below (S := (fun k_ => (P1_0_ k_) ∨ k_ = g)) z47 hb); have n4_ := zA (below_step z51 hb); have n5_ := zA (hbox); have n6_ := zA ((z183 : w.heap.size ≤ gb107)); have n7_ := zA ((z205 : w0.heap.size ≤ gb107)); have n8_ := zA ((z193 : gb106 ≠ gb107)); have n9_ := zA ((z194 : gb107 ≠ gb106)); have n10_ := zA ((z187 : g ≠ gb107)); have n11_ := zA ((z188 : gb107 ≠ g)); clear HO1_0 HI0 BK106 HK HB; have HO1_0 := n0_; have HI0 := n1_; have BK106 := n2_; have HK := n3_; have HB := n4_; have BK107 := n5_; have GW107 := n6_; have GE107 := n7_; have NB106_107 := n8_; have NB107_106 := n9_; have NB0_362 := n10_; have NB362_0 := n11_; clear n0_ n1_ n2_ n3_ n4_ n5_ n6_ n7_ n8_ n9_ n10_ n11_; clear hb hbox hg; have hnb31 := NB106_107.out; have hnc31 := NB107_106.out; have hnb32 := NB361_0.out; have hnc32 := NB0_361.out; obtain ⟨hcz33_0, hfz33_0⟩ := zC1 BK106.out) | ((with_reducible refine gate_callee (f := 65) rfl ?_); refine goesL_ (some 8) rfl rfl Try.func65 (by kernel_rfl) rfl #[.slice Ao28 l1_0.length co28] rfl z3 ?_; (with_reducible refine (spec_l01Own.calls _ _ l1_0 t100 _ ?side1 ?side2 A3.out).mono ?_); (case side1 => exact z90); (case side2 => exact (Kd.R_reads' HO1_0.out).2.1); rintro e w34 ⟨v108, rfl, ho0, hb⟩; refine ⟨_, rfl, ?_⟩; have n0_ := zA (Kd.R_elder' z31 (Kd.R_base ho0) hb); have n1_ := zA (Kd.R_lower (Kd.R_new' (Kd.R_newM (M := fun k_ => (P1_0_ k_ ∨ w.heap.size ≤ k_)) ho0 z179 (fun k_ h_ => .inr h_)) (Kd.R_lt z31)) (below_size z27)); have n2_ := zA (IsS88.below z25 hb); have n3_ := zBB BK106 hb; have n4_ := zBB BK107 hb; have n5_ := zA (Kept.below (S := (fun k_ => (P1_0_ k_) ∨ k_ = g)) z23 hb); have n6_ := zA (below_step z27 hb); clear HO1_0 HI0 BK106 BK107 HK HB; have HO1_0 := n0_; have HO109 := n1_; have HI0 := n2_; have BK106 := n3_; have BK107 := n4_; have HK := n5_; have HB := n6_; clear n0_ n1_ n2_ n3_ n4_ n5_ n6_; (try clear hb); (try clear hb2); (try clear hk); (try clear hi); (try clear ho0); obtain ⟨Ao35, co35, eo35⟩ := Kd.R_slice HO109.out; subst eo35) | ((with_reducible refine gate_dst (N := 5) rfl ?_); refine box_event ?hg (N := 5) ?hd (cs := #[.slice none 0 0]) (t := 27) ?hr ?_; (case hd => rfl); (case hg => rfl); (case hr => first | (go_simp; done) | (go_simp; rfl)); intro gb110 hg w36 hbox hb; have n0_ := zA (Kd.R_below z31 hb); have n1_ := zA (Kd.R_below z52 hb); have n2_ := zA (IsS88.below z25 hb); have n3_ := zBB BK106 hb; have n4_ := zBB BK107 hb; have n5_ := zA (Kept.below (S := (fun k_ => (P1_0_ k_) ∨ k_ = g)) z23 hb); have n6_ := zA (below_step z27 hb); have n7_ := zA (hbox); have n8_ := zA (((by rw [hg]; exact z179) : w.heap.size ≤ gb110)); have n9_ := zA ((z206 : w0.heap.size ≤ gb110)); have n10_ := zA ((z193 : gb106 ≠ gb110)); have n11_ := zA ((z194 : gb110 ≠ gb106)); have n12_ := zA ((z185 : gb107 ≠ gb110)); have n13_ := zA ((z186 : gb110 ≠ gb107)); have n14_ := zA ((z189 : g ≠ gb110)); have n15_ := zA ((z190 : gb110 ≠ g)); clear HO1_0 HO109 HI0 BK106 BK107 HK HB; have HO1_0 := n0_; have HO109 := n1_; have HI0 := n2_; have BK106 := n3_; have BK107 := n4_; have HK := n5_; have HB := n6_; have BK110 := n7_; have GW110 := n8_; have GE110 := n9_; have NB106_110 := n10_; have NB110_106 := n11_; have NB107_110 := n12_; have NB110_107 := n13_; have NB0_366 := n14_; have NB366_0 := n15_; clear n0_ n1_ n2_ n3_ n4_ n5_ n6_ n7_ n8_ n9_ n10_ n11_ n12_ n13_ n14_ n15_; clear hb hbox hg; have hnb37 := NB110_106.out; have hnc37 := NB106_110.out; have hnb38 := NB110_107.out; have hnc38 := NB107_110.out; have hnb39 := NB366_0.out; have hnc39 := NB0_366.out; obtain ⟨hcz40_0, hfz40_0⟩ := zC1 BK110.out) | ((with_reducible refine gate_callee (f := 69) rfl ?_); refine goesL_ (some 11) rfl rfl Try.func69 (by kernel_rfl) rfl #[.pointer (some ⟨g, 0, none⟩), .int .i64 50] rfl z3 ?_; (with_reducible refine (spec_l01Next.calls g s0_0 s0_1 s0_2 50 t101 t104 t105 w0 _ ?side1 ?side2 A4.out).mono ?_); (case side1 => exact z8); (case side2 => exact z19); rintro e w41 ⟨rfl, hi, hb, hk⟩; refine ⟨_, rfl, ?_⟩; have n0_ := zA (Kd.R_mono (Kd.R_keep (IsS88.apart (show IsS88 w0 _ g s0_0 s0_1 s0_2 from z8) (by (with_reducible repeat (first | apply Kd.R_alloc | apply Kd.R_drewN | apply Kd.R_drew)); exact (Kd.R_mono (Kd.R_far (p := ⟨gb110, 0, none⟩) (Kd.R_types HO1_0.out BK110.out (by decide)) (fun _ hk => hk.2) (.slice Ao35 t100.length co35)) (fun _ h_ => h_.1))) (by decide)) hk (fun _ h => h.2)) (fun _ h => h.1)); have n1_ := zA (KeepBut.blk hk (g' := gb106) (o := .cells #[.slice Ao28 l1_0.length co28] 27 (0, 0)) z64 NB361_0.out (by simp)); have n2_ := zA (KeepBut.blk hk (g' := gb107) (o := .cells #[.slice none 0 0] 27 (0, 0)) z65 NB362_0.out (by simp)); have n3_ := zA (Kd.R_mono (Kd.R_keep (IsS88.apart (show IsS88 w0 _ g s0_0 s0_1 s0_2 from z8) (by (with_reducible repeat (first | apply Kd.R_alloc | apply Kd.R_drewN | apply Kd.R_drew)); exact (Kd.R_mono (Kd.R_far (p := ⟨gb110, 0, none⟩) (Kd.R_types HO109.out BK110.out (by decide)) (fun _ hk => hk.2) (.slice Ao35 t100.length co35)) (fun _ h_ => h_.1))) (by decide)) hk (fun _ h => h.2)) (fun _ h => h.1)); have n4_ := zA (KeepBut.blk hk (g' := gb110) (o := .cells #[.slice Ao35 t100.length co35] 27 (0, 0)) z71 NB366_0.out (by simp)); have n5_ := zA (Kept.of_keep (S := (fun k_ => (P1_0_ k_) ∨ k_ = g)) z18 hk (.inl (.inr rfl))); have n6_ := zA (hb); have n7_ := zA (hi); clear HO1_0 BK106 BK107 HO109 BK110 HK HB HI0; have HO1_0 := n0_; have BK106 := n1_; have BK107 := n2_; have HO109 := n3_; have BK110 := n4_; have HK := n5_; have HB := n6_; have HI0 := n7_; clear n0_ n1_ n2_ n3_ n4_ n5_ n6_ n7_; (try clear hb); (try clear hb2); (try clear hk); (try clear hi)))
          have n0_ := zA (Kd.R_drew HO1_0.out)
          have n1_ := zA (Kd.R_drew HO109.out)
          have n2_ := zA (blk_drew BK106.out)
          have n3_ := zA (blk_drew BK107.out)
          have n4_ := zA (blk_drew BK110.out)
          have n5_ := zA (IsS88.drew HI0.out)
          have n6_ := zA (Kept.drew HK.out)
          have n7_ := zA (below_drew1 HB.out)
          clear HO1_0 HO109 BK106 BK107 BK110 HI0 HK HB
          have HO1_0 := n0_
          have HO109 := n1_
          have BK106 := n2_
          have BK107 := n3_
          have BK110 := n4_
          have HI0 := n5_
          have HK := n6_
          have HB := n7_
          clear n0_ n1_ n2_ n3_ n4_ n5_ n6_ n7_
          refine start_ (n := 12) (S := fun w' => w'.cell? ⟨gb110, 0, none⟩ = some (.slice Ao35 t100.length co35)) (ds := [11]) #[false, false, false, false, false, false, false, false, false, false, false, false] (by kernel_rfl) rfl rfl ((blk_cell BK110.out 0).trans rfl) (fun hHeld => ?_); refine with_tabW spec_l01Bad.tab6 spec_l01Bad.bits6 (fun HT_ HW_ => ?_)
          generalize w41.drew = w42 at HO1_0 HO109 BK106 BK107 BK110 HI0 HK HB hHeld ⊢
          refine pure_ (i := 0) (N := some 17) (v := ?_) (a' := ?_) #[true, false, false, false, false, false, false, false, false, false, false, false] rfl rfl (any_of HT_.out (by kernel_rfl)) (fun _ _ _ h => h) (Or.inl ⟨(by rfl), ?_⟩) ?_ ?_
          rotate_left
          · exact z35
          rotate_left
          · exact z9
          refine pure_ (i := 2) (N := some 19) (v := ?_) (a' := ?_) #[true, false, true, false, false, false, false, false, false, false, false, false] rfl rfl (any_of HT_.out (by kernel_rfl)) (fun _ _ _ h => h) (Or.inl ⟨(by rfl), ?_⟩) ?_ ?_
          rotate_left
          · exact z35
          rotate_left
          · exact z9
          refine pure_ (i := 3) (N := some 20) (v := ?_) (a' := ?_) #[true, false, true, true, false, false, false, false, false, false, false, false] rfl rfl (any_of HT_.out (by kernel_rfl)) (fun _ _ _ h => h) (Or.inl ⟨(by rfl), ?_⟩) ?_ ?_
          rotate_left
          · exact z35
          rotate_left
          · exact z9
          refine pure_ (i := 7) (N := some 24) (v := ?_) (a' := ?_) #[true, false, true, true, false, false, false, true, false, false, false, false] rfl rfl (any_of HT_.out (by kernel_rfl)) (fun _ _ _ h => h) (Or.inl ⟨(by rfl), ?_⟩) ?_ ?_
          rotate_left
          · exact z35
          rotate_left
          · exact z9
          refine take_ (i := 1) (N := some 18) (v := ?_) (a' := ?_) #[true, true, true, true, false, false, false, true, false, false, false, false] rfl rfl (take_ofW HT_.out HW_.out (by kernel_rfl)) (fun _ _ _ h => h) (Or.inl ⟨(by rfl), ?_⟩) hHeld ?_ ?_
          rotate_left
          · intro w' s0
            go_simp
            with_reducible rfl
          rotate_left
          · exact z9
          refine take_ (i := 4) (N := some 21) (v := ?_) (a' := ?_) #[true, true, true, true, true, false, false, true, false, false, false, false] rfl rfl (take_ofW HT_.out HW_.out (by kernel_rfl)) (fun _ _ _ h => h) (Or.inl ⟨(by rfl), ?_⟩) hHeld ?_ ?_
          rotate_left
          · intro w' s0
            go_simp
            with_reducible rfl
          rotate_left
          · exact z9
          refine pure_ (i := 5) (N := some 22) (v := ?_) (a' := ?_) #[true, true, true, true, true, true, false, true, false, false, false, false] rfl rfl (any_of HT_.out (by kernel_rfl)) (fun _ _ _ h => h) (Or.inl ⟨(by rfl), ?_⟩) ?_ ?_
          rotate_left
          · exact z35
          rotate_left
          · exact z9
          refine join_ (σ := Value) 3 #[true, true, true, true, true, true, true, true, true, false, false, false] (fun s_ => [(23, .int .i64 t102), (25, s_)]) (fun s_ w' => (w'.cell? ⟨gb110, 0, none⟩ = some (.slice Ao35 t100.length co35)) ∧ (Kd.R (Kd.int .i64) 2 w' w0.heap.size (fun k_ => (P1_0_ k_ ∨ w.heap.size ≤ k_) ∧ some k_ ≠ (.slice Ao35 t100.length co35 : Value).ownBlock ∧ some k_ ≠ (s_ : Value).ownBlock) (.slice Ao28 l1_0.length co28) l1_0) ∧ (Kd.R (Kd.int .i64) 2 w' w0.heap.size (fun k_ => (P1_0_ k_ ∨ w.heap.size ≤ k_) ∧ some k_ ≠ (.slice Ao28 l1_0.length co28 : Value).ownBlock ∧ some k_ ≠ (s_ : Value).ownBlock) (.slice Ao35 t100.length co35) t100) ∧ (Kd.R (Kd.int .i64) 2 w' w0.heap.size (fun k_ => (P1_0_ k_ ∨ w.heap.size ≤ k_) ∧ some k_ ≠ (.slice Ao28 l1_0.length co28 : Value).ownBlock ∧ some k_ ≠ (.slice Ao35 t100.length co35 : Value).ownBlock) s_ y113) ∧ (w'.heap[gb106]? = some (.cells #[.slice Ao28 l1_0.length co28] 27 (0, 0))) ∧ (w'.heap[gb107]? = some (.cells #[.slice none 0 0] 27 (0, 0))) ∧ (w'.heap[gb110]? = some (.cells #[.slice Ao35 t100.length co35] 27 (0, 0))) ∧ (IsS88 w0 w' g s0_0 t111 t112) ∧ (Kept w w' (fun k_ => (P1_0_ k_) ∨ k_ = g)) ∧ (Below w0.heap.size w0 w')) ?_ ?_
          rotate_left
          · intro hCont
            refine two_ (i := 6) (j := 8) (Ni := some 23) (Nj := some 25) #[true, true, true, true, true, true, true, true, false, false, false, false] #[true, true, true, true, true, true, false, true, true, false, false, false] rfl rfl rfl rfl (two_of HT_.out (by kernel_rfl)) (by decide) (by decide) (fun K hK => ?_) (fun K hK => ?_)
            · skip
              refine goes_ Try.func69 (by kernel_rfl) rfl #[.pointer (some ⟨g, 0, none⟩), .int .i64 (t100.length : Int)] (by rfl) rfl rfl z3 ?_
              with_reducible refine (spec_l01Next.calls g s0_0 t104 t105 (t100.length : Int) t102 t111 t112 w0 _ ?side1 ?side2 A23.out).mono ?_
              (case side1 => exact z8)
              (case side2 => exact z19)
              rintro e w43 ⟨rfl, hi, hb, hk⟩
              refine ⟨_, rfl, ?_⟩
              have n0_ := zA (Kd.R_mono (Kd.R_keep (IsS88.apart (show IsS88 w0 _ g s0_0 t104 t105 from z8) z31 (by decide)) hk (fun _ h => h.2)) (fun _ h => h.1))
              have n1_ := zKB BK106 hk NB361_0
              have n2_ := zKB BK107 hk NB362_0
              have n3_ := zA (Kd.R_mono (Kd.R_keep (IsS88.apart (show IsS88 w0 _ g s0_0 t104 t105 from z8) z52 (by decide)) hk (fun _ h => h.2)) (fun _ h => h.1))
              have n4_ := zKB BK110 hk NB366_0
              have n5_ := zA (Kept.of_keep (S := (fun k_ => (P1_0_ k_) ∨ k_ = g)) z18 hk (.inl (.inr rfl)))
              have n6_ := zA (hb)
              have n7_ := zA (hi)
              clear HO1_0 BK106 BK107 HO109 BK110 HK HB HI0
              have HO1_0 := n0_
              have BK106 := n1_
              have BK107 := n2_
              have HO109 := n3_
              have BK110 := n4_
              have HK := n5_
              have HB := n6_
              have HI0 := n7_
              clear n0_ n1_ n2_ n3_ n4_ n5_ n6_ n7_
              (try clear hb)
              (try clear hb2)
              (try clear hk)
              (try clear hi)
              refine hK.out _ _ ((blk_cell BK110.out 0).trans rfl) (fun hHeld => ?_)
              clear hK K
              refine norm_ (a' := ?_) ?_ ?_
              rotate_left
              · show Act.put _ (some 23) _ = _
                simp only [Act.put, List.setIfInBounds_toArray, List.set_cons_zero, List.set_cons_succ, i64_w, i32_w]
                rfl
              refine one_ (i := 8) (N := some 25) #[true, true, true, true, true, true, true, true, true, false, false, false] rfl rfl (one_of HT_.out (by kernel_rfl)) (by decide) (fun K hK => ?_)
              refine Kd.R_lit_step (Kd.int .i64) _ 2 ?hg (N := 25) ?hd (xs := ([1, 5, 0, (-1), 1099511627776] : List Int)) (inner := [.int .i64 1, .int .i64 5, .int .i64 0, .int .i64 (-1), .int .i64 1099511627776]) (ok := fun _ => True) (okp := fun _ => True) ?hr ?hp (fun _ hk => hk) trivial (Below.refl _ _) (Nat.le_refl _) (by simp) ?_; (case hd => rfl); (case hg => rfl); (case hr => first | (go_simp; done) | (go_simp; rfl)); (case hp => exact (Reps.one (show Kd.M (Kd.int .i64) _ _ _ 1 [.int .i64 1] from rfl) (Reps.one (show Kd.M (Kd.int .i64) _ _ _ 5 [.int .i64 5] from rfl) (Reps.one (show Kd.M (Kd.int .i64) _ _ _ 0 [.int .i64 0] from rfl) (Reps.one (show Kd.M (Kd.int .i64) _ _ _ (-1) [.int .i64 (-1)] from rfl) (Reps.one (show Kd.M (Kd.int .i64) _ _ _ 1099511627776 [.int .i64 1099511627776] from rfl) (Reps.none _ _)))))))
              intro v117 w44 ho45 hb hg_ hnew_
              clear hg_ hnew_
              (first | rw [← Ny113.out] at ho45 | (simp only [Int.reduceToNat] at ho45; rw [← Ny113.out] at ho45))
              have n0_ := zA (Kd.R_elder' z31 (Kd.R_base ho45) hb)
              have n1_ := zA (Kd.R_elder' z52 (Kd.R_base ho45) hb)
              have n2_ := zA (Kd.R_lower (Kd.R_new' (Kd.R_new' (Kd.R_newM (M := fun k_ => (P1_0_ k_ ∨ w.heap.size ≤ k_)) ho45 z191 (fun k_ h_ => .inr h_)) (Kd.R_lt z31)) (Kd.R_lt z52)) (below_size z19))
              have n3_ := zA (IsS88.below z8 hb)
              have n4_ := zBB BK106 hb
              have n5_ := zBB BK107 hb
              have n6_ := zBB BK110 hb
              have n7_ := zA (Kept.below (S := (fun k_ => (P1_0_ k_) ∨ k_ = g)) z18 hb)
              have n8_ := zA (below_step z19 hb)
              clear HO1_0 HO109 HI0 BK106 BK107 BK110 HK HB
              have HO1_0 := n0_
              have HO109 := n1_
              have HO118 := n2_
              have HI0 := n3_
              have BK106 := n4_
              have BK107 := n5_
              have BK110 := n6_
              have HK := n7_
              have HB := n8_
              clear n0_ n1_ n2_ n3_ n4_ n5_ n6_ n7_ n8_
              clear hb ho45
              refine hK.out _ _ ((blk_cell BK110.out 0).trans rfl) (fun hHeld => ?_)
              clear hK K
              refine norm_ (a' := ?_) ?_ ?_
              rotate_left
              · show Act.put _ (some 25) _ = _
                simp only [Act.put, List.setIfInBounds_toArray, List.set_cons_zero, List.set_cons_succ, i64_w, i32_w]
                rfl
              exact norm_ z168 (hCont (v117) _ ⟨hHeld, z139, z136, z137, z36, z21, z115, z8, z18, z19⟩)
            · skip
              refine Kd.R_lit_step (Kd.int .i64) _ 2 ?hg (N := 25) ?hd (xs := ([1, 5, 0, (-1), 1099511627776] : List Int)) (inner := [.int .i64 1, .int .i64 5, .int .i64 0, .int .i64 (-1), .int .i64 1099511627776]) (ok := fun _ => True) (okp := fun _ => True) ?hr ?hp (fun _ hk => hk) trivial (Below.refl _ _) (Nat.le_refl _) (by simp) ?_; (case hd => rfl); (case hg => rfl); (case hr => first | (go_simp; done) | (go_simp; rfl)); (case hp => exact (Reps.one (show Kd.M (Kd.int .i64) _ _ _ 1 [.int .i64 1] from rfl) (Reps.one (show Kd.M (Kd.int .i64) _ _ _ 5 [.int .i64 5] from rfl) (Reps.one (show Kd.M (Kd.int .i64) _ _ _ 0 [.int .i64 0] from rfl) (Reps.one (show Kd.M (Kd.int .i64) _ _ _ (-1) [.int .i64 (-1)] from rfl) (Reps.one (show Kd.M (Kd.int .i64) _ _ _ 1099511627776 [.int .i64 1099511627776] from rfl) (Reps.none _ _)))))))
              intro v117 w43 ho44 hb hg_ hnew_
              clear hg_ hnew_
              (first | rw [← Ny113.out] at ho44 | (simp only [Int.reduceToNat] at ho44; rw [← Ny113.out] at ho44))
              have n0_ := zA (Kd.R_elder' z31 (Kd.R_base ho44) hb)
              have n1_ := zA (Kd.R_elder' z52 (Kd.R_base ho44) hb)
              have n2_ := zA (Kd.R_lower (Kd.R_new' (Kd.R_new' (Kd.R_newM (M := fun k_ => (P1_0_ k_ ∨ w.heap.size ≤ k_)) ho44 z191 (fun k_ h_ => .inr h_)) (Kd.R_lt z31)) (Kd.R_lt z52)) (below_size z19))
              have n3_ := zA (IsS88.below z8 hb)
              have n4_ := zBB BK106 hb
              have n5_ := zBB BK107 hb
              have n6_ := zBB BK110 hb
              have n7_ := zA (Kept.below (S := (fun k_ => (P1_0_ k_) ∨ k_ = g)) z18 hb)
              have n8_ := zA (below_step z19 hb)
              clear HO1_0 HO109 HI0 BK106 BK107 BK110 HK HB
              have HO1_0 := n0_
              have HO109 := n1_
              have HO118 := n2_
              have HI0 := n3_
              have BK106 := n4_
              have BK107 := n5_
              have BK110 := n6_
              have HK := n7_
              have HB := n8_
              clear n0_ n1_ n2_ n3_ n4_ n5_ n6_ n7_ n8_
              clear hb ho44
              refine hK.out _ _ ((blk_cell BK110.out 0).trans rfl) (fun hHeld => ?_)
              clear hK K
              refine norm_ (a' := ?_) ?_ ?_
              rotate_left
              · show Act.put _ (some 25) _ = _
                simp only [Act.put, List.setIfInBounds_toArray, List.set_cons_zero, List.set_cons_succ, i64_w, i32_w]
                rfl
              refine one_ (i := 6) (N := some 23) #[true, true, true, true, true, true, true, true, true, false, false, false] rfl rfl (one_of HT_.out (by kernel_rfl)) (by decide) (fun K hK => ?_)
              refine goes_ Try.func69 (by kernel_rfl) rfl #[.pointer (some ⟨g, 0, none⟩), .int .i64 (t100.length : Int)] (by rfl) rfl rfl z3 ?_
              with_reducible refine (spec_l01Next.calls g s0_0 t104 t105 (t100.length : Int) t102 t111 t112 w0 _ ?side1 ?side2 A23.out).mono ?_
              (case side1 => exact z8)
              (case side2 => exact z19)
              rintro e w45 ⟨rfl, hi, hb, hk⟩
              refine ⟨_, rfl, ?_⟩
              have n0_ := zA (Kd.R_mono (Kd.R_keep (IsS88.apart (show IsS88 w0 _ g s0_0 t104 t105 from z8) z31 (by decide)) hk (fun _ h => h.2)) (fun _ h => h.1))
              have n1_ := zKB BK106 hk NB361_0
              have n2_ := zKB BK107 hk NB362_0
              have n3_ := zA (Kd.R_mono (Kd.R_keep (IsS88.apart (show IsS88 w0 _ g s0_0 t104 t105 from z8) z52 (by decide)) hk (fun _ h => h.2)) (fun _ h => h.1))
              have n4_ := zKB BK110 hk NB366_0
              have n5_ := zA (Kd.R_mono (Kd.R_keep (IsS88.apart (show IsS88 w0 _ g s0_0 t104 t105 from z8) z105 (by decide)) hk (fun _ h => h.2)) (fun _ h => h.1))
              have n6_ := zA (Kept.of_keep (S := (fun k_ => (P1_0_ k_) ∨ k_ = g)) z18 hk (.inl (.inr rfl)))
              have n7_ := zA (hb)
              have n8_ := zA (hi)
              clear HO1_0 BK106 BK107 HO109 BK110 HO118 HK HB HI0
              have HO1_0 := n0_
              have BK106 := n1_
              have BK107 := n2_
              have HO109 := n3_
              have BK110 := n4_
              have HO118 := n5_
              have HK := n6_
              have HB := n7_
              have HI0 := n8_
              clear n0_ n1_ n2_ n3_ n4_ n5_ n6_ n7_ n8_
              (try clear hb)
              (try clear hb2)
              (try clear hk)
              (try clear hi)
              refine hK.out _ _ ((blk_cell BK110.out 0).trans rfl) (fun hHeld => ?_)
              clear hK K
              refine norm_ (a' := ?_) ?_ ?_
              rotate_left
              · show Act.put _ (some 23) _ = _
                simp only [Act.put, List.setIfInBounds_toArray, List.set_cons_zero, List.set_cons_succ, i64_w, i32_w]
                rfl
              exact norm_ z168 (hCont (v117) _ ⟨hHeld, z139, z136, z137, z36, z21, z115, z8, z18, z19⟩)
          rintro v117 w46 ⟨hS_, h0_, h1_, h2_, h3_, h4_, h5_, h6_, h7_, h8_⟩
          have n0_ : Aside0 (Kd.R (Kd.int .i64) 2 w46 w0.heap.size (fun k_ => (P1_0_ k_ ∨ w.heap.size ≤ k_) ∧ some k_ ≠ (.slice Ao35 t100.length co35 : Value).ownBlock ∧ some k_ ≠ (v117 : Value).ownBlock) (.slice Ao28 l1_0.length co28) l1_0) := ⟨h0_⟩
          have n1_ : Aside0 (Kd.R (Kd.int .i64) 2 w46 w0.heap.size (fun k_ => (P1_0_ k_ ∨ w.heap.size ≤ k_) ∧ some k_ ≠ (.slice Ao28 l1_0.length co28 : Value).ownBlock ∧ some k_ ≠ (v117 : Value).ownBlock) (.slice Ao35 t100.length co35) t100) := ⟨h1_⟩
          have n2_ : Aside0 (Kd.R (Kd.int .i64) 2 w46 w0.heap.size (fun k_ => (P1_0_ k_ ∨ w.heap.size ≤ k_) ∧ some k_ ≠ (.slice Ao28 l1_0.length co28 : Value).ownBlock ∧ some k_ ≠ (.slice Ao35 t100.length co35 : Value).ownBlock) v117 y113) := ⟨h2_⟩
          have n3_ : Aside0 (w46.heap[gb106]? = some (.cells #[.slice Ao28 l1_0.length co28] 27 (0, 0))) := ⟨h3_⟩
          have n4_ : Aside0 (w46.heap[gb107]? = some (.cells #[.slice none 0 0] 27 (0, 0))) := ⟨h4_⟩
          have n5_ : Aside0 (w46.heap[gb110]? = some (.cells #[.slice Ao35 t100.length co35] 27 (0, 0))) := ⟨h5_⟩
          have n6_ : Aside0 (IsS88 w0 w46 g s0_0 t111 t112) := ⟨h6_⟩
          have n7_ : Aside0 (Kept w w46 (fun k_ => (P1_0_ k_) ∨ k_ = g)) := ⟨h7_⟩
          have n8_ : Aside0 (Below w0.heap.size w0 w46) := ⟨h8_⟩
          clear HO1_0 HO109 BK106 BK107 BK110 HI0 HK HB
          clear h0_ h1_ h2_ h3_ h4_ h5_ h6_ h7_ h8_
          have HO1_0 := n0_
          have HO109 := n1_
          have HO118 := n2_
          have BK106 := n3_
          have BK107 := n4_
          have BK110 := n5_
          have HI0 := n6_
          have HK := n7_
          have HB := n8_
          clear n0_ n1_ n2_ n3_ n4_ n5_ n6_ n7_ n8_
          have hHeld : w46.cell? ⟨gb110, 0, none⟩ = some (.slice Ao35 t100.length co35) := hS_
          obtain ⟨Ao47, co47, eo47⟩ := Kd.R_slice HO118.out
          (first | subst eo47 | (injection eo47 with f1_ f2_ f3_; have f4_ := f1_.symm; have f5_ := f3_.symm; clear f1_ f2_ f3_; subst f4_; subst f5_))
          refine norm_ (a' := ?_) ?_ ?_
          rotate_left
          · simp only [putAll, Act.put, List.setIfInBounds_toArray, List.set_cons_zero, List.set_cons_succ]
            rfl
          refine one_ (i := 9) (N := some 26) #[true, true, true, true, true, true, true, true, true, true, false, false] rfl rfl (one_of HT_.out (by kernel_rfl)) (by decide) (fun K hK => ?_)
          refine goes_ Try.func70 (by kernel_rfl) rfl #[.pointer (some ⟨g, 0, none⟩), .slice Ao47 y113.length co47] (by rfl) rfl rfl z3 ?_
          with_reducible refine (spec_l01Pick.calls g s0_0 t111 t112 _ _ y113 t103 t114 t115 w0 _ ?side1 ?side2 ?side3 ?side4 ?side5 A24.out).mono ?_
          (case side1 => exact z8)
          (case side2 => exact z19)
          (case side3 => exact z108)
          (case side4 => exact (Kd.R_reads' HO118.out).2.1)
          (case side5 => exact far_slice (IsS88.own_ne HI0.out HO118.out (by decide)))
          rintro e w48 ⟨rfl, hi, hb, hk⟩
          refine ⟨_, rfl, ?_⟩
          have n0_ := zA (Kd.R_mono (Kd.R_keep (IsS88.apart (show IsS88 w0 _ g s0_0 t111 t112 from z8) z31 (by decide)) hk (fun _ h => h.2)) (fun _ h => h.1))
          have n1_ := zKB BK106 hk NB361_0
          have n2_ := zKB BK107 hk NB362_0
          have n3_ := zA (Kd.R_mono (Kd.R_keep (IsS88.apart (show IsS88 w0 _ g s0_0 t111 t112 from z8) z52 (by decide)) hk (fun _ h => h.2)) (fun _ h => h.1))
          have n4_ := zKB BK110 hk NB366_0
          have n5_ := zA (Kd.R_mono (Kd.R_keep (IsS88.apart (show IsS88 w0 _ g s0_0 t111 t112 from z8) z105 (by decide)) hk (fun _ h => h.2)) (fun _ h => h.1))
          have n6_ := zA (Kept.of_keep (S := (fun k_ => (P1_0_ k_) ∨ k_ = g)) z18 hk (.inl (.inr rfl)))
          have n7_ := zA (hb)
          have n8_ := zA (hi)
          clear HO1_0 BK106 BK107 HO109 BK110 HO118 HK HB HI0
          have HO1_0 := n0_
          have BK106 := n1_
          have BK107 := n2_
          have HO109 := n3_
          have BK110 := n4_
          have HO118 := n5_
          have HK := n6_
          have HB := n7_
          have HI0 := n8_
          clear n0_ n1_ n2_ n3_ n4_ n5_ n6_ n7_ n8_
          (try clear hb)
          (try clear hb2)
          (try clear hk)
          (try clear hi)
          have p27 : 0 ≤ (t102 : Int) := of_decide_eq_true z14
          have q27 : (t102 : Int) < ((t100.length : Int) : Int) := of_decide_eq_true z14
          obtain ⟨go27, co27, eo27, gb27, gl27, cl27, HG27⟩ := Kd.R_form HO109.out (by omega)
          (first | cases eo27 | (injection eo27 with ea_ en_ ec_; (first | subst ea_ | (injection ea_ with ea_; subst ea_)); subst ec_; clear en_))
          have GB27 := zA gb27
          have GG27 := zA HG27
          clear gb27 gl27 HG27
          have HMgo27 := zA (show (P1_0_ go27 ∨ w.heap.size ≤ go27) from (HO109.out.1 _ rfl).1)
          obtain ⟨hx27_0, hf27_0⟩ := Kd.R_celln 0 HO109.out (t102 : Int) p27 q27
          replace p27 := eq_true p27
          replace q27 := eq_true q27
          have HN0_go27 := zA (show g ≠ go27 from by have h_ := IsS88.own_ne HI0.out HO109.out (by decide); intro e_; exact h_ (by rw [e_]; rfl))
          have HP49 := Kd.R_putn HO109.out (t102 : Int) t103
          rw [← Ny116.out] at HP49
          have HQ49 := zA HP49
          clear HP49
          refine hK.out _ _ ((blk_cell BK110.out 0).trans rfl) (fun hHeld => ?_)
          clear hK K
          refine norm_ (a' := ?_) ?_ ?_
          rotate_left
          · show Act.put _ (some 26) _ = _
            simp only [Act.put, List.setIfInBounds_toArray, List.set_cons_zero, List.set_cons_succ, i64_w, i32_w]
            rfl
          refine pure_ (i := 10) (N := some 27) (v := ?_) (a' := ?_) #[true, true, true, true, true, true, true, true, true, true, true, false] rfl rfl (any_of HT_.out (by kernel_rfl)) (fun _ _ _ h => h) (Or.inl ⟨(by rfl), ?_⟩) ?_ ?_
          rotate_left
          · exact z35
          rotate_left
          · exact z9
          refine last_ (i := 11) (N := none) #[true, true, true, true, true, true, true, true, true, true, true, true] rfl rfl (one_of HT_.out (by kernel_rfl)) (by decide) (fun K hK => ?_)
          refine skip_ (w1 := ?_) (by rfl) rfl ?_ ?_
          rotate_left
          · go_simp
            rfl
          refine hK.out _ _ ?_
          clear hK K
          refine done_ (done_of HT_.out (by kernel_rfl)) ?_
          have n0_ : Aside0 (Kd.R (Kd.int .i64) 2 (w48.setCell ⟨go27, (t102 : Int).toNat, none⟩ (.int .i64 t103)) w0.heap.size (fun k_ => (P1_0_ k_ ∨ w.heap.size ≤ k_) ∧ some k_ ≠ (.slice (some ⟨go27, 0, none⟩) t100.length co35 : Value).ownBlock ∧ some k_ ≠ (.slice Ao47 y113.length co47 : Value).ownBlock) (.slice Ao28 l1_0.length co28) l1_0) := ⟨(by (with_reducible repeat (first | apply Kd.R_alloc | apply Kd.R_drewN | apply Kd.R_drew)); exact Kd.R_mono (Kd.R_far (p := ⟨go27, (t102 : Int).toNat, none⟩) (Kd.R_mono HO1_0.out (fun k_ hk => (⟨hk, fun e_ => hk.2.1 (by rw [e_]; rfl)⟩ : _ ∧ k_ ≠ go27))) (fun _ hk => hk.2) (.int .i64 t103)) (fun _ hk => ⟨hk.1.1, ⟨hk.1.2.1, hk.1.2.2⟩⟩))⟩
          have n1_ : Aside0 (Kd.R (Kd.int .i64) 2 (w48.setCell ⟨go27, (t102 : Int).toNat, none⟩ (.int .i64 t103)) w0.heap.size (fun k_ => (P1_0_ k_ ∨ w.heap.size ≤ k_) ∧ some k_ ≠ (.slice Ao28 l1_0.length co28 : Value).ownBlock ∧ some k_ ≠ (.slice Ao47 y113.length co47 : Value).ownBlock) (.slice (some ⟨go27, 0, none⟩) t100.length co35) y116) := ⟨(by (with_reducible repeat (first | apply Kd.R_alloc | apply Kd.R_drewN | apply Kd.R_drew)); exact HQ49.out)⟩
          have n2_ : Aside0 (Kd.R (Kd.int .i64) 2 (w48.setCell ⟨go27, (t102 : Int).toNat, none⟩ (.int .i64 t103)) w0.heap.size (fun k_ => (P1_0_ k_ ∨ w.heap.size ≤ k_) ∧ some k_ ≠ (.slice Ao28 l1_0.length co28 : Value).ownBlock ∧ some k_ ≠ (.slice (some ⟨go27, 0, none⟩) t100.length co35 : Value).ownBlock) (.slice Ao47 y113.length co47) y113) := ⟨(by (with_reducible repeat (first | apply Kd.R_alloc | apply Kd.R_drewN | apply Kd.R_drew)); exact Kd.R_mono (Kd.R_far (p := ⟨go27, (t102 : Int).toNat, none⟩) (Kd.R_mono HO118.out (fun k_ hk => (⟨hk, fun e_ => hk.2.2 (by rw [e_]; rfl)⟩ : _ ∧ k_ ≠ go27))) (fun _ hk => hk.2) (.int .i64 t103)) (fun _ hk => ⟨hk.1.1, ⟨hk.1.2.1, hk.1.2.2⟩⟩))⟩
          have n3_ : Aside0 ((w48.setCell ⟨go27, (t102 : Int).toNat, none⟩ (.int .i64 t103)).heap[gb106]? = some (.cells #[.slice Ao28 l1_0.length co28] 27 (0, 0))) := ⟨(by (with_reducible repeat (first | refine blk_drewN ?_ _ | refine blk_drew ?_ | refine blk_alloc ?_ _)); refine blk_far ?_ (by have h_ := Kd.R_ne HO109.out BK106.out (by decide); intro e_; exact h_ (by rw [e_]; rfl)) _; (with_reducible repeat (first | refine blk_drewN ?_ _ | refine blk_drew ?_ | refine blk_alloc ?_ _)); exact BK106.out)⟩
          have n4_ : Aside0 ((w48.setCell ⟨go27, (t102 : Int).toNat, none⟩ (.int .i64 t103)).heap[gb107]? = some (.cells #[.slice none 0 0] 27 (0, 0))) := ⟨(by (with_reducible repeat (first | refine blk_drewN ?_ _ | refine blk_drew ?_ | refine blk_alloc ?_ _)); refine blk_far ?_ (by have h_ := Kd.R_ne HO109.out BK107.out (by decide); intro e_; exact h_ (by rw [e_]; rfl)) _; (with_reducible repeat (first | refine blk_drewN ?_ _ | refine blk_drew ?_ | refine blk_alloc ?_ _)); exact BK107.out)⟩
          have n5_ : Aside0 ((w48.setCell ⟨go27, (t102 : Int).toNat, none⟩ (.int .i64 t103)).heap[gb110]? = some (.cells #[.slice (some ⟨go27, 0, none⟩) t100.length co35] 27 (0, 0))) := ⟨(by (with_reducible repeat (first | refine blk_drewN ?_ _ | refine blk_drew ?_ | refine blk_alloc ?_ _)); refine blk_far ?_ (by have h_ := Kd.R_ne HO109.out BK110.out (by decide); intro e_; exact h_ (by rw [e_]; rfl)) _; (with_reducible repeat (first | refine blk_drewN ?_ _ | refine blk_drew ?_ | refine blk_alloc ?_ _)); exact BK110.out)⟩
          have n6_ : Aside0 (IsS88 w0 (w48.setCell ⟨go27, (t102 : Int).toNat, none⟩ (.int .i64 t103)) g s0_0 t114 t115) := ⟨(by repeat (first | (with_reducible first | exact HI0.out | apply IsS88.alloc | apply IsS88.drewN | apply IsS88.drew | apply IsS88.set_1 | apply IsS88.set_2 | refine IsS88.far ?_ HN0_go27.out _ | refine IsS88.far ?_ NB0_361.out _ | refine IsS88.far ?_ NB0_362.out _ | refine IsS88.far ?_ NB0_366.out _) | exact HI0.out))⟩
          have n7_ : Aside0 (Kept w (w48.setCell ⟨go27, (t102 : Int).toNat, none⟩ (.int .i64 t103)) (fun k_ => (P1_0_ k_) ∨ k_ = g)) := ⟨(by repeat (first | (with_reducible first | exact HK.out | apply Kept.alloc | apply Kept.drewN | apply Kept.drew | refine Kept.setCell ?_ (Or.imp_left Or.inl HMgo27.out) _ | refine Kept.setCell ?_ (.inl (.inr rfl)) _ | refine Kept.setCell ?_ (.inr GW106.out) _ | refine Kept.setCell ?_ (.inr GW107.out) _ | refine Kept.setCell ?_ (.inr GW110.out) _) | exact HK.out))⟩
          have n8_ : Aside0 (Below w0.heap.size w0 (w48.setCell ⟨go27, (t102 : Int).toNat, none⟩ (.int .i64 t103))) := ⟨(by repeat (first | (with_reducible first | exact HB.out | apply below_alloc | apply pw_below_drewN | apply below_drew1 | refine below_set ?_ GB27.out | refine below_set ?_ (IsS88.ge HI0.out) | refine below_set ?_ GE106.out | refine below_set ?_ GE107.out | refine below_set ?_ GE110.out) | exact HB.out))⟩
          (try clear HO1_0)
          (try clear HO109)
          (try clear HO118)
          (try clear BK106)
          (try clear BK107)
          (try clear BK110)
          (try clear HI0)
          (try clear HK)
          (try clear HB)
          generalize (w48.setCell ⟨go27, (t102 : Int).toNat, none⟩ (.int .i64 t103)) = w50 at n0_ n1_ n2_ n3_ n4_ n5_ n6_ n7_ n8_ ⊢
          have HO1_0 := n0_
          have HO109 := n1_
          have HO118 := n2_
          have BK106 := n3_
          have BK107 := n4_
          have BK110 := n5_
          have HI0 := n6_
          have HK := n7_
          have HB := n8_
          clear n0_ n1_ n2_ n3_ n4_ n5_ n6_ n7_ n8_
          obtain ⟨hcz51_0, hfz51_0⟩ := zC1 BK110.out
          have hnb52 := NB362_0.out
          have hnc52 := NB0_362.out
          obtain ⟨hcz53_0, hfz53_0⟩ := zC1 BK107.out
          try go_wp2
          refine bodyPost_ret (results_cell_row rfl _ _ gb107 27 #[.slice (some ⟨go27, 0, none⟩) t100.length co35] (0, 0) _ rfl z60 Try.underlying27 rfl (by kernel_rfl)) rfl ?_
          exact ⟨_, z15, (by (with_reducible repeat (first | apply Kd.R_alloc | apply Kd.R_drewN | apply Kd.R_drew)); exact Kd.R_mono (Kd.R_far (p := ⟨gb107, 0, none⟩) (Kd.R_types HO109.out BK107.out (by decide)) (fun _ hk => hk.2) (.slice (some ⟨go27, 0, none⟩) t100.length co35)) (fun _ hk => hk.1.1)), z8, z19, z18⟩
        · rw [if_neg c26] at H
          exact absurd H (by simp)
      · rw [if_neg c25] at H
        exact absurd H (by simp)
    · rw [if_neg c22] at H
      have c22b0 : (t101 == 1) = false := beq_eq_false_iff_ne.mpr c22
      have c22b1 : (t101 != 1) = true := bne_iff_ne.mpr c22
      by_cases c54 : t101 = 2
      · rw [if_pos c54] at H
        have c54b0 : (t101 == 2) = true := beq_iff_eq.mpr c54
        have c54b1 : (t101 != 2) = false := bne_eq_false_iff_eq.mpr c54
        clear c54
        have H' := zA H
        clear H
        obtain ⟨Ao55, co55, eo55⟩ := Kd.R_slice HO1_0.out
        subst eo55
        go_enter Try.func87, Try.ntmps87
        go_wp2_with (first | ((with_reducible refine gate_dst (N := 3) rfl ?_); refine box_event ?hg (N := 3) ?hd (cs := #[.slice Ao55 l1_0.length co55]) (t := 27) ?hr ?_; (case hd => rfl); (case hg => rfl); (case hr => first | (go_simp; done) | (go_simp; rfl)); intro gb106 hg w56 hbox hb; have n0_ := zA (Kd.R_below z31 hb); have n1_ := zA (IsS88.below z20 hb); have n2_ := zA (Kept.below (S := (fun k_ => (P1_0_ k_) ∨ k_ = g)) z59 hb); have n3_ := zA (below_step z26 hb); have n4_ := zA (hbox); have n5_ := zA ((z182 : w.heap.size ≤ gb106)); have n6_ := zA ((z204 : w0.heap.size ≤ gb106)); have n7_ := zA ((z180 : g ≠ gb106)); have n8_ := zA ((z181 : gb106 ≠ g)); clear HO1_0 HI0 HK HB; have HO1_0 := n0_; have HI0 := n1_; have HK := n2_; have HB := n3_; have BK106 := n4_; have GW106 := n5_; have GE106 := n6_; have NB0_361 := n7_; have NB361_0 := n8_; clear n0_ n1_ n2_ n3_ n4_ n5_ n6_ n7_ n8_; clear hb hbox hg) | ((with_reducible refine gate_dst (N := 4) rfl ?_); refine box_event ?hg (N := 4) ?hd (cs := #[.slice none 0 0]) (t := 27) ?hr ?_; (case hd => rfl); (case hg => rfl); (case hr => first | (go_simp; done) | (go_simp; rfl)); intro gb107 hg w57 hbox hb; have n0_ := zA (Kd.R_below z31 hb); have n1_ := zA (IsS88.below z34 hb); have n2_ := zBB BK106 hb; have n3_ := zA (Kept.below (S := (fun k_ => (P1_0_ k_) ∨ k_ = g)) z47 hb); have n4_ := zA (below_step z51 hb); have n5_ := zA (hbox); have n6_ := zA ((z183 : w.heap.size ≤ gb107)); have n7_ := zA ((z205 : w0.heap.size ≤ gb107)); have n8_ := zA ((z195 : gb106 ≠ gb107)); have n9_ := zA ((z196 : gb107 ≠ gb106)); have n10_ := zA ((z187 : g ≠ gb107)); have n11_ := zA ((z188 : gb107 ≠ g)); clear HO1_0 HI0 BK106 HK HB; have HO1_0 := n0_; have HI0 := n1_; have BK106 := n2_; have HK := n3_; have HB := n4_; have BK107 := n5_; have GW107 := n6_; have GE107 := n7_; have NB106_107 := n8_; have NB107_106 := n9_; have NB0_362 := n10_; have NB362_0 := n11_; clear n0_ n1_ n2_ n3_ n4_ n5_ n6_ n7_ n8_ n9_ n10_ n11_; clear hb hbox hg; have hnb58 := NB106_107.out; have hnc58 := NB107_106.out; have hnb59 := NB361_0.out; have hnc59 := NB0_361.out; obtain ⟨hcz60_0, hfz60_0⟩ := zC1 BK106.out) | ((with_reducible refine gate_callee (f := 65) rfl ?_); refine goesL_ (some 8) rfl rfl Try.func65 (by kernel_rfl) rfl #[.slice Ao55 l1_0.length co55] rfl z3 ?_; (with_reducible refine (spec_l01Own.calls _ _ l1_0 t100 _ ?side1 ?side2 A3.out).mono ?_); (case side1 => exact z90); (case side2 => exact (Kd.R_reads' HO1_0.out).2.1); rintro e w61 ⟨v108, rfl, ho0, hb⟩; refine ⟨_, rfl, ?_⟩; have n0_ := zA (Kd.R_elder' z31 (Kd.R_base ho0) hb); have n1_ := zA (Kd.R_lower (Kd.R_new' (Kd.R_newM (M := fun k_ => (P1_0_ k_ ∨ w.heap.size ≤ k_)) ho0 z179 (fun k_ h_ => .inr h_)) (Kd.R_lt z31)) (below_size z27)); have n2_ := zA (IsS88.below z25 hb); have n3_ := zBB BK106 hb; have n4_ := zBB BK107 hb; have n5_ := zA (Kept.below (S := (fun k_ => (P1_0_ k_) ∨ k_ = g)) z23 hb); have n6_ := zA (below_step z27 hb); clear HO1_0 HI0 BK106 BK107 HK HB; have HO1_0 := n0_; have HO109 := n1_; have HI0 := n2_; have BK106 := n3_; have BK107 := n4_; have HK := n5_; have HB := n6_; clear n0_ n1_ n2_ n3_ n4_ n5_ n6_; (try clear hb); (try clear hb2); (try clear hk); (try clear hi); (try clear ho0); obtain ⟨Ao62, co62, eo62⟩ := Kd.R_slice HO109.out; subst eo62) | ((with_reducible refine gate_dst (N := 5) rfl ?_); refine box_event ?hg (N := 5) ?hd (cs := #[.slice none 0 0]) (t := 27) ?hr ?_; (case hd => rfl); (case hg => rfl); (case hr => first | (go_simp; done) | (go_simp; rfl)); intro gb110 hg w63 hbox hb; have n0_ := zA (Kd.R_below z31 hb); have n1_ := zA (Kd.R_below z52 hb); have n2_ := zA (IsS88.below z25 hb); have n3_ := zBB BK106 hb; have n4_ := zBB BK107 hb; have n5_ := zA (Kept.below (S := (fun k_ => (P1_0_ k_) ∨ k_ = g)) z23 hb); have n6_ := zA (below_step z27 hb); have n7_ := zA (hbox); have n8_ := zA (((by rw [hg]; exact z179) : w.heap.size ≤ gb110)); have n9_ := zA ((z206 : w0.heap.size ≤ gb110)); have n10_ := zA ((z195 : gb106 ≠ gb110)); have n11_ := zA ((z196 : gb110 ≠ gb106)); have n12_ := zA ((z185 : gb107 ≠ gb110)); have n13_ := zA ((z186 : gb110 ≠ gb107)); have n14_ := zA ((z189 : g ≠ gb110)); have n15_ := zA ((z190 : gb110 ≠ g)); clear HO1_0 HO109 HI0 BK106 BK107 HK HB; have HO1_0 := n0_; have HO109 := n1_; have HI0 := n2_; have BK106 := n3_; have BK107 := n4_; have HK := n5_; have HB := n6_; have BK110 := n7_; have GW110 := n8_; have GE110 := n9_; have NB106_110 := n10_; have NB110_106 := n11_; have NB107_110 := n12_; have NB110_107 := n13_; have NB0_366 := n14_; have NB366_0 := n15_; clear n0_ n1_ n2_ n3_ n4_ n5_ n6_ n7_ n8_ n9_ n10_ n11_ n12_ n13_ n14_ n15_; clear hb hbox hg; have hnb64 := NB110_106.out; have hnc64 := NB106_110.out; have hnb65 := NB110_107.out; have hnc65 := NB107_110.out; have hnb66 := NB366_0.out; have hnc66 := NB0_366.out; obtain ⟨hcz67_0, hfz67_0⟩ := zC1 BK110.out) | ((with_reducible refine gate_callee (f := 69) rfl ?_); refine goesL_ (some 11) rfl rfl Try.func69 (by kernel_rfl) rfl #[.pointer (some ⟨g, 0, none⟩), .int .i64 50] rfl z3 ?_; (with_reducible refine (spec_l01Next.calls g s0_0 s0_1 s0_2 50 t101 t104 t105 w0 _ ?side1 ?side2 A4.out).mono ?_); (case side1 => exact z8); (case side2 => exact z19); rintro e w68 ⟨rfl, hi, hb, hk⟩; refine ⟨_, rfl, ?_⟩; have n0_ := zA (Kd.R_mono (Kd.R_keep (IsS88.apart (show IsS88 w0 _ g s0_0 s0_1 s0_2 from z8) (by (with_reducible repeat (first | apply Kd.R_alloc | apply Kd.R_drewN | apply Kd.R_drew)); exact (Kd.R_mono (Kd.R_far (p := ⟨gb110, 0, none⟩) (Kd.R_types HO1_0.out BK110.out (by decide)) (fun _ hk => hk.2) (.slice Ao62 t100.length co62)) (fun _ h_ => h_.1))) (by decide)) hk (fun _ h => h.2)) (fun _ h => h.1)); have n1_ := zA (KeepBut.blk hk (g' := gb106) (o := .cells #[.slice Ao55 l1_0.length co55] 27 (0, 0)) z64 NB361_0.out (by simp)); have n2_ := zA (KeepBut.blk hk (g' := gb107) (o := .cells #[.slice none 0 0] 27 (0, 0)) z65 NB362_0.out (by simp)); have n3_ := zA (Kd.R_mono (Kd.R_keep (IsS88.apart (show IsS88 w0 _ g s0_0 s0_1 s0_2 from z8) (by (with_reducible repeat (first | apply Kd.R_alloc | apply Kd.R_drewN | apply Kd.R_drew)); exact (Kd.R_mono (Kd.R_far (p := ⟨gb110, 0, none⟩) (Kd.R_types HO109.out BK110.out (by decide)) (fun _ hk => hk.2) (.slice Ao62 t100.length co62)) (fun _ h_ => h_.1))) (by decide)) hk (fun _ h => h.2)) (fun _ h => h.1)); have n4_ := zA (KeepBut.blk hk (g' := gb110) (o := .cells #[.slice Ao62 t100.length co62] 27 (0, 0)) z71 NB366_0.out (by simp)); have n5_ := zA (Kept.of_keep (S := (fun k_ => (P1_0_ k_) ∨ k_ = g)) z18 hk (.inl (.inr rfl))); have n6_ := zA (hb); have n7_ := zA (hi); clear HO1_0 BK106 BK107 HO109 BK110 HK HB HI0; have HO1_0 := n0_; have BK106 := n1_; have BK107 := n2_; have HO109 := n3_; have BK110 := n4_; have HK := n5_; have HB := n6_; have HI0 := n7_; clear n0_ n1_ n2_ n3_ n4_ n5_ n6_ n7_; (try clear hb); (try clear hb2); (try clear hk); (try clear hi)))
        go_loopg [] k (fun kq w' => ∃ (x367000_1 : List Int) (u367000 : Value), Aside0 (spec_l01Bad.l0 kq s0_0 t104 t105 x367000_1 = some (r1, r2, r3)) ∧ Aside0 (kq ≤ k) ∧ Aside0 (Kd.R (Kd.int .i64) 2 w' w0.heap.size (fun k_ => (P1_0_ k_ ∨ w.heap.size ≤ k_) ∧ some k_ ≠ (u367000 : Value).ownBlock) (.slice Ao55 l1_0.length co55) l1_0) ∧ Aside0 (Kd.R (Kd.int .i64) 2 w' w0.heap.size (fun k_ => (P1_0_ k_ ∨ w.heap.size ≤ k_) ∧ some k_ ≠ ((.slice Ao55 l1_0.length co55) : Value).ownBlock) u367000 x367000_1) ∧ Aside0 (w'.heap[gb106]? = some (.cells #[(.slice Ao55 l1_0.length co55)] 27 (0, 0))) ∧ Aside0 (w'.heap[gb107]? = some (.cells #[(.slice none 0 0)] 27 (0, 0))) ∧ Aside0 (w'.heap[gb110]? = some (.cells #[u367000] 27 (0, 0))) ∧ Aside0 (IsS88 w0 w' g s0_0 t104 t105) ∧ Aside0 (Kept w w' (fun k_ => (P1_0_ k_) ∨ k_ = g)) ∧ Aside0 (Below w0.heap.size w0 w'))
        case atStart => exact ⟨(t100), (.slice Ao62 t100.length co62), H', ⟨Nat.le_refl _⟩, ⟨z31⟩, ⟨(by (with_reducible repeat (first | apply Kd.R_alloc | apply Kd.R_drewN | apply Kd.R_drew)); exact Kd.R_mono HO109.out (fun _ hk => ⟨hk.1.1, hk.2⟩))⟩, ⟨z36⟩, ⟨z21⟩, ⟨z115⟩, ⟨z8⟩, ⟨z18⟩, ⟨z19⟩⟩
        case round =>
          clear H'
          try clear c1
          try clear c2
          try clear p2
          try clear q2
          try clear hx2
          try clear hf2
          try clear c3
          try clear c5
          try clear c5b0
          try clear c5b1
          try clear c6
          try clear c7
          try clear c8
          try clear c9
          try clear c10
          try clear c15
          try clear c16
          try clear c17
          try clear c20
          try clear c22
          try clear c22b0
          try clear c22b1
          try clear c25
          try clear c25b0
          try clear c26
          try clear c26b0
          try clear p27
          try clear q27
          try clear hx27
          try clear hf27
          try clear c31
          try clear c32
          try clear c37
          try clear c38
          try clear c39
          try clear c52
          try clear c54
          try clear c54b0
          try clear c54b1
          try clear c58
          try clear c59
          try clear c64
          try clear c65
          try clear c66
          try clear hcz11_0
          try clear hcz18_0
          try clear hcz21_0
          try clear hcz33_0
          try clear hcz40_0
          try clear hcz51_0
          try clear hcz53_0
          try clear hcz60_0
          try clear hcz67_0
          try clear hfz11_0
          try clear hfz18_0
          try clear hfz21_0
          try clear hfz33_0
          try clear hfz40_0
          try clear hfz51_0
          try clear hfz53_0
          try clear hfz60_0
          try clear hfz67_0
          try clear hx27_0
          try clear p27
          try clear q27
          obtain ⟨x367000_1, u367000, HA, HK1, HO_362000, HO_367000, BK106, BK107, BK110, HI0, HK, HB⟩ := hrel
          cases gk with
          | zero => exact absurd HA.out (by simp [spec_l01Bad.l0])
          | succ k1 =>
            have H := HA.out
            clear HA
            simp only [spec_l01Bad.l0] at H
            by_cases c69 : (x367000_1.length : Int) < 6
            · rw [if_pos c69] at H
              have c69b0 : decide ((x367000_1.length : Int) < 6) = true := decide_eq_true c69
              have c69b1 : decide (x367000_1.length < 6) = true := decide_eq_true (by omega)
              clear c69
              by_cases c70 : x367000_1.length < 17592186044416
              · rw [if_pos c70] at H
                have LMc70 := zA c70
                clear c70
                obtain ⟨y119, hy119⟩ : ∃ y_ : List Int, y_ = (x367000_1 ++ [4]) := ⟨_, rfl⟩
                replace H : (spec_l01Bad.l0 k1 s0_0 t104 t105 y119) = some (r1, r2, r3) := by first | (rw [hy119]; with_reducible exact H) | (have H2_ := (Option.bind_some _ _).symm.trans H; rw [hy119]; with_reducible exact H2_) | (have H2_ := (Option.bind_some _ _).symm.trans H; with_reducible exact H2_) | with_reducible exact H | (rw [hy119]; exact H) | exact H
                have Ny119 := zA hy119
                clear hy119
                have H' := zA H
                clear H
                have hnb71 := NB110_106.out
                have hnc71 := NB106_110.out
                have hnb72 := NB110_107.out
                have hnc72 := NB107_110.out
                have hnb73 := NB366_0.out
                have hnc73 := NB0_366.out
                obtain ⟨hcz74_0, hfz74_0⟩ := zC1 BK110.out
                obtain ⟨Ao75, co75, eo75⟩ := Kd.R_slice HO_367000.out
                subst eo75
                go_wp2_with (first | ((with_reducible refine gate_builtin (b := .append) (xs := #[.tmp 36, .tmp 37]) rfl ?_); at_builtin; refine Kd.R_append (Kd.int .i64) (w0 := w0) w0.heap.size rfl (.tmp 36) (.tmp 37) 25 2 (.int .i64 0) 8 rfl Try.underlying25 info2 rfl (by decide) (by omega) (.slice Ao75 x367000_1.length co75) x367000_1 4 [.int .i64 4] (fun k_ => (P1_0_ k_ ∨ w.heap.size ≤ k_) ∧ some k_ ≠ (.slice Ao55 l1_0.length co55 : Value).ownBlock) (fun _ => False) rfl rfl ?aP (fun _ hk => hk.elim) ?aF ?aO ?aB ?aS ?aL ?_; (case aP => exact rfl); (case aB => exact z19); (case aF => exact (fun k_ hk => ⟨(.inr (Nat.le_trans z191 hk)), Kd.fresh' (Kd.R_lt z159) k_ hk⟩)); (case aO => exact (by (with_reducible repeat (first | apply Kd.R_alloc | apply Kd.R_drewN | apply Kd.R_drew)); exact HO_367000.out)); (case aS => exact (below_size z19)); (case aL => have := LMc70.out; omega); intro v120 w76 ho hb hg hat; rw [← Ny119.out] at ho; have n0_ := zA (Kd.R_after (ok := (fun k_ => (P1_0_ k_ ∨ w.heap.size ≤ k_))) z159 hg hat); have n1_ := zA (blk_grown (g := gb106) (o := .cells #[.slice Ao55 l1_0.length co55] 27 (0, 0)) z36 hg (Kd.R_ne HO_367000.out BK106.out (by decide))); have n2_ := zA (blk_grown (g := gb107) (o := .cells #[.slice none 0 0] 27 (0, 0)) z21 hg (Kd.R_ne HO_367000.out BK107.out (by decide))); have n3_ := zA (blk_grown (g := gb110) (o := .cells #[.slice Ao75 x367000_1.length co75] 27 (0, 0)) z115 hg (Kd.R_ne HO_367000.out BK110.out (by decide))); have n4_ := zA (IsS88.grown z8 hg (IsS88.own_ne HI0.out HO_367000.out (by decide))); have n5_ := zA (hb); have n6_ := zA (Kept.of_grown (S := (fun k_ => (P1_0_ k_) ∨ k_ = g)) hg z18 (fun k_ e_ => Or.imp_left Or.inl ((HO_367000.out.1 k_ e_).1))); have n7_ := zA (ho); clear HO_362000 BK106 BK107 BK110 HI0 HB HK HO_367000; have HO_362000 := n0_; have BK106 := n1_; have BK107 := n2_; have BK110 := n3_; have HI0 := n4_; have HB := n5_; have HK := n6_; have HO121 := n7_; clear n0_ n1_ n2_ n3_ n4_ n5_ n6_ n7_; clear ho hb hg hat; obtain ⟨Ao77, co77, eo77⟩ := Kd.R_slice HO121.out; subst eo77; obtain ⟨hcz78_0, hfz78_0⟩ := zC1 BK110.out))
                go_roundg k1
                case measure => have := HK1.out; omega
                case rel => exact ⟨(y119), (.slice Ao77 y119.length co77), H', ⟨z99⟩, ⟨(by (with_reducible repeat (first | apply Kd.R_alloc | apply Kd.R_drewN | apply Kd.R_drew)); exact Kd.R_mono (Kd.R_far (p := ⟨gb110, 0, none⟩) (Kd.R_types HO_362000.out BK110.out (by decide)) (fun _ hk => hk.2) (.slice Ao77 y119.length co77)) (fun _ hk => ⟨hk.1.1, hk.1.2⟩))⟩, ⟨(by (with_reducible repeat (first | apply Kd.R_alloc | apply Kd.R_drewN | apply Kd.R_drew)); exact Kd.R_mono (Kd.R_far (p := ⟨gb110, 0, none⟩) (Kd.R_types HO121.out BK110.out (by decide)) (fun _ hk => hk.2) (.slice Ao77 y119.length co77)) (fun _ hk => ⟨hk.1.1, hk.1.2⟩))⟩, ⟨z64⟩, ⟨z65⟩, ⟨(by (with_reducible repeat (first | refine blk_drewN ?_ _ | refine blk_drew ?_ | refine blk_alloc ?_ _)); refine blk_put (cs := #[.slice Ao75 x367000_1.length co75]) ?_ 0 _ rfl; (with_reducible repeat (first | refine blk_drewN ?_ _ | refine blk_drew ?_ | refine blk_alloc ?_ _)); exact BK110.out)⟩, ⟨z8⟩, ⟨z18⟩, ⟨z19⟩⟩
              · rw [if_neg c70] at H
                exact absurd H (by simp)
            · rw [if_neg c69] at H
              have c69b0 : decide ((x367000_1.length : Int) < 6) = false := decide_eq_false c69
              have c69b1 : decide (x367000_1.length < 6) = false := decide_eq_false (by omega)
              clear c69
              simp only [Option.some.injEq, Prod.mk.injEq] at H
              obtain ⟨rfl, rfl, rfl⟩ := H
              have hnb79 := NB110_106.out
              have hnc79 := NB106_110.out
              have hnb80 := NB110_107.out
              have hnc80 := NB107_110.out
              have hnb81 := NB366_0.out
              have hnc81 := NB0_366.out
              obtain ⟨hcz82_0, hfz82_0⟩ := zC1 BK110.out
              obtain ⟨Ao83, co83, eo83⟩ := Kd.R_slice HO_367000.out
              subst eo83
              have hnb84 := NB107_106.out
              have hnc84 := NB106_107.out
              have hnb85 := NB362_0.out
              have hnc85 := NB0_362.out
              obtain ⟨hcz86_0, hfz86_0⟩ := zC1 BK107.out
              go_wp2
              refine bodyPost_ret (results_cell_row rfl _ _ gb107 27 #[.slice Ao83 x367000_1.length co83] (0, 0) _ rfl z60 Try.underlying27 rfl (by kernel_rfl)) rfl ?_
              exact ⟨_, z15, (by (with_reducible repeat (first | apply Kd.R_alloc | apply Kd.R_drewN | apply Kd.R_drew)); exact Kd.R_mono (Kd.R_far (p := ⟨gb107, 0, none⟩) (Kd.R_types HO_367000.out BK107.out (by decide)) (fun _ hk => hk.2) (.slice Ao83 x367000_1.length co83)) (fun _ hk => hk.1.1)), z8, z19, z18⟩
      · rw [if_neg c54] at H
        have c54b0 : (t101 == 2) = false := beq_eq_false_iff_ne.mpr c54
        have c54b1 : (t101 != 2) = true := bne_iff_ne.mpr c54
        simp only [Option.some.injEq, Prod.mk.injEq] at H
        obtain ⟨rfl, rfl, rfl⟩ := H
        obtain ⟨Ao87, co87, eo87⟩ := Kd.R_slice HO1_0.out
        subst eo87
        go_enter Try.func87, Try.ntmps87
        go_wp2_with (first | ((with_reducible refine gate_dst (N := 3) rfl ?_); refine box_event ?hg (N := 3) ?hd (cs := #[.slice Ao87 l1_0.length co87]) (t := 27) ?hr ?_; (case hd => rfl); (case hg => rfl); (case hr => first | (go_simp; done) | (go_simp; rfl)); intro gb106 hg w88 hbox hb; have n0_ := zA (Kd.R_below z31 hb); have n1_ := zA (IsS88.below z20 hb); have n2_ := zA (Kept.below (S := (fun k_ => (P1_0_ k_) ∨ k_ = g)) z59 hb); have n3_ := zA (below_step z26 hb); have n4_ := zA (hbox); have n5_ := zA ((z182 : w.heap.size ≤ gb106)); have n6_ := zA ((z204 : w0.heap.size ≤ gb106)); have n7_ := zA ((z180 : g ≠ gb106)); have n8_ := zA ((z181 : gb106 ≠ g)); clear HO1_0 HI0 HK HB; have HO1_0 := n0_; have HI0 := n1_; have HK := n2_; have HB := n3_; have BK106 := n4_; have GW106 := n5_; have GE106 := n6_; have NB0_361 := n7_; have NB361_0 := n8_; clear n0_ n1_ n2_ n3_ n4_ n5_ n6_ n7_ n8_; clear hb hbox hg) | ((with_reducible refine gate_dst (N := 4) rfl ?_); refine box_event ?hg (N := 4) ?hd (cs := #[.slice none 0 0]) (t := 27) ?hr ?_; (case hd => rfl); (case hg => rfl); (case hr => first | (go_simp; done) | (go_simp; rfl)); intro gb107 hg w89 hbox hb; have n0_ := zA (Kd.R_below z31 hb); have n1_ := zA (IsS88.below z34 hb); have n2_ := zBB BK106 hb; have n3_ := zA (Kept.below (S := (fun k_ => (P1_0_ k_) ∨ k_ = g)) z47 hb); have n4_ := zA (below_step z51 hb); have n5_ := zA (hbox); have n6_ := zA ((z183 : w.heap.size ≤ gb107)); have n7_ := zA ((z205 : w0.heap.size ≤ gb107)); have n8_ := zA ((z197 : gb106 ≠ gb107)); have n9_ := zA ((z198 : gb107 ≠ gb106)); have n10_ := zA ((z187 : g ≠ gb107)); have n11_ := zA ((z188 : gb107 ≠ g)); clear HO1_0 HI0 BK106 HK HB; have HO1_0 := n0_; have HI0 := n1_; have BK106 := n2_; have HK := n3_; have HB := n4_; have BK107 := n5_; have GW107 := n6_; have GE107 := n7_; have NB106_107 := n8_; have NB107_106 := n9_; have NB0_362 := n10_; have NB362_0 := n11_; clear n0_ n1_ n2_ n3_ n4_ n5_ n6_ n7_ n8_ n9_ n10_ n11_; clear hb hbox hg; have hnb90 := NB106_107.out; have hnc90 := NB107_106.out; have hnb91 := NB361_0.out; have hnc91 := NB0_361.out; obtain ⟨hcz92_0, hfz92_0⟩ := zC1 BK106.out) | ((with_reducible refine gate_callee (f := 65) rfl ?_); refine goesL_ (some 8) rfl rfl Try.func65 (by kernel_rfl) rfl #[.slice Ao87 l1_0.length co87] rfl z3 ?_; (with_reducible refine (spec_l01Own.calls _ _ l1_0 t100 _ ?side1 ?side2 A3.out).mono ?_); (case side1 => exact z90); (case side2 => exact (Kd.R_reads' HO1_0.out).2.1); rintro e w93 ⟨v108, rfl, ho0, hb⟩; refine ⟨_, rfl, ?_⟩; have n0_ := zA (Kd.R_elder' z31 (Kd.R_base ho0) hb); have n1_ := zA (Kd.R_lower (Kd.R_new' (Kd.R_newM (M := fun k_ => (P1_0_ k_ ∨ w.heap.size ≤ k_)) ho0 z179 (fun k_ h_ => .inr h_)) (Kd.R_lt z31)) (below_size z27)); have n2_ := zA (IsS88.below z25 hb); have n3_ := zBB BK106 hb; have n4_ := zBB BK107 hb; have n5_ := zA (Kept.below (S := (fun k_ => (P1_0_ k_) ∨ k_ = g)) z23 hb); have n6_ := zA (below_step z27 hb); clear HO1_0 HI0 BK106 BK107 HK HB; have HO1_0 := n0_; have HO109 := n1_; have HI0 := n2_; have BK106 := n3_; have BK107 := n4_; have HK := n5_; have HB := n6_; clear n0_ n1_ n2_ n3_ n4_ n5_ n6_; (try clear hb); (try clear hb2); (try clear hk); (try clear hi); (try clear ho0); obtain ⟨Ao94, co94, eo94⟩ := Kd.R_slice HO109.out; subst eo94) | ((with_reducible refine gate_dst (N := 5) rfl ?_); refine box_event ?hg (N := 5) ?hd (cs := #[.slice none 0 0]) (t := 27) ?hr ?_; (case hd => rfl); (case hg => rfl); (case hr => first | (go_simp; done) | (go_simp; rfl)); intro gb110 hg w95 hbox hb; have n0_ := zA (Kd.R_below z31 hb); have n1_ := zA (Kd.R_below z52 hb); have n2_ := zA (IsS88.below z25 hb); have n3_ := zBB BK106 hb; have n4_ := zBB BK107 hb; have n5_ := zA (Kept.below (S := (fun k_ => (P1_0_ k_) ∨ k_ = g)) z23 hb); have n6_ := zA (below_step z27 hb); have n7_ := zA (hbox); have n8_ := zA (((by rw [hg]; exact z179) : w.heap.size ≤ gb110)); have n9_ := zA ((z206 : w0.heap.size ≤ gb110)); have n10_ := zA ((z197 : gb106 ≠ gb110)); have n11_ := zA ((z198 : gb110 ≠ gb106)); have n12_ := zA ((z185 : gb107 ≠ gb110)); have n13_ := zA ((z186 : gb110 ≠ gb107)); have n14_ := zA ((z189 : g ≠ gb110)); have n15_ := zA ((z190 : gb110 ≠ g)); clear HO1_0 HO109 HI0 BK106 BK107 HK HB; have HO1_0 := n0_; have HO109 := n1_; have HI0 := n2_; have BK106 := n3_; have BK107 := n4_; have HK := n5_; have HB := n6_; have BK110 := n7_; have GW110 := n8_; have GE110 := n9_; have NB106_110 := n10_; have NB110_106 := n11_; have NB107_110 := n12_; have NB110_107 := n13_; have NB0_366 := n14_; have NB366_0 := n15_; clear n0_ n1_ n2_ n3_ n4_ n5_ n6_ n7_ n8_ n9_ n10_ n11_ n12_ n13_ n14_ n15_; clear hb hbox hg; have hnb96 := NB110_106.out; have hnc96 := NB106_110.out; have hnb97 := NB110_107.out; have hnc97 := NB107_110.out; have hnb98 := NB366_0.out; have hnc98 := NB0_366.out; obtain ⟨hcz99_0, hfz99_0⟩ := zC1 BK110.out) | ((with_reducible refine gate_callee (f := 69) rfl ?_); refine goesL_ (some 11) rfl rfl Try.func69 (by kernel_rfl) rfl #[.pointer (some ⟨g, 0, none⟩), .int .i64 50] rfl z3 ?_; (with_reducible refine (spec_l01Next.calls g s0_0 s0_1 s0_2 50 t101 t104 t105 w0 _ ?side1 ?side2 A4.out).mono ?_); (case side1 => exact z8); (case side2 => exact z19); rintro e w100 ⟨rfl, hi, hb, hk⟩; refine ⟨_, rfl, ?_⟩; have n0_ := zA (Kd.R_mono (Kd.R_keep (IsS88.apart (show IsS88 w0 _ g s0_0 s0_1 s0_2 from z8) (by (with_reducible repeat (first | apply Kd.R_alloc | apply Kd.R_drewN | apply Kd.R_drew)); exact (Kd.R_mono (Kd.R_far (p := ⟨gb110, 0, none⟩) (Kd.R_types HO1_0.out BK110.out (by decide)) (fun _ hk => hk.2) (.slice Ao94 t100.length co94)) (fun _ h_ => h_.1))) (by decide)) hk (fun _ h => h.2)) (fun _ h => h.1)); have n1_ := zA (KeepBut.blk hk (g' := gb106) (o := .cells #[.slice Ao87 l1_0.length co87] 27 (0, 0)) z64 NB361_0.out (by simp)); have n2_ := zA (KeepBut.blk hk (g' := gb107) (o := .cells #[.slice none 0 0] 27 (0, 0)) z65 NB362_0.out (by simp)); have n3_ := zA (Kd.R_mono (Kd.R_keep (IsS88.apart (show IsS88 w0 _ g s0_0 s0_1 s0_2 from z8) (by (with_reducible repeat (first | apply Kd.R_alloc | apply Kd.R_drewN | apply Kd.R_drew)); exact (Kd.R_mono (Kd.R_far (p := ⟨gb110, 0, none⟩) (Kd.R_types HO109.out BK110.out (by decide)) (fun _ hk => hk.2) (.slice Ao94 t100.length co94)) (fun _ h_ => h_.1))) (by decide)) hk (fun _ h => h.2)) (fun _ h => h.1)); have n4_ := zA (KeepBut.blk hk (g' := gb110) (o := .cells #[.slice Ao94 t100.length co94] 27 (0, 0)) z71 NB366_0.out (by simp)); have n5_ := zA (Kept.of_keep (S := (fun k_ => (P1_0_ k_) ∨ k_ = g)) z18 hk (.inl (.inr rfl))); have n6_ := zA (hb); have n7_ := zA (hi); clear HO1_0 BK106 BK107 HO109 BK110 HK HB HI0; have HO1_0 := n0_; have BK106 := n1_; have BK107 := n2_; have HO109 := n3_; have BK110 := n4_; have HK := n5_; have HB := n6_; have HI0 := n7_; clear n0_ n1_ n2_ n3_ n4_ n5_ n6_ n7_; (try clear hb); (try clear hb2); (try clear hk); (try clear hi); obtain ⟨hcz101_0, hfz101_0⟩ := zC1 BK106.out; have hnb102 := NB362_0.out; have hnc102 := NB0_362.out; obtain ⟨hcz103_0, hfz103_0⟩ := zC1 BK107.out))
        refine bodyPost_ret (results_cell_row rfl _ _ gb107 27 #[.slice Ao87 l1_0.length co87] (0, 0) _ rfl z60 Try.underlying27 rfl (by kernel_rfl)) rfl ?_
        exact ⟨_, z15, (by (with_reducible repeat (first | apply Kd.R_alloc | apply Kd.R_drewN | apply Kd.R_drew)); exact Kd.R_mono (Kd.R_far (p := ⟨gb107, 0, none⟩) (Kd.R_types HO1_0.out BK107.out (by decide)) (fun _ hk => hk.2) (.slice Ao87 l1_0.length co87)) (fun _ hk => hk.1.1)), z8, z19, z18⟩

/-! ### spec_l10Draw: function 56 -/
def spec_l10Draw.f (k : Nat) (l0 : List Int) : Option (List Int × Int) := (spec_l01From.f k l0).bind fun bt100 => ((spec_l01Small.f k bt100.1 bt100.2.1 bt100.2.2).bind fun bt101 => ((spec_l01Bad.f k bt100.1 bt101.2.1 bt101.2.2 bt101.1).bind fun bt102 => ((spec_l01Near.f bt100.1 bt102.2.1 bt102.2.2 3).bind fun bt103 => ((spec_l01Pick.f bt100.1 bt103.2.1 bt103.2.2 (([1, 2, 2, 2, 3, bt103.1] : List Int))).bind fun bt104 => (some (bt102.1, bt104.1))))))
set_option maxHeartbeats 8000000 in
set_option maxRecDepth 100000 in
theorem spec_l10Draw.calls (k : Nat) (A0 : Option Addr) (c0 : Nat) (l0 : List Int) (r1 : List Int) (r2 : Int) (w : World) (hr0 : Kd.C (Kd.int .u8) w A0 l0.length l0) (hc0 : l0.length ≤ c0) (h : spec_l10Draw.f k l0 = some (r1, r2)) :
    Calls Try.prog 56 #[.slice A0 l0.length c0] w fun e w' => ∃ v0_ : Value, e = .returned (.tuple #[.agg #[v0_], .int .i64 r2]) ∧ Kd.R (Kd.int .i64) 2 w' w.heap.size (fun _ => True) v0_ r1 ∧ Below w.heap.size w w' := by
  have hu27 := Try.underlying27
  have HR0 := zA hr0
  have HC0 := zA hc0
  clear hr0 hc0
  have HB := zA (Below.refl w.heap.size w)
  have H := h
  unfold spec_l10Draw.f at H
  (try dsimp -simprocs only at H)
  clear h
  replace H := zi H
  obtain ⟨⟨t100, t105, t106⟩, A20, H⟩ := H
  (try dsimp -simprocs only at H)
  have A2 := zA A20
  clear A20
  replace H := zi H
  obtain ⟨⟨t101, t107, t108⟩, A30, H⟩ := H
  (try dsimp -simprocs only at H)
  have A3 := zA A30
  clear A30
  replace H := zi H
  obtain ⟨⟨t102, t109, t110⟩, A40, H⟩ := H
  (try dsimp -simprocs only at H)
  have A4 := zA A40
  clear A40
  replace H := zi H
  obtain ⟨⟨t103, t111, t112⟩, A50, H⟩ := H
  (try dsimp -simprocs only at H)
  have A5 := zA A50
  clear A50
  obtain ⟨y113, hy113⟩ : ∃ y_ : List Int, y_ = (([1, 2, 2, 2, 3, t103] : List Int)) := ⟨_, rfl⟩
  replace H : ((spec_l01Pick.f t100 t111 t112 y113).bind fun bt104 => (some (t102, bt104.1))) = some (r1, r2) := by first | (rw [hy113]; with_reducible exact H) | (have H2_ := (Option.bind_some _ _).symm.trans H; rw [hy113]; with_reducible exact H2_) | (have H2_ := (Option.bind_some _ _).symm.trans H; with_reducible exact H2_) | with_reducible exact H | (rw [hy113]; exact H) | exact H
  have Ny113 := zA hy113
  clear hy113
  replace H := zi H
  obtain ⟨⟨t104, t114, t115⟩, A60, H⟩ := H
  replace H : (some (t102, t104)) = some (r1, r2) := H
  have A6 := zA A60
  clear A60
  simp only [Option.some.injEq, Prod.mk.injEq] at H
  obtain ⟨rfl, rfl⟩ := H
  go_enter Try.func56, Try.ntmps56
  go_wp2_with (first | ((with_reducible refine gate_dst (N := 2) rfl ?_); refine box_event ?hg (N := 2) ?hd (cs := #[.slice none 0 0]) (t := 27) ?hr ?_; (case hd => rfl); (case hg => rfl); (case hr => first | (go_simp; done) | (go_simp; rfl)); intro gb116 hg w7 hbox hb; have n0_ := zA (below_step z1 hb); have n1_ := zA (hbox); have n2_ := zA ((z178 : w.heap.size ≤ gb116)); have n3_ := zA ((z178 : w.heap.size ≤ gb116)); clear HB; have HB := n0_; have BK116 := n1_; have GW116 := n2_; have GE116 := n3_; clear n0_ n1_ n2_ n3_; clear hb hbox hg) | ((with_reducible refine gate_callee (f := 38) rfl ?_); refine goesL_ (some 7) rfl rfl Try.func38 (by kernel_rfl) rfl #[.slice A0 l0.length c0] rfl z3 ?_; (with_reducible refine (spec_l01From.calls k _ _ l0 t100 t105 t106 w _ ?side1 ?side2 ?side3 A2.out).mono ?_); (case side1 => exact (by repeat (first | (with_reducible first | exact HB.out | apply below_alloc | apply pw_below_drewN | apply below_drew1 | refine below_set ?_ GE116.out) | exact HB.out))); (case side2 => exact HR0.out); (case side3 => exact HC0.out); rintro e w8 ⟨g387, rfl, hi, hb, hb2⟩; refine ⟨_, rfl, ?_⟩; have n0_ := zBB BK116 hb2; have n1_ := zA (hb); have n2_ := zA (hi); have n3_ := zA (IsS88.ne_blk hi (blk_below (g := gb116) (o := .cells #[.slice none 0 0] 27 (0, 0)) z61 hb2) (by decide)); have n4_ := zA (Ne.symm (IsS88.ne_blk hi (blk_below (g := gb116) (o := .cells #[.slice none 0 0] 27 (0, 0)) z61 hb2) (by decide))); clear BK116 HB; have BK116 := n0_; have HB := n1_; have HI117 := n2_; have NB117_116 := n3_; have NB116_117 := n4_; clear n0_ n1_ n2_ n3_ n4_; (try clear hb); (try clear hb2); (try clear hk); (try clear hi)) | ((with_reducible refine gate_callee (f := 86) rfl ?_); refine goesL_ (some 9) rfl rfl Try.func86 (by kernel_rfl) rfl #[.pointer (some ⟨g387, 0, none⟩)] rfl z3 ?_; (with_reducible refine (spec_l01Small.calls k g387 t100 t105 t106 t101 t107 t108 w _ ?side1 ?side2 A3.out).mono ?_); (case side1 => exact z80); (case side2 => exact z75); rintro e w9 ⟨v118, rfl, ho0, hi, hb, hk⟩; refine ⟨_, rfl, ?_⟩; have n0_ := zKB BK116 hk NB116_117; have n1_ := zA (Kd.R_lower ho0 (below_size z75)); have n2_ := zA (hb); have n3_ := zA (hi); clear BK116 HB HI117; have BK116 := n0_; have HO119 := n1_; have HB := n2_; have HI117 := n3_; clear n0_ n1_ n2_ n3_; (try clear hb); (try clear hb2); (try clear hk); (try clear hi); (try clear ho0)) | ((with_reducible refine gate_dst (N := 5) rfl ?_); refine box_event ?hg (N := 5) ?hd (cs := #[.slice none 0 0]) (t := 27) ?hr ?_; (case hd => rfl); (case hg => rfl); (case hr => first | (go_simp; done) | (go_simp; rfl)); intro gb120 hg w10 hbox hb; have n0_ := zA (Kd.R_below z162 hb); have n1_ := zBB BK116 hb; have n2_ := zA (IsS88.below z80 hb); have n3_ := zA (below_step z75 hb); have n4_ := zA (hbox); have n5_ := zA (((by rw [hg]; exact (below_size z75)) : w.heap.size ≤ gb120)); have n6_ := zA (((by rw [hg]; exact (below_size z75)) : w.heap.size ≤ gb120)); have n7_ := zA (((by rw [hg]; exact Nat.ne_of_lt (blk_lt (g := gb116) (o := .cells #[.slice none 0 0] 27 (0, 0)) z61)) : gb116 ≠ gb120)); have n8_ := zA (((by rw [hg]; exact Nat.ne_of_gt (blk_lt (g := gb116) (o := .cells #[.slice none 0 0] 27 (0, 0)) z61)) : gb120 ≠ gb116)); have n9_ := zA (((by rw [hg]; exact Nat.ne_of_lt (IsS88.lt (show IsS88 w _ g387 t100 t107 t108 from z80))) : g387 ≠ gb120)); have n10_ := zA (((by rw [hg]; exact Nat.ne_of_gt (IsS88.lt (show IsS88 w _ g387 t100 t107 t108 from z80))) : gb120 ≠ g387)); clear HO119 BK116 HI117 HB; have HO119 := n0_; have BK116 := n1_; have HI117 := n2_; have HB := n3_; have BK120 := n4_; have GW120 := n5_; have GE120 := n6_; have NB116_120 := n7_; have NB120_116 := n8_; have NB117_120 := n9_; have NB120_117 := n10_; clear n0_ n1_ n2_ n3_ n4_ n5_ n6_ n7_ n8_ n9_ n10_; clear hb hbox hg; obtain ⟨Ao11, co11, eo11⟩ := Kd.R_slice HO119.out; subst eo11; have hnb12 := NB120_116.out; have hnc12 := NB116_120.out; have hnb13 := NB120_117.out; have hnc13 := NB117_120.out; obtain ⟨hcz14_0, hfz14_0⟩ := zC1 BK120.out) | ((with_reducible refine gate_store (t := 27) (p := 5) rfl ?_); refine store_event (t := 27) (p := 5) (v := ?vo_w15) (w1 := (w10.setCell ⟨gb120, 0, none⟩ (.slice Ao11 t101.length co11))) ?hg ?ho ?hn ?hr ?_; (case ho => rfl); (case hg => rfl); (case hn => rfl); (case hr => first | (go_simp; done) | (go_simp; rfl)); intro w15 hw; have n0_ : Aside0 (Kd.R (Kd.int .i64) 2 w15 w.heap.size (fun _ => True) (.slice Ao11 t101.length co11) t101) := ⟨(by rw [hw]; exact (by (with_reducible repeat (first | apply Kd.R_alloc | apply Kd.R_drewN | apply Kd.R_drew)); exact Kd.R_mono (Kd.R_far (p := ⟨gb120, 0, none⟩) (Kd.R_types HO119.out BK120.out (by decide)) (fun _ hk => hk.2) (.slice Ao11 t101.length co11)) (fun _ hk => trivial)))⟩; have n1_ : Aside0 (w15.heap[gb116]? = some (.cells #[.slice none 0 0] 27 (0, 0))) := ⟨(by rw [hw]; exact (by (with_reducible repeat (first | refine blk_drewN ?_ _ | refine blk_drew ?_ | refine blk_alloc ?_ _)); refine blk_far ?_ NB116_120.out _; (with_reducible repeat (first | refine blk_drewN ?_ _ | refine blk_drew ?_ | refine blk_alloc ?_ _)); exact BK116.out))⟩; have n2_ : Aside0 (w15.heap[gb120]? = some (.cells #[.slice Ao11 t101.length co11] 27 (0, 0))) := ⟨(by rw [hw]; exact (by (with_reducible repeat (first | refine blk_drewN ?_ _ | refine blk_drew ?_ | refine blk_alloc ?_ _)); refine blk_put (cs := #[.slice none 0 0]) ?_ 0 _ rfl; (with_reducible repeat (first | refine blk_drewN ?_ _ | refine blk_drew ?_ | refine blk_alloc ?_ _)); exact BK120.out))⟩; have n3_ : Aside0 (IsS88 w w15 g387 t100 t107 t108) := ⟨(by rw [hw]; exact z44)⟩; have n4_ : Aside0 (Below w.heap.size w w15) := ⟨(by rw [hw]; exact z48)⟩; clear hw; clear HO119 BK116 BK120 HI117 HB; have HO119 := n0_; have BK116 := n1_; have BK120 := n2_; have HI117 := n3_; have HB := n4_; clear n0_ n1_ n2_ n3_ n4_; obtain ⟨hcz16_0, hfz16_0⟩ := zC1 BK120.out) | ((with_reducible refine gate_callee (f := 87) rfl ?_); refine goesL_ (some 12) rfl rfl Try.func87 (by kernel_rfl) rfl #[.pointer (some ⟨g387, 0, none⟩), .agg #[.slice Ao11 t101.length co11]] rfl z3 ?_; (with_reducible refine (spec_l01Bad.calls k g387 t100 t107 t108 (fun k_ => some k_ = (.slice Ao11 t101.length co11 : Value).ownBlock) (.slice Ao11 t101.length co11) t101 t102 t109 t110 w _ ?side1 ?side2 ?side3 A4.out).mono ?_); (case side1 => exact z44); (case side2 => exact z48); (case side3 => exact Kd.R_tight rfl HO119.out); rintro e w17 ⟨v121, rfl, ho0, hi, hb, hkp⟩; refine ⟨_, rfl, ?_⟩; have n0_ := zA (blk_kept z61 hkp (fun hs_ => Or.elim hs_ (fun hs_ => (fun e_ => (Kd.R_ne HO119.out BK116.out (by decide)) e_) hs_) (fun e_ => NB116_117.out e_))); have n1_ := zA (hi); have n2_ := zA (blk_kept (by (with_reducible repeat (first | refine blk_drewN ?_ _ | refine blk_drew ?_ | refine blk_alloc ?_ _)); exact BK120.out) hkp (fun hs_ => Or.elim hs_ (fun hs_ => (fun e_ => (Kd.R_ne HO119.out BK120.out (by decide)) e_) hs_) (fun e_ => NB120_117.out e_))); have n3_ := zA (Kd.R_mono (ok' := fun k_ => True) ho0 (fun k_ hk_ => trivial)); have n4_ := zA (hb); clear BK116 HI117 BK120 HB HO119; have BK116 := n0_; have HI117 := n1_; have BK120 := n2_; have HO122 := n3_; have HB := n4_; clear n0_ n1_ n2_ n3_ n4_; (try clear hb); (try clear hkp); (try clear ho0)) | ((with_reducible refine gate_callee (f := 37) rfl ?_); refine goesL_ (some 15) rfl rfl Try.func37 (by kernel_rfl) rfl #[.pointer (some ⟨g387, 0, none⟩), .int .i64 3] rfl z3 ?_; (with_reducible refine (spec_l01Near.calls g387 t100 t109 t110 3 t103 t111 t112 w _ ?side1 ?side2 A5.out).mono ?_); (case side1 => exact z44); (case side2 => exact z48); rintro e w18 ⟨rfl, hi, hb, hk⟩; refine ⟨_, rfl, ?_⟩; have n0_ := zKB BK116 hk NB116_117; have n1_ := zKB BK120 hk NB120_117; have n2_ := zA (Kd.R_mono (Kd.R_keep (IsS88.apart (show IsS88 w _ g387 t100 t109 t110 from z44) z54 (by decide)) hk (fun _ h => h.2)) (fun _ h => h.1)); have n3_ := zA (hb); have n4_ := zA (hi); clear BK116 BK120 HO122 HB HI117; have BK116 := n0_; have BK120 := n1_; have HO122 := n2_; have HB := n3_; have HI117 := n4_; clear n0_ n1_ n2_ n3_ n4_; (try clear hb); (try clear hb2); (try clear hk); (try clear hi)) | ((with_reducible refine gate_dst (N := 16) rfl ?_); refine Kd.R_lit (Kd.int .i64) _ 2 ?hg (N := 16) ?hd (xs := ([1, 2, 2, 2, 3, t103] : List Int)) (inner := [.int .i64 1, .int .i64 2, .int .i64 2, .int .i64 2, .int .i64 3, .int .i64 t103]) (ok := fun _ => True) (okp := fun _ => True) ?hr ?hp (fun _ hk => hk) trivial (Below.refl _ _) (Nat.le_refl _) (by simp) ?_; (case hd => rfl); (case hg => rfl); (case hr => first | (go_simp; done) | (go_simp; rfl)); (case hp => exact (Reps.one (show Kd.M (Kd.int .i64) _ _ _ 1 [.int .i64 1] from rfl) (Reps.one (show Kd.M (Kd.int .i64) _ _ _ 2 [.int .i64 2] from rfl) (Reps.one (show Kd.M (Kd.int .i64) _ _ _ 2 [.int .i64 2] from rfl) (Reps.one (show Kd.M (Kd.int .i64) _ _ _ 2 [.int .i64 2] from rfl) (Reps.one (show Kd.M (Kd.int .i64) _ _ _ 3 [.int .i64 3] from rfl) (Reps.one (show Kd.M (Kd.int .i64) _ _ _ t103 [.int .i64 t103] from rfl) (Reps.none _ _)))))))); intro v123 w19 ho20 hb hg_ hnew_; clear hg_ hnew_; (first | rw [← Ny113.out] at ho20 | (simp only [Int.reduceToNat] at ho20; rw [← Ny113.out] at ho20)); have n0_ := zA (Kd.R_elder' z54 (Kd.R_base ho20) hb); have n1_ := zA (Kd.R_lower (Kd.R_new' ho20 (Kd.R_lt z54)) (below_size z48)); have n2_ := zBB BK116 hb; have n3_ := zA (IsS88.below z44 hb); have n4_ := zBB BK120 hb; have n5_ := zA (below_step z48 hb); clear HO122 BK116 HI117 BK120 HB; have HO122 := n0_; have HO124 := n1_; have BK116 := n2_; have HI117 := n3_; have BK120 := n4_; have HB := n5_; clear n0_ n1_ n2_ n3_ n4_ n5_; clear hb ho20; obtain ⟨Ao21, co21, eo21⟩ := Kd.R_slice HO124.out; subst eo21) | ((with_reducible refine gate_callee (f := 70) rfl ?_); refine goesL_ (some 17) rfl rfl Try.func70 (by kernel_rfl) rfl #[.pointer (some ⟨g387, 0, none⟩), .slice Ao21 y113.length co21] rfl z3 ?_; (with_reducible refine (spec_l01Pick.calls g387 t100 t111 t112 _ _ y113 t104 t114 t115 w _ ?side1 ?side2 ?side3 ?side4 ?side5 A6.out).mono ?_); (case side1 => exact z44); (case side2 => exact z48); (case side3 => exact (by repeat (first | exact (Kd.R_reads' HO124.out).2.2 | (with_reducible refine Kd.C_alloc ?_ _) | (with_reducible refine Kd.C_drewN ?_ _) | (with_reducible refine Kd.C_drew ?_)))); (case side4 => exact (Kd.R_reads' HO124.out).2.1); (case side5 => exact far_slice (IsS88.own_ne HI117.out HO124.out (by decide))); rintro e w22 ⟨rfl, hi, hb, hk⟩; refine ⟨_, rfl, ?_⟩; have n0_ := zKB BK116 hk NB116_117; have n1_ := zKB BK120 hk NB120_117; have n2_ := zA (Kd.R_mono (Kd.R_keep (IsS88.apart (show IsS88 w _ g387 t100 t111 t112 from z44) z54 (by decide)) hk (fun _ h => h.2)) (fun _ h => h.1)); have n3_ := zA (Kd.R_mono (Kd.R_keep (IsS88.apart (show IsS88 w _ g387 t100 t111 t112 from z44) (by (with_reducible repeat (first | apply Kd.R_alloc | apply Kd.R_drewN | apply Kd.R_drew)); exact HO124.out) (by decide)) hk (fun _ h => h.2)) (fun _ h => h.1)); have n4_ := zA (hb); have n5_ := zA (hi); clear BK116 BK120 HO122 HO124 HB HI117; have BK116 := n0_; have BK120 := n1_; have HO122 := n2_; have HO124 := n3_; have HB := n4_; have HI117 := n5_; clear n0_ n1_ n2_ n3_ n4_ n5_; (try clear hb); (try clear hb2); (try clear hk); (try clear hi); obtain ⟨Ao23, co23, eo23⟩ := Kd.R_slice HO122.out; subst eo23; have hnb24 := NB116_117.out; have hnc24 := NB117_116.out; obtain ⟨hcz25_0, hfz25_0⟩ := zC1 BK116.out))
  refine bodyPost_ret (results_ct rfl _ _ gb116 27 #[.slice Ao23 t102.length co23] (0, 0) _ rfl z101 Try.underlying27 rfl (by kernel_rfl)) rfl ?_
  exact ⟨_, z15, (by (with_reducible repeat (first | apply Kd.R_alloc | apply Kd.R_drewN | apply Kd.R_drew)); exact Kd.R_mono (Kd.R_far (p := ⟨gb116, 0, none⟩) (Kd.R_types HO122.out BK116.out (by decide)) (fun _ hk => hk.2) (.slice Ao23 t102.length co23)) (fun _ hk => trivial)), z48⟩

end Go.Proofs.Ytbfhhjekonafdaa.PFnPairRows
