-- WALKS, by a program and by hand
import Derived.Test.YtchlbkcladfloaaPFnTicketsx0
import Derived.Test.YtchlbkcladfloaaPFnTicketsx1
import Derived.Test.YtchlbkcladfloaaPFnTicketsx2
import Derived.Test.YtchlbkcladfloaaPFnTicketsx4
namespace Go.Proofs.Ytchlbkcladfloaa.PFnTickets
open Go.RowKit Go.Proofs.Ytchlbkcladfloaa.DG Go.Proofs.YtchlbkcladfloaaW.PrintWords Go.Proofs.YtchlbkcladfloaaW.PrintLast Go.Proofs.YtchlbkcladfloaaW.PrintMore
attribute [local go_sem] max2_int min2_int max_two min_two max_three min_three max_four min_four   -- for this text's walks alone
set_option linter.unusedVariables false
set_option linter.unusedSimpArgs false

/-! ### spec_DrawTicketOf: function 22 -/
def spec_DrawTicketOf.f (k : Nat) (l0 : List Int) : Option (Int × Int × Int × Int × List Int) := (spec_l01From.f k l0).bind fun bt100 => ((spec_l08DrawOf.f bt100.1 bt100.2.1 bt100.2.2 12).bind fun bt101 => ((spec_l08DrawSet.f k bt100.1 bt101.2.2.2.2.1 bt101.2.2.2.2.2 bt101.1 bt101.2.1).bind fun bt102 => ((spec_NumbersOf.f k bt101.1 bt101.2.1 bt101.2.2.1 bt101.2.2.2.1 bt102.1).bind fun bt103 => ((spec_l01Next.f bt100.1 bt102.2.1 bt102.2.2 12).bind fun bt104 => (if bt104.1 = 0 then ((spec_l01Pick.f bt100.1 bt104.2.1 bt104.2.2 (([12, 0, (-1)] : List Int))).bind fun bt105 => (if bt103.1.length < 17592186044416 then ((spec_l08Bad.f bt100.1 bt105.2.1 bt105.2.2 bt101.1 bt101.2.1 bt101.2.2.1 bt101.2.2.2.1).bind fun bt106 => (some (bt106.1, bt106.2.1, bt106.2.2.1, bt106.2.2.2.1, (bt103.1 ++ [bt105.1])))) else (none))) else (if bt104.1 = 1 then (if 1 ≤ (bt103.1.length : Int) then ((spec_l08Bad.f bt100.1 bt104.2.1 bt104.2.2 bt101.1 bt101.2.1 bt101.2.2.1 bt101.2.2.2.1).bind fun bt107 => (some (bt107.1, bt107.2.1, bt107.2.2.1, bt107.2.2.2.1, (bt103.1.drop (1 : Int).toNat)))) else (none)) else ((spec_l08Bad.f bt100.1 bt104.2.1 bt104.2.2 bt101.1 bt101.2.1 bt101.2.2.1 bt101.2.2.2.1).bind fun bt108 => (some (bt108.1, bt108.2.1, bt108.2.2.1, bt108.2.2.2.1, bt103.1)))))))))
theorem spec_DrawTicketOf.mono : ∀ a0 k, LeO (spec_DrawTicketOf.f k a0) (spec_DrawTicketOf.f (k + 1) a0) := by
  intro a0 k
  unfold spec_DrawTicketOf.f
  repeat' first
      | (with_reducible exact spec_NumbersOf.mono _ _ _ _ _ _)
      | (with_reducible exact spec_l01From.mono _ _)
      | (with_reducible exact spec_l08DrawSet.mono _ _ _ _ _ _)
      | (with_reducible exact LeO.refl _)
      | (with_reducible exact LeO.none _)
      | (with_reducible refine LeO.ite ?_ ?_)
      | (with_reducible refine LeO.bind ?_ (fun _ => ?_))
def spec_DrawTicketOf.T3 : Bool × List (List Nat × List Nat) := (true, [([], []), ([], []), ([], []), ([2], [2]), ([], []), ([4], [4]), ([1, 3, 5], [1, 3, 5]), ([0, 6, 6], [0, 6]), ([7], [7]), ([8], [8]), ([8], [8]), ([9, 7, 0, 1, 2, 3, 4, 5, 6, 7, 8, 9], [9]), ([10, 11, 0, 1, 2, 3, 4, 5, 6, 7, 8, 9, 10, 11], [10])])
def spec_DrawTicketOf.B3 : List Nat := [0, 0, 0, 4, 0, 16, 62, 127, 255, 511, 511, 1023, 4095]
theorem spec_DrawTicketOf.tab3 : rtab .any (opsOf Try.f22 3) = spec_DrawTicketOf.T3 := by kernel_rfl
theorem spec_DrawTicketOf.bits3 : waitsOk spec_DrawTicketOf.T3.2 spec_DrawTicketOf.B3 = true := by kernel_rfl
set_option maxHeartbeats 8000000 in
set_option maxRecDepth 100000 in
theorem spec_DrawTicketOf.calls (k : Nat) (A0 : Option Addr) (c0 : Nat) (l0 : List Int) (r1 : Int) (r2 : Int) (r3 : Int) (r4 : Int) (r5 : List Int) (w : World) (hr0 : Kd.C (Kd.int .u8) w A0 l0.length l0) (hc0 : l0.length ≤ c0) (h : spec_DrawTicketOf.f k l0 = some (r1, r2, r3, r4, r5)) :
    Calls Try.prog 22 #[.slice A0 l0.length c0] w fun e w' => ∃ v4_ : Value, e = .returned (.tuple #[.agg #[.int .i64 r1, .int .i64 r2, .int .i64 r3, .int .i64 r4], v4_]) ∧ Kd.Q (Kd.int .i64) 2 w' w.heap.size (fun _ => True) v4_ r5 ∧ Below w.heap.size w w' := by
  have hu27 := Try.underlying27
  have HR0 := Aside0.mk hr0
  have HC0 := Aside0.mk hc0
  clear hr0 hc0
  have HB := Aside0.mk (Below.refl w.heap.size w)
  have H := h
  unfold spec_DrawTicketOf.f at H
  (try dsimp -simprocs only at H)
  clear h
  replace H := Option.bind_eq_some_iff.mp H
  obtain ⟨⟨t100, t109, t110⟩, A20, H⟩ := H
  (try dsimp -simprocs only at H)
  have A2 := Aside0.mk A20
  clear A20
  replace H := Option.bind_eq_some_iff.mp H
  obtain ⟨⟨t101, t111, t112, t113, t114, t115⟩, A30, H⟩ := H
  (try dsimp -simprocs only at H)
  have A3 := Aside0.mk A30
  clear A30
  replace H := Option.bind_eq_some_iff.mp H
  obtain ⟨⟨t102, t116, t117⟩, A40, H⟩ := H
  (try dsimp -simprocs only at H)
  have A4 := Aside0.mk A40
  clear A40
  replace H := Option.bind_eq_some_iff.mp H
  obtain ⟨⟨t103, t118⟩, A50, H⟩ := H
  (try dsimp -simprocs only at H)
  have A5 := Aside0.mk A50
  clear A50
  replace H := Option.bind_eq_some_iff.mp H
  obtain ⟨⟨t104, t119, t120⟩, A60, H⟩ := H
  (try dsimp -simprocs only at H)
  have A6 := Aside0.mk A60
  clear A60
  by_cases c7 : t104 = 0
  · rw [if_pos c7] at H
    have c7b0 : (t104 == 0) = true := beq_iff_eq.mpr c7
    have c7b1 : (t104 != 0) = false := bne_eq_false_iff_eq.mpr c7
    clear c7
    obtain ⟨y121, hy121⟩ : ∃ y_ : List Int, y_ = (([12, 0, (-1)] : List Int)) := ⟨_, rfl⟩
    replace H : ((spec_l01Pick.f t100 t119 t120 y121).bind fun bt105 => (if t103.length < 17592186044416 then ((spec_l08Bad.f t100 bt105.2.1 bt105.2.2 t101 t111 t112 t113).bind fun bt106 => (some (bt106.1, bt106.2.1, bt106.2.2.1, bt106.2.2.2.1, (t103 ++ [bt105.1])))) else (none))) = some (r1, r2, r3, r4, r5) := by first | (rw [hy121]; with_reducible exact H) | (have H2_ := (Option.bind_some _ _).symm.trans H; rw [hy121]; with_reducible exact H2_) | (have H2_ := (Option.bind_some _ _).symm.trans H; with_reducible exact H2_) | with_reducible exact H | (rw [hy121]; exact H) | exact H
    have Ny121 := Aside0.mk hy121
    clear hy121
    replace H := Option.bind_eq_some_iff.mp H
    obtain ⟨⟨t105, t122, t123⟩, A80, H⟩ := H
    (try dsimp -simprocs only at H)
    have A8 := Aside0.mk A80
    clear A80
    by_cases c9 : t103.length < 17592186044416
    · rw [if_pos c9] at H
      have LMc9 := Aside0.mk c9
      clear c9
      obtain ⟨y124, hy124⟩ : ∃ y_ : List Int, y_ = (t103 ++ [t105]) := ⟨_, rfl⟩
      replace H : ((spec_l08Bad.f t100 t122 t123 t101 t111 t112 t113).bind fun bt106 => (some (bt106.1, bt106.2.1, bt106.2.2.1, bt106.2.2.2.1, y124))) = some (r1, r2, r3, r4, r5) := by first | (rw [hy124]; with_reducible exact H) | (have H2_ := (Option.bind_some _ _).symm.trans H; rw [hy124]; with_reducible exact H2_) | (have H2_ := (Option.bind_some _ _).symm.trans H; with_reducible exact H2_) | with_reducible exact H | (rw [hy124]; exact H) | exact H
      have Ny124 := Aside0.mk hy124
      clear hy124
      replace H := Option.bind_eq_some_iff.mp H
      obtain ⟨⟨t106, t125, t126, t127, t128, t129⟩, A100, H⟩ := H
      (try dsimp -simprocs only at H)
      have A10 := Aside0.mk A100
      clear A100
      simp only [Option.some.injEq, Prod.mk.injEq] at H
      obtain ⟨rfl, rfl, rfl, rfl, rfl⟩ := H
      go_enter Try.func22, Try.ntmps22
      try go_wp2_with (first | ((with_reducible refine gate_dst (N := 2) rfl ?_); refine box_event ?hg (N := 2) ?hd (cs := #[.int .i64 0, .int .i64 0, .int .i64 0, .int .i64 0]) (t := 27) ?hr ?_; (case hd => rfl); (case hg => rfl); (case hr => first | (go_simp; done) | (go_simp; rfl)); intro gb130 hg w11 hbox hb; have n0_ := Aside0.mk (below_step z1 hb); have n1_ := Aside0.mk (hbox); have n2_ := Aside0.mk ((z122 : w.heap.size ≤ gb130)); have n3_ := Aside0.mk ((z122 : w.heap.size ≤ gb130)); clear HB; have HB := n0_; have BK130 := n1_; have GW130 := n2_; have GE130 := n3_; clear n0_ n1_ n2_ n3_; clear hb hbox hg) | ((with_reducible refine gate_callee (f := 72) rfl ?_); refine goesL_ (some 9) rfl rfl Try.func72 (by kernel_rfl) rfl #[.slice A0 l0.length c0] rfl z2 ?_; (with_reducible refine (spec_l01From.calls k _ _ l0 t100 t109 t110 w _ ?side1 ?side2 ?side3 A2.out).mono ?_); (case side1 => exact z89); (case side2 => exact HR0.out); (case side3 => exact HC0.out); rintro e w12 ⟨g317, rfl, hi, hb, hb2⟩; refine ⟨_, rfl, ?_⟩; have n0_ := zBB BK130 hb2; have n1_ := Aside0.mk (hb); have n2_ := Aside0.mk (hi); have n3_ := Aside0.mk (IsS93.ne_blk hi (blk_below (g := gb130) (o := .cells #[.int .i64 0, .int .i64 0, .int .i64 0, .int .i64 0] 27 (0, 0)) z53 hb2) (by decide)); have n4_ := Aside0.mk (Ne.symm (IsS93.ne_blk hi (blk_below (g := gb130) (o := .cells #[.int .i64 0, .int .i64 0, .int .i64 0, .int .i64 0] 27 (0, 0)) z53 hb2) (by decide))); clear BK130 HB; have BK130 := n0_; have HB := n1_; have HI131 := n2_; have NB131_130 := n3_; have NB130_131 := n4_; clear n0_ n1_ n2_ n3_ n4_; (try clear hb); (try clear hb2); (try clear hk); (try clear hi)) | ((with_reducible refine gate_callee (f := 73) rfl ?_); refine goesL_ (some 11) rfl rfl Try.func73 (by kernel_rfl) rfl #[.pointer (some ⟨g317, 0, none⟩), .int .i64 12] rfl z2 ?_; (with_reducible refine (spec_l08DrawOf.calls g317 t100 t109 t110 12 t101 t111 t112 t113 t114 t115 w _ ?side1 ?side2 A3.out).mono ?_); (case side1 => exact z31); (case side2 => exact z33); rintro e w13 ⟨rfl, hi, hb, hk⟩; refine ⟨_, rfl, ?_⟩; have n0_ := zKB BK130 hk NB130_131; have n1_ := Aside0.mk (hb); have n2_ := Aside0.mk (hi); clear BK130 HB HI131; have BK130 := n0_; have HB := n1_; have HI131 := n2_; clear n0_ n1_ n2_; (try clear hb); (try clear hb2); (try clear hk); (try clear hi)) | ((with_reducible refine gate_dst (N := 5) rfl ?_); refine box_event ?hg (N := 5) ?hd (cs := #[.int .i64 0, .int .i64 0, .int .i64 0, .int .i64 0]) (t := 27) ?hr ?_; (case hd => rfl); (case hg => rfl); (case hr => first | (go_simp; done) | (go_simp; rfl)); intro gb132 hg w14 hbox hb; have n0_ := zBB BK130 hb; have n1_ := Aside0.mk (IsS93.below z31 hb); have n2_ := Aside0.mk (below_step z33 hb); have n3_ := Aside0.mk (hbox); have n4_ := Aside0.mk ((z139 : w.heap.size ≤ gb132)); have n5_ := Aside0.mk ((z139 : w.heap.size ≤ gb132)); have n6_ := Aside0.mk ((z132 : gb130 ≠ gb132)); have n7_ := Aside0.mk ((z133 : gb132 ≠ gb130)); have n8_ := Aside0.mk ((z137 : g317 ≠ gb132)); have n9_ := Aside0.mk ((z138 : gb132 ≠ g317)); clear BK130 HI131 HB; have BK130 := n0_; have HI131 := n1_; have HB := n2_; have BK132 := n3_; have GW132 := n4_; have GE132 := n5_; have NB130_132 := n6_; have NB132_130 := n7_; have NB131_132 := n8_; have NB132_131 := n9_; clear n0_ n1_ n2_ n3_ n4_ n5_ n6_ n7_ n8_ n9_; clear hb hbox hg; have hnb15 := NB132_130.out; have hnc15 := NB130_132.out; have hnb16 := NB132_131.out; have hnc16 := NB131_132.out; obtain ⟨hcz17_0, hcz17_1, hcz17_2, hcz17_3, hfz17_0, hfz17_1, hfz17_2, hfz17_3⟩ := zC4 BK132.out))
      have n0_ : Aside0 (((((w14.setCell ⟨gb132, 0, none⟩ (.int .i64 t101)).setCell ⟨gb132, 1, none⟩ (.int .i64 t111)).setCell ⟨gb132, 2, none⟩ (.int .i64 t112)).setCell ⟨gb132, 3, none⟩ (.int .i64 t113)).heap[gb130]? = some (.cells #[.int .i64 0, .int .i64 0, .int .i64 0, .int .i64 0] 27 (0, 0))) := ⟨z40⟩
      have n1_ : Aside0 (((((w14.setCell ⟨gb132, 0, none⟩ (.int .i64 t101)).setCell ⟨gb132, 1, none⟩ (.int .i64 t111)).setCell ⟨gb132, 2, none⟩ (.int .i64 t112)).setCell ⟨gb132, 3, none⟩ (.int .i64 t113)).heap[gb132]? = some (.cells #[.int .i64 t101, .int .i64 t111, .int .i64 t112, .int .i64 t113] 27 (0, 0))) := ⟨z29⟩
      have n2_ : Aside0 (IsS93 w ((((w14.setCell ⟨gb132, 0, none⟩ (.int .i64 t101)).setCell ⟨gb132, 1, none⟩ (.int .i64 t111)).setCell ⟨gb132, 2, none⟩ (.int .i64 t112)).setCell ⟨gb132, 3, none⟩ (.int .i64 t113)) g317 t100 t114 t115) := ⟨z10⟩
      have n3_ : Aside0 (Below w.heap.size w ((((w14.setCell ⟨gb132, 0, none⟩ (.int .i64 t101)).setCell ⟨gb132, 1, none⟩ (.int .i64 t111)).setCell ⟨gb132, 2, none⟩ (.int .i64 t112)).setCell ⟨gb132, 3, none⟩ (.int .i64 t113))) := ⟨z11⟩
      (try clear BK130)
      (try clear BK132)
      (try clear HI131)
      (try clear HB)
      generalize ((((w14.setCell ⟨gb132, 0, none⟩ (.int .i64 t101)).setCell ⟨gb132, 1, none⟩ (.int .i64 t111)).setCell ⟨gb132, 2, none⟩ (.int .i64 t112)).setCell ⟨gb132, 3, none⟩ (.int .i64 t113)) = w18 at n0_ n1_ n2_ n3_ ⊢
      have BK130 := n0_
      have BK132 := n1_
      have HI131 := n2_
      have HB := n3_
      clear n0_ n1_ n2_ n3_
      have n0_ := Aside0.mk (blk_drew BK130.out)
      have n1_ := Aside0.mk (blk_drew BK132.out)
      have n2_ := Aside0.mk (IsS93.drew HI131.out)
      have n3_ := Aside0.mk (below_drew1 HB.out)
      clear BK130 BK132 HI131 HB
      have BK130 := n0_
      have BK132 := n1_
      have HI131 := n2_
      have HB := n3_
      clear n0_ n1_ n2_ n3_
      refine start_ (n := 13) (S := fun w' => w'.cell? ⟨gb132, 0, none⟩ = some (.int .i64 t101) ∧ w'.cell? ⟨gb132, 1, none⟩ = some (.int .i64 t111) ∧ w'.cell? ⟨gb132, 2, none⟩ = some (.int .i64 t112) ∧ w'.cell? ⟨gb132, 3, none⟩ = some (.int .i64 t113)) (ds := []) #[false, false, false, false, false, false, false, false, false, false, false, false, false] (by kernel_rfl) rfl rfl ⟨(blk_cell BK132.out 0).trans rfl, (blk_cell BK132.out 1).trans rfl, (blk_cell BK132.out 2).trans rfl, (blk_cell BK132.out 3).trans rfl⟩ (fun hHeld => ?_); refine with_tabW spec_DrawTicketOf.tab3 spec_DrawTicketOf.bits3 (fun HT_ HW_ => ?_)
      generalize w18.drew = w19 at BK130 BK132 HI131 HB hHeld ⊢
      refine pure_ (i := 1) (N := some 14) (v := ?_) (a' := ?_) #[false, true, false, false, false, false, false, false, false, false, false, false, false] rfl rfl (any_of HT_.out (by kernel_rfl)) (fun _ _ _ h => h) (Or.inl ⟨(by rfl), ?_⟩) ?_ ?_
      rotate_left
      · exact z13
      rotate_left
      · exact z4
      refine pure_ (i := 2) (N := some 15) (v := ?_) (a' := ?_) #[false, true, true, false, false, false, false, false, false, false, false, false, false] rfl rfl (any_of HT_.out (by kernel_rfl)) (fun _ _ _ h => h) (Or.inl ⟨(by rfl), ?_⟩) ?_ ?_
      rotate_left
      · exact z13
      rotate_left
      · exact z4
      refine pure_ (i := 4) (N := some 17) (v := ?_) (a' := ?_) #[false, true, true, false, true, false, false, false, false, false, false, false, false] rfl rfl (any_of HT_.out (by kernel_rfl)) (fun _ _ _ h => h) (Or.inl ⟨(by rfl), ?_⟩) ?_ ?_
      rotate_left
      · exact z13
      rotate_left
      · exact z4
      refine take_ (i := 0) (N := some 13) (v := ?_) (a' := ?_) #[true, true, true, false, true, false, false, false, false, false, false, false, false] rfl rfl (take_ofW HT_.out HW_.out (by kernel_rfl)) (fun _ _ _ h => h) (Or.inl ⟨(by rfl), ?_⟩) hHeld ?_ ?_
      rotate_left
      · rintro w' ⟨s0, s1, s2, s3⟩
        go_simp
        with_reducible rfl
      rotate_left
      · exact z4
      refine take_ (i := 3) (N := some 16) (v := ?_) (a' := ?_) #[true, true, true, true, true, false, false, false, false, false, false, false, false] rfl rfl (take_ofW HT_.out HW_.out (by kernel_rfl)) (fun _ _ _ h => h) (Or.inl ⟨(by rfl), ?_⟩) hHeld ?_ ?_
      rotate_left
      · rintro w' ⟨s0, s1, s2, s3⟩
        go_simp
        with_reducible rfl
      rotate_left
      · exact z4
      refine take_ (i := 5) (N := some 18) (v := ?_) (a' := ?_) #[true, true, true, true, true, true, false, false, false, false, false, false, false] rfl rfl (take_ofW HT_.out HW_.out (by kernel_rfl)) (fun _ _ _ h => h) (Or.inl ⟨(by rfl), ?_⟩) hHeld ?_ ?_
      rotate_left
      · rintro w' ⟨s0, s1, s2, s3⟩
        go_simp
        with_reducible rfl
      rotate_left
      · exact z4
      refine one_ (i := 6) (N := some 19) #[true, true, true, true, true, true, true, false, false, false, false, false, false] rfl rfl (one_of HT_.out (by kernel_rfl)) (by decide) (fun K hK => ?_)
      refine goes_ Try.func74 (by kernel_rfl) rfl #[.pointer (some ⟨g317, 0, none⟩), .int .i64 t101, .int .i64 t111] (by rfl) rfl rfl z2 ?_
      with_reducible refine (spec_l08DrawSet.calls k g317 t100 t114 t115 t101 t111 t102 t116 t117 w _ ?side1 ?side2 A4.out).mono ?_
      (case side1 => exact z10)
      (case side2 => exact z11)
      rintro e w20 ⟨rfl, hi, hb, hk⟩
      refine ⟨_, rfl, ?_⟩
      have n0_ := zKB BK130 hk NB130_131
      have n1_ := zKB BK132 hk NB132_131
      have n2_ := Aside0.mk (hb)
      have n3_ := Aside0.mk (hi)
      clear BK130 BK132 HB HI131
      have BK130 := n0_
      have BK132 := n1_
      have HB := n2_
      have HI131 := n3_
      clear n0_ n1_ n2_ n3_
      (try clear hb)
      (try clear hb2)
      (try clear hk)
      (try clear hi)
      refine hK.out _ _ ⟨(blk_cell BK132.out 0).trans rfl, (blk_cell BK132.out 1).trans rfl, (blk_cell BK132.out 2).trans rfl, (blk_cell BK132.out 3).trans rfl⟩ (fun hHeld => ?_)
      clear hK K
      refine norm_ (a' := ?_) ?_ ?_
      rotate_left
      · show Act.put _ (some 19) _ = _
        simp only [Act.put, List.setIfInBounds_toArray, List.set_cons_zero, List.set_cons_succ, i64_w, i32_w]
        rfl
      refine one_ (i := 7) (N := some 20) #[true, true, true, true, true, true, true, true, false, false, false, false, false] rfl rfl (one_of HT_.out (by kernel_rfl)) (by decide) (fun K hK => ?_)
      refine goes_ Try.func27 (by kernel_rfl) rfl #[.agg #[.int .i64 t101, .int .i64 t111, .int .i64 t112, .int .i64 t113], .int .i64 t102] (by rfl) rfl rfl z2 ?_
      with_reducible refine (spec_NumbersOf.calls k t101 t111 t112 t113 t102 t103 t118 _ A5.out).mono ?_
      rintro e w21 ⟨v133, rfl, ho0, hb⟩
      refine ⟨_, rfl, ?_⟩
      have n0_ := Aside0.mk (Kd.R_lower ho0 (below_size z11))
      have n1_ := zBB BK130 hb
      have n2_ := Aside0.mk (IsS93.below z10 hb)
      have n3_ := zBB BK132 hb
      have n4_ := Aside0.mk (below_step z11 hb)
      clear BK130 HI131 BK132 HB
      have HO134 := n0_
      have BK130 := n1_
      have HI131 := n2_
      have BK132 := n3_
      have HB := n4_
      clear n0_ n1_ n2_ n3_ n4_
      (try clear hb)
      (try clear hb2)
      (try clear hk)
      (try clear hi)
      (try clear ho0)
      refine hK.out _ _ ⟨(blk_cell BK132.out 0).trans rfl, (blk_cell BK132.out 1).trans rfl, (blk_cell BK132.out 2).trans rfl, (blk_cell BK132.out 3).trans rfl⟩ (fun hHeld => ?_)
      clear hK K
      refine norm_ (a' := ?_) ?_ ?_
      rotate_left
      · show Act.put _ (some 20) _ = _
        simp only [Act.put, List.setIfInBounds_toArray, List.set_cons_zero, List.set_cons_succ, i64_w, i32_w]
        rfl
      refine pure_ (i := 8) (N := some 12) (v := ?_) (a' := ?_) #[true, true, true, true, true, true, true, true, true, false, false, false, false] rfl rfl (any_of HT_.out (by kernel_rfl)) (fun _ _ _ h => h) (Or.inl ⟨(by rfl), ?_⟩) ?_ ?_
      rotate_left
      · exact z13
      rotate_left
      · exact z4
      refine pure_ (i := 9) (N := some 21) (v := ?_) (a' := ?_) #[true, true, true, true, true, true, true, true, true, true, false, false, false] rfl rfl (any_of HT_.out (by kernel_rfl)) (fun _ _ _ h => h) (Or.inl ⟨(by rfl), ?_⟩) ?_ ?_
      rotate_left
      · exact z13
      rotate_left
      · exact z4
      refine pure_ (i := 10) (N := some 22) (v := ?_) (a' := ?_) #[true, true, true, true, true, true, true, true, true, true, true, false, false] rfl rfl (any_of HT_.out (by kernel_rfl)) (fun _ _ _ h => h) (Or.inl ⟨(by rfl), ?_⟩) ?_ ?_
      rotate_left
      · exact z13
      rotate_left
      · exact z4
      refine pure_ (i := 11) (N := some 6) (v := ?_) (a' := ?_) #[true, true, true, true, true, true, true, true, true, true, true, true, false] rfl rfl (any_of HT_.out (by kernel_rfl)) (fun _ _ _ h => h) (Or.inl ⟨(by rfl), ?_⟩) ?_ ?_
      rotate_left
      · exact z13
      rotate_left
      · exact z4
      refine pure_ (i := 12) (N := some 7) (v := ?_) (a' := ?_) #[true, true, true, true, true, true, true, true, true, true, true, true, true] rfl rfl (any_of HT_.out (by kernel_rfl)) (fun _ _ _ h => h) (Or.inl ⟨(by rfl), ?_⟩) ?_ ?_
      rotate_left
      · exact z13
      rotate_left
      · exact z4
      refine done_ (done_of HT_.out (by kernel_rfl)) ?_
      try go_wp2_with (first | ((with_reducible refine gate_callee (f := 75) rfl ?_); refine goesL_ (some 24) rfl rfl Try.func75 (by kernel_rfl) rfl #[.pointer (some ⟨g317, 0, none⟩), .int .i64 12] rfl z2 ?_; (with_reducible refine (spec_l01Next.calls g317 t100 t116 t117 12 t104 t119 t120 w _ ?side1 ?side2 A6.out).mono ?_); (case side1 => exact z10); (case side2 => exact z11); rintro e w22 ⟨rfl, hi, hb, hk⟩; refine ⟨_, rfl, ?_⟩; have n0_ := zKB BK130 hk NB130_131; have n1_ := zKB BK132 hk NB132_131; have n2_ := Aside0.mk (Kd.R_mono (Kd.R_keep (IsS93.apart (show IsS93 w _ g317 t100 t116 t117 from z10) z75 (by decide)) hk (fun _ h => h.2)) (fun _ h => h.1)); have n3_ := Aside0.mk (hb); have n4_ := Aside0.mk (hi); clear BK130 BK132 HO134 HB HI131; have BK130 := n0_; have BK132 := n1_; have HO134 := n2_; have HB := n3_; have HI131 := n4_; clear n0_ n1_ n2_ n3_ n4_; (try clear hb); (try clear hb2); (try clear hk); (try clear hi)) | ((with_reducible refine gate_dst (N := 29) rfl ?_); refine Kd.R_lit (Kd.int .i64) _ 2 ?hg (N := 29) ?hd (xs := ([12, 0, (-1)] : List Int)) (inner := [.int .i64 12, .int .i64 0, .int .i64 (-1)]) (ok := fun _ => True) (okp := fun _ => True) ?hr ?hp (fun _ hk => hk) trivial (Below.refl _ _) (Nat.le_refl _) (by simp) ?_; (case hd => rfl); (case hg => rfl); (case hr => first | (go_simp; done) | (go_simp; rfl)); (case hp => exact (Reps.one (show Kd.M (Kd.int .i64) _ _ _ 12 [.int .i64 12] from rfl) (Reps.one (show Kd.M (Kd.int .i64) _ _ _ 0 [.int .i64 0] from rfl) (Reps.one (show Kd.M (Kd.int .i64) _ _ _ (-1) [.int .i64 (-1)] from rfl) (Reps.none _ _))))); intro v135 w23 ho24 hb hg_ hnew_; clear hg_ hnew_; (first | rw [← Ny121.out] at ho24 | (simp only [Int.reduceToNat] at ho24; rw [← Ny121.out] at ho24)); have n0_ := Aside0.mk (Kd.R_elder' z75 (Kd.R_base ho24) hb); have n1_ := Aside0.mk (Kd.R_lower (Kd.R_new' ho24 (Kd.R_lt z75)) (below_size z11)); have n2_ := zBB BK130 hb; have n3_ := Aside0.mk (IsS93.below z10 hb); have n4_ := zBB BK132 hb; have n5_ := Aside0.mk (below_step z11 hb); clear HO134 BK130 HI131 BK132 HB; have HO134 := n0_; have HO136 := n1_; have BK130 := n2_; have HI131 := n3_; have BK132 := n4_; have HB := n5_; clear n0_ n1_ n2_ n3_ n4_ n5_; clear hb ho24; obtain ⟨Ao25, co25, eo25⟩ := Kd.R_slice HO136.out; subst eo25) | ((with_reducible refine gate_callee (f := 76) rfl ?_); refine goesL_ (some 30) rfl rfl Try.func76 (by kernel_rfl) rfl #[.pointer (some ⟨g317, 0, none⟩), .slice Ao25 y121.length co25] rfl z2 ?_; (with_reducible refine (spec_l01Pick.calls g317 t100 t119 t120 _ _ y121 t105 t122 t123 w _ ?side1 ?side2 ?side3 ?side4 ?side5 A8.out).mono ?_); (case side1 => exact z10); (case side2 => exact z11); (case side3 => exact (by repeat (first | exact (Kd.R_reads' HO136.out).2.2 | (with_reducible refine Kd.C_alloc ?_ _) | (with_reducible refine Kd.C_drewN ?_ _) | (with_reducible refine Kd.C_drew ?_)))); (case side4 => exact (Kd.R_reads' HO136.out).2.1); (case side5 => exact far_slice (IsS93.own_ne HI131.out HO136.out (by decide))); rintro e w26 ⟨rfl, hi, hb, hk⟩; refine ⟨_, rfl, ?_⟩; have n0_ := zKB BK130 hk NB130_131; have n1_ := zKB BK132 hk NB132_131; have n2_ := Aside0.mk (Kd.R_mono (Kd.R_keep (IsS93.apart (show IsS93 w _ g317 t100 t119 t120 from z10) z75 (by decide)) hk (fun _ h => h.2)) (fun _ h => h.1)); have n3_ := Aside0.mk (Kd.R_mono (Kd.R_keep (IsS93.apart (show IsS93 w _ g317 t100 t119 t120 from z10) z94 (by decide)) hk (fun _ h => h.2)) (fun _ h => h.1)); have n4_ := Aside0.mk (hb); have n5_ := Aside0.mk (hi); clear BK130 BK132 HO134 HO136 HB HI131; have BK130 := n0_; have BK132 := n1_; have HO134 := n2_; have HO136 := n3_; have HB := n4_; have HI131 := n5_; clear n0_ n1_ n2_ n3_ n4_ n5_; (try clear hb); (try clear hb2); (try clear hk); (try clear hi)) | ((with_reducible refine gate_builtin (b := .append) (xs := #[.tmp 27, .tmp 31]) rfl ?_); at_builtin; refine Kd.R_append (Kd.int .i64) (w0 := w) w.heap.size rfl (.tmp 27) (.tmp 31) 24 2 (.int .i64 0) 8 rfl Try.underlying24 info2 rfl (by decide) (by omega) v133 t103 t105 [.int .i64 t105] (fun k_ => some k_ ≠ (.slice Ao25 y121.length co25 : Value).ownBlock) (fun _ => False) rfl rfl ?aP (fun _ hk => hk.elim) ?aF ?aO ?aB ?aS ?aL ?_; (case aP => exact rfl); (case aB => exact z11); (case aF => exact (fun k_ hk => Kd.fresh' (Kd.R_lt z94) k_ hk)); (case aO => exact (by (with_reducible repeat (first | apply Kd.R_alloc | apply Kd.R_drewN | apply Kd.R_drew)); exact Kd.R_mono HO134.out (fun _ hk => hk.2))); (case aS => exact (below_size z11)); (case aL => have := LMc9.out; omega); intro v137 w27 ho hb hg hat; rw [← Ny124.out] at ho; have n0_ := Aside0.mk (blk_grown (g := gb130) (o := .cells #[.int .i64 0, .int .i64 0, .int .i64 0, .int .i64 0] 27 (0, 0)) z53 hg (Kd.R_ne HO134.out BK130.out (by decide))); have n1_ := Aside0.mk (IsS93.grown z10 hg (IsS93.own_ne HI131.out HO134.out (by decide))); have n2_ := Aside0.mk (blk_grown (g := gb132) (o := .cells #[.int .i64 t101, .int .i64 t111, .int .i64 t112, .int .i64 t113] 27 (0, 0)) (by (with_reducible repeat (first | refine blk_drewN ?_ _ | refine blk_drew ?_ | refine blk_alloc ?_ _)); exact BK132.out) hg (Kd.R_ne HO134.out BK132.out (by decide))); have n3_ := Aside0.mk (Kd.R_after (ok := (fun _ => True)) z94 hg hat); have n4_ := Aside0.mk (hb); have n5_ := Aside0.mk (ho); clear BK130 HI131 BK132 HO136 HB HO134; have BK130 := n0_; have HI131 := n1_; have BK132 := n2_; have HO136 := n3_; have HB := n4_; have HO138 := n5_; clear n0_ n1_ n2_ n3_ n4_ n5_; clear ho hb hg hat; obtain ⟨hcz28_0, hcz28_1, hcz28_2, hcz28_3, hfz28_0, hfz28_1, hfz28_2, hfz28_3⟩ := zC4 BK132.out) | ((with_reducible refine gate_callee (f := 77) rfl ?_); refine goesL_ (some 39) rfl rfl Try.func77 (by kernel_rfl) rfl #[.pointer (some ⟨g317, 0, none⟩), .agg #[.int .i64 t101, .int .i64 t111, .int .i64 t112, .int .i64 t113]] rfl z2 ?_; (with_reducible refine (spec_l08Bad.calls g317 t100 t122 t123 t101 t111 t112 t113 t106 t125 t126 t127 t128 t129 w _ ?side1 ?side2 A10.out).mono ?_); (case side1 => exact z10); (case side2 => exact z11); rintro e w29 ⟨rfl, hi, hb, hk⟩; refine ⟨_, rfl, ?_⟩; have n0_ := zKB BK130 hk NB130_131; have n1_ := zKB BK132 hk NB132_131; have n2_ := Aside0.mk (Kd.R_mono (Kd.R_keep (IsS93.apart (show IsS93 w _ g317 t100 t122 t123 from z10) z94 (by decide)) hk (fun _ h => h.2)) (fun _ h => h.1)); have n3_ := Aside0.mk (Kd.R_mono (Kd.R_keep (IsS93.apart (show IsS93 w _ g317 t100 t122 t123 from z10) z116 (by decide)) hk (fun _ h => h.2)) (fun _ h => h.1)); have n4_ := Aside0.mk (hb); have n5_ := Aside0.mk (hi); clear BK130 BK132 HO136 HO138 HB HI131; have BK130 := n0_; have BK132 := n1_; have HO136 := n2_; have HO138 := n3_; have HB := n4_; have HI131 := n5_; clear n0_ n1_ n2_ n3_ n4_ n5_; (try clear hb); (try clear hb2); (try clear hk); (try clear hi); have hnb30 := NB130_131.out; have hnc30 := NB131_130.out; obtain ⟨hcz31_0, hcz31_1, hcz31_2, hcz31_3, hfz31_0, hfz31_1, hfz31_2, hfz31_3⟩ := zC4 BK130.out))
      refine bodyPost_ret (results_ct rfl _ _ gb130 27 #[.int .i64 t106, .int .i64 t125, .int .i64 t126, .int .i64 t127] (0, 0) _ rfl (by (with_reducible repeat (first | refine blk_drewN ?_ _ | refine blk_drew ?_ | refine blk_alloc ?_ _)); refine blk_put (cs := #[.int .i64 t106, .int .i64 t125, .int .i64 t126, .int .i64 0]) ?_ 3 _ rfl; (with_reducible repeat (first | refine blk_drewN ?_ _ | refine blk_drew ?_ | refine blk_alloc ?_ _)); refine blk_put (cs := #[.int .i64 t106, .int .i64 t125, .int .i64 0, .int .i64 0]) ?_ 2 _ rfl; (with_reducible repeat (first | refine blk_drewN ?_ _ | refine blk_drew ?_ | refine blk_alloc ?_ _)); refine blk_put (cs := #[.int .i64 t106, .int .i64 0, .int .i64 0, .int .i64 0]) ?_ 1 _ rfl; (with_reducible repeat (first | refine blk_drewN ?_ _ | refine blk_drew ?_ | refine blk_alloc ?_ _)); refine blk_put (cs := #[.int .i64 0, .int .i64 0, .int .i64 0, .int .i64 0]) ?_ 0 _ rfl; (with_reducible repeat (first | refine blk_drewN ?_ _ | refine blk_drew ?_ | refine blk_alloc ?_ _)); exact BK130.out) Try.underlying27 rfl (by kernel_rfl)) rfl ?_
      exact ⟨_, z6, Kd.Q_of_R (by (with_reducible repeat (first | apply Kd.R_alloc | apply Kd.R_drewN | apply Kd.R_drew)); exact Kd.R_mono (Kd.R_far (p := ⟨gb130, 3, none⟩) (Kd.R_far (p := ⟨gb130, 2, none⟩) (Kd.R_far (p := ⟨gb130, 1, none⟩) (Kd.R_far (p := ⟨gb130, 0, none⟩) (Kd.R_types HO138.out BK130.out (by decide)) (fun _ hk => hk.2) (.int .i64 t106)) (fun _ hk => hk.2) (.int .i64 t125)) (fun _ hk => hk.2) (.int .i64 t126)) (fun _ hk => hk.2) (.int .i64 t127)) (fun _ hk => trivial)), z11⟩
    · rw [if_neg c9] at H
      exact absurd H (by simp)
  · rw [if_neg c7] at H
    have c7b0 : (t104 == 0) = false := beq_eq_false_iff_ne.mpr c7
    have c7b1 : (t104 != 0) = true := bne_iff_ne.mpr c7
    by_cases c32 : t104 = 1
    · rw [if_pos c32] at H
      have c32b0 : (t104 == 1) = true := beq_iff_eq.mpr c32
      have c32b1 : (t104 != 1) = false := bne_eq_false_iff_eq.mpr c32
      clear c32
      by_cases c33 : 1 ≤ (t103.length : Int)
      · rw [if_pos c33] at H
        have c33b0 := eq_true c33
        have c33b1 : decide (1 ≤ (t103.length : Int)) = true := decide_eq_true c33
        clear c33
        obtain ⟨y139, hy139⟩ : ∃ y_ : List Int, y_ = (t103.drop (1 : Int).toNat) := ⟨_, rfl⟩
        replace H : ((spec_l08Bad.f t100 t119 t120 t101 t111 t112 t113).bind fun bt107 => (some (bt107.1, bt107.2.1, bt107.2.2.1, bt107.2.2.2.1, y139))) = some (r1, r2, r3, r4, r5) := by first | (rw [hy139]; with_reducible exact H) | (have H2_ := (Option.bind_some _ _).symm.trans H; rw [hy139]; with_reducible exact H2_) | (have H2_ := (Option.bind_some _ _).symm.trans H; with_reducible exact H2_) | with_reducible exact H | (rw [hy139]; exact H) | exact H
        have Ny139 := Aside0.mk hy139
        clear hy139
        replace H := Option.bind_eq_some_iff.mp H
        obtain ⟨⟨t107, t140, t141, t142, t143, t144⟩, A340, H⟩ := H
        (try dsimp -simprocs only at H)
        have A34 := Aside0.mk A340
        clear A340
        simp only [Option.some.injEq, Prod.mk.injEq] at H
        obtain ⟨rfl, rfl, rfl, rfl, rfl⟩ := H
        go_enter Try.func22, Try.ntmps22
        try go_wp2_with (first | ((with_reducible refine gate_dst (N := 2) rfl ?_); refine box_event ?hg (N := 2) ?hd (cs := #[.int .i64 0, .int .i64 0, .int .i64 0, .int .i64 0]) (t := 27) ?hr ?_; (case hd => rfl); (case hg => rfl); (case hr => first | (go_simp; done) | (go_simp; rfl)); intro gb130 hg w35 hbox hb; have n0_ := Aside0.mk (below_step z1 hb); have n1_ := Aside0.mk (hbox); have n2_ := Aside0.mk ((z122 : w.heap.size ≤ gb130)); have n3_ := Aside0.mk ((z122 : w.heap.size ≤ gb130)); clear HB; have HB := n0_; have BK130 := n1_; have GW130 := n2_; have GE130 := n3_; clear n0_ n1_ n2_ n3_; clear hb hbox hg) | ((with_reducible refine gate_callee (f := 72) rfl ?_); refine goesL_ (some 9) rfl rfl Try.func72 (by kernel_rfl) rfl #[.slice A0 l0.length c0] rfl z2 ?_; (with_reducible refine (spec_l01From.calls k _ _ l0 t100 t109 t110 w _ ?side1 ?side2 ?side3 A2.out).mono ?_); (case side1 => exact z89); (case side2 => exact HR0.out); (case side3 => exact HC0.out); rintro e w36 ⟨g317, rfl, hi, hb, hb2⟩; refine ⟨_, rfl, ?_⟩; have n0_ := zBB BK130 hb2; have n1_ := Aside0.mk (hb); have n2_ := Aside0.mk (hi); have n3_ := Aside0.mk (IsS93.ne_blk hi (blk_below (g := gb130) (o := .cells #[.int .i64 0, .int .i64 0, .int .i64 0, .int .i64 0] 27 (0, 0)) z53 hb2) (by decide)); have n4_ := Aside0.mk (Ne.symm (IsS93.ne_blk hi (blk_below (g := gb130) (o := .cells #[.int .i64 0, .int .i64 0, .int .i64 0, .int .i64 0] 27 (0, 0)) z53 hb2) (by decide))); clear BK130 HB; have BK130 := n0_; have HB := n1_; have HI131 := n2_; have NB131_130 := n3_; have NB130_131 := n4_; clear n0_ n1_ n2_ n3_ n4_; (try clear hb); (try clear hb2); (try clear hk); (try clear hi)) | ((with_reducible refine gate_callee (f := 73) rfl ?_); refine goesL_ (some 11) rfl rfl Try.func73 (by kernel_rfl) rfl #[.pointer (some ⟨g317, 0, none⟩), .int .i64 12] rfl z2 ?_; (with_reducible refine (spec_l08DrawOf.calls g317 t100 t109 t110 12 t101 t111 t112 t113 t114 t115 w _ ?side1 ?side2 A3.out).mono ?_); (case side1 => exact z31); (case side2 => exact z33); rintro e w37 ⟨rfl, hi, hb, hk⟩; refine ⟨_, rfl, ?_⟩; have n0_ := zKB BK130 hk NB130_131; have n1_ := Aside0.mk (hb); have n2_ := Aside0.mk (hi); clear BK130 HB HI131; have BK130 := n0_; have HB := n1_; have HI131 := n2_; clear n0_ n1_ n2_; (try clear hb); (try clear hb2); (try clear hk); (try clear hi)) | ((with_reducible refine gate_dst (N := 5) rfl ?_); refine box_event ?hg (N := 5) ?hd (cs := #[.int .i64 0, .int .i64 0, .int .i64 0, .int .i64 0]) (t := 27) ?hr ?_; (case hd => rfl); (case hg => rfl); (case hr => first | (go_simp; done) | (go_simp; rfl)); intro gb132 hg w38 hbox hb; have n0_ := zBB BK130 hb; have n1_ := Aside0.mk (IsS93.below z31 hb); have n2_ := Aside0.mk (below_step z33 hb); have n3_ := Aside0.mk (hbox); have n4_ := Aside0.mk ((z139 : w.heap.size ≤ gb132)); have n5_ := Aside0.mk ((z139 : w.heap.size ≤ gb132)); have n6_ := Aside0.mk ((z132 : gb130 ≠ gb132)); have n7_ := Aside0.mk ((z133 : gb132 ≠ gb130)); have n8_ := Aside0.mk ((z137 : g317 ≠ gb132)); have n9_ := Aside0.mk ((z138 : gb132 ≠ g317)); clear BK130 HI131 HB; have BK130 := n0_; have HI131 := n1_; have HB := n2_; have BK132 := n3_; have GW132 := n4_; have GE132 := n5_; have NB130_132 := n6_; have NB132_130 := n7_; have NB131_132 := n8_; have NB132_131 := n9_; clear n0_ n1_ n2_ n3_ n4_ n5_ n6_ n7_ n8_ n9_; clear hb hbox hg; have hnb39 := NB132_130.out; have hnc39 := NB130_132.out; have hnb40 := NB132_131.out; have hnc40 := NB131_132.out; obtain ⟨hcz41_0, hcz41_1, hcz41_2, hcz41_3, hfz41_0, hfz41_1, hfz41_2, hfz41_3⟩ := zC4 BK132.out))
        have n0_ : Aside0 (((((w38.setCell ⟨gb132, 0, none⟩ (.int .i64 t101)).setCell ⟨gb132, 1, none⟩ (.int .i64 t111)).setCell ⟨gb132, 2, none⟩ (.int .i64 t112)).setCell ⟨gb132, 3, none⟩ (.int .i64 t113)).heap[gb130]? = some (.cells #[.int .i64 0, .int .i64 0, .int .i64 0, .int .i64 0] 27 (0, 0))) := ⟨z40⟩
        have n1_ : Aside0 (((((w38.setCell ⟨gb132, 0, none⟩ (.int .i64 t101)).setCell ⟨gb132, 1, none⟩ (.int .i64 t111)).setCell ⟨gb132, 2, none⟩ (.int .i64 t112)).setCell ⟨gb132, 3, none⟩ (.int .i64 t113)).heap[gb132]? = some (.cells #[.int .i64 t101, .int .i64 t111, .int .i64 t112, .int .i64 t113] 27 (0, 0))) := ⟨z29⟩
        have n2_ : Aside0 (IsS93 w ((((w38.setCell ⟨gb132, 0, none⟩ (.int .i64 t101)).setCell ⟨gb132, 1, none⟩ (.int .i64 t111)).setCell ⟨gb132, 2, none⟩ (.int .i64 t112)).setCell ⟨gb132, 3, none⟩ (.int .i64 t113)) g317 t100 t114 t115) := ⟨z10⟩
        have n3_ : Aside0 (Below w.heap.size w ((((w38.setCell ⟨gb132, 0, none⟩ (.int .i64 t101)).setCell ⟨gb132, 1, none⟩ (.int .i64 t111)).setCell ⟨gb132, 2, none⟩ (.int .i64 t112)).setCell ⟨gb132, 3, none⟩ (.int .i64 t113))) := ⟨z11⟩
        (try clear BK130)
        (try clear BK132)
        (try clear HI131)
        (try clear HB)
        generalize ((((w38.setCell ⟨gb132, 0, none⟩ (.int .i64 t101)).setCell ⟨gb132, 1, none⟩ (.int .i64 t111)).setCell ⟨gb132, 2, none⟩ (.int .i64 t112)).setCell ⟨gb132, 3, none⟩ (.int .i64 t113)) = w42 at n0_ n1_ n2_ n3_ ⊢
        have BK130 := n0_
        have BK132 := n1_
        have HI131 := n2_
        have HB := n3_
        clear n0_ n1_ n2_ n3_
        have n0_ := Aside0.mk (blk_drew BK130.out)
        have n1_ := Aside0.mk (blk_drew BK132.out)
        have n2_ := Aside0.mk (IsS93.drew HI131.out)
        have n3_ := Aside0.mk (below_drew1 HB.out)
        clear BK130 BK132 HI131 HB
        have BK130 := n0_
        have BK132 := n1_
        have HI131 := n2_
        have HB := n3_
        clear n0_ n1_ n2_ n3_
        refine start_ (n := 13) (S := fun w' => w'.cell? ⟨gb132, 0, none⟩ = some (.int .i64 t101) ∧ w'.cell? ⟨gb132, 1, none⟩ = some (.int .i64 t111) ∧ w'.cell? ⟨gb132, 2, none⟩ = some (.int .i64 t112) ∧ w'.cell? ⟨gb132, 3, none⟩ = some (.int .i64 t113)) (ds := []) #[false, false, false, false, false, false, false, false, false, false, false, false, false] (by kernel_rfl) rfl rfl ⟨(blk_cell BK132.out 0).trans rfl, (blk_cell BK132.out 1).trans rfl, (blk_cell BK132.out 2).trans rfl, (blk_cell BK132.out 3).trans rfl⟩ (fun hHeld => ?_); refine with_tabW spec_DrawTicketOf.tab3 spec_DrawTicketOf.bits3 (fun HT_ HW_ => ?_)
        generalize w42.drew = w43 at BK130 BK132 HI131 HB hHeld ⊢
        refine pure_ (i := 1) (N := some 14) (v := ?_) (a' := ?_) #[false, true, false, false, false, false, false, false, false, false, false, false, false] rfl rfl (any_of HT_.out (by kernel_rfl)) (fun _ _ _ h => h) (Or.inl ⟨(by rfl), ?_⟩) ?_ ?_
        rotate_left
        · exact z13
        rotate_left
        · exact z4
        refine pure_ (i := 2) (N := some 15) (v := ?_) (a' := ?_) #[false, true, true, false, false, false, false, false, false, false, false, false, false] rfl rfl (any_of HT_.out (by kernel_rfl)) (fun _ _ _ h => h) (Or.inl ⟨(by rfl), ?_⟩) ?_ ?_
        rotate_left
        · exact z13
        rotate_left
        · exact z4
        refine pure_ (i := 4) (N := some 17) (v := ?_) (a' := ?_) #[false, true, true, false, true, false, false, false, false, false, false, false, false] rfl rfl (any_of HT_.out (by kernel_rfl)) (fun _ _ _ h => h) (Or.inl ⟨(by rfl), ?_⟩) ?_ ?_
        rotate_left
        · exact z13
        rotate_left
        · exact z4
        refine take_ (i := 0) (N := some 13) (v := ?_) (a' := ?_) #[true, true, true, false, true, false, false, false, false, false, false, false, false] rfl rfl (take_ofW HT_.out HW_.out (by kernel_rfl)) (fun _ _ _ h => h) (Or.inl ⟨(by rfl), ?_⟩) hHeld ?_ ?_
        rotate_left
        · rintro w' ⟨s0, s1, s2, s3⟩
          go_simp
          with_reducible rfl
        rotate_left
        · exact z4
        refine take_ (i := 3) (N := some 16) (v := ?_) (a' := ?_) #[true, true, true, true, true, false, false, false, false, false, false, false, false] rfl rfl (take_ofW HT_.out HW_.out (by kernel_rfl)) (fun _ _ _ h => h) (Or.inl ⟨(by rfl), ?_⟩) hHeld ?_ ?_
        rotate_left
        · rintro w' ⟨s0, s1, s2, s3⟩
          go_simp
          with_reducible rfl
        rotate_left
        · exact z4
        refine take_ (i := 5) (N := some 18) (v := ?_) (a' := ?_) #[true, true, true, true, true, true, false, false, false, false, false, false, false] rfl rfl (take_ofW HT_.out HW_.out (by kernel_rfl)) (fun _ _ _ h => h) (Or.inl ⟨(by rfl), ?_⟩) hHeld ?_ ?_
        rotate_left
        · rintro w' ⟨s0, s1, s2, s3⟩
          go_simp
          with_reducible rfl
        rotate_left
        · exact z4
        refine one_ (i := 6) (N := some 19) #[true, true, true, true, true, true, true, false, false, false, false, false, false] rfl rfl (one_of HT_.out (by kernel_rfl)) (by decide) (fun K hK => ?_)
        refine goes_ Try.func74 (by kernel_rfl) rfl #[.pointer (some ⟨g317, 0, none⟩), .int .i64 t101, .int .i64 t111] (by rfl) rfl rfl z2 ?_
        with_reducible refine (spec_l08DrawSet.calls k g317 t100 t114 t115 t101 t111 t102 t116 t117 w _ ?side1 ?side2 A4.out).mono ?_
        (case side1 => exact z10)
        (case side2 => exact z11)
        rintro e w44 ⟨rfl, hi, hb, hk⟩
        refine ⟨_, rfl, ?_⟩
        have n0_ := zKB BK130 hk NB130_131
        have n1_ := zKB BK132 hk NB132_131
        have n2_ := Aside0.mk (hb)
        have n3_ := Aside0.mk (hi)
        clear BK130 BK132 HB HI131
        have BK130 := n0_
        have BK132 := n1_
        have HB := n2_
        have HI131 := n3_
        clear n0_ n1_ n2_ n3_
        (try clear hb)
        (try clear hb2)
        (try clear hk)
        (try clear hi)
        refine hK.out _ _ ⟨(blk_cell BK132.out 0).trans rfl, (blk_cell BK132.out 1).trans rfl, (blk_cell BK132.out 2).trans rfl, (blk_cell BK132.out 3).trans rfl⟩ (fun hHeld => ?_)
        clear hK K
        refine norm_ (a' := ?_) ?_ ?_
        rotate_left
        · show Act.put _ (some 19) _ = _
          simp only [Act.put, List.setIfInBounds_toArray, List.set_cons_zero, List.set_cons_succ, i64_w, i32_w]
          rfl
        refine one_ (i := 7) (N := some 20) #[true, true, true, true, true, true, true, true, false, false, false, false, false] rfl rfl (one_of HT_.out (by kernel_rfl)) (by decide) (fun K hK => ?_)
        refine goes_ Try.func27 (by kernel_rfl) rfl #[.agg #[.int .i64 t101, .int .i64 t111, .int .i64 t112, .int .i64 t113], .int .i64 t102] (by rfl) rfl rfl z2 ?_
        with_reducible refine (spec_NumbersOf.calls k t101 t111 t112 t113 t102 t103 t118 _ A5.out).mono ?_
        rintro e w45 ⟨v133, rfl, ho0, hb⟩
        refine ⟨_, rfl, ?_⟩
        have n0_ := Aside0.mk (Kd.R_lower ho0 (below_size z11))
        have n1_ := zBB BK130 hb
        have n2_ := Aside0.mk (IsS93.below z10 hb)
        have n3_ := zBB BK132 hb
        have n4_ := Aside0.mk (below_step z11 hb)
        clear BK130 HI131 BK132 HB
        have HO134 := n0_
        have BK130 := n1_
        have HI131 := n2_
        have BK132 := n3_
        have HB := n4_
        clear n0_ n1_ n2_ n3_ n4_
        (try clear hb)
        (try clear hb2)
        (try clear hk)
        (try clear hi)
        (try clear ho0)
        refine hK.out _ _ ⟨(blk_cell BK132.out 0).trans rfl, (blk_cell BK132.out 1).trans rfl, (blk_cell BK132.out 2).trans rfl, (blk_cell BK132.out 3).trans rfl⟩ (fun hHeld => ?_)
        clear hK K
        refine norm_ (a' := ?_) ?_ ?_
        rotate_left
        · show Act.put _ (some 20) _ = _
          simp only [Act.put, List.setIfInBounds_toArray, List.set_cons_zero, List.set_cons_succ, i64_w, i32_w]
          rfl
        refine pure_ (i := 8) (N := some 12) (v := ?_) (a' := ?_) #[true, true, true, true, true, true, true, true, true, false, false, false, false] rfl rfl (any_of HT_.out (by kernel_rfl)) (fun _ _ _ h => h) (Or.inl ⟨(by rfl), ?_⟩) ?_ ?_
        rotate_left
        · exact z13
        rotate_left
        · exact z4
        refine pure_ (i := 9) (N := some 21) (v := ?_) (a' := ?_) #[true, true, true, true, true, true, true, true, true, true, false, false, false] rfl rfl (any_of HT_.out (by kernel_rfl)) (fun _ _ _ h => h) (Or.inl ⟨(by rfl), ?_⟩) ?_ ?_
        rotate_left
        · exact z13
        rotate_left
        · exact z4
        refine pure_ (i := 10) (N := some 22) (v := ?_) (a' := ?_) #[true, true, true, true, true, true, true, true, true, true, true, false, false] rfl rfl (any_of HT_.out (by kernel_rfl)) (fun _ _ _ h => h) (Or.inl ⟨(by rfl), ?_⟩) ?_ ?_
        rotate_left
        · exact z13
        rotate_left
        · exact z4
        refine pure_ (i := 11) (N := some 6) (v := ?_) (a' := ?_) #[true, true, true, true, true, true, true, true, true, true, true, true, false] rfl rfl (any_of HT_.out (by kernel_rfl)) (fun _ _ _ h => h) (Or.inl ⟨(by rfl), ?_⟩) ?_ ?_
        rotate_left
        · exact z13
        rotate_left
        · exact z4
        refine pure_ (i := 12) (N := some 7) (v := ?_) (a' := ?_) #[true, true, true, true, true, true, true, true, true, true, true, true, true] rfl rfl (any_of HT_.out (by kernel_rfl)) (fun _ _ _ h => h) (Or.inl ⟨(by rfl), ?_⟩) ?_ ?_
        rotate_left
        · exact z13
        rotate_left
        · exact z4
        refine done_ (done_of HT_.out (by kernel_rfl)) ?_
        try go_wp2_with (first | ((with_reducible refine gate_callee (f := 75) rfl ?_); refine goesL_ (some 24) rfl rfl Try.func75 (by kernel_rfl) rfl #[.pointer (some ⟨g317, 0, none⟩), .int .i64 12] rfl z2 ?_; (with_reducible refine (spec_l01Next.calls g317 t100 t116 t117 12 t104 t119 t120 w _ ?side1 ?side2 A6.out).mono ?_); (case side1 => exact z10); (case side2 => exact z11); rintro e w46 ⟨rfl, hi, hb, hk⟩; refine ⟨_, rfl, ?_⟩; have n0_ := zKB BK130 hk NB130_131; have n1_ := zKB BK132 hk NB132_131; have n2_ := Aside0.mk (Kd.R_mono (Kd.R_keep (IsS93.apart (show IsS93 w _ g317 t100 t116 t117 from z10) z75 (by decide)) hk (fun _ h => h.2)) (fun _ h => h.1)); have n3_ := Aside0.mk (hb); have n4_ := Aside0.mk (hi); clear BK130 BK132 HO134 HB HI131; have BK130 := n0_; have BK132 := n1_; have HO134 := n2_; have HB := n3_; have HI131 := n4_; clear n0_ n1_ n2_ n3_ n4_; (try clear hb); (try clear hb2); (try clear hk); (try clear hi); obtain ⟨Ao47, co47, eo47⟩ := Kd.R_slice HO134.out; subst eo47; have q48 : (1 : Int) ≤ ((t103.length : Int) : Int) := of_decide_eq_true z9; obtain ⟨i048, hi048, _, hsz48, _⟩ := info_parts info2; have hcut48 := cut_from (P := Try.prog) 24 2 .i64 Try.underlying24 hi048 1 hsz48 Ao47 t103.length co47 1 (by omega) q48; have hr48 := Kd.Q_drop (k := (1 : Int).toNat) (Kd.Q_of_R HO134.out) (by omega); obtain ⟨A48, hA48⟩ : ∃ A1, A1 = (if co47 = (1 : Int).toNat then Ao47 else (Ao47 : Option Addr).map (·.add ((1 : Int).toNat * 1))) := ⟨_, rfl⟩; obtain ⟨c48, hc48⟩ : ∃ c1, c1 = co47 - (1 : Int).toNat := ⟨_, rfl⟩; have hy48 : y139.length = t103.length - (1 : Int).toNat := (by rw [Ny139.out, List.length_drop]); rw [← Ny139.out] at hr48; rw [← hy48, ← hA48, ← hc48] at hcut48; replace hr48 : Kd.Q (Kd.int .i64) 2 w46 w.heap.size (fun _ => True) (.slice A48 y139.length c48) y139 := (by rw [hA48, hc48, hy48]; exact hr48); have HE48 : Aside0 ((Value.slice A48 y139.length c48).ownBlock = (.slice Ao47 t103.length co47 : Value).ownBlock) := ⟨(by rw [hA48]; split <;> (cases (Ao47 : Option Addr) <;> rfl))⟩; clear hy48 hi048 hsz48 HO134 hA48 hc48; have HO145 := Aside0.mk hr48; clear hr48; replace q48 := eq_true q48; obtain ⟨hcz49_0, hcz49_1, hcz49_2, hcz49_3, hfz49_0, hfz49_1, hfz49_2, hfz49_3⟩ := zC4 BK132.out) | ((with_reducible refine gate_callee (f := 77) rfl ?_); refine goesL_ (some 39) rfl rfl Try.func77 (by kernel_rfl) rfl #[.pointer (some ⟨g317, 0, none⟩), .agg #[.int .i64 t101, .int .i64 t111, .int .i64 t112, .int .i64 t113]] rfl z2 ?_; (with_reducible refine (spec_l08Bad.calls g317 t100 t119 t120 t101 t111 t112 t113 t107 t140 t141 t142 t143 t144 w _ ?side1 ?side2 A34.out).mono ?_); (case side1 => exact z10); (case side2 => exact z11); rintro e w50 ⟨rfl, hi, hb, hk⟩; refine ⟨_, rfl, ?_⟩; have n0_ := zKB BK130 hk NB130_131; have n1_ := zKB BK132 hk NB132_131; have n2_ := Aside0.mk (Kd.Q_mono (Kd.Q_keep (IsS93.apartQ (show IsS93 w _ g317 t100 t119 t120 from z10) (by (with_reducible repeat (first | apply Kd.Q_alloc | apply Kd.Q_drewN | apply Kd.Q_drew)); exact HO145.out) (by decide)) hk (fun _ h => h.2)) (fun _ h => h.1)); have n3_ := Aside0.mk (hb); have n4_ := Aside0.mk (hi); clear BK130 BK132 HO145 HB HI131; have BK130 := n0_; have BK132 := n1_; have HO145 := n2_; have HB := n3_; have HI131 := n4_; clear n0_ n1_ n2_ n3_ n4_; (try clear hb); (try clear hb2); (try clear hk); (try clear hi); have hnb51 := NB130_131.out; have hnc51 := NB131_130.out; obtain ⟨hcz52_0, hcz52_1, hcz52_2, hcz52_3, hfz52_0, hfz52_1, hfz52_2, hfz52_3⟩ := zC4 BK130.out))
        refine bodyPost_ret (results_ct rfl _ _ gb130 27 #[.int .i64 t107, .int .i64 t140, .int .i64 t141, .int .i64 t142] (0, 0) _ rfl (by (with_reducible repeat (first | refine blk_drewN ?_ _ | refine blk_drew ?_ | refine blk_alloc ?_ _)); refine blk_put (cs := #[.int .i64 t107, .int .i64 t140, .int .i64 t141, .int .i64 0]) ?_ 3 _ rfl; (with_reducible repeat (first | refine blk_drewN ?_ _ | refine blk_drew ?_ | refine blk_alloc ?_ _)); refine blk_put (cs := #[.int .i64 t107, .int .i64 t140, .int .i64 0, .int .i64 0]) ?_ 2 _ rfl; (with_reducible repeat (first | refine blk_drewN ?_ _ | refine blk_drew ?_ | refine blk_alloc ?_ _)); refine blk_put (cs := #[.int .i64 t107, .int .i64 0, .int .i64 0, .int .i64 0]) ?_ 1 _ rfl; (with_reducible repeat (first | refine blk_drewN ?_ _ | refine blk_drew ?_ | refine blk_alloc ?_ _)); refine blk_put (cs := #[.int .i64 0, .int .i64 0, .int .i64 0, .int .i64 0]) ?_ 0 _ rfl; (with_reducible repeat (first | refine blk_drewN ?_ _ | refine blk_drew ?_ | refine blk_alloc ?_ _)); exact BK130.out) Try.underlying27 rfl (by kernel_rfl)) rfl ?_
        exact ⟨_, z6, (by (with_reducible repeat (first | apply Kd.Q_alloc | apply Kd.Q_drewN | apply Kd.Q_drew)); exact Kd.Q_mono (Kd.Q_far (p := ⟨gb130, 3, none⟩) (Kd.Q_far (p := ⟨gb130, 2, none⟩) (Kd.Q_far (p := ⟨gb130, 1, none⟩) (Kd.Q_far (p := ⟨gb130, 0, none⟩) (Kd.Q_types HO145.out BK130.out (by decide)) (fun _ hk => hk.2) (.int .i64 t107)) (fun _ hk => hk.2) (.int .i64 t140)) (fun _ hk => hk.2) (.int .i64 t141)) (fun _ hk => hk.2) (.int .i64 t142)) (fun _ hk => trivial)), z11⟩
      · rw [if_neg c33] at H
        exact absurd H (by simp)
    · rw [if_neg c32] at H
      have c32b0 : (t104 == 1) = false := beq_eq_false_iff_ne.mpr c32
      have c32b1 : (t104 != 1) = true := bne_iff_ne.mpr c32
      replace H := Option.bind_eq_some_iff.mp H
      obtain ⟨⟨t108, t146, t147, t148, t149, t150⟩, A530, H⟩ := H
      (try dsimp -simprocs only at H)
      have A53 := Aside0.mk A530
      clear A530
      simp only [Option.some.injEq, Prod.mk.injEq] at H
      obtain ⟨rfl, rfl, rfl, rfl, rfl⟩ := H
      go_enter Try.func22, Try.ntmps22
      try go_wp2_with (first | ((with_reducible refine gate_dst (N := 2) rfl ?_); refine box_event ?hg (N := 2) ?hd (cs := #[.int .i64 0, .int .i64 0, .int .i64 0, .int .i64 0]) (t := 27) ?hr ?_; (case hd => rfl); (case hg => rfl); (case hr => first | (go_simp; done) | (go_simp; rfl)); intro gb130 hg w54 hbox hb; have n0_ := Aside0.mk (below_step z1 hb); have n1_ := Aside0.mk (hbox); have n2_ := Aside0.mk ((z122 : w.heap.size ≤ gb130)); have n3_ := Aside0.mk ((z122 : w.heap.size ≤ gb130)); clear HB; have HB := n0_; have BK130 := n1_; have GW130 := n2_; have GE130 := n3_; clear n0_ n1_ n2_ n3_; clear hb hbox hg) | ((with_reducible refine gate_callee (f := 72) rfl ?_); refine goesL_ (some 9) rfl rfl Try.func72 (by kernel_rfl) rfl #[.slice A0 l0.length c0] rfl z2 ?_; (with_reducible refine (spec_l01From.calls k _ _ l0 t100 t109 t110 w _ ?side1 ?side2 ?side3 A2.out).mono ?_); (case side1 => exact z89); (case side2 => exact HR0.out); (case side3 => exact HC0.out); rintro e w55 ⟨g317, rfl, hi, hb, hb2⟩; refine ⟨_, rfl, ?_⟩; have n0_ := zBB BK130 hb2; have n1_ := Aside0.mk (hb); have n2_ := Aside0.mk (hi); have n3_ := Aside0.mk (IsS93.ne_blk hi (blk_below (g := gb130) (o := .cells #[.int .i64 0, .int .i64 0, .int .i64 0, .int .i64 0] 27 (0, 0)) z53 hb2) (by decide)); have n4_ := Aside0.mk (Ne.symm (IsS93.ne_blk hi (blk_below (g := gb130) (o := .cells #[.int .i64 0, .int .i64 0, .int .i64 0, .int .i64 0] 27 (0, 0)) z53 hb2) (by decide))); clear BK130 HB; have BK130 := n0_; have HB := n1_; have HI131 := n2_; have NB131_130 := n3_; have NB130_131 := n4_; clear n0_ n1_ n2_ n3_ n4_; (try clear hb); (try clear hb2); (try clear hk); (try clear hi)) | ((with_reducible refine gate_callee (f := 73) rfl ?_); refine goesL_ (some 11) rfl rfl Try.func73 (by kernel_rfl) rfl #[.pointer (some ⟨g317, 0, none⟩), .int .i64 12] rfl z2 ?_; (with_reducible refine (spec_l08DrawOf.calls g317 t100 t109 t110 12 t101 t111 t112 t113 t114 t115 w _ ?side1 ?side2 A3.out).mono ?_); (case side1 => exact z31); (case side2 => exact z33); rintro e w56 ⟨rfl, hi, hb, hk⟩; refine ⟨_, rfl, ?_⟩; have n0_ := zKB BK130 hk NB130_131; have n1_ := Aside0.mk (hb); have n2_ := Aside0.mk (hi); clear BK130 HB HI131; have BK130 := n0_; have HB := n1_; have HI131 := n2_; clear n0_ n1_ n2_; (try clear hb); (try clear hb2); (try clear hk); (try clear hi)) | ((with_reducible refine gate_dst (N := 5) rfl ?_); refine box_event ?hg (N := 5) ?hd (cs := #[.int .i64 0, .int .i64 0, .int .i64 0, .int .i64 0]) (t := 27) ?hr ?_; (case hd => rfl); (case hg => rfl); (case hr => first | (go_simp; done) | (go_simp; rfl)); intro gb132 hg w57 hbox hb; have n0_ := zBB BK130 hb; have n1_ := Aside0.mk (IsS93.below z31 hb); have n2_ := Aside0.mk (below_step z33 hb); have n3_ := Aside0.mk (hbox); have n4_ := Aside0.mk ((z139 : w.heap.size ≤ gb132)); have n5_ := Aside0.mk ((z139 : w.heap.size ≤ gb132)); have n6_ := Aside0.mk ((z132 : gb130 ≠ gb132)); have n7_ := Aside0.mk ((z133 : gb132 ≠ gb130)); have n8_ := Aside0.mk ((z137 : g317 ≠ gb132)); have n9_ := Aside0.mk ((z138 : gb132 ≠ g317)); clear BK130 HI131 HB; have BK130 := n0_; have HI131 := n1_; have HB := n2_; have BK132 := n3_; have GW132 := n4_; have GE132 := n5_; have NB130_132 := n6_; have NB132_130 := n7_; have NB131_132 := n8_; have NB132_131 := n9_; clear n0_ n1_ n2_ n3_ n4_ n5_ n6_ n7_ n8_ n9_; clear hb hbox hg; have hnb58 := NB132_130.out; have hnc58 := NB130_132.out; have hnb59 := NB132_131.out; have hnc59 := NB131_132.out; obtain ⟨hcz60_0, hcz60_1, hcz60_2, hcz60_3, hfz60_0, hfz60_1, hfz60_2, hfz60_3⟩ := zC4 BK132.out))
      have n0_ : Aside0 (((((w57.setCell ⟨gb132, 0, none⟩ (.int .i64 t101)).setCell ⟨gb132, 1, none⟩ (.int .i64 t111)).setCell ⟨gb132, 2, none⟩ (.int .i64 t112)).setCell ⟨gb132, 3, none⟩ (.int .i64 t113)).heap[gb130]? = some (.cells #[.int .i64 0, .int .i64 0, .int .i64 0, .int .i64 0] 27 (0, 0))) := ⟨z40⟩
      have n1_ : Aside0 (((((w57.setCell ⟨gb132, 0, none⟩ (.int .i64 t101)).setCell ⟨gb132, 1, none⟩ (.int .i64 t111)).setCell ⟨gb132, 2, none⟩ (.int .i64 t112)).setCell ⟨gb132, 3, none⟩ (.int .i64 t113)).heap[gb132]? = some (.cells #[.int .i64 t101, .int .i64 t111, .int .i64 t112, .int .i64 t113] 27 (0, 0))) := ⟨z29⟩
      have n2_ : Aside0 (IsS93 w ((((w57.setCell ⟨gb132, 0, none⟩ (.int .i64 t101)).setCell ⟨gb132, 1, none⟩ (.int .i64 t111)).setCell ⟨gb132, 2, none⟩ (.int .i64 t112)).setCell ⟨gb132, 3, none⟩ (.int .i64 t113)) g317 t100 t114 t115) := ⟨z10⟩
      have n3_ : Aside0 (Below w.heap.size w ((((w57.setCell ⟨gb132, 0, none⟩ (.int .i64 t101)).setCell ⟨gb132, 1, none⟩ (.int .i64 t111)).setCell ⟨gb132, 2, none⟩ (.int .i64 t112)).setCell ⟨gb132, 3, none⟩ (.int .i64 t113))) := ⟨z11⟩
      (try clear BK130)
      (try clear BK132)
      (try clear HI131)
      (try clear HB)
      generalize ((((w57.setCell ⟨gb132, 0, none⟩ (.int .i64 t101)).setCell ⟨gb132, 1, none⟩ (.int .i64 t111)).setCell ⟨gb132, 2, none⟩ (.int .i64 t112)).setCell ⟨gb132, 3, none⟩ (.int .i64 t113)) = w61 at n0_ n1_ n2_ n3_ ⊢
      have BK130 := n0_
      have BK132 := n1_
      have HI131 := n2_
      have HB := n3_
      clear n0_ n1_ n2_ n3_
      have n0_ := Aside0.mk (blk_drew BK130.out)
      have n1_ := Aside0.mk (blk_drew BK132.out)
      have n2_ := Aside0.mk (IsS93.drew HI131.out)
      have n3_ := Aside0.mk (below_drew1 HB.out)
      clear BK130 BK132 HI131 HB
      have BK130 := n0_
      have BK132 := n1_
      have HI131 := n2_
      have HB := n3_
      clear n0_ n1_ n2_ n3_
      refine start_ (n := 13) (S := fun w' => w'.cell? ⟨gb132, 0, none⟩ = some (.int .i64 t101) ∧ w'.cell? ⟨gb132, 1, none⟩ = some (.int .i64 t111) ∧ w'.cell? ⟨gb132, 2, none⟩ = some (.int .i64 t112) ∧ w'.cell? ⟨gb132, 3, none⟩ = some (.int .i64 t113)) (ds := []) #[false, false, false, false, false, false, false, false, false, false, false, false, false] (by kernel_rfl) rfl rfl ⟨(blk_cell BK132.out 0).trans rfl, (blk_cell BK132.out 1).trans rfl, (blk_cell BK132.out 2).trans rfl, (blk_cell BK132.out 3).trans rfl⟩ (fun hHeld => ?_); refine with_tabW spec_DrawTicketOf.tab3 spec_DrawTicketOf.bits3 (fun HT_ HW_ => ?_)
      generalize w61.drew = w62 at BK130 BK132 HI131 HB hHeld ⊢
      refine pure_ (i := 1) (N := some 14) (v := ?_) (a' := ?_) #[false, true, false, false, false, false, false, false, false, false, false, false, false] rfl rfl (any_of HT_.out (by kernel_rfl)) (fun _ _ _ h => h) (Or.inl ⟨(by rfl), ?_⟩) ?_ ?_
      rotate_left
      · exact z13
      rotate_left
      · exact z4
      refine pure_ (i := 2) (N := some 15) (v := ?_) (a' := ?_) #[false, true, true, false, false, false, false, false, false, false, false, false, false] rfl rfl (any_of HT_.out (by kernel_rfl)) (fun _ _ _ h => h) (Or.inl ⟨(by rfl), ?_⟩) ?_ ?_
      rotate_left
      · exact z13
      rotate_left
      · exact z4
      refine pure_ (i := 4) (N := some 17) (v := ?_) (a' := ?_) #[false, true, true, false, true, false, false, false, false, false, false, false, false] rfl rfl (any_of HT_.out (by kernel_rfl)) (fun _ _ _ h => h) (Or.inl ⟨(by rfl), ?_⟩) ?_ ?_
      rotate_left
      · exact z13
      rotate_left
      · exact z4
      refine take_ (i := 0) (N := some 13) (v := ?_) (a' := ?_) #[true, true, true, false, true, false, false, false, false, false, false, false, false] rfl rfl (take_ofW HT_.out HW_.out (by kernel_rfl)) (fun _ _ _ h => h) (Or.inl ⟨(by rfl), ?_⟩) hHeld ?_ ?_
      rotate_left
      · rintro w' ⟨s0, s1, s2, s3⟩
        go_simp
        with_reducible rfl
      rotate_left
      · exact z4
      refine take_ (i := 3) (N := some 16) (v := ?_) (a' := ?_) #[true, true, true, true, true, false, false, false, false, false, false, false, false] rfl rfl (take_ofW HT_.out HW_.out (by kernel_rfl)) (fun _ _ _ h => h) (Or.inl ⟨(by rfl), ?_⟩) hHeld ?_ ?_
      rotate_left
      · rintro w' ⟨s0, s1, s2, s3⟩
        go_simp
        with_reducible rfl
      rotate_left
      · exact z4
      refine take_ (i := 5) (N := some 18) (v := ?_) (a' := ?_) #[true, true, true, true, true, true, false, false, false, false, false, false, false] rfl rfl (take_ofW HT_.out HW_.out (by kernel_rfl)) (fun _ _ _ h => h) (Or.inl ⟨(by rfl), ?_⟩) hHeld ?_ ?_
      rotate_left
      · rintro w' ⟨s0, s1, s2, s3⟩
        go_simp
        with_reducible rfl
      rotate_left
      · exact z4
      refine one_ (i := 6) (N := some 19) #[true, true, true, true, true, true, true, false, false, false, false, false, false] rfl rfl (one_of HT_.out (by kernel_rfl)) (by decide) (fun K hK => ?_)
      refine goes_ Try.func74 (by kernel_rfl) rfl #[.pointer (some ⟨g317, 0, none⟩), .int .i64 t101, .int .i64 t111] (by rfl) rfl rfl z2 ?_
      with_reducible refine (spec_l08DrawSet.calls k g317 t100 t114 t115 t101 t111 t102 t116 t117 w _ ?side1 ?side2 A4.out).mono ?_
      (case side1 => exact z10)
      (case side2 => exact z11)
      rintro e w63 ⟨rfl, hi, hb, hk⟩
      refine ⟨_, rfl, ?_⟩
      have n0_ := zKB BK130 hk NB130_131
      have n1_ := zKB BK132 hk NB132_131
      have n2_ := Aside0.mk (hb)
      have n3_ := Aside0.mk (hi)
      clear BK130 BK132 HB HI131
      have BK130 := n0_
      have BK132 := n1_
      have HB := n2_
      have HI131 := n3_
      clear n0_ n1_ n2_ n3_
      (try clear hb)
      (try clear hb2)
      (try clear hk)
      (try clear hi)
      refine hK.out _ _ ⟨(blk_cell BK132.out 0).trans rfl, (blk_cell BK132.out 1).trans rfl, (blk_cell BK132.out 2).trans rfl, (blk_cell BK132.out 3).trans rfl⟩ (fun hHeld => ?_)
      clear hK K
      refine norm_ (a' := ?_) ?_ ?_
      rotate_left
      · show Act.put _ (some 19) _ = _
        simp only [Act.put, List.setIfInBounds_toArray, List.set_cons_zero, List.set_cons_succ, i64_w, i32_w]
        rfl
      refine one_ (i := 7) (N := some 20) #[true, true, true, true, true, true, true, true, false, false, false, false, false] rfl rfl (one_of HT_.out (by kernel_rfl)) (by decide) (fun K hK => ?_)
      refine goes_ Try.func27 (by kernel_rfl) rfl #[.agg #[.int .i64 t101, .int .i64 t111, .int .i64 t112, .int .i64 t113], .int .i64 t102] (by rfl) rfl rfl z2 ?_
      with_reducible refine (spec_NumbersOf.calls k t101 t111 t112 t113 t102 t103 t118 _ A5.out).mono ?_
      rintro e w64 ⟨v133, rfl, ho0, hb⟩
      refine ⟨_, rfl, ?_⟩
      have n0_ := Aside0.mk (Kd.R_lower ho0 (below_size z11))
      have n1_ := zBB BK130 hb
      have n2_ := Aside0.mk (IsS93.below z10 hb)
      have n3_ := zBB BK132 hb
      have n4_ := Aside0.mk (below_step z11 hb)
      clear BK130 HI131 BK132 HB
      have HO134 := n0_
      have BK130 := n1_
      have HI131 := n2_
      have BK132 := n3_
      have HB := n4_
      clear n0_ n1_ n2_ n3_ n4_
      (try clear hb)
      (try clear hb2)
      (try clear hk)
      (try clear hi)
      (try clear ho0)
      refine hK.out _ _ ⟨(blk_cell BK132.out 0).trans rfl, (blk_cell BK132.out 1).trans rfl, (blk_cell BK132.out 2).trans rfl, (blk_cell BK132.out 3).trans rfl⟩ (fun hHeld => ?_)
      clear hK K
      refine norm_ (a' := ?_) ?_ ?_
      rotate_left
      · show Act.put _ (some 20) _ = _
        simp only [Act.put, List.setIfInBounds_toArray, List.set_cons_zero, List.set_cons_succ, i64_w, i32_w]
        rfl
      refine pure_ (i := 8) (N := some 12) (v := ?_) (a' := ?_) #[true, true, true, true, true, true, true, true, true, false, false, false, false] rfl rfl (any_of HT_.out (by kernel_rfl)) (fun _ _ _ h => h) (Or.inl ⟨(by rfl), ?_⟩) ?_ ?_
      rotate_left
      · exact z13
      rotate_left
      · exact z4
      refine pure_ (i := 9) (N := some 21) (v := ?_) (a' := ?_) #[true, true, true, true, true, true, true, true, true, true, false, false, false] rfl rfl (any_of HT_.out (by kernel_rfl)) (fun _ _ _ h => h) (Or.inl ⟨(by rfl), ?_⟩) ?_ ?_
      rotate_left
      · exact z13
      rotate_left
      · exact z4
      refine pure_ (i := 10) (N := some 22) (v := ?_) (a' := ?_) #[true, true, true, true, true, true, true, true, true, true, true, false, false] rfl rfl (any_of HT_.out (by kernel_rfl)) (fun _ _ _ h => h) (Or.inl ⟨(by rfl), ?_⟩) ?_ ?_
      rotate_left
      · exact z13
      rotate_left
      · exact z4
      refine pure_ (i := 11) (N := some 6) (v := ?_) (a' := ?_) #[true, true, true, true, true, true, true, true, true, true, true, true, false] rfl rfl (any_of HT_.out (by kernel_rfl)) (fun _ _ _ h => h) (Or.inl ⟨(by rfl), ?_⟩) ?_ ?_
      rotate_left
      · exact z13
      rotate_left
      · exact z4
      refine pure_ (i := 12) (N := some 7) (v := ?_) (a' := ?_) #[true, true, true, true, true, true, true, true, true, true, true, true, true] rfl rfl (any_of HT_.out (by kernel_rfl)) (fun _ _ _ h => h) (Or.inl ⟨(by rfl), ?_⟩) ?_ ?_
      rotate_left
      · exact z13
      rotate_left
      · exact z4
      refine done_ (done_of HT_.out (by kernel_rfl)) ?_
      try go_wp2_with (first | ((with_reducible refine gate_callee (f := 75) rfl ?_); refine goesL_ (some 24) rfl rfl Try.func75 (by kernel_rfl) rfl #[.pointer (some ⟨g317, 0, none⟩), .int .i64 12] rfl z2 ?_; (with_reducible refine (spec_l01Next.calls g317 t100 t116 t117 12 t104 t119 t120 w _ ?side1 ?side2 A6.out).mono ?_); (case side1 => exact z10); (case side2 => exact z11); rintro e w65 ⟨rfl, hi, hb, hk⟩; refine ⟨_, rfl, ?_⟩; have n0_ := zKB BK130 hk NB130_131; have n1_ := zKB BK132 hk NB132_131; have n2_ := Aside0.mk (Kd.R_mono (Kd.R_keep (IsS93.apart (show IsS93 w _ g317 t100 t116 t117 from z10) z75 (by decide)) hk (fun _ h => h.2)) (fun _ h => h.1)); have n3_ := Aside0.mk (hb); have n4_ := Aside0.mk (hi); clear BK130 BK132 HO134 HB HI131; have BK130 := n0_; have BK132 := n1_; have HO134 := n2_; have HB := n3_; have HI131 := n4_; clear n0_ n1_ n2_ n3_ n4_; (try clear hb); (try clear hb2); (try clear hk); (try clear hi); obtain ⟨hcz66_0, hcz66_1, hcz66_2, hcz66_3, hfz66_0, hfz66_1, hfz66_2, hfz66_3⟩ := zC4 BK132.out) | ((with_reducible refine gate_callee (f := 77) rfl ?_); refine goesL_ (some 39) rfl rfl Try.func77 (by kernel_rfl) rfl #[.pointer (some ⟨g317, 0, none⟩), .agg #[.int .i64 t101, .int .i64 t111, .int .i64 t112, .int .i64 t113]] rfl z2 ?_; (with_reducible refine (spec_l08Bad.calls g317 t100 t119 t120 t101 t111 t112 t113 t108 t146 t147 t148 t149 t150 w _ ?side1 ?side2 A53.out).mono ?_); (case side1 => exact z10); (case side2 => exact z11); rintro e w67 ⟨rfl, hi, hb, hk⟩; refine ⟨_, rfl, ?_⟩; have n0_ := zKB BK130 hk NB130_131; have n1_ := zKB BK132 hk NB132_131; have n2_ := Aside0.mk (Kd.R_mono (Kd.R_keep (IsS93.apart (show IsS93 w _ g317 t100 t119 t120 from z10) z75 (by decide)) hk (fun _ h => h.2)) (fun _ h => h.1)); have n3_ := Aside0.mk (hb); have n4_ := Aside0.mk (hi); clear BK130 BK132 HO134 HB HI131; have BK130 := n0_; have BK132 := n1_; have HO134 := n2_; have HB := n3_; have HI131 := n4_; clear n0_ n1_ n2_ n3_ n4_; (try clear hb); (try clear hb2); (try clear hk); (try clear hi); have hnb68 := NB130_131.out; have hnc68 := NB131_130.out; obtain ⟨hcz69_0, hcz69_1, hcz69_2, hcz69_3, hfz69_0, hfz69_1, hfz69_2, hfz69_3⟩ := zC4 BK130.out))
      refine bodyPost_ret (results_ct rfl _ _ gb130 27 #[.int .i64 t108, .int .i64 t146, .int .i64 t147, .int .i64 t148] (0, 0) _ rfl (by (with_reducible repeat (first | refine blk_drewN ?_ _ | refine blk_drew ?_ | refine blk_alloc ?_ _)); refine blk_put (cs := #[.int .i64 t108, .int .i64 t146, .int .i64 t147, .int .i64 0]) ?_ 3 _ rfl; (with_reducible repeat (first | refine blk_drewN ?_ _ | refine blk_drew ?_ | refine blk_alloc ?_ _)); refine blk_put (cs := #[.int .i64 t108, .int .i64 t146, .int .i64 0, .int .i64 0]) ?_ 2 _ rfl; (with_reducible repeat (first | refine blk_drewN ?_ _ | refine blk_drew ?_ | refine blk_alloc ?_ _)); refine blk_put (cs := #[.int .i64 t108, .int .i64 0, .int .i64 0, .int .i64 0]) ?_ 1 _ rfl; (with_reducible repeat (first | refine blk_drewN ?_ _ | refine blk_drew ?_ | refine blk_alloc ?_ _)); refine blk_put (cs := #[.int .i64 0, .int .i64 0, .int .i64 0, .int .i64 0]) ?_ 0 _ rfl; (with_reducible repeat (first | refine blk_drewN ?_ _ | refine blk_drew ?_ | refine blk_alloc ?_ _)); exact BK130.out) Try.underlying27 rfl (by kernel_rfl)) rfl ?_
      exact ⟨_, z6, Kd.Q_of_R (by (with_reducible repeat (first | apply Kd.R_alloc | apply Kd.R_drewN | apply Kd.R_drew)); exact Kd.R_mono (Kd.R_far (p := ⟨gb130, 3, none⟩) (Kd.R_far (p := ⟨gb130, 2, none⟩) (Kd.R_far (p := ⟨gb130, 1, none⟩) (Kd.R_far (p := ⟨gb130, 0, none⟩) (Kd.R_types HO134.out BK130.out (by decide)) (fun _ hk => hk.2) (.int .i64 t108)) (fun _ hk => hk.2) (.int .i64 t146)) (fun _ hk => hk.2) (.int .i64 t147)) (fun _ hk => hk.2) (.int .i64 t148)) (fun _ hk => trivial)), z11⟩

end Go.Proofs.Ytchlbkcladfloaa.PFnTickets
