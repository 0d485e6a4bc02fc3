-- WALKS, by a program and by hand
import Derived.Test.YtchlbkcladfloaaPFnTicketsx0
import Derived.Test.YtchlbkcladfloaaPFnTicketsx1
import Derived.Test.YtchlbkcladfloaaPFnTicketsx2
import Derived.Test.YtchlbkcladfloaaPFnTicketsx9
import Derived.Test.YtchlbkcladfloaaPFnTicketsx10
namespace Go.Proofs.Ytchlbkcladfloaa.PFnTickets
open Go.RowKit Go.Proofs.Ytchlbkcladfloaa.DG Go.Proofs.YtchlbkcladfloaaW.PrintWords Go.Proofs.YtchlbkcladfloaaW.PrintLast Go.Proofs.YtchlbkcladfloaaW.PrintMore
attribute [local go_sem] max2_int min2_int max_two min_two max_three min_three max_four min_four   -- for this text's walks alone
set_option linter.unusedVariables false
set_option linter.unusedSimpArgs false

/-! ### spec_l08With: function 89 -/
mutual
def spec_l08With.l0 : Nat → List Int → Int → List Int → Int → Int → Int → Int → Int → Int → Option (Int × Int × Int × Int × List Int × Int)
  | 0, _, _, _, _, _, _, _, _, _ => none
  | k + 1, x7, x8, x535000, x535001, x535002, x551000, x551001, x551002, x551003 => if x8 > 0 then ((spec_l08DrawSet.f k x535000 x535001 x535002 x551000 x551001).bind fun bt100 => ((spec_l01Put.f k x7 bt100.1).bind fun t101 => (spec_l08With.l0 k t101 (wrap64 (x8 - 1)) x535000 bt100.2.1 bt100.2.2 x551000 x551001 x551002 x551003))) else ((spec_l01Next.f x535000 x535001 x535002 4).bind fun bt102 => (if bt102.1 = 0 then ((spec_GreedyTickets.f k x551000 x551001 x551002 x551003).bind fun bt103 => (spec_l08With.j1 k bt103.1 x535000 bt102.2.1 bt102.2.2 x551000 x551001 x551002 x551003)) else (spec_l08With.j1 k x7 x535000 bt102.2.1 bt102.2.2 x551000 x551001 x551002 x551003)))
def spec_l08With.j1 : Nat → List Int → List Int → Int → Int → Int → Int → Int → Int → Option (Int × Int × Int × Int × List Int × Int)
  | 0, _, _, _, _, _, _, _, _ => none
  | k + 1, x7, x535000, x535001, x535002, x551000, x551001, x551002, x551003 => (spec_l08DrawSet.f k x535000 x535001 x535002 x551000 x551002).bind fun bt104 => ((spec_l01Next.f x535000 bt104.2.1 bt104.2.2 24).bind fun bt105 => (if bt105.1 = 0 then ((spec_l01Pick.f x535000 bt105.2.1 bt105.2.2 (([0, (-1), 4096] : List Int))).bind fun bt106 => (if x7.length < 17592186044416 then ((spec_l08Bad.f x535000 bt106.2.1 bt106.2.2 x551000 x551001 x551002 x551003).bind fun bt107 => (some (bt107.1, bt107.2.1, bt107.2.2.1, bt107.2.2.2.1, (x7 ++ [bt106.1]), bt104.1))) else (none))) else (if bt105.1 = 1 then ((spec_l01Pick.f x535000 bt105.2.1 bt105.2.2 (([0, (-1), 4096] : List Int))).bind fun bt108 => ((spec_l08Bad.f x535000 bt108.2.1 bt108.2.2 x551000 x551001 x551002 x551003).bind fun bt109 => (some (bt109.1, bt109.2.1, bt109.2.2.1, bt109.2.2.2.1, x7, bt108.1)))) else ((spec_l08Bad.f x535000 bt105.2.1 bt105.2.2 x551000 x551001 x551002 x551003).bind fun bt110 => (some (bt110.1, bt110.2.1, bt110.2.2.1, bt110.2.2.2.1, x7, bt104.1))))))
end
def spec_l08With.f (k : Nat) (l0 : List Int) : Option (Int × Int × Int × Int × List Int × Int) := (spec_l01From.f k l0).bind fun bt111 => ((spec_l01Pick.f bt111.1 bt111.2.1 bt111.2.2 (([5, 7, 8] : List Int))).bind fun bt112 => ((spec_l08DrawOf.f bt111.1 bt112.2.1 bt112.2.2 bt112.1).bind fun bt113 => ((spec_l01Next.f bt111.1 bt113.2.2.2.2.1 bt113.2.2.2.2.2 6).bind fun bt114 => (spec_l08With.l0 k (([] : List Int)) bt114.1 bt111.1 bt114.2.1 bt114.2.2 bt113.1 bt113.2.1 bt113.2.2.1 bt113.2.2.2.1))))
theorem spec_l08With.mono_l : ∀ k, (∀ y0 y1 y2 y3 y4 y5 y6 y7 y8, LeO (spec_l08With.l0 k y0 y1 y2 y3 y4 y5 y6 y7 y8) (spec_l08With.l0 (k + 1) y0 y1 y2 y3 y4 y5 y6 y7 y8)) ∧ (∀ y0 y1 y2 y3 y4 y5 y6 y7, LeO (spec_l08With.j1 k y0 y1 y2 y3 y4 y5 y6 y7) (spec_l08With.j1 (k + 1) y0 y1 y2 y3 y4 y5 y6 y7))
  | 0 => ⟨fun _ _ _ _ _ _ _ _ _ r h => by simp [spec_l08With.l0] at h, fun _ _ _ _ _ _ _ _ r h => by simp [spec_l08With.j1] at h⟩
  | k + 1 => by
    obtain ⟨ih0, ih1⟩ := spec_l08With.mono_l k
    refine ⟨?_, ?_⟩
    · intro y0 y1 y2 y3 y4 y5 y6 y7 y8
      unfold spec_l08With.l0
      repeat' first
      | (with_reducible exact ih0 _ _ _ _ _ _ _ _ _)
      | (with_reducible exact ih1 _ _ _ _ _ _ _ _)
      | (with_reducible exact spec_GreedyTickets.mono _ _ _ _ _)
      | (with_reducible exact spec_l01From.mono _ _)
      | (with_reducible exact spec_l01Put.mono _ _ _)
      | (with_reducible exact spec_l08DrawSet.mono _ _ _ _ _ _)
      | (with_reducible exact LeO.refl _)
      | (with_reducible exact LeO.none _)
      | (with_reducible refine LeO.ite ?_ ?_)
      | (with_reducible refine LeO.bind ?_ (fun _ => ?_))
    · intro y0 y1 y2 y3 y4 y5 y6 y7
      unfold spec_l08With.j1
      repeat' first
      | (with_reducible exact ih0 _ _ _ _ _ _ _ _ _)
      | (with_reducible exact ih1 _ _ _ _ _ _ _ _)
      | (with_reducible exact spec_GreedyTickets.mono _ _ _ _ _)
      | (with_reducible exact spec_l01From.mono _ _)
      | (with_reducible exact spec_l01Put.mono _ _ _)
      | (with_reducible exact spec_l08DrawSet.mono _ _ _ _ _ _)
      | (with_reducible exact LeO.refl _)
      | (with_reducible exact LeO.none _)
      | (with_reducible refine LeO.ite ?_ ?_)
      | (with_reducible refine LeO.bind ?_ (fun _ => ?_))
theorem spec_l08With.mono : ∀ a0 k, LeO (spec_l08With.f k a0) (spec_l08With.f (k + 1) a0) := by
  intro a0 k
  obtain ⟨ih0, ih1⟩ := spec_l08With.mono_l k
  unfold spec_l08With.f
  repeat' first
      | (with_reducible exact ih0 _ _ _ _ _ _ _ _ _)
      | (with_reducible exact ih1 _ _ _ _ _ _ _ _)
      | (with_reducible exact spec_GreedyTickets.mono _ _ _ _ _)
      | (with_reducible exact spec_l01From.mono _ _)
      | (with_reducible exact spec_l01Put.mono _ _ _)
      | (with_reducible exact spec_l08DrawSet.mono _ _ _ _ _ _)
      | (with_reducible exact LeO.refl _)
      | (with_reducible exact LeO.none _)
      | (with_reducible refine LeO.ite ?_ ?_)
      | (with_reducible refine LeO.bind ?_ (fun _ => ?_))
set_option maxHeartbeats 8000000 in
set_option maxRecDepth 100000 in
theorem spec_l08With.calls (k : Nat) (A0 : Option Addr) (c0 : Nat) (l0 : List Int) (r1 : Int) (r2 : Int) (r3 : Int) (r4 : Int) (r5 : List Int) (r6 : Int) (w : World) (hr0 : Kd.C (Kd.int .u8) w A0 l0.length l0) (hc0 : l0.length ≤ c0) (h : spec_l08With.f k l0 = some (r1, r2, r3, r4, r5, r6)) :
    Calls Try.prog 89 #[.slice A0 l0.length c0] w fun e w' => ∃ v4_ : Value, e = .returned (.tuple #[.agg #[.int .i64 r1, .int .i64 r2, .int .i64 r3, .int .i64 r4], v4_, .int .i64 r6]) ∧ Kd.R (Kd.int .i64) 2 w' w.heap.size (fun _ => True) v4_ r5 ∧ Below w.heap.size w w' := by
  have hu27 := Try.underlying27
  have HR0 := Aside0.mk hr0
  have HC0 := Aside0.mk hc0
  clear hr0 hc0
  have HB := Aside0.mk (Below.refl w.heap.size w)
  have H := h
  unfold spec_l08With.f at H
  (try dsimp -simprocs only at H)
  clear h
  replace H := Option.bind_eq_some_iff.mp H
  obtain ⟨⟨t111, t115, t116⟩, A20, H⟩ := H
  (try dsimp -simprocs only at H)
  have A2 := Aside0.mk A20
  clear A20
  obtain ⟨y117, hy117⟩ : ∃ y_ : List Int, y_ = (([5, 7, 8] : List Int)) := ⟨_, rfl⟩
  replace H : ((spec_l01Pick.f t111 t115 t116 y117).bind fun bt112 => ((spec_l08DrawOf.f t111 bt112.2.1 bt112.2.2 bt112.1).bind fun bt113 => ((spec_l01Next.f t111 bt113.2.2.2.2.1 bt113.2.2.2.2.2 6).bind fun bt114 => (spec_l08With.l0 k (([] : List Int)) bt114.1 t111 bt114.2.1 bt114.2.2 bt113.1 bt113.2.1 bt113.2.2.1 bt113.2.2.2.1)))) = some (r1, r2, r3, r4, r5, r6) := by first | (rw [hy117]; with_reducible exact H) | (have H2_ := (Option.bind_some _ _).symm.trans H; rw [hy117]; with_reducible exact H2_) | (have H2_ := (Option.bind_some _ _).symm.trans H; with_reducible exact H2_) | with_reducible exact H | (rw [hy117]; exact H) | exact H
  have Ny117 := Aside0.mk hy117
  clear hy117
  replace H := Option.bind_eq_some_iff.mp H
  obtain ⟨⟨t112, t118, t119⟩, A30, H⟩ := H
  (try dsimp -simprocs only at H)
  have A3 := Aside0.mk A30
  clear A30
  replace H := Option.bind_eq_some_iff.mp H
  obtain ⟨⟨t113, t120, t121, t122, t123, t124⟩, A40, H⟩ := H
  (try dsimp -simprocs only at H)
  have A4 := Aside0.mk A40
  clear A40
  obtain ⟨y125, hy125⟩ : ∃ y_ : List Int, y_ = (([] : List Int)) := ⟨_, rfl⟩
  replace H : ((spec_l01Next.f t111 t123 t124 6).bind fun bt114 => (spec_l08With.l0 k y125 bt114.1 t111 bt114.2.1 bt114.2.2 t113 t120 t121 t122)) = some (r1, r2, r3, r4, r5, r6) := by first | (rw [hy125]; with_reducible exact H) | (have H2_ := (Option.bind_some _ _).symm.trans H; rw [hy125]; with_reducible exact H2_) | (have H2_ := (Option.bind_some _ _).symm.trans H; with_reducible exact H2_) | with_reducible exact H | (rw [hy125]; exact H) | exact H
  have Ny125 := Aside0.mk hy125
  clear hy125
  replace H := Option.bind_eq_some_iff.mp H
  obtain ⟨⟨t114, t126, t127⟩, A50, H⟩ := H
  (try dsimp -simprocs only at H)
  have A5 := Aside0.mk A50
  clear A50
  have H' := Aside0.mk H
  clear H
  go_enter Try.func89, Try.ntmps89
  go_wp2_with (first | ((with_reducible refine gate_dst (N := 2) rfl ?_); refine box_event ?hg (N := 2) ?hd (cs := #[.int .i64 0, .int .i64 0, .int .i64 0, .int .i64 0]) (t := 27) ?hr ?_; (case hd => rfl); (case hg => rfl); (case hr => first | (go_simp; done) | (go_simp; rfl)); intro gb128 hg w6 hbox hb; have n0_ := Aside0.mk (below_step z1 hb); have n1_ := Aside0.mk (hbox); have n2_ := Aside0.mk ((z122 : w.heap.size ≤ gb128)); have n3_ := Aside0.mk ((z122 : w.heap.size ≤ gb128)); clear HB; have HB := n0_; have BK128 := n1_; have GW128 := n2_; have GE128 := n3_; clear n0_ n1_ n2_ n3_; clear hb hbox hg) | ((with_reducible refine gate_callee (f := 72) rfl ?_); refine goesL_ (some 11) rfl rfl Try.func72 (by kernel_rfl) rfl #[.slice A0 l0.length c0] rfl z2 ?_; (with_reducible refine (spec_l01From.calls k _ _ l0 t111 t115 t116 w _ ?side1 ?side2 ?side3 A2.out).mono ?_); (case side1 => exact (by repeat (first | (with_reducible first | exact HB.out | apply below_alloc | apply pw_below_drewN | apply below_drew1 | refine below_set ?_ GE128.out) | exact HB.out))); (case side2 => exact HR0.out); (case side3 => exact HC0.out); rintro e w7 ⟨g534, rfl, hi, hb, hb2⟩; refine ⟨_, rfl, ?_⟩; have n0_ := zBB BK128 hb2; have n1_ := Aside0.mk (hb); have n2_ := Aside0.mk (hi); have n3_ := Aside0.mk (IsS93.ne_blk hi (blk_below (g := gb128) (o := .cells #[.int .i64 0, .int .i64 0, .int .i64 0, .int .i64 0] 27 (0, 0)) z65 hb2) (by decide)); have n4_ := Aside0.mk (Ne.symm (IsS93.ne_blk hi (blk_below (g := gb128) (o := .cells #[.int .i64 0, .int .i64 0, .int .i64 0, .int .i64 0] 27 (0, 0)) z65 hb2) (by decide))); clear BK128 HB; have BK128 := n0_; have HB := n1_; have HI129 := n2_; have NB129_128 := n3_; have NB128_129 := n4_; clear n0_ n1_ n2_ n3_ n4_; (try clear hb); (try clear hb2); (try clear hk); (try clear hi)) | ((with_reducible refine gate_dst (N := 14) rfl ?_); refine Kd.R_lit (Kd.int .i64) _ 2 ?hg (N := 14) ?hd (xs := ([5, 7, 8] : List Int)) (inner := [.int .i64 5, .int .i64 7, .int .i64 8]) (ok := fun _ => True) (okp := fun _ => True) ?hr ?hp (fun _ hk => hk) trivial (Below.refl _ _) (Nat.le_refl _) (by simp) ?_; (case hd => rfl); (case hg => rfl); (case hr => first | (go_simp; done) | (go_simp; rfl)); (case hp => exact (Reps.one (show Kd.M (Kd.int .i64) _ _ _ 5 [.int .i64 5] from rfl) (Reps.one (show Kd.M (Kd.int .i64) _ _ _ 7 [.int .i64 7] from rfl) (Reps.one (show Kd.M (Kd.int .i64) _ _ _ 8 [.int .i64 8] from rfl) (Reps.none _ _))))); intro v130 w8 ho9 hb hg_ hnew_; clear hg_ hnew_; (first | rw [← Ny117.out] at ho9 | (simp only [Int.reduceToNat] at ho9; rw [← Ny117.out] at ho9)); have n0_ := Aside0.mk (Kd.R_lower ho9 (below_size z45)); have n1_ := zBB BK128 hb; have n2_ := Aside0.mk (IsS93.below z41 hb); have n3_ := Aside0.mk (below_step z45 hb); clear BK128 HI129 HB; have HO131 := n0_; have BK128 := n1_; have HI129 := n2_; have HB := n3_; clear n0_ n1_ n2_ n3_; clear hb ho9; obtain ⟨Ao10, co10, eo10⟩ := Kd.R_slice HO131.out; subst eo10) | ((with_reducible refine gate_callee (f := 76) rfl ?_); refine goesL_ (some 15) rfl rfl Try.func76 (by kernel_rfl) rfl #[.pointer (some ⟨g534, 0, none⟩), .slice Ao10 y117.length co10] rfl z2 ?_; (with_reducible refine (spec_l01Pick.calls g534 t111 t115 t116 _ _ y117 t112 t118 t119 w _ ?side1 ?side2 ?side3 ?side4 ?side5 A3.out).mono ?_); (case side1 => exact z41); (case side2 => exact z45); (case side3 => exact (by repeat (first | exact (Kd.R_reads' HO131.out).2.2 | (with_reducible refine Kd.C_alloc ?_ _) | (with_reducible refine Kd.C_drewN ?_ _) | (with_reducible refine Kd.C_drew ?_)))); (case side4 => exact (Kd.R_reads' HO131.out).2.1); (case side5 => exact far_slice (IsS93.own_ne HI129.out HO131.out (by decide))); rintro e w11 ⟨rfl, hi, hb, hk⟩; refine ⟨_, rfl, ?_⟩; have n0_ := zKB BK128 hk NB128_129; have n1_ := Aside0.mk (Kd.R_mono (Kd.R_keep (IsS93.apart (show IsS93 w _ g534 t111 t115 t116 from z41) z85 (by decide)) hk (fun _ h => h.2)) (fun _ h => h.1)); have n2_ := Aside0.mk (hb); have n3_ := Aside0.mk (hi); clear BK128 HO131 HB HI129; have BK128 := n0_; have HO131 := n1_; have HB := n2_; have HI129 := n3_; clear n0_ n1_ n2_ n3_; (try clear hb); (try clear hb2); (try clear hk); (try clear hi)) | ((with_reducible refine gate_callee (f := 73) rfl ?_); refine goesL_ (some 16) rfl rfl Try.func73 (by kernel_rfl) rfl #[.pointer (some ⟨g534, 0, none⟩), .int .i64 t112] rfl z2 ?_; (with_reducible refine (spec_l08DrawOf.calls g534 t111 t118 t119 t112 t113 t120 t121 t122 t123 t124 w _ ?side1 ?side2 A4.out).mono ?_); (case side1 => exact z41); (case side2 => exact z45); rintro e w12 ⟨rfl, hi, hb, hk⟩; refine ⟨_, rfl, ?_⟩; have n0_ := zKB BK128 hk NB128_129; have n1_ := Aside0.mk (Kd.R_mono (Kd.R_keep (IsS93.apart (show IsS93 w _ g534 t111 t118 t119 from z41) z85 (by decide)) hk (fun _ h => h.2)) (fun _ h => h.1)); have n2_ := Aside0.mk (hb); have n3_ := Aside0.mk (hi); clear BK128 HO131 HB HI129; have BK128 := n0_; have HO131 := n1_; have HB := n2_; have HI129 := n3_; clear n0_ n1_ n2_ n3_; (try clear hb); (try clear hb2); (try clear hk); (try clear hi)) | ((with_reducible refine gate_dst (N := 17) rfl ?_); refine Kd.R_lit (Kd.int .i64) _ 2 ?hg (N := 17) ?hd (xs := ([] : List Int)) (inner := []) (ok := fun _ => True) (okp := fun _ => True) ?hr ?hp (fun _ hk => hk) trivial (Below.refl _ _) (Nat.le_refl _) (by simp) ?_; (case hd => rfl); (case hg => rfl); (case hr => first | (go_simp; done) | (go_simp; rfl)); (case hp => exact (Reps.none _ _)); intro v132 w13 ho14 hb hg_ hnew_; clear hg_ hnew_; (first | rw [← Ny125.out] at ho14 | (simp only [Int.reduceToNat] at ho14; rw [← Ny125.out] at ho14)); have n0_ := Aside0.mk (Kd.R_elder' z85 (Kd.R_base ho14) hb); have n1_ := Aside0.mk (Kd.R_lower (Kd.R_new' ho14 (Kd.R_lt z85)) (below_size z45)); have n2_ := zBB BK128 hb; have n3_ := Aside0.mk (IsS93.below z41 hb); have n4_ := Aside0.mk (below_step z45 hb); clear HO131 BK128 HI129 HB; have HO131 := n0_; have HO133 := n1_; have BK128 := n2_; have HI129 := n3_; have HB := n4_; clear n0_ n1_ n2_ n3_ n4_; clear hb ho14) | ((with_reducible refine gate_dst (N := 6) rfl ?_); refine box_event ?hg (N := 6) ?hd (cs := #[.int .i64 0, .int .i64 0, .int .i64 0, .int .i64 0]) (t := 27) ?hr ?_; (case hd => rfl); (case hg => rfl); (case hr => first | (go_simp; done) | (go_simp; rfl)); intro gb134 hg w15 hbox hb; have n0_ := Aside0.mk (Kd.R_below z85 hb); have n1_ := Aside0.mk (Kd.R_below (by (with_reducible repeat (first | apply Kd.R_alloc | apply Kd.R_drewN | apply Kd.R_drew)); exact HO133.out) hb); have n2_ := zBB BK128 hb; have n3_ := Aside0.mk (IsS93.below z41 hb); have n4_ := Aside0.mk (below_step z45 hb); have n5_ := Aside0.mk (hbox); have n6_ := Aside0.mk (((by rw [hg]; exact (below_size z45)) : w.heap.size ≤ gb134)); have n7_ := Aside0.mk (((by rw [hg]; exact (below_size z45)) : w.heap.size ≤ gb134)); have n8_ := Aside0.mk (((by rw [hg]; exact Nat.ne_of_lt (blk_lt (g := gb128) (o := .cells #[.int .i64 0, .int .i64 0, .int .i64 0, .int .i64 0] 27 (0, 0)) z65)) : gb128 ≠ gb134)); have n9_ := Aside0.mk (((by rw [hg]; exact Nat.ne_of_gt (blk_lt (g := gb128) (o := .cells #[.int .i64 0, .int .i64 0, .int .i64 0, .int .i64 0] 27 (0, 0)) z65)) : gb134 ≠ gb128)); have n10_ := Aside0.mk (((by rw [hg]; exact Nat.ne_of_lt (IsS93.lt (show IsS93 w _ g534 t111 t123 t124 from z41))) : g534 ≠ gb134)); have n11_ := Aside0.mk (((by rw [hg]; exact Nat.ne_of_gt (IsS93.lt (show IsS93 w _ g534 t111 t123 t124 from z41))) : gb134 ≠ g534)); clear HO131 HO133 BK128 HI129 HB; have HO131 := n0_; have HO133 := n1_; have BK128 := n2_; have HI129 := n3_; have HB := n4_; have BK134 := n5_; have GW134 := n6_; have GE134 := n7_; have NB128_134 := n8_; have NB134_128 := n9_; have NB129_134 := n10_; have NB134_129 := n11_; clear n0_ n1_ n2_ n3_ n4_ n5_ n6_ n7_ n8_ n9_ n10_ n11_; clear hb hbox hg; have hnb16 := NB134_128.out; have hnc16 := NB128_134.out; have hnb17 := NB134_129.out; have hnc17 := NB129_134.out; obtain ⟨hcz18_0, hcz18_1, hcz18_2, hcz18_3, hfz18_0, hfz18_1, hfz18_2, hfz18_3⟩ := zC4 BK134.out) | ((with_reducible refine gate_callee (f := 75) rfl ?_); refine goesL_ (some 19) rfl rfl Try.func75 (by kernel_rfl) rfl #[.pointer (some ⟨g534, 0, none⟩), .int .i64 6] rfl z2 ?_; (with_reducible refine (spec_l01Next.calls g534 t111 t123 t124 6 t114 t126 t127 w _ ?side1 ?side2 A5.out).mono ?_); (case side1 => exact z7); (case side2 => exact z8); rintro e w19 ⟨rfl, hi, hb, hk⟩; refine ⟨_, rfl, ?_⟩; have n0_ := Aside0.mk (KeepBut.blk hk (g' := gb128) (o := .cells #[.int .i64 0, .int .i64 0, .int .i64 0, .int .i64 0] 27 (0, 0)) (by (with_reducible repeat (first | refine blk_drewN ?_ _ | refine blk_drew ?_ | refine blk_alloc ?_ _)); refine blk_far ?_ NB128_134.out _; (with_reducible repeat (first | refine blk_drewN ?_ _ | refine blk_drew ?_ | refine blk_alloc ?_ _)); refine blk_far ?_ NB128_134.out _; (with_reducible repeat (first | refine blk_drewN ?_ _ | refine blk_drew ?_ | refine blk_alloc ?_ _)); refine blk_far ?_ NB128_134.out _; (with_reducible repeat (first | refine blk_drewN ?_ _ | refine blk_drew ?_ | refine blk_alloc ?_ _)); refine blk_far ?_ NB128_134.out _; (with_reducible repeat (first | refine blk_drewN ?_ _ | refine blk_drew ?_ | refine blk_alloc ?_ _)); exact BK128.out) NB128_129.out (by simp)); have n1_ := Aside0.mk (Kd.R_mono (Kd.R_keep (IsS93.apart (show IsS93 w _ g534 t111 t123 t124 from z7) (by (with_reducible repeat (first | apply Kd.R_alloc | apply Kd.R_drewN | apply Kd.R_drew)); exact (Kd.R_mono (Kd.R_far (p := ⟨gb134, 3, none⟩) (Kd.R_far (p := ⟨gb134, 2, none⟩) (Kd.R_far (p := ⟨gb134, 1, none⟩) (Kd.R_far (p := ⟨gb134, 0, none⟩) (Kd.R_types HO131.out BK134.out (by decide)) (fun _ hk => by first | exact hk.2 | simp only [hk, ne_eq, not_false_eq_true, and_self]) (.int .i64 t113)) (fun _ hk => by first | exact hk.2 | simp only [hk, ne_eq, not_false_eq_true, and_self]) (.int .i64 t120)) (fun _ hk => by first | exact hk.2 | simp only [hk, ne_eq, not_false_eq_true, and_self]) (.int .i64 t121)) (fun _ hk => by first | exact hk.2 | simp only [hk, ne_eq, not_false_eq_true, and_self]) (.int .i64 t122)) (fun _ h_ => by first | exact h_.1 | (have h1_ := h_.1; simp only [and_assoc, and_comm, and_left_comm] at h1_ ⊢; exact h1_)))) (by decide)) hk (fun _ h => h.2)) (fun _ h => h.1)); have n2_ := Aside0.mk (Kd.R_mono (Kd.R_keep (IsS93.apart (show IsS93 w _ g534 t111 t123 t124 from z7) (by (with_reducible repeat (first | apply Kd.R_alloc | apply Kd.R_drewN | apply Kd.R_drew)); exact (Kd.R_mono (Kd.R_far (p := ⟨gb134, 3, none⟩) (Kd.R_far (p := ⟨gb134, 2, none⟩) (Kd.R_far (p := ⟨gb134, 1, none⟩) (Kd.R_far (p := ⟨gb134, 0, none⟩) (Kd.R_types HO133.out BK134.out (by decide)) (fun _ hk => by first | exact hk.2 | simp only [hk, ne_eq, not_false_eq_true, and_self]) (.int .i64 t113)) (fun _ hk => by first | exact hk.2 | simp only [hk, ne_eq, not_false_eq_true, and_self]) (.int .i64 t120)) (fun _ hk => by first | exact hk.2 | simp only [hk, ne_eq, not_false_eq_true, and_self]) (.int .i64 t121)) (fun _ hk => by first | exact hk.2 | simp only [hk, ne_eq, not_false_eq_true, and_self]) (.int .i64 t122)) (fun _ h_ => by first | exact h_.1 | (have h1_ := h_.1; simp only [and_assoc, and_comm, and_left_comm] at h1_ ⊢; exact h1_)))) (by decide)) hk (fun _ h => h.2)) (fun _ h => h.1)); have n3_ := Aside0.mk (KeepBut.blk hk (g' := gb134) (o := .cells #[.int .i64 t113, .int .i64 t120, .int .i64 t121, .int .i64 t122] 27 (0, 0)) (by (with_reducible repeat (first | refine blk_drewN ?_ _ | refine blk_drew ?_ | refine blk_alloc ?_ _)); refine blk_put (cs := #[.int .i64 t113, .int .i64 t120, .int .i64 t121, .int .i64 0]) ?_ 3 _ rfl; (with_reducible repeat (first | refine blk_drewN ?_ _ | refine blk_drew ?_ | refine blk_alloc ?_ _)); refine blk_put (cs := #[.int .i64 t113, .int .i64 t120, .int .i64 0, .int .i64 0]) ?_ 2 _ rfl; (with_reducible repeat (first | refine blk_drewN ?_ _ | refine blk_drew ?_ | refine blk_alloc ?_ _)); refine blk_put (cs := #[.int .i64 t113, .int .i64 0, .int .i64 0, .int .i64 0]) ?_ 1 _ rfl; (with_reducible repeat (first | refine blk_drewN ?_ _ | refine blk_drew ?_ | refine blk_alloc ?_ _)); refine blk_put (cs := #[.int .i64 0, .int .i64 0, .int .i64 0, .int .i64 0]) ?_ 0 _ rfl; (with_reducible repeat (first | refine blk_drewN ?_ _ | refine blk_drew ?_ | refine blk_alloc ?_ _)); exact BK134.out) NB134_129.out (by simp)); have n4_ := Aside0.mk (hb); have n5_ := Aside0.mk (hi); clear BK128 HO131 HO133 BK134 HB HI129; have BK128 := n0_; have HO131 := n1_; have HO133 := n2_; have BK134 := n3_; have HB := n4_; have HI129 := n5_; clear n0_ n1_ n2_ n3_ n4_ n5_; (try clear hb); (try clear hb2); (try clear hk); (try clear hi)))
  go_loopg [7, 8] k (fun kq v7 v8 w' => ∃ (x7_1 : List Int) (x8_1 : Int) (x535001_1 : Int) (x535002_1 : Int), v8 = .int .i64 x8_1 ∧ Aside0 (spec_l08With.l0 kq x7_1 x8_1 t111 x535001_1 x535002_1 t113 t120 t121 t122 = some (r1, r2, r3, r4, r5, r6)) ∧ Aside0 (kq ≤ k) ∧ Aside0 (Kd.R (Kd.int .i64) 2 w' w.heap.size (fun _ => True) v7 x7_1) ∧ Aside0 (w'.heap[gb128]? = some (.cells #[.int .i64 0, .int .i64 0, .int .i64 0, .int .i64 0] 27 (0, 0))) ∧ Aside0 (w'.heap[gb134]? = some (.cells #[.int .i64 t113, .int .i64 t120, .int .i64 t121, .int .i64 t122] 27 (0, 0))) ∧ Aside0 (IsS93 w w' g534 t111 x535001_1 x535002_1) ∧ Aside0 (Below w.heap.size w w'))
  case atStart => exact ⟨(y125), (t114), (t126), (t127), z16, H', ⟨Nat.le_refl _⟩, ⟨(by (with_reducible repeat (first | apply Kd.R_alloc | apply Kd.R_drewN | apply Kd.R_drew)); exact Kd.R_mono HO133.out (fun _ hk => trivial))⟩, ⟨z65⟩, ⟨z77⟩, ⟨z7⟩, ⟨z8⟩⟩
  case round =>
    clear H'
    try clear c1
    try clear p2
    try clear c7
    try clear c8
    try clear c16
    try clear c17
    try clear hcz18_0
    try clear hcz18_1
    try clear hcz18_2
    try clear hcz18_3
    try clear hfz18_0
    try clear hfz18_1
    try clear hfz18_2
    try clear hfz18_3
    obtain ⟨x7_1, x8_1, x535001_1, x535002_1, rfl, HA, HK1, HO_7, BK128, BK134, HI129, HB⟩ := hrel
    cases gk with
    | zero => exact absurd HA.out (by simp [spec_l08With.l0])
    | succ k1 =>
      have H := HA.out
      clear HA
      simp only [spec_l08With.l0] at H
      by_cases c20 : x8_1 > 0
      · rw [if_pos c20] at H
        have c20b0 : decide (0 < x8_1) = true := decide_eq_true c20
        clear c20
        replace H := Option.bind_eq_some_iff.mp H
        obtain ⟨⟨t100, t135, t136⟩, A210, H⟩ := H
        (try dsimp -simprocs only at H)
        have A21 := Aside0.mk A210
        clear A210
        replace H := Option.bind_eq_some_iff.mp H
        obtain ⟨t101, A220, H⟩ := H
        (try dsimp -simprocs only at H)
        have A22 := Aside0.mk A220
        clear A220
        have H' := Aside0.mk H
        clear H
        have hnb23 := NB134_128.out
        have hnc23 := NB128_134.out
        have hnb24 := NB134_129.out
        have hnc24 := NB129_134.out
        obtain ⟨hcz25_0, hcz25_1, hcz25_2, hcz25_3, hfz25_0, hfz25_1, hfz25_2, hfz25_3⟩ := zC4 BK134.out
        go_wp2_with (first | ((with_reducible refine gate_callee (f := 74) rfl ?_); refine goesL_ (some 30) rfl rfl Try.func74 (by kernel_rfl) rfl #[.pointer (some ⟨g534, 0, none⟩), .int .i64 t113, .int .i64 t120] rfl z2 ?_; (with_reducible refine (spec_l08DrawSet.calls k1 g534 t111 x535001_1 x535002_1 t113 t120 t100 t135 t136 w _ ?side1 ?side2 A21.out).mono ?_); (case side1 => exact z7); (case side2 => exact z8); rintro e w26 ⟨rfl, hi, hb, hk⟩; refine ⟨_, rfl, ?_⟩; have n0_ := Aside0.mk (Kd.R_mono (Kd.R_keep (IsS93.apart (show IsS93 w _ g534 t111 x535001_1 x535002_1 from z7) z34 (by decide)) hk (fun _ h => h.2)) (fun _ h => h.1)); have n1_ := zKB BK128 hk NB128_129; have n2_ := zKB BK134 hk NB134_129; have n3_ := Aside0.mk (hb); have n4_ := Aside0.mk (hi); clear HO_7 BK128 BK134 HB HI129; have HO_7 := n0_; have BK128 := n1_; have BK134 := n2_; have HB := n3_; have HI129 := n4_; clear n0_ n1_ n2_ n3_ n4_; (try clear hb); (try clear hb2); (try clear hk); (try clear hi); obtain ⟨Ao27, co27, eo27⟩ := Kd.R_slice HO_7.out; subst eo27) | ((with_reducible refine gate_callee (f := 61) rfl ?_); refine goesL_ (some 31) rfl rfl Try.func61 (by kernel_rfl) rfl #[.slice Ao27 x7_1.length co27, .int .i64 t100] rfl z2 ?_; (with_reducible refine (spec_l01Put.calls k1 (fun k_ => some k_ = (.slice Ao27 x7_1.length co27 : Value).ownBlock) (.slice Ao27 x7_1.length co27) x7_1 t100 t101 w _ ?side1 ?side2 A22.out).mono ?_); (case side1 => exact z8); (case side2 => exact Kd.R_tight rfl HO_7.out); rintro e w28 ⟨v137, rfl, ho0, hb, hkp⟩; refine ⟨_, rfl, ?_⟩; have n0_ := Aside0.mk (blk_kept z65 hkp (fun hs_ => (fun e_ => (Kd.R_ne HO_7.out BK128.out (by decide)) e_) hs_)); have n1_ := Aside0.mk (blk_kept z77 hkp (fun hs_ => (fun e_ => (Kd.R_ne HO_7.out BK134.out (by decide)) e_) hs_)); have n2_ := Aside0.mk (IsS93.kept z7 hkp (fun hs_ => (fun e_ => (IsS93.own_ne HI129.out HO_7.out (by decide)) e_) hs_)); have n3_ := Aside0.mk (Kd.R_mono (ok' := fun k_ => True) ho0 (fun k_ hk_ => trivial)); have n4_ := Aside0.mk (hb); clear BK128 BK134 HI129 HB HO_7; have BK128 := n0_; have BK134 := n1_; have HI129 := n2_; have HO138 := n3_; have HB := n4_; clear n0_ n1_ n2_ n3_ n4_; (try clear hb); (try clear hkp); (try clear ho0)))
        go_roundg k1
        case measure => have := HK1.out; omega
        case rel => exact ⟨(t101), (wrap64 (x8_1 - 1)), (t135), (t136), z16, H', ⟨z79⟩, ⟨z116⟩, ⟨z65⟩, ⟨z77⟩, ⟨z7⟩, ⟨z8⟩⟩
      · rw [if_neg c20] at H
        have c20b0 : decide (0 < x8_1) = false := decide_eq_false c20
        clear c20
        replace H := Option.bind_eq_some_iff.mp H
        obtain ⟨⟨t102, t139, t140⟩, A290, H⟩ := H
        (try dsimp -simprocs only at H)
        have A29 := Aside0.mk A290
        clear A290
        have HC30 := Aside0.mk H
        clear H
        go_upto_if 34 with (first | ((with_reducible refine gate_callee (f := 75) rfl ?_); refine goesL_ (some 33) rfl rfl Try.func75 (by kernel_rfl) rfl #[.pointer (some ⟨g534, 0, none⟩), .int .i64 4] rfl z2 ?_; (with_reducible refine (spec_l01Next.calls g534 t111 x535001_1 x535002_1 4 t102 t139 t140 w _ ?side1 ?side2 A29.out).mono ?_); (case side1 => exact z7); (case side2 => exact z8); rintro e w31 ⟨rfl, hi, hb, hk⟩; refine ⟨_, rfl, ?_⟩; have n0_ := Aside0.mk (Kd.R_mono (Kd.R_keep (IsS93.apart (show IsS93 w _ g534 t111 x535001_1 x535002_1 from z7) z34 (by decide)) hk (fun _ h => h.2)) (fun _ h => h.1)); have n1_ := zKB BK128 hk NB128_129; have n2_ := zKB BK134 hk NB134_129; have n3_ := Aside0.mk (hb); have n4_ := Aside0.mk (hi); clear HO_7 BK128 BK134 HB HI129; have HO_7 := n0_; have BK128 := n1_; have BK134 := n2_; have HB := n3_; have HI129 := n4_; clear n0_ n1_ n2_ n3_ n4_; (try clear hb); (try clear hb2); (try clear hk); (try clear hi)))
        (try simp only [Act.put, List.setIfInBounds_toArray, List.set_cons_zero, List.set_cons_succ])
        go_cut [7] (fun v7 wc => ∃ (kq : Nat) (x7_29 : List Int), Aside0 (spec_l08With.j1 kq x7_29 t111 t139 t140 t113 t120 t121 t122 = some (r1, r2, r3, r4, r5, r6)) ∧ Aside0 (kq ≤ k1) ∧ Aside0 (Kd.R (Kd.int .i64) 2 wc w.heap.size (fun _ => True) v7 x7_29) ∧ Aside0 (wc.heap[gb128]? = some (.cells #[.int .i64 0, .int .i64 0, .int .i64 0, .int .i64 0] 27 (0, 0))) ∧ Aside0 (wc.heap[gb134]? = some (.cells #[.int .i64 t113, .int .i64 t120, .int .i64 t121, .int .i64 t122] 27 (0, 0))) ∧ Aside0 (IsS93 w wc g534 t111 t139 t140) ∧ Aside0 (Below w.heap.size w wc))
        case first =>
          have H := HC30.out
          clear HC30
          by_cases c32 : t102 = 0
          · rw [if_pos c32] at H
            have c32b0 : (t102 == 0) = true := beq_iff_eq.mpr c32
            have c32b1 : (t102 != 0) = false := bne_eq_false_iff_eq.mpr c32
            clear c32
            (first | rw [c32b0] | (simp only [i64_w, i32_w]; rw [c32b0]) | skip)
            replace H := Option.bind_eq_some_iff.mp H
            obtain ⟨⟨t103, t141⟩, A330, H⟩ := H
            (try dsimp -simprocs only at H)
            have A33 := Aside0.mk A330
            clear A330
            have H' := Aside0.mk H
            clear H
            have hnb34 := NB134_128.out
            have hnc34 := NB128_134.out
            have hnb35 := NB134_129.out
            have hnc35 := NB129_134.out
            obtain ⟨hcz36_0, hcz36_1, hcz36_2, hcz36_3, hfz36_0, hfz36_1, hfz36_2, hfz36_3⟩ := zC4 BK134.out
            go_wp2_with (first | ((with_reducible refine gate_callee (f := 7) rfl ?_); refine goesL_ (some 37) rfl rfl Try.func7 (by kernel_rfl) rfl #[.agg #[.int .i64 t113, .int .i64 t120, .int .i64 t121, .int .i64 t122]] rfl z2 ?_; (with_reducible refine (spec_GreedyTickets.calls k1 t113 t120 t121 t122 t103 t141 _ A33.out).mono ?_); rintro e w37 ⟨v142, rfl, ho0, hb⟩; refine ⟨_, rfl, ?_⟩; have n0_ := Aside0.mk (Kd.R_elder' z34 (Kd.R_base ho0) hb); have n1_ := Aside0.mk (Kd.R_lower (Kd.R_new' ho0 (Kd.R_lt z34)) (below_size z8)); have n2_ := zBB BK128 hb; have n3_ := zBB BK134 hb; have n4_ := Aside0.mk (IsS93.below z7 hb); have n5_ := Aside0.mk (below_step z8 hb); clear HO_7 BK128 BK134 HI129 HB; have HO_7 := n0_; have HO143 := n1_; have BK128 := n2_; have BK134 := n3_; have HI129 := n4_; have HB := n5_; clear n0_ n1_ n2_ n3_ n4_ n5_; (try clear hb); (try clear hb2); (try clear hk); (try clear hi); (try clear ho0)))
            go_meet
            case rel => exact ⟨_, (t103), H', ⟨(by have := HK1.out; first | omega | exact Nat.le_refl _)⟩, ⟨(by (with_reducible repeat (first | apply Kd.R_alloc | apply Kd.R_drewN | apply Kd.R_drew)); exact Kd.R_mono HO143.out (fun _ hk => trivial))⟩, ⟨z65⟩, ⟨z77⟩, ⟨z7⟩, ⟨z8⟩⟩
          · rw [if_neg c32] at H
            have c32b0 : (t102 == 0) = false := beq_eq_false_iff_ne.mpr c32
            have c32b1 : (t102 != 0) = true := bne_iff_ne.mpr c32
            (first | rw [c32b0] | (simp only [i64_w, i32_w]; rw [c32b0]) | skip)
            have H' := Aside0.mk H
            clear H
            go_wp2
            go_meet
            case rel => exact ⟨_, (x7_1), H', ⟨(by have := HK1.out; first | omega | exact Nat.le_refl _)⟩, ⟨z34⟩, ⟨z65⟩, ⟨z77⟩, ⟨z7⟩, ⟨z8⟩⟩
        case rest =>
          clear HC30
          try clear c1
          try clear c2
          try clear p2
          try clear c3
          try clear c6
          try clear p6
          try clear c7
          try clear c8
          try clear c16
          try clear c17
          try clear c20
          try clear c20b0
          try clear c23
          try clear c24
          try clear c32
          try clear c32b0
          try clear c32b1
          try clear c34
          try clear c35
          try clear hcz18_0
          try clear hcz18_1
          try clear hcz18_2
          try clear hcz18_3
          try clear hcz25_0
          try clear hcz25_1
          try clear hcz25_2
          try clear hcz25_3
          try clear hcz36_0
          try clear hcz36_1
          try clear hcz36_2
          try clear hcz36_3
          try clear hfz18_0
          try clear hfz18_1
          try clear hfz18_2
          try clear hfz18_3
          try clear hfz25_0
          try clear hfz25_1
          try clear hfz25_2
          try clear hfz25_3
          try clear hfz36_0
          try clear hfz36_1
          try clear hfz36_2
          try clear hfz36_3
          try clear p2
          obtain ⟨kq, x7_29, HA, HJ29, HO_7, BK128, BK134, HI129, HB⟩ := hcut
          cases kq with
          | zero => exact absurd HA.out (by simp [spec_l08With.j1])
          | succ kj29 =>
            have H := HA.out
            clear HA
            simp only [spec_l08With.j1] at H
            replace H := Option.bind_eq_some_iff.mp H
            obtain ⟨⟨t104, t144, t145⟩, A380, H⟩ := H
            (try dsimp -simprocs only at H)
            have A38 := Aside0.mk A380
            clear A380
            replace H := Option.bind_eq_some_iff.mp H
            obtain ⟨⟨t105, t146, t147⟩, A390, H⟩ := H
            (try dsimp -simprocs only at H)
            have A39 := Aside0.mk A390
            clear A390
            by_cases c40 : t105 = 0
            · rw [if_pos c40] at H
              have c40b0 : (t105 == 0) = true := beq_iff_eq.mpr c40
              have c40b1 : (t105 != 0) = false := bne_eq_false_iff_eq.mpr c40
              clear c40
              obtain ⟨y148, hy148⟩ : ∃ y_ : List Int, y_ = (([0, (-1), 4096] : List Int)) := ⟨_, rfl⟩
              replace H : ((spec_l01Pick.f t111 t146 t147 y148).bind fun bt106 => (if x7_29.length < 17592186044416 then ((spec_l08Bad.f t111 bt106.2.1 bt106.2.2 t113 t120 t121 t122).bind fun bt107 => (some (bt107.1, bt107.2.1, bt107.2.2.1, bt107.2.2.2.1, (x7_29 ++ [bt106.1]), t104))) else (none))) = some (r1, r2, r3, r4, r5, r6) := by first | (rw [hy148]; with_reducible exact H) | (have H2_ := (Option.bind_some _ _).symm.trans H; rw [hy148]; with_reducible exact H2_) | (have H2_ := (Option.bind_some _ _).symm.trans H; with_reducible exact H2_) | with_reducible exact H | (rw [hy148]; exact H) | exact H
              have Ny148 := Aside0.mk hy148
              clear hy148
              replace H := Option.bind_eq_some_iff.mp H
              obtain ⟨⟨t106, t149, t150⟩, A410, H⟩ := H
              (try dsimp -simprocs only at H)
              have A41 := Aside0.mk A410
              clear A410
              by_cases c42 : x7_29.length < 17592186044416
              · rw [if_pos c42] at H
                have LMc42 := Aside0.mk c42
                clear c42
                obtain ⟨y151, hy151⟩ : ∃ y_ : List Int, y_ = (x7_29 ++ [t106]) := ⟨_, rfl⟩
                replace H : ((spec_l08Bad.f t111 t149 t150 t113 t120 t121 t122).bind fun bt107 => (some (bt107.1, bt107.2.1, bt107.2.2.1, bt107.2.2.2.1, y151, t104))) = some (r1, r2, r3, r4, r5, r6) := by first | (rw [hy151]; with_reducible exact H) | (have H2_ := (Option.bind_some _ _).symm.trans H; rw [hy151]; with_reducible exact H2_) | (have H2_ := (Option.bind_some _ _).symm.trans H; with_reducible exact H2_) | with_reducible exact H | (rw [hy151]; exact H) | exact H
                have Ny151 := Aside0.mk hy151
                clear hy151
                replace H := Option.bind_eq_some_iff.mp H
                obtain ⟨⟨t107, t152, t153, t154, t155, t156⟩, A430, H⟩ := H
                (try dsimp -simprocs only at H)
                have A43 := Aside0.mk A430
                clear A430
                simp only [Option.some.injEq, Prod.mk.injEq] at H
                obtain ⟨rfl, rfl, rfl, rfl, rfl, rfl⟩ := H
                have hnb44 := NB134_128.out
                have hnc44 := NB128_134.out
                have hnb45 := NB134_129.out
                have hnc45 := NB129_134.out
                obtain ⟨hcz46_0, hcz46_1, hcz46_2, hcz46_3, hfz46_0, hfz46_1, hfz46_2, hfz46_3⟩ := zC4 BK134.out
                go_wp2_with (first | ((with_reducible refine gate_callee (f := 74) rfl ?_); refine goesL_ (some 45) rfl rfl Try.func74 (by kernel_rfl) rfl #[.pointer (some ⟨g534, 0, none⟩), .int .i64 t113, .int .i64 t121] rfl z2 ?_; (with_reducible refine (spec_l08DrawSet.calls kj29 g534 t111 t139 t140 t113 t121 t104 t144 t145 w _ ?side1 ?side2 A38.out).mono ?_); (case side1 => exact z7); (case side2 => exact z8); rintro e w47 ⟨rfl, hi, hb, hk⟩; refine ⟨_, rfl, ?_⟩; have n0_ := Aside0.mk (Kd.R_mono (Kd.R_keep (IsS93.apart (show IsS93 w _ g534 t111 t139 t140 from z7) z34 (by decide)) hk (fun _ h => h.2)) (fun _ h => h.1)); have n1_ := zKB BK128 hk NB128_129; have n2_ := zKB BK134 hk NB134_129; have n3_ := Aside0.mk (hb); have n4_ := Aside0.mk (hi); clear HO_7 BK128 BK134 HB HI129; have HO_7 := n0_; have BK128 := n1_; have BK134 := n2_; have HB := n3_; have HI129 := n4_; clear n0_ n1_ n2_ n3_ n4_; (try clear hb); (try clear hb2); (try clear hk); (try clear hi)) | ((with_reducible refine gate_callee (f := 75) rfl ?_); refine goesL_ (some 47) rfl rfl Try.func75 (by kernel_rfl) rfl #[.pointer (some ⟨g534, 0, none⟩), .int .i64 24] rfl z2 ?_; (with_reducible refine (spec_l01Next.calls g534 t111 t144 t145 24 t105 t146 t147 w _ ?side1 ?side2 A39.out).mono ?_); (case side1 => exact z7); (case side2 => exact z8); rintro e w48 ⟨rfl, hi, hb, hk⟩; refine ⟨_, rfl, ?_⟩; have n0_ := Aside0.mk (Kd.R_mono (Kd.R_keep (IsS93.apart (show IsS93 w _ g534 t111 t144 t145 from z7) z34 (by decide)) hk (fun _ h => h.2)) (fun _ h => h.1)); have n1_ := zKB BK128 hk NB128_129; have n2_ := zKB BK134 hk NB134_129; have n3_ := Aside0.mk (hb); have n4_ := Aside0.mk (hi); clear HO_7 BK128 BK134 HB HI129; have HO_7 := n0_; have BK128 := n1_; have BK134 := n2_; have HB := n3_; have HI129 := n4_; clear n0_ n1_ n2_ n3_ n4_; (try clear hb); (try clear hb2); (try clear hk); (try clear hi)) | ((with_reducible refine gate_dst (N := 52) rfl ?_); refine Kd.R_lit (Kd.int .i64) _ 2 ?hg (N := 52) ?hd (xs := ([0, (-1), 4096] : List Int)) (inner := [.int .i64 0, .int .i64 (-1), .int .i64 4096]) (ok := fun _ => True) (okp := fun _ => True) ?hr ?hp (fun _ hk => hk) trivial (Below.refl _ _) (Nat.le_refl _) (by simp) ?_; (case hd => rfl); (case hg => rfl); (case hr => first | (go_simp; done) | (go_simp; rfl)); (case hp => exact (Reps.one (show Kd.M (Kd.int .i64) _ _ _ 0 [.int .i64 0] from rfl) (Reps.one (show Kd.M (Kd.int .i64) _ _ _ (-1) [.int .i64 (-1)] from rfl) (Reps.one (show Kd.M (Kd.int .i64) _ _ _ 4096 [.int .i64 4096] from rfl) (Reps.none _ _))))); intro v157 w49 ho50 hb hg_ hnew_; clear hg_ hnew_; (first | rw [← Ny148.out] at ho50 | (simp only [Int.reduceToNat] at ho50; rw [← Ny148.out] at ho50)); have n0_ := Aside0.mk (Kd.R_elder' z34 (Kd.R_base ho50) hb); have n1_ := Aside0.mk (Kd.R_lower (Kd.R_new' ho50 (Kd.R_lt z34)) (below_size z8)); have n2_ := zBB BK128 hb; have n3_ := zBB BK134 hb; have n4_ := Aside0.mk (IsS93.below z7 hb); have n5_ := Aside0.mk (below_step z8 hb); clear HO_7 BK128 BK134 HI129 HB; have HO_7 := n0_; have HO158 := n1_; have BK128 := n2_; have BK134 := n3_; have HI129 := n4_; have HB := n5_; clear n0_ n1_ n2_ n3_ n4_ n5_; clear hb ho50; obtain ⟨Ao51, co51, eo51⟩ := Kd.R_slice HO158.out; subst eo51) | ((with_reducible refine gate_callee (f := 76) rfl ?_); refine goesL_ (some 53) rfl rfl Try.func76 (by kernel_rfl) rfl #[.pointer (some ⟨g534, 0, none⟩), .slice Ao51 y148.length co51] rfl z2 ?_; (with_reducible refine (spec_l01Pick.calls g534 t111 t146 t147 _ _ y148 t106 t149 t150 w _ ?side1 ?side2 ?side3 ?side4 ?side5 A41.out).mono ?_); (case side1 => exact z7); (case side2 => exact z8); (case side3 => exact (by repeat (first | exact (Kd.R_reads' HO158.out).2.2 | (with_reducible refine Kd.C_alloc ?_ _) | (with_reducible refine Kd.C_drewN ?_ _) | (with_reducible refine Kd.C_drew ?_)))); (case side4 => exact (Kd.R_reads' HO158.out).2.1); (case side5 => exact far_slice (IsS93.own_ne HI129.out HO158.out (by decide))); rintro e w52 ⟨rfl, hi, hb, hk⟩; refine ⟨_, rfl, ?_⟩; have n0_ := Aside0.mk (Kd.R_mono (Kd.R_keep (IsS93.apart (show IsS93 w _ g534 t111 t146 t147 from z7) z34 (by decide)) hk (fun _ h => h.2)) (fun _ h => h.1)); have n1_ := zKB BK128 hk NB128_129; have n2_ := zKB BK134 hk NB134_129; have n3_ := Aside0.mk (Kd.R_mono (Kd.R_keep (IsS93.apart (show IsS93 w _ g534 t111 t146 t147 from z7) z95 (by decide)) hk (fun _ h => h.2)) (fun _ h => h.1)); have n4_ := Aside0.mk (hb); have n5_ := Aside0.mk (hi); clear HO_7 BK128 BK134 HO158 HB HI129; have HO_7 := n0_; have BK128 := n1_; have BK134 := n2_; have HO158 := n3_; have HB := n4_; have HI129 := n5_; clear n0_ n1_ n2_ n3_ n4_ n5_; (try clear hb); (try clear hb2); (try clear hk); (try clear hi)) | ((with_reducible refine gate_builtin (b := .append) (xs := #[.tmp 50, .tmp 54]) rfl ?_); at_builtin; refine Kd.R_append (Kd.int .i64) (w0 := w) w.heap.size rfl (.tmp 50) (.tmp 54) 24 2 (.int .i64 0) 8 rfl Try.underlying24 info2 rfl (by decide) (by omega) u7 x7_29 t106 [.int .i64 t106] (fun k_ => some k_ ≠ (.slice Ao51 y148.length co51 : Value).ownBlock) (fun _ => False) rfl rfl ?aP (fun _ hk => hk.elim) ?aF ?aO ?aB ?aS ?aL ?_; (case aP => exact rfl); (case aB => exact z8); (case aF => exact (fun k_ hk => Kd.fresh' (Kd.R_lt z95) k_ hk)); (case aO => exact (by (with_reducible repeat (first | apply Kd.R_alloc | apply Kd.R_drewN | apply Kd.R_drew)); exact Kd.R_mono HO_7.out (fun _ hk => by first | exact hk.2 | simp only [hk, ne_eq, not_false_eq_true, and_self]))); (case aS => exact (below_size z8)); (case aL => have := LMc42.out; omega); intro v159 w53 ho hb hg hat; rw [← Ny151.out] at ho; have n0_ := Aside0.mk (blk_grown (g := gb128) (o := .cells #[.int .i64 0, .int .i64 0, .int .i64 0, .int .i64 0] 27 (0, 0)) z65 hg (Kd.R_ne HO_7.out BK128.out (by decide))); have n1_ := Aside0.mk (blk_grown (g := gb134) (o := .cells #[.int .i64 t113, .int .i64 t120, .int .i64 t121, .int .i64 t122] 27 (0, 0)) z77 hg (Kd.R_ne HO_7.out BK134.out (by decide))); have n2_ := Aside0.mk (IsS93.grown z7 hg (IsS93.own_ne HI129.out HO_7.out (by decide))); have n3_ := Aside0.mk (Kd.R_after (ok := (fun _ => True)) z95 hg hat); have n4_ := Aside0.mk (hb); have n5_ := Aside0.mk (ho); clear BK128 BK134 HI129 HO158 HB HO_7; have BK128 := n0_; have BK134 := n1_; have HI129 := n2_; have HO158 := n3_; have HB := n4_; have HO160 := n5_; clear n0_ n1_ n2_ n3_ n4_ n5_; clear ho hb hg hat; obtain ⟨hcz54_0, hcz54_1, hcz54_2, hcz54_3, hfz54_0, hfz54_1, hfz54_2, hfz54_3⟩ := zC4 BK134.out) | ((with_reducible refine gate_callee (f := 77) rfl ?_); refine goesL_ (some 63) rfl rfl Try.func77 (by kernel_rfl) rfl #[.pointer (some ⟨g534, 0, none⟩), .agg #[.int .i64 t113, .int .i64 t120, .int .i64 t121, .int .i64 t122]] rfl z2 ?_; (with_reducible refine (spec_l08Bad.calls g534 t111 t149 t150 t113 t120 t121 t122 t107 t152 t153 t154 t155 t156 w _ ?side1 ?side2 A43.out).mono ?_); (case side1 => exact z7); (case side2 => exact z8); rintro e w55 ⟨rfl, hi, hb, hk⟩; refine ⟨_, rfl, ?_⟩; have n0_ := zKB BK128 hk NB128_129; have n1_ := zKB BK134 hk NB134_129; have n2_ := Aside0.mk (Kd.R_mono (Kd.R_keep (IsS93.apart (show IsS93 w _ g534 t111 t149 t150 from z7) z95 (by decide)) hk (fun _ h => h.2)) (fun _ h => h.1)); have n3_ := Aside0.mk (Kd.R_mono (Kd.R_keep (IsS93.apart (show IsS93 w _ g534 t111 t149 t150 from z7) (by (with_reducible repeat (first | apply Kd.R_alloc | apply Kd.R_drewN | apply Kd.R_drew)); exact HO160.out) (by decide)) hk (fun _ h => h.2)) (fun _ h => h.1)); have n4_ := Aside0.mk (hb); have n5_ := Aside0.mk (hi); clear BK128 BK134 HO158 HO160 HB HI129; have BK128 := n0_; have BK134 := n1_; have HO158 := n2_; have HO160 := n3_; have HB := n4_; have HI129 := n5_; clear n0_ n1_ n2_ n3_ n4_ n5_; (try clear hb); (try clear hb2); (try clear hk); (try clear hi); have hnb56 := NB128_129.out; have hnc56 := NB129_128.out; obtain ⟨hcz57_0, hcz57_1, hcz57_2, hcz57_3, hfz57_0, hfz57_1, hfz57_2, hfz57_3⟩ := zC4 BK128.out))
                refine bodyPost_ret (results_ctt rfl _ _ gb128 27 #[.int .i64 t107, .int .i64 t152, .int .i64 t153, .int .i64 t154] (0, 0) _ rfl (by (with_reducible repeat (first | refine blk_drewN ?_ _ | refine blk_drew ?_ | refine blk_alloc ?_ _)); refine blk_put (cs := #[.int .i64 t107, .int .i64 t152, .int .i64 t153, .int .i64 0]) ?_ 3 _ rfl; (with_reducible repeat (first | refine blk_drewN ?_ _ | refine blk_drew ?_ | refine blk_alloc ?_ _)); refine blk_put (cs := #[.int .i64 t107, .int .i64 t152, .int .i64 0, .int .i64 0]) ?_ 2 _ rfl; (with_reducible repeat (first | refine blk_drewN ?_ _ | refine blk_drew ?_ | refine blk_alloc ?_ _)); refine blk_put (cs := #[.int .i64 t107, .int .i64 0, .int .i64 0, .int .i64 0]) ?_ 1 _ rfl; (with_reducible repeat (first | refine blk_drewN ?_ _ | refine blk_drew ?_ | refine blk_alloc ?_ _)); refine blk_put (cs := #[.int .i64 0, .int .i64 0, .int .i64 0, .int .i64 0]) ?_ 0 _ rfl; (with_reducible repeat (first | refine blk_drewN ?_ _ | refine blk_drew ?_ | refine blk_alloc ?_ _)); exact BK128.out) Try.underlying27 rfl (by kernel_rfl)) rfl ?_
                exact ⟨_, z6, (by (with_reducible repeat (first | apply Kd.R_alloc | apply Kd.R_drewN | apply Kd.R_drew)); exact Kd.R_mono (Kd.R_far (p := ⟨gb128, 3, none⟩) (Kd.R_far (p := ⟨gb128, 2, none⟩) (Kd.R_far (p := ⟨gb128, 1, none⟩) (Kd.R_far (p := ⟨gb128, 0, none⟩) (Kd.R_types HO160.out BK128.out (by decide)) (fun _ hk => by first | exact hk.2 | simp only [hk, ne_eq, not_false_eq_true, and_self]) (.int .i64 t107)) (fun _ hk => by first | exact hk.2 | simp only [hk, ne_eq, not_false_eq_true, and_self]) (.int .i64 t152)) (fun _ hk => by first | exact hk.2 | simp only [hk, ne_eq, not_false_eq_true, and_self]) (.int .i64 t153)) (fun _ hk => by first | exact hk.2 | simp only [hk, ne_eq, not_false_eq_true, and_self]) (.int .i64 t154)) (fun _ hk => trivial)), z8⟩
              · rw [if_neg c42] at H
                exact absurd H (by simp)
            · rw [if_neg c40] at H
              have c40b0 : (t105 == 0) = false := beq_eq_false_iff_ne.mpr c40
              have c40b1 : (t105 != 0) = true := bne_iff_ne.mpr c40
              by_cases c58 : t105 = 1
              · rw [if_pos c58] at H
                have c58b0 : (t105 == 1) = true := beq_iff_eq.mpr c58
                have c58b1 : (t105 != 1) = false := bne_eq_false_iff_eq.mpr c58
                clear c58
                obtain ⟨y161, hy161⟩ : ∃ y_ : List Int, y_ = (([0, (-1), 4096] : List Int)) := ⟨_, rfl⟩
                replace H : ((spec_l01Pick.f t111 t146 t147 y161).bind fun bt108 => ((spec_l08Bad.f t111 bt108.2.1 bt108.2.2 t113 t120 t121 t122).bind fun bt109 => (some (bt109.1, bt109.2.1, bt109.2.2.1, bt109.2.2.2.1, x7_29, bt108.1)))) = some (r1, r2, r3, r4, r5, r6) := by first | (rw [hy161]; with_reducible exact H) | (have H2_ := (Option.bind_some _ _).symm.trans H; rw [hy161]; with_reducible exact H2_) | (have H2_ := (Option.bind_some _ _).symm.trans H; with_reducible exact H2_) | with_reducible exact H | (rw [hy161]; exact H) | exact H
                have Ny161 := Aside0.mk hy161
                clear hy161
                replace H := Option.bind_eq_some_iff.mp H
                obtain ⟨⟨t108, t162, t163⟩, A590, H⟩ := H
                (try dsimp -simprocs only at H)
                have A59 := Aside0.mk A590
                clear A590
                replace H := Option.bind_eq_some_iff.mp H
                obtain ⟨⟨t109, t164, t165, t166, t167, t168⟩, A600, H⟩ := H
                (try dsimp -simprocs only at H)
                have A60 := Aside0.mk A600
                clear A600
                simp only [Option.some.injEq, Prod.mk.injEq] at H
                obtain ⟨rfl, rfl, rfl, rfl, rfl, rfl⟩ := H
                have hnb61 := NB134_128.out
                have hnc61 := NB128_134.out
                have hnb62 := NB134_129.out
                have hnc62 := NB129_134.out
                obtain ⟨hcz63_0, hcz63_1, hcz63_2, hcz63_3, hfz63_0, hfz63_1, hfz63_2, hfz63_3⟩ := zC4 BK134.out
                go_wp2_with (first | ((with_reducible refine gate_callee (f := 74) rfl ?_); refine goesL_ (some 45) rfl rfl Try.func74 (by kernel_rfl) rfl #[.pointer (some ⟨g534, 0, none⟩), .int .i64 t113, .int .i64 t121] rfl z2 ?_; (with_reducible refine (spec_l08DrawSet.calls kj29 g534 t111 t139 t140 t113 t121 t104 t144 t145 w _ ?side1 ?side2 A38.out).mono ?_); (case side1 => exact z7); (case side2 => exact z8); rintro e w64 ⟨rfl, hi, hb, hk⟩; refine ⟨_, rfl, ?_⟩; have n0_ := Aside0.mk (Kd.R_mono (Kd.R_keep (IsS93.apart (show IsS93 w _ g534 t111 t139 t140 from z7) z34 (by decide)) hk (fun _ h => h.2)) (fun _ h => h.1)); have n1_ := zKB BK128 hk NB128_129; have n2_ := zKB BK134 hk NB134_129; have n3_ := Aside0.mk (hb); have n4_ := Aside0.mk (hi); clear HO_7 BK128 BK134 HB HI129; have HO_7 := n0_; have BK128 := n1_; have BK134 := n2_; have HB := n3_; have HI129 := n4_; clear n0_ n1_ n2_ n3_ n4_; (try clear hb); (try clear hb2); (try clear hk); (try clear hi)) | ((with_reducible refine gate_callee (f := 75) rfl ?_); refine goesL_ (some 47) rfl rfl Try.func75 (by kernel_rfl) rfl #[.pointer (some ⟨g534, 0, none⟩), .int .i64 24] rfl z2 ?_; (with_reducible refine (spec_l01Next.calls g534 t111 t144 t145 24 t105 t146 t147 w _ ?side1 ?side2 A39.out).mono ?_); (case side1 => exact z7); (case side2 => exact z8); rintro e w65 ⟨rfl, hi, hb, hk⟩; refine ⟨_, rfl, ?_⟩; have n0_ := Aside0.mk (Kd.R_mono (Kd.R_keep (IsS93.apart (show IsS93 w _ g534 t111 t144 t145 from z7) z34 (by decide)) hk (fun _ h => h.2)) (fun _ h => h.1)); have n1_ := zKB BK128 hk NB128_129; have n2_ := zKB BK134 hk NB134_129; have n3_ := Aside0.mk (hb); have n4_ := Aside0.mk (hi); clear HO_7 BK128 BK134 HB HI129; have HO_7 := n0_; have BK128 := n1_; have BK134 := n2_; have HB := n3_; have HI129 := n4_; clear n0_ n1_ n2_ n3_ n4_; (try clear hb); (try clear hb2); (try clear hk); (try clear hi)) | ((with_reducible refine gate_dst (N := 59) rfl ?_); refine Kd.R_lit (Kd.int .i64) _ 2 ?hg (N := 59) ?hd (xs := ([0, (-1), 4096] : List Int)) (inner := [.int .i64 0, .int .i64 (-1), .int .i64 4096]) (ok := fun _ => True) (okp := fun _ => True) ?hr ?hp (fun _ hk => hk) trivial (Below.refl _ _) (Nat.le_refl _) (by simp) ?_; (case hd => rfl); (case hg => rfl); (case hr => first | (go_simp; done) | (go_simp; rfl)); (case hp => exact (Reps.one (show Kd.M (Kd.int .i64) _ _ _ 0 [.int .i64 0] from rfl) (Reps.one (show Kd.M (Kd.int .i64) _ _ _ (-1) [.int .i64 (-1)] from rfl) (Reps.one (show Kd.M (Kd.int .i64) _ _ _ 4096 [.int .i64 4096] from rfl) (Reps.none _ _))))); intro v169 w66 ho67 hb hg_ hnew_; clear hg_ hnew_; (first | rw [← Ny161.out] at ho67 | (simp only [Int.reduceToNat] at ho67; rw [← Ny161.out] at ho67)); have n0_ := Aside0.mk (Kd.R_elder' z34 (Kd.R_base ho67) hb); have n1_ := Aside0.mk (Kd.R_lower (Kd.R_new' ho67 (Kd.R_lt z34)) (below_size z8)); have n2_ := zBB BK128 hb; have n3_ := zBB BK134 hb; have n4_ := Aside0.mk (IsS93.below z7 hb); have n5_ := Aside0.mk (below_step z8 hb); clear HO_7 BK128 BK134 HI129 HB; have HO_7 := n0_; have HO170 := n1_; have BK128 := n2_; have BK134 := n3_; have HI129 := n4_; have HB := n5_; clear n0_ n1_ n2_ n3_ n4_ n5_; clear hb ho67; obtain ⟨Ao68, co68, eo68⟩ := Kd.R_slice HO170.out; subst eo68) | ((with_reducible refine gate_callee (f := 76) rfl ?_); refine goesL_ (some 60) rfl rfl Try.func76 (by kernel_rfl) rfl #[.pointer (some ⟨g534, 0, none⟩), .slice Ao68 y161.length co68] rfl z2 ?_; (with_reducible refine (spec_l01Pick.calls g534 t111 t146 t147 _ _ y161 t108 t162 t163 w _ ?side1 ?side2 ?side3 ?side4 ?side5 A59.out).mono ?_); (case side1 => exact z7); (case side2 => exact z8); (case side3 => exact (by repeat (first | exact (Kd.R_reads' HO170.out).2.2 | (with_reducible refine Kd.C_alloc ?_ _) | (with_reducible refine Kd.C_drewN ?_ _) | (with_reducible refine Kd.C_drew ?_)))); (case side4 => exact (Kd.R_reads' HO170.out).2.1); (case side5 => exact far_slice (IsS93.own_ne HI129.out HO170.out (by decide))); rintro e w69 ⟨rfl, hi, hb, hk⟩; refine ⟨_, rfl, ?_⟩; have n0_ := Aside0.mk (Kd.R_mono (Kd.R_keep (IsS93.apart (show IsS93 w _ g534 t111 t146 t147 from z7) z34 (by decide)) hk (fun _ h => h.2)) (fun _ h => h.1)); have n1_ := zKB BK128 hk NB128_129; have n2_ := zKB BK134 hk NB134_129; have n3_ := Aside0.mk (Kd.R_mono (Kd.R_keep (IsS93.apart (show IsS93 w _ g534 t111 t146 t147 from z7) z119 (by decide)) hk (fun _ h => h.2)) (fun _ h => h.1)); have n4_ := Aside0.mk (hb); have n5_ := Aside0.mk (hi); clear HO_7 BK128 BK134 HO170 HB HI129; have HO_7 := n0_; have BK128 := n1_; have BK134 := n2_; have HO170 := n3_; have HB := n4_; have HI129 := n5_; clear n0_ n1_ n2_ n3_ n4_ n5_; (try clear hb); (try clear hb2); (try clear hk); (try clear hi); obtain ⟨hcz70_0, hcz70_1, hcz70_2, hcz70_3, hfz70_0, hfz70_1, hfz70_2, hfz70_3⟩ := zC4 BK134.out) | ((with_reducible refine gate_callee (f := 77) rfl ?_); refine goesL_ (some 63) rfl rfl Try.func77 (by kernel_rfl) rfl #[.pointer (some ⟨g534, 0, none⟩), .agg #[.int .i64 t113, .int .i64 t120, .int .i64 t121, .int .i64 t122]] rfl z2 ?_; (with_reducible refine (spec_l08Bad.calls g534 t111 t162 t163 t113 t120 t121 t122 t109 t164 t165 t166 t167 t168 w _ ?side1 ?side2 A60.out).mono ?_); (case side1 => exact z7); (case side2 => exact z8); rintro e w71 ⟨rfl, hi, hb, hk⟩; refine ⟨_, rfl, ?_⟩; have n0_ := Aside0.mk (Kd.R_mono (Kd.R_keep (IsS93.apart (show IsS93 w _ g534 t111 t162 t163 from z7) z34 (by decide)) hk (fun _ h => h.2)) (fun _ h => h.1)); have n1_ := zKB BK128 hk NB128_129; have n2_ := zKB BK134 hk NB134_129; have n3_ := Aside0.mk (Kd.R_mono (Kd.R_keep (IsS93.apart (show IsS93 w _ g534 t111 t162 t163 from z7) z119 (by decide)) hk (fun _ h => h.2)) (fun _ h => h.1)); have n4_ := Aside0.mk (hb); have n5_ := Aside0.mk (hi); clear HO_7 BK128 BK134 HO170 HB HI129; have HO_7 := n0_; have BK128 := n1_; have BK134 := n2_; have HO170 := n3_; have HB := n4_; have HI129 := n5_; clear n0_ n1_ n2_ n3_ n4_ n5_; (try clear hb); (try clear hb2); (try clear hk); (try clear hi); have hnb72 := NB128_129.out; have hnc72 := NB129_128.out; obtain ⟨hcz73_0, hcz73_1, hcz73_2, hcz73_3, hfz73_0, hfz73_1, hfz73_2, hfz73_3⟩ := zC4 BK128.out))
                refine bodyPost_ret (results_ctt rfl _ _ gb128 27 #[.int .i64 t109, .int .i64 t164, .int .i64 t165, .int .i64 t166] (0, 0) _ rfl (by (with_reducible repeat (first | refine blk_drewN ?_ _ | refine blk_drew ?_ | refine blk_alloc ?_ _)); refine blk_put (cs := #[.int .i64 t109, .int .i64 t164, .int .i64 t165, .int .i64 0]) ?_ 3 _ rfl; (with_reducible repeat (first | refine blk_drewN ?_ _ | refine blk_drew ?_ | refine blk_alloc ?_ _)); refine blk_put (cs := #[.int .i64 t109, .int .i64 t164, .int .i64 0, .int .i64 0]) ?_ 2 _ rfl; (with_reducible repeat (first | refine blk_drewN ?_ _ | refine blk_drew ?_ | refine blk_alloc ?_ _)); refine blk_put (cs := #[.int .i64 t109, .int .i64 0, .int .i64 0, .int .i64 0]) ?_ 1 _ rfl; (with_reducible repeat (first | refine blk_drewN ?_ _ | refine blk_drew ?_ | refine blk_alloc ?_ _)); refine blk_put (cs := #[.int .i64 0, .int .i64 0, .int .i64 0, .int .i64 0]) ?_ 0 _ rfl; (with_reducible repeat (first | refine blk_drewN ?_ _ | refine blk_drew ?_ | refine blk_alloc ?_ _)); exact BK128.out) Try.underlying27 rfl (by kernel_rfl)) rfl ?_
                exact ⟨_, z6, (by (with_reducible repeat (first | apply Kd.R_alloc | apply Kd.R_drewN | apply Kd.R_drew)); exact Kd.R_mono (Kd.R_far (p := ⟨gb128, 3, none⟩) (Kd.R_far (p := ⟨gb128, 2, none⟩) (Kd.R_far (p := ⟨gb128, 1, none⟩) (Kd.R_far (p := ⟨gb128, 0, none⟩) (Kd.R_types HO_7.out BK128.out (by decide)) (fun _ hk => by first | exact hk.2 | simp only [hk, ne_eq, not_false_eq_true, and_self]) (.int .i64 t109)) (fun _ hk => by first | exact hk.2 | simp only [hk, ne_eq, not_false_eq_true, and_self]) (.int .i64 t164)) (fun _ hk => by first | exact hk.2 | simp only [hk, ne_eq, not_false_eq_true, and_self]) (.int .i64 t165)) (fun _ hk => by first | exact hk.2 | simp only [hk, ne_eq, not_false_eq_true, and_self]) (.int .i64 t166)) (fun _ hk => trivial)), z8⟩
              · rw [if_neg c58] at H
                have c58b0 : (t105 == 1) = false := beq_eq_false_iff_ne.mpr c58
                have c58b1 : (t105 != 1) = true := bne_iff_ne.mpr c58
                replace H := Option.bind_eq_some_iff.mp H
                obtain ⟨⟨t110, t171, t172, t173, t174, t175⟩, A740, H⟩ := H
                (try dsimp -simprocs only at H)
                have A74 := Aside0.mk A740
                clear A740
                simp only [Option.some.injEq, Prod.mk.injEq] at H
                obtain ⟨rfl, rfl, rfl, rfl, rfl, rfl⟩ := H
                have hnb75 := NB134_128.out
                have hnc75 := NB128_134.out
                have hnb76 := NB134_129.out
                have hnc76 := NB129_134.out
                obtain ⟨hcz77_0, hcz77_1, hcz77_2, hcz77_3, hfz77_0, hfz77_1, hfz77_2, hfz77_3⟩ := zC4 BK134.out
                go_wp2_with (first | ((with_reducible refine gate_callee (f := 74) rfl ?_); refine goesL_ (some 45) rfl rfl Try.func74 (by kernel_rfl) rfl #[.pointer (some ⟨g534, 0, none⟩), .int .i64 t113, .int .i64 t121] rfl z2 ?_; (with_reducible refine (spec_l08DrawSet.calls kj29 g534 t111 t139 t140 t113 t121 t104 t144 t145 w _ ?side1 ?side2 A38.out).mono ?_); (case side1 => exact z7); (case side2 => exact z8); rintro e w78 ⟨rfl, hi, hb, hk⟩; refine ⟨_, rfl, ?_⟩; have n0_ := Aside0.mk (Kd.R_mono (Kd.R_keep (IsS93.apart (show IsS93 w _ g534 t111 t139 t140 from z7) z34 (by decide)) hk (fun _ h => h.2)) (fun _ h => h.1)); have n1_ := zKB BK128 hk NB128_129; have n2_ := zKB BK134 hk NB134_129; have n3_ := Aside0.mk (hb); have n4_ := Aside0.mk (hi); clear HO_7 BK128 BK134 HB HI129; have HO_7 := n0_; have BK128 := n1_; have BK134 := n2_; have HB := n3_; have HI129 := n4_; clear n0_ n1_ n2_ n3_ n4_; (try clear hb); (try clear hb2); (try clear hk); (try clear hi)) | ((with_reducible refine gate_callee (f := 75) rfl ?_); refine goesL_ (some 47) rfl rfl Try.func75 (by kernel_rfl) rfl #[.pointer (some ⟨g534, 0, none⟩), .int .i64 24] rfl z2 ?_; (with_reducible refine (spec_l01Next.calls g534 t111 t144 t145 24 t105 t146 t147 w _ ?side1 ?side2 A39.out).mono ?_); (case side1 => exact z7); (case side2 => exact z8); rintro e w79 ⟨rfl, hi, hb, hk⟩; refine ⟨_, rfl, ?_⟩; have n0_ := Aside0.mk (Kd.R_mono (Kd.R_keep (IsS93.apart (show IsS93 w _ g534 t111 t144 t145 from z7) z34 (by decide)) hk (fun _ h => h.2)) (fun _ h => h.1)); have n1_ := zKB BK128 hk NB128_129; have n2_ := zKB BK134 hk NB134_129; have n3_ := Aside0.mk (hb); have n4_ := Aside0.mk (hi); clear HO_7 BK128 BK134 HB HI129; have HO_7 := n0_; have BK128 := n1_; have BK134 := n2_; have HB := n3_; have HI129 := n4_; clear n0_ n1_ n2_ n3_ n4_; (try clear hb); (try clear hb2); (try clear hk); (try clear hi); obtain ⟨hcz80_0, hcz80_1, hcz80_2, hcz80_3, hfz80_0, hfz80_1, hfz80_2, hfz80_3⟩ := zC4 BK134.out) | ((with_reducible refine gate_callee (f := 77) rfl ?_); refine goesL_ (some 63) rfl rfl Try.func77 (by kernel_rfl) rfl #[.pointer (some ⟨g534, 0, none⟩), .agg #[.int .i64 t113, .int .i64 t120, .int .i64 t121, .int .i64 t122]] rfl z2 ?_; (with_reducible refine (spec_l08Bad.calls g534 t111 t146 t147 t113 t120 t121 t122 t110 t171 t172 t173 t174 t175 w _ ?side1 ?side2 A74.out).mono ?_); (case side1 => exact z7); (case side2 => exact z8); rintro e w81 ⟨rfl, hi, hb, hk⟩; refine ⟨_, rfl, ?_⟩; have n0_ := Aside0.mk (Kd.R_mono (Kd.R_keep (IsS93.apart (show IsS93 w _ g534 t111 t146 t147 from z7) z34 (by decide)) hk (fun _ h => h.2)) (fun _ h => h.1)); have n1_ := zKB BK128 hk NB128_129; have n2_ := zKB BK134 hk NB134_129; have n3_ := Aside0.mk (hb); have n4_ := Aside0.mk (hi); clear HO_7 BK128 BK134 HB HI129; have HO_7 := n0_; have BK128 := n1_; have BK134 := n2_; have HB := n3_; have HI129 := n4_; clear n0_ n1_ n2_ n3_ n4_; (try clear hb); (try clear hb2); (try clear hk); (try clear hi); have hnb82 := NB128_129.out; have hnc82 := NB129_128.out; obtain ⟨hcz83_0, hcz83_1, hcz83_2, hcz83_3, hfz83_0, hfz83_1, hfz83_2, hfz83_3⟩ := zC4 BK128.out))
                refine bodyPost_ret (results_ctt rfl _ _ gb128 27 #[.int .i64 t110, .int .i64 t171, .int .i64 t172, .int .i64 t173] (0, 0) _ rfl (by (with_reducible repeat (first | refine blk_drewN ?_ _ | refine blk_drew ?_ | refine blk_alloc ?_ _)); refine blk_put (cs := #[.int .i64 t110, .int .i64 t171, .int .i64 t172, .int .i64 0]) ?_ 3 _ rfl; (with_reducible repeat (first | refine blk_drewN ?_ _ | refine blk_drew ?_ | refine blk_alloc ?_ _)); refine blk_put (cs := #[.int .i64 t110, .int .i64 t171, .int .i64 0, .int .i64 0]) ?_ 2 _ rfl; (with_reducible repeat (first | refine blk_drewN ?_ _ | refine blk_drew ?_ | refine blk_alloc ?_ _)); refine blk_put (cs := #[.int .i64 t110, .int .i64 0, .int .i64 0, .int .i64 0]) ?_ 1 _ rfl; (with_reducible repeat (first | refine blk_drewN ?_ _ | refine blk_drew ?_ | refine blk_alloc ?_ _)); refine blk_put (cs := #[.int .i64 0, .int .i64 0, .int .i64 0, .int .i64 0]) ?_ 0 _ rfl; (with_reducible repeat (first | refine blk_drewN ?_ _ | refine blk_drew ?_ | refine blk_alloc ?_ _)); exact BK128.out) Try.underlying27 rfl (by kernel_rfl)) rfl ?_
                exact ⟨_, z6, (by (with_reducible repeat (first | apply Kd.R_alloc | apply Kd.R_drewN | apply Kd.R_drew)); exact Kd.R_mono (Kd.R_far (p := ⟨gb128, 3, none⟩) (Kd.R_far (p := ⟨gb128, 2, none⟩) (Kd.R_far (p := ⟨gb128, 1, none⟩) (Kd.R_far (p := ⟨gb128, 0, none⟩) (Kd.R_types HO_7.out BK128.out (by decide)) (fun _ hk => by first | exact hk.2 | simp only [hk, ne_eq, not_false_eq_true, and_self]) (.int .i64 t110)) (fun _ hk => by first | exact hk.2 | simp only [hk, ne_eq, not_false_eq_true, and_self]) (.int .i64 t171)) (fun _ hk => by first | exact hk.2 | simp only [hk, ne_eq, not_false_eq_true, and_self]) (.int .i64 t172)) (fun _ hk => by first | exact hk.2 | simp only [hk, ne_eq, not_false_eq_true, and_self]) (.int .i64 t173)) (fun _ hk => trivial)), z8⟩

/-! ### spec_DrawCommonNumbers: function 39 -/
def spec_DrawCommonNumbers.f (k : Nat) (l0 : List Int) : Option (Int × Int × Int × Int × Int × Int) := (spec_l01From.f k l0).bind fun bt100 => ((spec_l08With.f k l0).bind fun bt101 => (if (bt101.2.2.2.2.1.length : Int) = 0 then ((spec_l01Pick.f bt100.1 bt100.2.1 bt100.2.2 (([1, 3] : List Int))).bind fun bt102 => (some (bt101.1, bt101.2.1, bt101.2.2.1, bt101.2.2.2.1, bt102.1, bt101.2.2.2.2.2))) else ((spec_l01Next.f bt100.1 bt100.2.1 bt100.2.2 (bt101.2.2.2.2.1.length : Int)).bind fun bt103 => (if 0 ≤ bt103.1 then (if bt103.1 < (bt101.2.2.2.2.1.length : Int) then (some (bt101.1, bt101.2.1, bt101.2.2.1, bt101.2.2.2.1, rd bt101.2.2.2.2.1 bt103.1, bt101.2.2.2.2.2)) else (none)) else (none)))))
theorem spec_DrawCommonNumbers.mono : ∀ a0 k, LeO (spec_DrawCommonNumbers.f k a0) (spec_DrawCommonNumbers.f (k + 1) a0) := by
  intro a0 k
  unfold spec_DrawCommonNumbers.f
  repeat' first
      | (with_reducible exact spec_l01From.mono _ _)
      | (with_reducible exact spec_l08With.mono _ _)
      | (with_reducible exact LeO.refl _)
      | (with_reducible exact LeO.none _)
      | (with_reducible refine LeO.ite ?_ ?_)
      | (with_reducible refine LeO.bind ?_ (fun _ => ?_))
def spec_DrawCommonNumbers.T4 : Bool × List (List Nat × List Nat) := (true, [([], []), ([], []), ([], []), ([1, 2], [1, 2]), ([], []), ([0, 3, 0], [0]), ([3, 5, 0, 1, 2, 3, 5], [3]), ([4, 6, 0, 1, 2, 3, 4, 5, 6], [4])])
def spec_DrawCommonNumbers.B4 : List Nat := [0, 0, 0, 6, 0, 15, 47, 127]
theorem spec_DrawCommonNumbers.tab4 : rtab .any (opsOf Try.f39 4) = spec_DrawCommonNumbers.T4 := by kernel_rfl
theorem spec_DrawCommonNumbers.bits4 : waitsOk spec_DrawCommonNumbers.T4.2 spec_DrawCommonNumbers.B4 = true := by kernel_rfl
def spec_DrawCommonNumbers.T5 : Bool × List (List Nat × List Nat) := (true, [([], []), ([], []), ([], []), ([], []), ([3], [3]), ([2, 4], [2, 4]), ([1, 5], [1, 5]), ([6], [6]), ([], []), ([0, 5, 0], [0]), ([7, 9, 0, 1, 2, 3, 4, 5, 6, 7, 9], [7]), ([8, 10, 0, 1, 2, 3, 4, 5, 6, 7, 8, 9, 10], [8])])
def spec_DrawCommonNumbers.B5 : List Nat := [0, 0, 0, 0, 8, 28, 62, 126, 0, 61, 767, 2047]
theorem spec_DrawCommonNumbers.tab5 : rtab .any (opsOf Try.f39 5) = spec_DrawCommonNumbers.T5 := by kernel_rfl
theorem spec_DrawCommonNumbers.bits5 : waitsOk spec_DrawCommonNumbers.T5.2 spec_DrawCommonNumbers.B5 = true := by kernel_rfl
set_option maxHeartbeats 8000000 in
set_option maxRecDepth 100000 in
theorem spec_DrawCommonNumbers.calls (k : Nat) (A0 : Option Addr) (c0 : Nat) (l0 : List Int) (r1 : Int) (r2 : Int) (r3 : Int) (r4 : Int) (r5 : Int) (r6 : Int) (w : World) (hr0 : Kd.C (Kd.int .u8) w A0 l0.length l0) (hc0 : l0.length ≤ c0) (h : spec_DrawCommonNumbers.f k l0 = some (r1, r2, r3, r4, r5, r6)) :
    Calls Try.prog 39 #[.slice A0 l0.length c0] w fun e w' => e = .returned (.tuple #[.agg #[.int .i64 r1, .int .i64 r2, .int .i64 r3, .int .i64 r4], .int .i64 r5, .int .i64 r6]) ∧ Below w.heap.size w w' := by
  have hu27 := Try.underlying27
  have HR0 := Aside0.mk hr0
  have HC0 := Aside0.mk hc0
  clear hr0 hc0
  have HB := Aside0.mk (Below.refl w.heap.size w)
  have H := h
  unfold spec_DrawCommonNumbers.f at H
  (try dsimp -simprocs only at H)
  clear h
  replace H := Option.bind_eq_some_iff.mp H
  obtain ⟨⟨t100, t104, t105⟩, A20, H⟩ := H
  (try dsimp -simprocs only at H)
  have A2 := Aside0.mk A20
  clear A20
  replace H := Option.bind_eq_some_iff.mp H
  obtain ⟨⟨t101, t106, t107, t108, t109, t110⟩, A30, H⟩ := H
  (try dsimp -simprocs only at H)
  have A3 := Aside0.mk A30
  clear A30
  by_cases c4 : (t109.length : Int) = 0
  · rw [if_pos c4] at H
    have c4b0 : ((t109.length : Int) == 0) = true := beq_iff_eq.mpr c4
    have c4b1 : ((t109.length : Int) != 0) = false := bne_eq_false_iff_eq.mpr c4
    clear c4
    obtain ⟨y111, hy111⟩ : ∃ y_ : List Int, y_ = (([1, 3] : List Int)) := ⟨_, rfl⟩
    replace H : ((spec_l01Pick.f t100 t104 t105 y111).bind fun bt102 => (some (t101, t106, t107, t108, bt102.1, t110))) = some (r1, r2, r3, r4, r5, r6) := by first | (rw [hy111]; with_reducible exact H) | (have H2_ := (Option.bind_some _ _).symm.trans H; rw [hy111]; with_reducible exact H2_) | (have H2_ := (Option.bind_some _ _).symm.trans H; with_reducible exact H2_) | with_reducible exact H | (rw [hy111]; exact H) | exact H
    have Ny111 := Aside0.mk hy111
    clear hy111
    replace H := Option.bind_eq_some_iff.mp H
    obtain ⟨⟨t102, t112, t113⟩, A50, H⟩ := H
    (try dsimp -simprocs only at H)
    have A5 := Aside0.mk A50
    clear A50
    simp only [Option.some.injEq, Prod.mk.injEq] at H
    obtain ⟨rfl, rfl, rfl, rfl, rfl, rfl⟩ := H
    go_enter Try.func39, Try.ntmps39
    try go_wp2_with (first | ((with_reducible refine gate_dst (N := 2) rfl ?_); refine box_event ?hg (N := 2) ?hd (cs := #[.int .i64 0, .int .i64 0, .int .i64 0, .int .i64 0]) (t := 27) ?hr ?_; (case hd => rfl); (case hg => rfl); (case hr => first | (go_simp; done) | (go_simp; rfl)); intro gb114 hg w6 hbox hb; have n0_ := Aside0.mk (below_step z1 hb); have n1_ := Aside0.mk (hbox); have n2_ := Aside0.mk ((z122 : w.heap.size ≤ gb114)); have n3_ := Aside0.mk ((z122 : w.heap.size ≤ gb114)); clear HB; have HB := n0_; have BK114 := n1_; have GW114 := n2_; have GE114 := n3_; clear n0_ n1_ n2_ n3_; clear hb hbox hg) | ((with_reducible refine gate_callee (f := 72) rfl ?_); refine goesL_ (some 10) rfl rfl Try.func72 (by kernel_rfl) rfl #[.slice A0 l0.length c0] rfl z2 ?_; (with_reducible refine (spec_l01From.calls k _ _ l0 t100 t104 t105 w _ ?side1 ?side2 ?side3 A2.out).mono ?_); (case side1 => exact z81); (case side2 => exact HR0.out); (case side3 => exact HC0.out); rintro e w7 ⟨g610, rfl, hi, hb, hb2⟩; refine ⟨_, rfl, ?_⟩; have n0_ := zBB BK114 hb2; have n1_ := Aside0.mk (hb); have n2_ := Aside0.mk (hi); have n3_ := Aside0.mk (IsS93.ne_blk hi (blk_below (g := gb114) (o := .cells #[.int .i64 0, .int .i64 0, .int .i64 0, .int .i64 0] 27 (0, 0)) z42 hb2) (by decide)); have n4_ := Aside0.mk (Ne.symm (IsS93.ne_blk hi (blk_below (g := gb114) (o := .cells #[.int .i64 0, .int .i64 0, .int .i64 0, .int .i64 0] 27 (0, 0)) z42 hb2) (by decide))); clear BK114 HB; have BK114 := n0_; have HB := n1_; have HI115 := n2_; have NB115_114 := n3_; have NB114_115 := n4_; clear n0_ n1_ n2_ n3_ n4_; (try clear hb); (try clear hb2); (try clear hk); (try clear hi)) | ((with_reducible refine gate_callee (f := 89) rfl ?_); refine goesL_ (some 13) rfl rfl Try.func89 (by kernel_rfl) rfl #[.slice A0 l0.length c0] rfl z2 ?_; (with_reducible refine (spec_l08With.calls k _ _ l0 t101 t106 t107 t108 t109 t110 _ ?side1 ?side2 A3.out).mono ?_); (case side1 => exact z78); (case side2 => exact HC0.out); rintro e w8 ⟨v116, rfl, ho0, hb⟩; refine ⟨_, rfl, ?_⟩; have n0_ := Aside0.mk (Kd.R_lower ho0 (below_size z22)); have n1_ := zBB BK114 hb; have n2_ := Aside0.mk (IsS93.below z24 hb); have n3_ := Aside0.mk (below_step z22 hb); clear BK114 HI115 HB; have HO117 := n0_; have BK114 := n1_; have HI115 := n2_; have HB := n3_; clear n0_ n1_ n2_ n3_; (try clear hb); (try clear hb2); (try clear hk); (try clear hi); (try clear ho0)) | ((with_reducible refine gate_dst (N := 6) rfl ?_); refine box_event ?hg (N := 6) ?hd (cs := #[.int .i64 0, .int .i64 0, .int .i64 0, .int .i64 0]) (t := 27) ?hr ?_; (case hd => rfl); (case hg => rfl); (case hr => first | (go_simp; done) | (go_simp; rfl)); intro gb118 hg w9 hbox hb; have n0_ := Aside0.mk (Kd.R_below z82 hb); have n1_ := zBB BK114 hb; have n2_ := Aside0.mk (IsS93.below z24 hb); have n3_ := Aside0.mk (below_step z22 hb); have n4_ := Aside0.mk (hbox); have n5_ := Aside0.mk ((z134 : w.heap.size ≤ gb118)); have n6_ := Aside0.mk ((z134 : w.heap.size ≤ gb118)); have n7_ := Aside0.mk ((z125 : gb114 ≠ gb118)); have n8_ := Aside0.mk ((z126 : gb118 ≠ gb114)); have n9_ := Aside0.mk ((z142 : g610 ≠ gb118)); have n10_ := Aside0.mk ((z143 : gb118 ≠ g610)); clear HO117 BK114 HI115 HB; have HO117 := n0_; have BK114 := n1_; have HI115 := n2_; have HB := n3_; have BK118 := n4_; have GW118 := n5_; have GE118 := n6_; have NB114_118 := n7_; have NB118_114 := n8_; have NB115_118 := n9_; have NB118_115 := n10_; clear n0_ n1_ n2_ n3_ n4_ n5_ n6_ n7_ n8_ n9_ n10_; clear hb hbox hg; have hnb10 := NB118_114.out; have hnc10 := NB114_118.out; have hnb11 := NB118_115.out; have hnc11 := NB115_118.out; obtain ⟨hcz12_0, hcz12_1, hcz12_2, hcz12_3, hfz12_0, hfz12_1, hfz12_2, hfz12_3⟩ := zC4 BK118.out; obtain ⟨Ao13, co13, eo13⟩ := Kd.R_slice HO117.out; subst eo13))
    have n0_ : Aside0 (Kd.R (Kd.int .i64) 2 ((((w9.setCell ⟨gb118, 0, none⟩ (.int .i64 t101)).setCell ⟨gb118, 1, none⟩ (.int .i64 t106)).setCell ⟨gb118, 2, none⟩ (.int .i64 t107)).setCell ⟨gb118, 3, none⟩ (.int .i64 t108)) w.heap.size (fun _ => True) (.slice Ao13 t109.length co13) t109) := ⟨z56⟩
    have n1_ : Aside0 (((((w9.setCell ⟨gb118, 0, none⟩ (.int .i64 t101)).setCell ⟨gb118, 1, none⟩ (.int .i64 t106)).setCell ⟨gb118, 2, none⟩ (.int .i64 t107)).setCell ⟨gb118, 3, none⟩ (.int .i64 t108)).heap[gb114]? = some (.cells #[.int .i64 0, .int .i64 0, .int .i64 0, .int .i64 0] 27 (0, 0))) := ⟨z61⟩
    have n2_ : Aside0 (((((w9.setCell ⟨gb118, 0, none⟩ (.int .i64 t101)).setCell ⟨gb118, 1, none⟩ (.int .i64 t106)).setCell ⟨gb118, 2, none⟩ (.int .i64 t107)).setCell ⟨gb118, 3, none⟩ (.int .i64 t108)).heap[gb118]? = some (.cells #[.int .i64 t101, .int .i64 t106, .int .i64 t107, .int .i64 t108] 27 (0, 0))) := ⟨z50⟩
    have n3_ : Aside0 (IsS93 w ((((w9.setCell ⟨gb118, 0, none⟩ (.int .i64 t101)).setCell ⟨gb118, 1, none⟩ (.int .i64 t106)).setCell ⟨gb118, 2, none⟩ (.int .i64 t107)).setCell ⟨gb118, 3, none⟩ (.int .i64 t108)) g610 t100 t104 t105) := ⟨z38⟩
    have n4_ : Aside0 (Below w.heap.size w ((((w9.setCell ⟨gb118, 0, none⟩ (.int .i64 t101)).setCell ⟨gb118, 1, none⟩ (.int .i64 t106)).setCell ⟨gb118, 2, none⟩ (.int .i64 t107)).setCell ⟨gb118, 3, none⟩ (.int .i64 t108))) := ⟨z44⟩
    (try clear HO117)
    (try clear BK114)
    (try clear BK118)
    (try clear HI115)
    (try clear HB)
    generalize ((((w9.setCell ⟨gb118, 0, none⟩ (.int .i64 t101)).setCell ⟨gb118, 1, none⟩ (.int .i64 t106)).setCell ⟨gb118, 2, none⟩ (.int .i64 t107)).setCell ⟨gb118, 3, none⟩ (.int .i64 t108)) = w14 at n0_ n1_ n2_ n3_ n4_ ⊢
    have HO117 := n0_
    have BK114 := n1_
    have BK118 := n2_
    have HI115 := n3_
    have HB := n4_
    clear n0_ n1_ n2_ n3_ n4_
    have n0_ := Aside0.mk (Kd.R_drew HO117.out)
    have n1_ := Aside0.mk (blk_drew BK114.out)
    have n2_ := Aside0.mk (blk_drew BK118.out)
    have n3_ := Aside0.mk (IsS93.drew HI115.out)
    have n4_ := Aside0.mk (below_drew1 HB.out)
    clear HO117 BK114 BK118 HI115 HB
    have HO117 := n0_
    have BK114 := n1_
    have BK118 := n2_
    have HI115 := n3_
    have HB := n4_
    clear n0_ n1_ n2_ n3_ n4_
    refine start_ (n := 8) (S := fun w' => w'.cell? ⟨gb118, 0, none⟩ = some (.int .i64 t101) ∧ w'.cell? ⟨gb118, 1, none⟩ = some (.int .i64 t106) ∧ w'.cell? ⟨gb118, 2, none⟩ = some (.int .i64 t107) ∧ w'.cell? ⟨gb118, 3, none⟩ = some (.int .i64 t108)) (ds := []) #[false, false, false, false, false, false, false, false] (by kernel_rfl) rfl rfl ⟨(blk_cell BK118.out 0).trans rfl, (blk_cell BK118.out 1).trans rfl, (blk_cell BK118.out 2).trans rfl, (blk_cell BK118.out 3).trans rfl⟩ (fun hHeld => ?_); refine with_tabW spec_DrawCommonNumbers.tab4 spec_DrawCommonNumbers.bits4 (fun HT_ HW_ => ?_)
    generalize w14.drew = w15 at HO117 BK114 BK118 HI115 HB hHeld ⊢
    refine pure_ (i := 1) (N := some 21) (v := ?_) (a' := ?_) #[false, true, false, false, false, false, false, false] rfl rfl (any_of HT_.out (by kernel_rfl)) (fun _ _ _ h => h) (Or.inl ⟨(by rfl), ?_⟩) ?_ ?_
    rotate_left
    · exact z13
    rotate_left
    · exact z4
    refine pure_ (i := 4) (N := some 24) (v := ?_) (a' := ?_) #[false, true, false, false, true, false, false, false] rfl rfl (any_of HT_.out (by kernel_rfl)) (fun _ _ _ h => h) (Or.inl ⟨(by rfl), ?_⟩) ?_ ?_
    rotate_left
    · exact z13
    rotate_left
    · exact z4
    refine take_ (i := 0) (N := some 20) (v := ?_) (a' := ?_) #[true, true, false, false, true, false, false, false] rfl rfl (take_ofW HT_.out HW_.out (by kernel_rfl)) (fun _ _ _ h => h) (Or.inl ⟨(by rfl), ?_⟩) hHeld ?_ ?_
    rotate_left
    · rintro w' ⟨s0, s1, s2, s3⟩
      go_simp
      with_reducible rfl
    rotate_left
    · exact z4
    refine one_ (i := 2) (N := some 22) #[true, true, true, false, true, false, false, false] rfl rfl (one_of HT_.out (by kernel_rfl)) (by decide) (fun K hK => ?_)
    refine Kd.R_lit_step (Kd.int .i64) _ 2 ?hg (N := 22) ?hd (xs := ([1, 3] : List Int)) (inner := [.int .i64 1, .int .i64 3]) (ok := fun _ => True) (okp := fun _ => True) ?hr ?hp (fun _ hk => hk) trivial (Below.refl _ _) (Nat.le_refl _) (by simp) ?_; (case hd => rfl); (case hg => rfl); (case hr => first | (go_simp; done) | (go_simp; rfl)); (case hp => exact (Reps.one (show Kd.M (Kd.int .i64) _ _ _ 1 [.int .i64 1] from rfl) (Reps.one (show Kd.M (Kd.int .i64) _ _ _ 3 [.int .i64 3] from rfl) (Reps.none _ _))))
    intro v119 w16 ho17 hb hg_ hnew_
    clear hg_ hnew_
    (first | rw [← Ny111.out] at ho17 | (simp only [Int.reduceToNat] at ho17; rw [← Ny111.out] at ho17))
    have n0_ := Aside0.mk (Kd.R_elder' z82 (Kd.R_base ho17) hb)
    have n1_ := Aside0.mk (Kd.R_lower (Kd.R_new' ho17 (Kd.R_lt z82)) (below_size z44))
    have n2_ := zBB BK114 hb
    have n3_ := Aside0.mk (IsS93.below z38 hb)
    have n4_ := zBB BK118 hb
    have n5_ := Aside0.mk (below_step z44 hb)
    clear HO117 BK114 HI115 BK118 HB
    have HO117 := n0_
    have HO120 := n1_
    have BK114 := n2_
    have HI115 := n3_
    have BK118 := n4_
    have HB := n5_
    clear n0_ n1_ n2_ n3_ n4_ n5_
    clear hb ho17
    obtain ⟨Ao18, co18, eo18⟩ := Kd.R_slice HO120.out
    (first | subst eo18 | (injection eo18 with f1_ f2_ f3_; have f4_ := f1_.symm; have f5_ := f3_.symm; clear f1_ f2_ f3_; subst f4_; subst f5_))
    refine hK.out _ _ ⟨(blk_cell BK118.out 0).trans rfl, (blk_cell BK118.out 1).trans rfl, (blk_cell BK118.out 2).trans rfl, (blk_cell BK118.out 3).trans rfl⟩ (fun hHeld => ?_)
    clear hK K
    refine norm_ (a' := ?_) ?_ ?_
    rotate_left
    · show Act.put _ (some 22) _ = _
      simp only [Act.put, List.setIfInBounds_toArray, List.set_cons_zero, List.set_cons_succ, i64_w, i32_w]
      rfl
    refine one_ (i := 3) (N := some 23) #[true, true, true, true, true, false, false, false] rfl rfl (one_of HT_.out (by kernel_rfl)) (by decide) (fun K hK => ?_)
    refine goes_ Try.func76 (by kernel_rfl) rfl #[.pointer (some ⟨g610, 0, none⟩), .slice Ao18 y111.length co18] (by rfl) rfl rfl z2 ?_
    with_reducible refine (spec_l01Pick.calls g610 t100 t104 t105 _ _ y111 t102 t112 t113 w _ ?side1 ?side2 ?side3 ?side4 ?side5 A5.out).mono ?_
    (case side1 => exact z38)
    (case side2 => exact z44)
    (case side3 => exact (by repeat (first | exact (Kd.R_reads' HO120.out).2.2 | (with_reducible refine Kd.C_alloc ?_ _) | (with_reducible refine Kd.C_drewN ?_ _) | (with_reducible refine Kd.C_drew ?_))))
    (case side4 => exact (Kd.R_reads' HO120.out).2.1)
    (case side5 => exact far_slice (IsS93.own_ne HI115.out HO120.out (by decide)))
    rintro e w19 ⟨rfl, hi, hb, hk⟩
    refine ⟨_, rfl, ?_⟩
    have n0_ := zKB BK114 hk NB114_115
    have n1_ := Aside0.mk (Kd.R_mono (Kd.R_keep (IsS93.apart (show IsS93 w _ g610 t100 t104 t105 from z38) z82 (by decide)) hk (fun _ h => h.2)) (fun _ h => h.1))
    have n2_ := zKB BK118 hk NB118_115
    have n3_ := Aside0.mk (Kd.R_mono (Kd.R_keep (IsS93.apart (show IsS93 w _ g610 t100 t104 t105 from z38) (by (with_reducible repeat (first | apply Kd.R_alloc | apply Kd.R_drewN | apply Kd.R_drew)); exact HO120.out) (by decide)) hk (fun _ h => h.2)) (fun _ h => h.1))
    have n4_ := Aside0.mk (hb)
    have n5_ := Aside0.mk (hi)
    clear BK114 HO117 BK118 HO120 HB HI115
    have BK114 := n0_
    have HO117 := n1_
    have BK118 := n2_
    have HO120 := n3_
    have HB := n4_
    have HI115 := n5_
    clear n0_ n1_ n2_ n3_ n4_ n5_
    (try clear hb)
    (try clear hb2)
    (try clear hk)
    (try clear hi)
    refine hK.out _ _ ⟨(blk_cell BK118.out 0).trans rfl, (blk_cell BK118.out 1).trans rfl, (blk_cell BK118.out 2).trans rfl, (blk_cell BK118.out 3).trans rfl⟩ (fun hHeld => ?_)
    clear hK K
    refine norm_ (a' := ?_) ?_ ?_
    rotate_left
    · show Act.put _ (some 23) _ = _
      simp only [Act.put, List.setIfInBounds_toArray, List.set_cons_zero, List.set_cons_succ, i64_w, i32_w]
      rfl
    refine one_ (i := 5) (N := none) #[true, true, true, true, true, true, false, false] rfl rfl (one_of HT_.out (by kernel_rfl)) (by decide) (fun K hK => ?_)
    have hs20 : w19.cell? ⟨gb114, 0, none⟩ = some (.int .i64 0) := (blk_cell BK114.out 0).trans rfl
    have hfs20 := blk_frozen BK114.out 0
    have hns20_1 := NB118_114.out
    have hms20_1 := NB114_118.out
    have hs21 : w19.cell? ⟨gb114, 1, none⟩ = some (.int .i64 0) := (blk_cell BK114.out 1).trans rfl
    have hfs21 := blk_frozen BK114.out 1
    have hns21_1 := NB118_114.out
    have hms21_1 := NB114_118.out
    have hs22 : w19.cell? ⟨gb114, 2, none⟩ = some (.int .i64 0) := (blk_cell BK114.out 2).trans rfl
    have hfs22 := blk_frozen BK114.out 2
    have hns22_1 := NB118_114.out
    have hms22_1 := NB114_118.out
    have hs23 : w19.cell? ⟨gb114, 3, none⟩ = some (.int .i64 0) := (blk_cell BK114.out 3).trans rfl
    have hfs23 := blk_frozen BK114.out 3
    have hns23_1 := NB118_114.out
    have hms23_1 := NB114_118.out
    refine skip_ (w1 := ?_) (by rfl) rfl ?_ ?_
    rotate_left
    · go_simp
      rfl
    refine hK.out _ _ ⟨((cell_far (p := ⟨gb114, _, none⟩) NB118_114.out _).trans (((cell_far (p := ⟨gb114, _, none⟩) NB118_114.out _).trans (((cell_far (p := ⟨gb114, _, none⟩) NB118_114.out _).trans (((cell_far (p := ⟨gb114, _, none⟩) NB118_114.out _).trans (hHeld.1)))))))), ((cell_far (p := ⟨gb114, _, none⟩) NB118_114.out _).trans (((cell_far (p := ⟨gb114, _, none⟩) NB118_114.out _).trans (((cell_far (p := ⟨gb114, _, none⟩) NB118_114.out _).trans (((cell_far (p := ⟨gb114, _, none⟩) NB118_114.out _).trans (hHeld.2.1)))))))), ((cell_far (p := ⟨gb114, _, none⟩) NB118_114.out _).trans (((cell_far (p := ⟨gb114, _, none⟩) NB118_114.out _).trans (((cell_far (p := ⟨gb114, _, none⟩) NB118_114.out _).trans (((cell_far (p := ⟨gb114, _, none⟩) NB118_114.out _).trans (hHeld.2.2.1)))))))), ((cell_far (p := ⟨gb114, _, none⟩) NB118_114.out _).trans (((cell_far (p := ⟨gb114, _, none⟩) NB118_114.out _).trans (((cell_far (p := ⟨gb114, _, none⟩) NB118_114.out _).trans (((cell_far (p := ⟨gb114, _, none⟩) NB118_114.out _).trans (hHeld.2.2.2))))))))⟩ (fun hHeld => ?_)
    clear hK K
    refine pure_ (i := 6) (N := some 3) (v := ?_) (a' := ?_) #[true, true, true, true, true, true, true, false] rfl rfl (any_of HT_.out (by kernel_rfl)) (fun _ _ _ h => h) (Or.inl ⟨(by rfl), ?_⟩) ?_ ?_
    rotate_left
    · exact z13
    rotate_left
    · exact z4
    refine pure_ (i := 7) (N := some 4) (v := ?_) (a' := ?_) #[true, true, true, true, true, true, true, true] rfl rfl (any_of HT_.out (by kernel_rfl)) (fun _ _ _ h => h) (Or.inl ⟨(by rfl), ?_⟩) ?_ ?_
    rotate_left
    · exact z13
    rotate_left
    · exact z4
    refine done_ (done_of HT_.out (by kernel_rfl)) ?_
    try go_wp2
    refine bodyPost_ret (results_ctt rfl _ _ gb114 27 #[.int .i64 t101, .int .i64 t106, .int .i64 t107, .int .i64 t108] (0, 0) _ rfl z23 Try.underlying27 rfl (by kernel_rfl)) rfl ?_
    exact ⟨z6, z44⟩
  · rw [if_neg c4] at H
    have c4b0 : ((t109.length : Int) == 0) = false := beq_eq_false_iff_ne.mpr c4
    have c4b1 : ((t109.length : Int) != 0) = true := bne_iff_ne.mpr c4
    have c4b2 : ¬ (t109 = []) := fun h_ => c4 (by rw [h_]; rfl)
    replace H := Option.bind_eq_some_iff.mp H
    obtain ⟨⟨t103, t121, t122⟩, A240, H⟩ := H
    (try dsimp -simprocs only at H)
    have A24 := Aside0.mk A240
    clear A240
    by_cases c25 : 0 ≤ t103
    · rw [if_pos c25] at H
      have c25b0 : decide (0 ≤ t103) = true := decide_eq_true c25
      clear c25
      by_cases c26 : t103 < (t109.length : Int)
      · rw [if_pos c26] at H
        have c26b0 : decide (t103 < (t109.length : Int)) = true := decide_eq_true c26
        clear c26
        simp only [Option.some.injEq, Prod.mk.injEq] at H
        obtain ⟨rfl, rfl, rfl, rfl, rfl, rfl⟩ := H
        go_enter Try.func39, Try.ntmps39
        try go_wp2_with (first | ((with_reducible refine gate_dst (N := 2) rfl ?_); refine box_event ?hg (N := 2) ?hd (cs := #[.int .i64 0, .int .i64 0, .int .i64 0, .int .i64 0]) (t := 27) ?hr ?_; (case hd => rfl); (case hg => rfl); (case hr => first | (go_simp; done) | (go_simp; rfl)); intro gb114 hg w27 hbox hb; have n0_ := Aside0.mk (below_step z1 hb); have n1_ := Aside0.mk (hbox); have n2_ := Aside0.mk ((z122 : w.heap.size ≤ gb114)); have n3_ := Aside0.mk ((z122 : w.heap.size ≤ gb114)); clear HB; have HB := n0_; have BK114 := n1_; have GW114 := n2_; have GE114 := n3_; clear n0_ n1_ n2_ n3_; clear hb hbox hg) | ((with_reducible refine gate_callee (f := 72) rfl ?_); refine goesL_ (some 10) rfl rfl Try.func72 (by kernel_rfl) rfl #[.slice A0 l0.length c0] rfl z2 ?_; (with_reducible refine (spec_l01From.calls k _ _ l0 t100 t104 t105 w _ ?side1 ?side2 ?side3 A2.out).mono ?_); (case side1 => exact z81); (case side2 => exact HR0.out); (case side3 => exact HC0.out); rintro e w28 ⟨g610, rfl, hi, hb, hb2⟩; refine ⟨_, rfl, ?_⟩; have n0_ := zBB BK114 hb2; have n1_ := Aside0.mk (hb); have n2_ := Aside0.mk (hi); have n3_ := Aside0.mk (IsS93.ne_blk hi (blk_below (g := gb114) (o := .cells #[.int .i64 0, .int .i64 0, .int .i64 0, .int .i64 0] 27 (0, 0)) z42 hb2) (by decide)); have n4_ := Aside0.mk (Ne.symm (IsS93.ne_blk hi (blk_below (g := gb114) (o := .cells #[.int .i64 0, .int .i64 0, .int .i64 0, .int .i64 0] 27 (0, 0)) z42 hb2) (by decide))); clear BK114 HB; have BK114 := n0_; have HB := n1_; have HI115 := n2_; have NB115_114 := n3_; have NB114_115 := n4_; clear n0_ n1_ n2_ n3_ n4_; (try clear hb); (try clear hb2); (try clear hk); (try clear hi)) | ((with_reducible refine gate_callee (f := 89) rfl ?_); refine goesL_ (some 13) rfl rfl Try.func89 (by kernel_rfl) rfl #[.slice A0 l0.length c0] rfl z2 ?_; (with_reducible refine (spec_l08With.calls k _ _ l0 t101 t106 t107 t108 t109 t110 _ ?side1 ?side2 A3.out).mono ?_); (case side1 => exact z78); (case side2 => exact HC0.out); rintro e w29 ⟨v116, rfl, ho0, hb⟩; refine ⟨_, rfl, ?_⟩; have n0_ := Aside0.mk (Kd.R_lower ho0 (below_size z22)); have n1_ := zBB BK114 hb; have n2_ := Aside0.mk (IsS93.below z24 hb); have n3_ := Aside0.mk (below_step z22 hb); clear BK114 HI115 HB; have HO117 := n0_; have BK114 := n1_; have HI115 := n2_; have HB := n3_; clear n0_ n1_ n2_ n3_; (try clear hb); (try clear hb2); (try clear hk); (try clear hi); (try clear ho0)) | ((with_reducible refine gate_dst (N := 6) rfl ?_); refine box_event ?hg (N := 6) ?hd (cs := #[.int .i64 0, .int .i64 0, .int .i64 0, .int .i64 0]) (t := 27) ?hr ?_; (case hd => rfl); (case hg => rfl); (case hr => first | (go_simp; done) | (go_simp; rfl)); intro gb118 hg w30 hbox hb; have n0_ := Aside0.mk (Kd.R_below z82 hb); have n1_ := zBB BK114 hb; have n2_ := Aside0.mk (IsS93.below z24 hb); have n3_ := Aside0.mk (below_step z22 hb); have n4_ := Aside0.mk (hbox); have n5_ := Aside0.mk ((z134 : w.heap.size ≤ gb118)); have n6_ := Aside0.mk ((z134 : w.heap.size ≤ gb118)); have n7_ := Aside0.mk ((z125 : gb114 ≠ gb118)); have n8_ := Aside0.mk ((z126 : gb118 ≠ gb114)); have n9_ := Aside0.mk ((z142 : g610 ≠ gb118)); have n10_ := Aside0.mk ((z143 : gb118 ≠ g610)); clear HO117 BK114 HI115 HB; have HO117 := n0_; have BK114 := n1_; have HI115 := n2_; have HB := n3_; have BK118 := n4_; have GW118 := n5_; have GE118 := n6_; have NB114_118 := n7_; have NB118_114 := n8_; have NB115_118 := n9_; have NB118_115 := n10_; clear n0_ n1_ n2_ n3_ n4_ n5_ n6_ n7_ n8_ n9_ n10_; clear hb hbox hg; have hnb31 := NB118_114.out; have hnc31 := NB114_118.out; have hnb32 := NB118_115.out; have hnc32 := NB115_118.out; obtain ⟨hcz33_0, hcz33_1, hcz33_2, hcz33_3, hfz33_0, hfz33_1, hfz33_2, hfz33_3⟩ := zC4 BK118.out; obtain ⟨Ao34, co34, eo34⟩ := Kd.R_slice HO117.out; subst eo34))
        have n0_ : Aside0 (Kd.R (Kd.int .i64) 2 ((((w30.setCell ⟨gb118, 0, none⟩ (.int .i64 t101)).setCell ⟨gb118, 1, none⟩ (.int .i64 t106)).setCell ⟨gb118, 2, none⟩ (.int .i64 t107)).setCell ⟨gb118, 3, none⟩ (.int .i64 t108)) w.heap.size (fun _ => True) (.slice Ao34 t109.length co34) t109) := ⟨z56⟩
        have n1_ : Aside0 (((((w30.setCell ⟨gb118, 0, none⟩ (.int .i64 t101)).setCell ⟨gb118, 1, none⟩ (.int .i64 t106)).setCell ⟨gb118, 2, none⟩ (.int .i64 t107)).setCell ⟨gb118, 3, none⟩ (.int .i64 t108)).heap[gb114]? = some (.cells #[.int .i64 0, .int .i64 0, .int .i64 0, .int .i64 0] 27 (0, 0))) := ⟨z61⟩
        have n2_ : Aside0 (((((w30.setCell ⟨gb118, 0, none⟩ (.int .i64 t101)).setCell ⟨gb118, 1, none⟩ (.int .i64 t106)).setCell ⟨gb118, 2, none⟩ (.int .i64 t107)).setCell ⟨gb118, 3, none⟩ (.int .i64 t108)).heap[gb118]? = some (.cells #[.int .i64 t101, .int .i64 t106, .int .i64 t107, .int .i64 t108] 27 (0, 0))) := ⟨z50⟩
        have n3_ : Aside0 (IsS93 w ((((w30.setCell ⟨gb118, 0, none⟩ (.int .i64 t101)).setCell ⟨gb118, 1, none⟩ (.int .i64 t106)).setCell ⟨gb118, 2, none⟩ (.int .i64 t107)).setCell ⟨gb118, 3, none⟩ (.int .i64 t108)) g610 t100 t104 t105) := ⟨z38⟩
        have n4_ : Aside0 (Below w.heap.size w ((((w30.setCell ⟨gb118, 0, none⟩ (.int .i64 t101)).setCell ⟨gb118, 1, none⟩ (.int .i64 t106)).setCell ⟨gb118, 2, none⟩ (.int .i64 t107)).setCell ⟨gb118, 3, none⟩ (.int .i64 t108))) := ⟨z44⟩
        (try clear HO117)
        (try clear BK114)
        (try clear BK118)
        (try clear HI115)
        (try clear HB)
        generalize ((((w30.setCell ⟨gb118, 0, none⟩ (.int .i64 t101)).setCell ⟨gb118, 1, none⟩ (.int .i64 t106)).setCell ⟨gb118, 2, none⟩ (.int .i64 t107)).setCell ⟨gb118, 3, none⟩ (.int .i64 t108)) = w35 at n0_ n1_ n2_ n3_ n4_ ⊢
        have HO117 := n0_
        have BK114 := n1_
        have BK118 := n2_
        have HI115 := n3_
        have HB := n4_
        clear n0_ n1_ n2_ n3_ n4_
        have n0_ := Aside0.mk (Kd.R_drew HO117.out)
        have n1_ := Aside0.mk (blk_drew BK114.out)
        have n2_ := Aside0.mk (blk_drew BK118.out)
        have n3_ := Aside0.mk (IsS93.drew HI115.out)
        have n4_ := Aside0.mk (below_drew1 HB.out)
        clear HO117 BK114 BK118 HI115 HB
        have HO117 := n0_
        have BK114 := n1_
        have BK118 := n2_
        have HI115 := n3_
        have HB := n4_
        clear n0_ n1_ n2_ n3_ n4_
        have p629 : 0 ≤ (t103 : Int) := of_decide_eq_true z9
        have q629 : t103 < (t109.length : Int) := of_decide_eq_true z9
        obtain ⟨ad629, e629, hx629_0⟩ := Kd.at_int (Kd.R_reads' HO117.out).2.2 t103 p629 q629
        cases e629
        replace p629 := eq_true p629
        replace q629 := eq_true q629
        refine start_ (n := 12) (S := fun w' => w'.cell? ⟨gb118, 0, none⟩ = some (.int .i64 t101) ∧ w'.cell? ⟨gb118, 1, none⟩ = some (.int .i64 t106) ∧ w'.cell? ⟨gb118, 2, none⟩ = some (.int .i64 t107) ∧ w'.cell? ⟨gb118, 3, none⟩ = some (.int .i64 t108) ∧ w'.cell? (ad629.add (t103).toNat) = some (.int .i64 (rd t109 t103))) (ds := []) #[false, false, false, false, false, false, false, false, false, false, false, false] (by kernel_rfl) rfl rfl ⟨(blk_cell BK118.out 0).trans rfl, (blk_cell BK118.out 1).trans rfl, (blk_cell BK118.out 2).trans rfl, (blk_cell BK118.out 3).trans rfl, hx629_0⟩ (fun hHeld => ?_); refine with_tabW spec_DrawCommonNumbers.tab5 spec_DrawCommonNumbers.bits5 (fun HT_ HW_ => ?_)
        generalize w35.drew = w36 at HO117 BK114 BK118 HI115 HB hx629_0 hHeld ⊢
        refine pure_ (i := 1) (N := some 26) (v := ?_) (a' := ?_) #[false, true, false, false, false, false, false, false, false, false, false, false] rfl rfl (any_of HT_.out (by kernel_rfl)) (fun _ _ _ h => h) (Or.inl ⟨(by rfl), ?_⟩) ?_ ?_
        rotate_left
        · exact z13
        rotate_left
        · exact z4
        refine pure_ (i := 2) (N := some 27) (v := ?_) (a' := ?_) #[false, true, true, false, false, false, false, false, false, false, false, false] rfl rfl (any_of HT_.out (by kernel_rfl)) (fun _ _ _ h => h) (Or.inl ⟨(by rfl), ?_⟩) ?_ ?_
        rotate_left
        · exact z13
        rotate_left
        · exact z4
        refine pure_ (i := 3) (N := some 28) (v := ?_) (a' := ?_) #[false, true, true, true, false, false, false, false, false, false, false, false] rfl rfl (any_of HT_.out (by kernel_rfl)) (fun _ _ _ h => h) (Or.inl ⟨(by rfl), ?_⟩) ?_ ?_
        rotate_left
        · exact z13
        rotate_left
        · exact z4
        refine pure_ (i := 4) (N := some 29) (v := ?_) (a' := ?_) #[false, true, true, true, true, false, false, false, false, false, false, false] rfl rfl (any_of HT_.out (by kernel_rfl)) (fun _ _ _ h => h) (Or.inl ⟨(by rfl), ?_⟩) ?_ ?_
        rotate_left
        · exact z13
        rotate_left
        · exact z4
        refine pure_ (i := 8) (N := some 33) (v := ?_) (a' := ?_) #[false, true, true, true, true, false, false, false, true, false, false, false] rfl rfl (any_of HT_.out (by kernel_rfl)) (fun _ _ _ h => h) (Or.inl ⟨(by rfl), ?_⟩) ?_ ?_
        rotate_left
        · exact z13
        rotate_left
        · exact z4
        refine take_ (i := 0) (N := some 25) (v := ?_) (a' := ?_) #[true, true, true, true, true, false, false, false, true, false, false, false] rfl rfl (take_ofW HT_.out HW_.out (by kernel_rfl)) (fun _ _ _ h => h) (Or.inl ⟨(by rfl), ?_⟩) hHeld ?_ ?_
        rotate_left
        · rintro w' ⟨s0, s1, s2, s3, s4⟩
          go_simp
          with_reducible rfl
        rotate_left
        · exact z4
        refine one_ (i := 5) (N := some 30) #[true, true, true, true, true, true, false, false, true, false, false, false] rfl rfl (one_of HT_.out (by kernel_rfl)) (by decide) (fun K hK => ?_)
        refine goes_ Try.func75 (by kernel_rfl) rfl #[.pointer (some ⟨g610, 0, none⟩), .int .i64 (t109.length : Int)] (by rfl) rfl rfl z2 ?_
        with_reducible refine (spec_l01Next.calls g610 t100 t104 t105 (t109.length : Int) t103 t121 t122 w _ ?side1 ?side2 A24.out).mono ?_
        (case side1 => exact z38)
        (case side2 => exact z44)
        rintro e w37 ⟨rfl, hi, hb, hk⟩
        have HS4_ := keep_cell hk (hHeld.2.2.2.2) (by first | (rw [add_block]; exact Kd.own_blk (IsS93.own_ne HI115.out HO117.out (by decide))) | (show (Addr.add _ _).block ≠ _; rw [add_block]; exact Kd.own_blk (IsS93.own_ne HI115.out HO117.out (by decide))) | exact Kd.own_blk (IsS93.own_ne HI115.out HO117.out (by decide)))
        refine ⟨_, rfl, ?_⟩
        have n0_ := zKB BK114 hk NB114_115
        have n1_ := Aside0.mk (Kd.R_mono (Kd.R_keep (IsS93.apart (show IsS93 w _ g610 t100 t104 t105 from z38) z82 (by decide)) hk (fun _ h => h.2)) (fun _ h => h.1))
        have n2_ := zKB BK118 hk NB118_115
        have n3_ := Aside0.mk (hb)
        have n4_ := Aside0.mk (hi)
        clear BK114 HO117 BK118 HB HI115
        have BK114 := n0_
        have HO117 := n1_
        have BK118 := n2_
        have HB := n3_
        have HI115 := n4_
        clear n0_ n1_ n2_ n3_ n4_
        (try clear hb)
        (try clear hb2)
        (try clear hk)
        (try clear hi)
        refine hK.out _ _ ⟨(blk_cell BK118.out 0).trans rfl, (blk_cell BK118.out 1).trans rfl, (blk_cell BK118.out 2).trans rfl, (blk_cell BK118.out 3).trans rfl, HS4_⟩ (fun hHeld => ?_)
        clear hK K
        refine norm_ (a' := ?_) ?_ ?_
        rotate_left
        · show Act.put _ (some 30) _ = _
          simp only [Act.put, List.setIfInBounds_toArray, List.set_cons_zero, List.set_cons_succ, i64_w, i32_w]
          rfl
        refine pure_ (i := 6) (N := some 31) (v := ?_) (a' := ?_) #[true, true, true, true, true, true, true, false, true, false, false, false] rfl rfl (any_of HT_.out (by kernel_rfl)) (fun _ _ _ h => h) (Or.inl ⟨(by rfl), ?_⟩) ?_ ?_
        rotate_left
        · exact z13
        rotate_left
        · exact z4
        refine take_ (i := 7) (N := some 32) (v := ?_) (a' := ?_) #[true, true, true, true, true, true, true, true, true, false, false, false] rfl rfl (take_ofW HT_.out HW_.out (by kernel_rfl)) (fun _ _ _ h => h) (Or.inl ⟨(by rfl), ?_⟩) hHeld ?_ ?_
        rotate_left
        · rintro w' ⟨s0, s1, s2, s3, s4⟩
          go_simp
          with_reducible rfl
        rotate_left
        · exact z4
        refine one_ (i := 9) (N := none) #[true, true, true, true, true, true, true, true, true, true, false, false] rfl rfl (one_of HT_.out (by kernel_rfl)) (by decide) (fun K hK => ?_)
        have hs38 : w37.cell? ⟨gb114, 0, none⟩ = some (.int .i64 0) := (blk_cell BK114.out 0).trans rfl
        have hfs38 := blk_frozen BK114.out 0
        have hns38_1 := NB118_114.out
        have hms38_1 := NB114_118.out
        have hs39 : w37.cell? ⟨gb114, 1, none⟩ = some (.int .i64 0) := (blk_cell BK114.out 1).trans rfl
        have hfs39 := blk_frozen BK114.out 1
        have hns39_1 := NB118_114.out
        have hms39_1 := NB114_118.out
        have hs40 : w37.cell? ⟨gb114, 2, none⟩ = some (.int .i64 0) := (blk_cell BK114.out 2).trans rfl
        have hfs40 := blk_frozen BK114.out 2
        have hns40_1 := NB118_114.out
        have hms40_1 := NB114_118.out
        have hs41 : w37.cell? ⟨gb114, 3, none⟩ = some (.int .i64 0) := (blk_cell BK114.out 3).trans rfl
        have hfs41 := blk_frozen BK114.out 3
        have hns41_1 := NB118_114.out
        have hms41_1 := NB114_118.out
        refine skip_ (w1 := ?_) (by rfl) rfl ?_ ?_
        rotate_left
        · go_simp
          rfl
        refine hK.out _ _ ⟨((cell_far (p := ⟨gb114, _, none⟩) NB118_114.out _).trans (((cell_far (p := ⟨gb114, _, none⟩) NB118_114.out _).trans (((cell_far (p := ⟨gb114, _, none⟩) NB118_114.out _).trans (((cell_far (p := ⟨gb114, _, none⟩) NB118_114.out _).trans (hHeld.1)))))))), ((cell_far (p := ⟨gb114, _, none⟩) NB118_114.out _).trans (((cell_far (p := ⟨gb114, _, none⟩) NB118_114.out _).trans (((cell_far (p := ⟨gb114, _, none⟩) NB118_114.out _).trans (((cell_far (p := ⟨gb114, _, none⟩) NB118_114.out _).trans (hHeld.2.1)))))))), ((cell_far (p := ⟨gb114, _, none⟩) NB118_114.out _).trans (((cell_far (p := ⟨gb114, _, none⟩) NB118_114.out _).trans (((cell_far (p := ⟨gb114, _, none⟩) NB118_114.out _).trans (((cell_far (p := ⟨gb114, _, none⟩) NB118_114.out _).trans (hHeld.2.2.1)))))))), ((cell_far (p := ⟨gb114, _, none⟩) NB118_114.out _).trans (((cell_far (p := ⟨gb114, _, none⟩) NB118_114.out _).trans (((cell_far (p := ⟨gb114, _, none⟩) NB118_114.out _).trans (((cell_far (p := ⟨gb114, _, none⟩) NB118_114.out _).trans (hHeld.2.2.2.1)))))))), ((cell_far (p := ⟨gb114, _, none⟩) z58 _).trans (((cell_far (p := ⟨gb114, _, none⟩) z58 _).trans (((cell_far (p := ⟨gb114, _, none⟩) z58 _).trans (((cell_far (p := ⟨gb114, _, none⟩) z58 _).trans (hHeld.2.2.2.2))))))))⟩ (fun hHeld => ?_)
        clear hK K
        refine pure_ (i := 10) (N := some 3) (v := ?_) (a' := ?_) #[true, true, true, true, true, true, true, true, true, true, true, false] rfl rfl (any_of HT_.out (by kernel_rfl)) (fun _ _ _ h => h) (Or.inl ⟨(by rfl), ?_⟩) ?_ ?_
        rotate_left
        · exact z13
        rotate_left
        · exact z4
        refine pure_ (i := 11) (N := some 4) (v := ?_) (a' := ?_) #[true, true, true, true, true, true, true, true, true, true, true, true] rfl rfl (any_of HT_.out (by kernel_rfl)) (fun _ _ _ h => h) (Or.inl ⟨(by rfl), ?_⟩) ?_ ?_
        rotate_left
        · exact z13
        rotate_left
        · exact z4
        refine done_ (done_of HT_.out (by kernel_rfl)) ?_
        try go_wp2
        refine bodyPost_ret (results_ctt rfl _ _ gb114 27 #[.int .i64 t101, .int .i64 t106, .int .i64 t107, .int .i64 t108] (0, 0) _ rfl z23 Try.underlying27 rfl (by kernel_rfl)) rfl ?_
        exact ⟨z6, z44⟩
      · rw [if_neg c26] at H
        exact absurd H (by simp)
    · rw [if_neg c25] at H
      exact absurd H (by simp)

end Go.Proofs.Ytchlbkcladfloaa.PFnTickets
