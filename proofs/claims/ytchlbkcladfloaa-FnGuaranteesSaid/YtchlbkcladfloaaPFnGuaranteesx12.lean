-- WALKS, by a program and by hand
import Derived.Test.YtchlbkcladfloaaPFnGuaranteesx0
import Derived.Test.YtchlbkcladfloaaPFnGuaranteesx1
import Derived.Test.YtchlbkcladfloaaPFnGuaranteesx2
import Derived.Test.YtchlbkcladfloaaPFnGuaranteesx10
import Derived.Test.YtchlbkcladfloaaPFnGuaranteesx11
namespace Go.Proofs.Ytchlbkcladfloaa.PFnGuarantees
open Go.RowKit Go.Proofs.Ytchlbkcladfloaa.DG Go.Proofs.YtchlbkcladfloaaW.PrintWords Go.Proofs.YtchlbkcladfloaaW.PrintLast Go.Proofs.YtchlbkcladfloaaW.PrintMore
attribute [local go_sem] max2_int min2_int max_two min_two max_three min_three max_four min_four   -- for this text's walks alone
set_option linter.unusedVariables false
set_option linter.unusedSimpArgs false

mutual
def spec_l08With.l0 : Nat → List Int → Int → List Int → Int → Int → Int → Int → Int → Int → Option (Int × Int × Int × Int × List Int × Int)
 | 0, _, _, _, _, _, _, _, _, _ => none
 | k + 1, x7, x8, x387000, x387001, x387002, x403000, x403001, x403002, x403003 => if x8 > 0 then ((spec_l08DrawSet.f k x387000 x387001 x387002 x403000 x403001).bind fun bt100 => ((spec_l01Put.f k x7 bt100.1).bind fun t101 => (spec_l08With.l0 k t101 (wrap64 (x8 - 1)) x387000 bt100.2.1 bt100.2.2 x403000 x403001 x403002 x403003))) else ((spec_l01Next.f x387000 x387001 x387002 4).bind fun bt102 => (if bt102.1 = 0 then ((spec_GreedyTickets.f k x403000 x403001 x403002 x403003).bind fun bt103 => (spec_l08With.j1 k bt103.1 x387000 bt102.2.1 bt102.2.2 x403000 x403001 x403002 x403003)) else (spec_l08With.j1 k x7 x387000 bt102.2.1 bt102.2.2 x403000 x403001 x403002 x403003)))
def spec_l08With.j1 : Nat → List Int → List Int → Int → Int → Int → Int → Int → Int → Option (Int × Int × Int × Int × List Int × Int)
 | 0, _, _, _, _, _, _, _, _ => none
 | k + 1, x7, x387000, x387001, x387002, x403000, x403001, x403002, x403003 => (spec_l08DrawSet.f k x387000 x387001 x387002 x403000 x403002).bind fun bt104 => ((spec_l01Next.f x387000 bt104.2.1 bt104.2.2 24).bind fun bt105 => (if bt105.1 = 0 then ((spec_l01Pick.f x387000 bt105.2.1 bt105.2.2 (([0, (-1), 4096] : List Int))).bind fun bt106 => (if x7.length < 17592186044416 then ((spec_l08Bad.f x387000 bt106.2.1 bt106.2.2 x403000 x403001 x403002 x403003).bind fun bt107 => (some (bt107.1, bt107.2.1, bt107.2.2.1, bt107.2.2.2.1, (x7 ++ [bt106.1]), bt104.1))) else (none))) else (if bt105.1 = 1 then ((spec_l01Pick.f x387000 bt105.2.1 bt105.2.2 (([0, (-1), 4096] : List Int))).bind fun bt108 => ((spec_l08Bad.f x387000 bt108.2.1 bt108.2.2 x403000 x403001 x403002 x403003).bind fun bt109 => (some (bt109.1, bt109.2.1, bt109.2.2.1, bt109.2.2.2.1, x7, bt108.1)))) else ((spec_l08Bad.f x387000 bt105.2.1 bt105.2.2 x403000 x403001 x403002 x403003).bind fun bt110 => (some (bt110.1, bt110.2.1, bt110.2.2.1, bt110.2.2.2.1, x7, bt104.1))))))
end
def spec_l08With.f (k : Nat) (l0 : List Int) : Option (Int × Int × Int × Int × List Int × Int) := (spec_l01From.f k l0).bind fun bt111 => ((spec_l01Pick.f bt111.1 bt111.2.1 bt111.2.2 (([5, 7, 8] : List Int))).bind fun bt112 => ((spec_l08DrawOf.f bt111.1 bt112.2.1 bt112.2.2 bt112.1).bind fun bt113 => ((spec_l01Next.f bt111.1 bt113.2.2.2.2.1 bt113.2.2.2.2.2 6).bind fun bt114 => (spec_l08With.l0 k (([] : List Int)) bt114.1 bt111.1 bt114.2.1 bt114.2.2 bt113.1 bt113.2.1 bt113.2.2.1 bt113.2.2.2.1))))
set_option maxHeartbeats 8000000 in
set_option maxRecDepth 100000 in
theorem spec_l08With.calls (k : Nat) (A0 : Option Addr) (c0 : Nat) (l0 : List Int) (r1 : Int) (r2 : Int) (r3 : Int) (r4 : Int) (r5 : List Int) (r6 : Int) (w : World) (hr0 : Kd.C (Kd.int .u8) w A0 l0.length l0) (hc0 : l0.length ≤ c0) (h : spec_l08With.f k l0 = some (r1, r2, r3, r4, r5, r6)) :
  Calls Try.prog 89 #[.slice A0 l0.length c0] w fun e w' => ∃ v4_ : Value, e = .returned (.tuple #[.agg #[.int .i64 r1, .int .i64 r2, .int .i64 r3, .int .i64 r4], v4_, .int .i64 r6]) ∧ Kd.R (Kd.int .i64) 2 w' w.heap.size (fun _ => True) v4_ r5 ∧ Below w.heap.size w w' := by
 have hu27 := Try.underlying27
 have HR0 := zA hr0
 have HC0 := zA hc0
 clear hr0 hc0
 have HB := zA (Below.refl w.heap.size w)
 have H := h
 unfold spec_l08With.f at H
 (try dsimp -simprocs only at H)
 clear h
 replace H := zi H
 obtain ⟨⟨t111, t115, t116⟩, A20, H⟩ := H
 (try dsimp -simprocs only at H)
 have A2 := zA A20
 clear A20
 obtain ⟨y117, hy117⟩ : ∃ y_ : List Int, y_ = (([5, 7, 8] : List Int)) := ⟨_, rfl⟩
 replace H : ((spec_l01Pick.f t111 t115 t116 y117).bind fun bt112 => ((spec_l08DrawOf.f t111 bt112.2.1 bt112.2.2 bt112.1).bind fun bt113 => ((spec_l01Next.f t111 bt113.2.2.2.2.1 bt113.2.2.2.2.2 6).bind fun bt114 => (spec_l08With.l0 k (([] : List Int)) bt114.1 t111 bt114.2.1 bt114.2.2 bt113.1 bt113.2.1 bt113.2.2.1 bt113.2.2.2.1)))) = some (r1, r2, r3, r4, r5, r6) := by first | (rw [hy117]; with_reducible exact H) | (have H2_ := (Option.bind_some _ _).symm.trans H; rw [hy117]; with_reducible exact H2_) | (have H2_ := (Option.bind_some _ _).symm.trans H; with_reducible exact H2_) | with_reducible exact H | (rw [hy117]; exact H) | exact H
 have Ny117 := zA hy117
 clear hy117
 replace H := zi H
 obtain ⟨⟨t112, t118, t119⟩, A30, H⟩ := H
 (try dsimp -simprocs only at H)
 have A3 := zA A30
 clear A30
 replace H := zi H
 obtain ⟨⟨t113, t120, t121, t122, t123, t124⟩, A40, H⟩ := H
 (try dsimp -simprocs only at H)
 have A4 := zA A40
 clear A40
 obtain ⟨y125, hy125⟩ : ∃ y_ : List Int, y_ = (([] : List Int)) := ⟨_, rfl⟩
 replace H : ((spec_l01Next.f t111 t123 t124 6).bind fun bt114 => (spec_l08With.l0 k y125 bt114.1 t111 bt114.2.1 bt114.2.2 t113 t120 t121 t122)) = some (r1, r2, r3, r4, r5, r6) := by first | (rw [hy125]; with_reducible exact H) | (have H2_ := (Option.bind_some _ _).symm.trans H; rw [hy125]; with_reducible exact H2_) | (have H2_ := (Option.bind_some _ _).symm.trans H; with_reducible exact H2_) | with_reducible exact H | (rw [hy125]; exact H) | exact H
 have Ny125 := zA hy125
 clear hy125
 replace H := zi H
 obtain ⟨⟨t114, t126, t127⟩, A50, H⟩ := H
 (try dsimp -simprocs only at H)
 have A5 := zA A50
 clear A50
 have H' := zA H
 clear H
 go_enter Try.func89, Try.ntmps89
 go_wp2_with (first | ((with_reducible refine gate_dst (N := 2) rfl ?_); refine zbox (N := 2) (cs := #[.int .i64 0, .int .i64 0, .int .i64 0, .int .i64 0]) (t := 27) ?_; intro gb128 hg w6 hbox hb; have BK128 := zA (hbox); have GW128 := zA ((z151 : w.heap.size ≤ gb128)); have GE128 := zA ((z151 : w.heap.size ≤ gb128)); replace HB := zA (below_step z1 hb); clear hb hbox hg) | ((with_reducible refine gate_callee (f := 72) rfl ?_); refine goesL_ (some 11) rfl rfl Try.func72 (by kernel_rfl) rfl #[.slice A0 l0.length c0] rfl z3 ?_; (with_reducible refine (spec_l01From.calls k _ _ l0 t111 t115 t116 w _ ?side1 ?side2 ?side3 A2.out).mono ?_); (case side1 => exact (by repeat (first | (with_reducible first | exact HB.out | apply below_alloc | apply pw_below_drewN | apply below_drew1 | refine below_set ?_ GE128.out) | exact HB.out))); (case side2 => exact HR0.out); (case side3 => exact HC0.out); rintro e w7 ⟨g386, rfl, hi, hb, hb2⟩; refine ⟨_, rfl, ?_⟩; replace HB := zA (hb); have HI129 := zA (hi); have NB129_128 := zA (IsS93.ne_blk hi (blk_below (g := gb128) (o := .cells #[.int .i64 0, .int .i64 0, .int .i64 0, .int .i64 0] 27 (0, 0)) z53 hb2) (by decide)); have NB128_129 := zA (Ne.symm (IsS93.ne_blk hi (blk_below (g := gb128) (o := .cells #[.int .i64 0, .int .i64 0, .int .i64 0, .int .i64 0] 27 (0, 0)) z53 hb2) (by decide))); replace BK128 := zBB BK128 hb2; (try clear hb); (try clear hb2); (try clear hk); (try clear hi)) | ((with_reducible refine gate_dst (N := 14) rfl ?_); refine Kd.R_lit (Kd.int .i64) _ 2 ?hg (N := 14) ?hd (xs := ([5, 7, 8] : List Int)) (inner := [.int .i64 5, .int .i64 7, .int .i64 8]) (ok := fun _ => True) (okp := fun _ => True) ?hr ?hp (fun _ hk => hk) trivial (Below.refl _ _) (Nat.le_refl _) (by simp) ?_; (case hd => rfl); (case hg => rfl); (case hr => first | (go_simp; done) | (go_simp; rfl)); (case hp => exact (Reps.one (show Kd.M (Kd.int .i64) _ _ _ 5 [.int .i64 5] from rfl) (Reps.one (show Kd.M (Kd.int .i64) _ _ _ 7 [.int .i64 7] from rfl) (Reps.one (show Kd.M (Kd.int .i64) _ _ _ 8 [.int .i64 8] from rfl) (Reps.none _ _))))); intro v130 w8 ho9 hb hg_ hnew_; clear hg_ hnew_; (first | rw [← Ny117.out] at ho9 | (simp only [Int.reduceToNat] at ho9; rw [← Ny117.out] at ho9)); have HO131 := zA (Kd.R_lower ho9 (below_size z44)); replace BK128 := zBB BK128 hb; replace HB := zA (below_step z44 hb); replace HI129 := zA (IsS93.below z42 hb); clear hb ho9; obtain ⟨Ao10, co10, eo10⟩ := Kd.R_slice HO131.out; subst eo10) | ((with_reducible refine gate_callee (f := 76) rfl ?_); refine goesL_ (some 15) rfl rfl Try.func76 (by kernel_rfl) rfl #[.pointer (some ⟨g386, 0, none⟩), .slice Ao10 y117.length co10] rfl z3 ?_; (with_reducible refine (spec_l01Pick.calls g386 t111 t115 t116 _ _ y117 t112 t118 t119 w _ ?side1 ?side2 ?side3 ?side4 ?side5 A3.out).mono ?_); (case side1 => exact z42); (case side2 => exact z44); (case side3 => exact (by repeat (first | exact (Kd.R_reads' HO131.out).2.2 | (with_reducible refine Kd.C_alloc ?_ _) | (with_reducible refine Kd.C_drewN ?_ _) | (with_reducible refine Kd.C_drew ?_)))); (case side4 => exact (Kd.R_reads' HO131.out).2.1); (case side5 => exact far_slice (IsS93.own_ne HI129.out HO131.out (by decide))); rintro e w11 ⟨rfl, hi, hb, hk⟩; refine ⟨_, rfl, ?_⟩; replace BK128 := zKB BK128 hk NB128_129; replace HO131 := zA (Kd.R_mono (Kd.R_keep (IsS93.apart (show IsS93 w _ g386 t111 t115 t116 from z42) z82 (by decide)) hk (fun _ h => h.2)) (fun _ h => h.1)); replace HB := zA (hb); replace HI129 := zA (hi); (try clear hb); (try clear hb2); (try clear hk); (try clear hi)) | ((with_reducible refine gate_callee (f := 73) rfl ?_); refine goesL_ (some 16) rfl rfl Try.func73 (by kernel_rfl) rfl #[.pointer (some ⟨g386, 0, none⟩), .int .i64 t112] rfl z3 ?_; (with_reducible refine (spec_l08DrawOf.calls g386 t111 t118 t119 t112 t113 t120 t121 t122 t123 t124 w _ ?side1 ?side2 A4.out).mono ?_); (case side1 => exact z42); (case side2 => exact z44); rintro e w12 ⟨rfl, hi, hb, hk⟩; refine ⟨_, rfl, ?_⟩; replace BK128 := zKB BK128 hk NB128_129; replace HO131 := zA (Kd.R_mono (Kd.R_keep (IsS93.apart (show IsS93 w _ g386 t111 t118 t119 from z42) z82 (by decide)) hk (fun _ h => h.2)) (fun _ h => h.1)); replace HB := zA (hb); replace HI129 := zA (hi); (try clear hb); (try clear hb2); (try clear hk); (try clear hi)) | ((with_reducible refine gate_dst (N := 17) rfl ?_); refine Kd.R_lit (Kd.int .i64) _ 2 ?hg (N := 17) ?hd (xs := ([] : List Int)) (inner := []) (ok := fun _ => True) (okp := fun _ => True) ?hr ?hp (fun _ hk => hk) trivial (Below.refl _ _) (Nat.le_refl _) (by simp) ?_; (case hd => rfl); (case hg => rfl); (case hr => first | (go_simp; done) | (go_simp; rfl)); (case hp => exact (Reps.none _ _)); intro v132 w13 ho14 hb hg_ hnew_; clear hg_ hnew_; (first | rw [← Ny125.out] at ho14 | (simp only [Int.reduceToNat] at ho14; rw [← Ny125.out] at ho14)); have HO133 := zA (Kd.R_lower (Kd.R_new' ho14 (Kd.R_lt z82)) (below_size z44)); replace HO131 := zA (Kd.R_elder' z82 (Kd.R_base ho14) hb); replace BK128 := zBB BK128 hb; replace HB := zA (below_step z44 hb); replace HI129 := zA (IsS93.below z42 hb); clear hb ho14) | ((with_reducible refine gate_dst (N := 6) rfl ?_); refine zbox (N := 6) (cs := #[.int .i64 0, .int .i64 0, .int .i64 0, .int .i64 0]) (t := 27) ?_; intro gb134 hg w15 hbox hb; replace HO131 := zA (Kd.R_below z82 hb); replace HO133 := zA (Kd.R_below (zr HO133.out) hb); have BK134 := zA (hbox); have GW134 := zA (((by rw [hg]; exact (below_size z44)) : w.heap.size ≤ gb134)); have GE134 := zA (((by rw [hg]; exact (below_size z44)) : w.heap.size ≤ gb134)); replace HB := zA (below_step z44 hb); have NB128_134 := zA (((by rw [hg]; exact Nat.ne_of_lt (blk_lt (g := gb128) (o := .cells #[.int .i64 0, .int .i64 0, .int .i64 0, .int .i64 0] 27 (0, 0)) z53)) : gb128 ≠ gb134)); have NB134_128 := zA (((by rw [hg]; exact Nat.ne_of_gt (blk_lt (g := gb128) (o := .cells #[.int .i64 0, .int .i64 0, .int .i64 0, .int .i64 0] 27 (0, 0)) z53)) : gb134 ≠ gb128)); replace BK128 := zBB BK128 hb; have NB129_134 := zA (((by rw [hg]; exact Nat.ne_of_lt (IsS93.lt (show IsS93 w _ g386 t111 t123 t124 from z42))) : g386 ≠ gb134)); have NB134_129 := zA (((by rw [hg]; exact Nat.ne_of_gt (IsS93.lt (show IsS93 w _ g386 t111 t123 t124 from z42))) : gb134 ≠ g386)); replace HI129 := zA (IsS93.below z42 hb); clear hb hbox hg; have hnb16 := NB134_128.out; have hnc16 := NB128_134.out; have hnb17 := NB134_129.out; have hnc17 := NB129_134.out; obtain ⟨hcz18_0, hcz18_1, hcz18_2, hcz18_3, hfz18_0, hfz18_1, hfz18_2, hfz18_3⟩ := zC4 BK134.out) | ((with_reducible refine gate_callee (f := 75) rfl ?_); refine goesL_ (some 19) rfl rfl Try.func75 (by kernel_rfl) rfl #[.pointer (some ⟨g386, 0, none⟩), .int .i64 6] rfl z3 ?_; (with_reducible refine (spec_l01Next.calls g386 t111 t123 t124 6 t114 t126 t127 w _ ?side1 ?side2 A5.out).mono ?_); (case side1 => exact z6); (case side2 => exact z12); rintro e w19 ⟨rfl, hi, hb, hk⟩; refine ⟨_, rfl, ?_⟩; replace BK128 := zA (KeepBut.blk hk (g' := gb128) (o := .cells #[.int .i64 0, .int .i64 0, .int .i64 0, .int .i64 0] 27 (0, 0)) (by (with_reducible repeat (first | refine blk_drewN ?_ _ | refine blk_drew ?_ | refine blk_alloc ?_ _)); refine blk_far ?_ NB128_134.out _; (with_reducible repeat (first | refine blk_drewN ?_ _ | refine blk_drew ?_ | refine blk_alloc ?_ _)); refine blk_far ?_ NB128_134.out _; (with_reducible repeat (first | refine blk_drewN ?_ _ | refine blk_drew ?_ | refine blk_alloc ?_ _)); refine blk_far ?_ NB128_134.out _; (with_reducible repeat (first | refine blk_drewN ?_ _ | refine blk_drew ?_ | refine blk_alloc ?_ _)); refine blk_far ?_ NB128_134.out _; (with_reducible repeat (first | refine blk_drewN ?_ _ | refine blk_drew ?_ | refine blk_alloc ?_ _)); exact BK128.out) NB128_129.out (by simp)); replace HO131 := zA (Kd.R_mono (Kd.R_keep (IsS93.apart (show IsS93 w _ g386 t111 t123 t124 from z6) (by (with_reducible repeat (first | apply Kd.R_alloc | apply Kd.R_drewN | apply Kd.R_drew)); exact (Kd.R_mono (Kd.R_far (p := ⟨gb134, 3, none⟩) (Kd.R_far (p := ⟨gb134, 2, none⟩) (Kd.R_far (p := ⟨gb134, 1, none⟩) (Kd.R_far (p := ⟨gb134, 0, none⟩) (Kd.R_types HO131.out BK134.out (by decide)) (fun _ hk => hk.2) (.int .i64 t113)) (fun _ hk => hk.2) (.int .i64 t120)) (fun _ hk => hk.2) (.int .i64 t121)) (fun _ hk => hk.2) (.int .i64 t122)) (fun _ h_ => h_.1))) (by decide)) hk (fun _ h => h.2)) (fun _ h => h.1)); replace HO133 := zA (Kd.R_mono (Kd.R_keep (IsS93.apart (show IsS93 w _ g386 t111 t123 t124 from z6) (by (with_reducible repeat (first | apply Kd.R_alloc | apply Kd.R_drewN | apply Kd.R_drew)); exact (Kd.R_mono (Kd.R_far (p := ⟨gb134, 3, none⟩) (Kd.R_far (p := ⟨gb134, 2, none⟩) (Kd.R_far (p := ⟨gb134, 1, none⟩) (Kd.R_far (p := ⟨gb134, 0, none⟩) (Kd.R_types HO133.out BK134.out (by decide)) (fun _ hk => hk.2) (.int .i64 t113)) (fun _ hk => hk.2) (.int .i64 t120)) (fun _ hk => hk.2) (.int .i64 t121)) (fun _ hk => hk.2) (.int .i64 t122)) (fun _ h_ => h_.1))) (by decide)) hk (fun _ h => h.2)) (fun _ h => h.1)); replace BK134 := zA (KeepBut.blk hk (g' := gb134) (o := .cells #[.int .i64 t113, .int .i64 t120, .int .i64 t121, .int .i64 t122] 27 (0, 0)) (by (with_reducible repeat (first | refine blk_drewN ?_ _ | refine blk_drew ?_ | refine blk_alloc ?_ _)); refine blk_put (cs := #[.int .i64 t113, .int .i64 t120, .int .i64 t121, .int .i64 0]) ?_ 3 _ rfl; (with_reducible repeat (first | refine blk_drewN ?_ _ | refine blk_drew ?_ | refine blk_alloc ?_ _)); refine blk_put (cs := #[.int .i64 t113, .int .i64 t120, .int .i64 0, .int .i64 0]) ?_ 2 _ rfl; (with_reducible repeat (first | refine blk_drewN ?_ _ | refine blk_drew ?_ | refine blk_alloc ?_ _)); refine blk_put (cs := #[.int .i64 t113, .int .i64 0, .int .i64 0, .int .i64 0]) ?_ 1 _ rfl; (with_reducible repeat (first | refine blk_drewN ?_ _ | refine blk_drew ?_ | refine blk_alloc ?_ _)); refine blk_put (cs := #[.int .i64 0, .int .i64 0, .int .i64 0, .int .i64 0]) ?_ 0 _ rfl; (with_reducible repeat (first | refine blk_drewN ?_ _ | refine blk_drew ?_ | refine blk_alloc ?_ _)); exact BK134.out) NB134_129.out (by simp)); replace HB := zA (hb); replace HI129 := zA (hi); (try clear hb); (try clear hb2); (try clear hk); (try clear hi)))
 go_loopg [7, 8] k (fun kq v7 v8 w' => ∃ (x7_1 : List Int) (x8_1 : Int) (x387001_1 : Int) (x387002_1 : Int), v8 = .int .i64 x8_1 ∧ Aside0 (spec_l08With.l0 kq x7_1 x8_1 t111 x387001_1 x387002_1 t113 t120 t121 t122 = some (r1, r2, r3, r4, r5, r6)) ∧ Aside0 (kq ≤ k) ∧ Aside0 (Kd.R (Kd.int .i64) 2 w' w.heap.size (fun _ => True) v7 x7_1) ∧ Aside0 (w'.heap[gb128]? = some (.cells #[.int .i64 0, .int .i64 0, .int .i64 0, .int .i64 0] 27 (0, 0))) ∧ Aside0 (w'.heap[gb134]? = some (.cells #[.int .i64 t113, .int .i64 t120, .int .i64 t121, .int .i64 t122] 27 (0, 0))) ∧ Aside0 (IsS93 w w' g386 t111 x387001_1 x387002_1) ∧ Aside0 (Below w.heap.size w w'))
 case atStart => exact ⟨(y125), (t114), (t126), (t127), z11, H', ⟨Nat.le_refl _⟩, ⟨(by (with_reducible repeat (first | apply Kd.R_alloc | apply Kd.R_drewN | apply Kd.R_drew)); exact Kd.R_mono HO133.out (fun _ hk => trivial))⟩, ⟨z53⟩, ⟨z68⟩, ⟨z6⟩, ⟨z12⟩⟩
 case round =>
  clear H'
  (try clear c1); (try clear p2); (try clear c7); (try clear c8); (try clear c16); (try clear c17); (try clear hcz18_0); (try clear hcz18_1); (try clear hcz18_2); (try clear hcz18_3); (try clear hfz18_0); (try clear hfz18_1); (try clear hfz18_2); (try clear hfz18_3)
  obtain ⟨x7_1, x8_1, x387001_1, x387002_1, rfl, HA, HK1, HO_7, BK128, BK134, HI129, HB⟩ := hrel
  cases gk with
  | zero => exact absurd HA.out (by simp [spec_l08With.l0])
  | succ k1 =>
   have H := HA.out
   clear HA
   simp only [spec_l08With.l0] at H
   by_cases c20 : x8_1 > 0
   ·rw [if_pos c20] at H
    have c20b0 : decide (0 < x8_1) = true := decide_eq_true c20
    clear c20
    replace H := zi H
    obtain ⟨⟨t100, t135, t136⟩, A210, H⟩ := H
    (try dsimp -simprocs only at H)
    have A21 := zA A210
    clear A210
    replace H := zi H
    obtain ⟨t101, A220, H⟩ := H
    (try dsimp -simprocs only at H)
    have A22 := zA A220
    clear A220
    have H' := zA H
    clear H
    have hnb23 := NB134_128.out
    have hnc23 := NB128_134.out
    have hnb24 := NB134_129.out
    have hnc24 := NB129_134.out
    obtain ⟨hcz25_0, hcz25_1, hcz25_2, hcz25_3, hfz25_0, hfz25_1, hfz25_2, hfz25_3⟩ := zC4 BK134.out
    go_wp2_with (first | ((with_reducible refine gate_callee (f := 74) rfl ?_); refine goesL_ (some 30) rfl rfl Try.func74 (by kernel_rfl) rfl #[.pointer (some ⟨g386, 0, none⟩), .int .i64 t113, .int .i64 t120] rfl z3 ?_; (with_reducible refine (spec_l08DrawSet.calls k1 g386 t111 x387001_1 x387002_1 t113 t120 t100 t135 t136 w _ ?side1 ?side2 A21.out).mono ?_); (case side1 => exact z6); (case side2 => exact z12); rintro e w26 ⟨rfl, hi, hb, hk⟩; refine ⟨_, rfl, ?_⟩; replace HO_7 := zA (Kd.R_mono (Kd.R_keep (IsS93.apart (show IsS93 w _ g386 t111 x387001_1 x387002_1 from z6) z16 (by decide)) hk (fun _ h => h.2)) (fun _ h => h.1)); replace BK128 := zKB BK128 hk NB128_129; replace BK134 := zKB BK134 hk NB134_129; replace HB := zA (hb); replace HI129 := zA (hi); (try clear hb); (try clear hb2); (try clear hk); (try clear hi); obtain ⟨Ao27, co27, eo27⟩ := Kd.R_slice HO_7.out; subst eo27) | ((with_reducible refine gate_callee (f := 61) rfl ?_); refine goesL_ (some 31) rfl rfl Try.func61 (by kernel_rfl) rfl #[.slice Ao27 x7_1.length co27, .int .i64 t100] rfl z3 ?_; (with_reducible refine (spec_l01Put.calls k1 (fun k_ => some k_ = (.slice Ao27 x7_1.length co27 : Value).ownBlock) (.slice Ao27 x7_1.length co27) x7_1 t100 t101 w _ ?side1 ?side2 A22.out).mono ?_); (case side1 => exact z12); (case side2 => exact Kd.R_tight rfl HO_7.out); rintro e w28 ⟨v137, rfl, ho0, hb, hkp⟩; refine ⟨_, rfl, ?_⟩; replace BK128 := zA (blk_kept z53 hkp (fun hs_ => (fun e_ => (Kd.R_ne HO_7.out BK128.out (by decide)) e_) hs_)); replace BK134 := zA (blk_kept z68 hkp (fun hs_ => (fun e_ => (Kd.R_ne HO_7.out BK134.out (by decide)) e_) hs_)); replace HI129 := zA (IsS93.kept z6 hkp (fun hs_ => (fun e_ => (IsS93.own_ne HI129.out HO_7.out (by decide)) e_) hs_)); have HO138 := zA (Kd.R_mono (ok' := fun k_ => True) ho0 (fun k_ hk_ => trivial)); replace HB := zA (hb); clear HO_7; (try clear hb); (try clear hkp); (try clear ho0)))
    go_roundg k1
    case measure => have := HK1.out; omega
    case rel => exact ⟨(t101), (wrap64 (x8_1 - 1)), (t135), (t136), z11, H', ⟨z73⟩, ⟨(zr HO138.out)⟩, ⟨z53⟩, ⟨z68⟩, ⟨z6⟩, ⟨z12⟩⟩
   ·rw [if_neg c20] at H
    have c20b0 : decide (0 < x8_1) = false := decide_eq_false c20
    clear c20
    replace H := zi H
    obtain ⟨⟨t102, t139, t140⟩, A290, H⟩ := H
    (try dsimp -simprocs only at H)
    have A29 := zA A290
    clear A290
    have HC30 := zA H
    clear H
    go_upto_if 34 with (first | ((with_reducible refine gate_callee (f := 75) rfl ?_); refine goesL_ (some 33) rfl rfl Try.func75 (by kernel_rfl) rfl #[.pointer (some ⟨g386, 0, none⟩), .int .i64 4] rfl z3 ?_; (with_reducible refine (spec_l01Next.calls g386 t111 x387001_1 x387002_1 4 t102 t139 t140 w _ ?side1 ?side2 A29.out).mono ?_); (case side1 => exact z6); (case side2 => exact z12); rintro e w31 ⟨rfl, hi, hb, hk⟩; refine ⟨_, rfl, ?_⟩; replace HO_7 := zA (Kd.R_mono (Kd.R_keep (IsS93.apart (show IsS93 w _ g386 t111 x387001_1 x387002_1 from z6) z16 (by decide)) hk (fun _ h => h.2)) (fun _ h => h.1)); replace BK128 := zKB BK128 hk NB128_129; replace BK134 := zKB BK134 hk NB134_129; replace HB := zA (hb); replace HI129 := zA (hi); (try clear hb); (try clear hb2); (try clear hk); (try clear hi)))
    (try simp only [Act.put, List.setIfInBounds_toArray, List.set_cons_zero, List.set_cons_succ])
    go_cut [7] (fun v7 wc => ∃ (kq : Nat) (x7_29 : List Int), Aside0 (spec_l08With.j1 kq x7_29 t111 t139 t140 t113 t120 t121 t122 = some (r1, r2, r3, r4, r5, r6)) ∧ Aside0 (kq ≤ k1) ∧ Aside0 (Kd.R (Kd.int .i64) 2 wc w.heap.size (fun _ => True) v7 x7_29) ∧ Aside0 (wc.heap[gb128]? = some (.cells #[.int .i64 0, .int .i64 0, .int .i64 0, .int .i64 0] 27 (0, 0))) ∧ Aside0 (wc.heap[gb134]? = some (.cells #[.int .i64 t113, .int .i64 t120, .int .i64 t121, .int .i64 t122] 27 (0, 0))) ∧ Aside0 (IsS93 w wc g386 t111 t139 t140) ∧ Aside0 (Below w.heap.size w wc))
    case first =>
     have H := HC30.out
     clear HC30
     by_cases c32 : t102 = 0
     ·rw [if_pos c32] at H
      have c32b0 : (t102 == 0) = true := beq_iff_eq.mpr c32
      have c32b1 : (t102 != 0) = false := bne_eq_false_iff_eq.mpr c32
      clear c32
      (first | rw [c32b0] | (simp only [i64_w, i32_w]; rw [c32b0]) | skip)
      replace H := zi H
      obtain ⟨⟨t103, t141⟩, A330, H⟩ := H
      (try dsimp -simprocs only at H)
      have A33 := zA A330
      clear A330
      have H' := zA H
      clear H
      have hnb34 := NB134_128.out
      have hnc34 := NB128_134.out
      have hnb35 := NB134_129.out
      have hnc35 := NB129_134.out
      obtain ⟨hcz36_0, hcz36_1, hcz36_2, hcz36_3, hfz36_0, hfz36_1, hfz36_2, hfz36_3⟩ := zC4 BK134.out
      go_wp2_with (first | ((with_reducible refine gate_callee (f := 7) rfl ?_); refine goesL_ (some 37) rfl rfl Try.func7 (by kernel_rfl) rfl #[.agg #[.int .i64 t113, .int .i64 t120, .int .i64 t121, .int .i64 t122]] rfl z3 ?_; (with_reducible refine (spec_GreedyTickets.calls k1 t113 t120 t121 t122 t103 t141 _ A33.out).mono ?_); rintro e w37 ⟨v142, rfl, ho0, hb⟩; refine ⟨_, rfl, ?_⟩; have HO143 := zA (Kd.R_lower (Kd.R_new' ho0 (Kd.R_lt z16)) (below_size z12)); replace HO_7 := zA (Kd.R_elder' z16 (Kd.R_base ho0) hb); replace BK128 := zBB BK128 hb; replace BK134 := zBB BK134 hb; replace HB := zA (below_step z12 hb); replace HI129 := zA (IsS93.below z6 hb); (try clear hb); (try clear hb2); (try clear hk); (try clear hi); (try clear ho0)))
      go_meet
      case rel => exact ⟨_, (t103), H', ⟨(by have := HK1.out; first | omega | exact Nat.le_refl _)⟩, ⟨(by (with_reducible repeat (first | apply Kd.R_alloc | apply Kd.R_drewN | apply Kd.R_drew)); exact Kd.R_mono HO143.out (fun _ hk => trivial))⟩, ⟨z53⟩, ⟨z68⟩, ⟨z6⟩, ⟨z12⟩⟩
     ·rw [if_neg c32] at H
      have c32b0 : (t102 == 0) = false := beq_eq_false_iff_ne.mpr c32
      have c32b1 : (t102 != 0) = true := bne_iff_ne.mpr c32
      (first | rw [c32b0] | (simp only [i64_w, i32_w]; rw [c32b0]) | skip)
      have H' := zA H
      clear H
      go_wp2
      go_meet
      case rel => exact ⟨_, (x7_1), H', ⟨(by have := HK1.out; first | omega | exact Nat.le_refl _)⟩, ⟨z16⟩, ⟨z53⟩, ⟨z68⟩, ⟨z6⟩, ⟨z12⟩⟩
    case rest =>
     clear HC30
     (try clear c1); (try clear c2); (try clear p2); (try clear c3); (try clear c6); (try clear p6); (try clear c7); (try clear c8); (try clear c16); (try clear c17); (try clear c20); (try clear c20b0); (try clear c23); (try clear c24); (try clear c32); (try clear c32b0); (try clear c32b1); (try clear c34); (try clear c35); (try clear hcz18_0); (try clear hcz18_1); (try clear hcz18_2); (try clear hcz18_3); (try clear hcz25_0); (try clear hcz25_1); (try clear hcz25_2); (try clear hcz25_3); (try clear hcz36_0); (try clear hcz36_1); (try clear hcz36_2); (try clear hcz36_3); (try clear hfz18_0); (try clear hfz18_1); (try clear hfz18_2); (try clear hfz18_3); (try clear hfz25_0); (try clear hfz25_1); (try clear hfz25_2); (try clear hfz25_3); (try clear hfz36_0); (try clear hfz36_1); (try clear hfz36_2); (try clear hfz36_3); (try clear p2)
     obtain ⟨kq, x7_29, HA, HJ29, HO_7, BK128, BK134, HI129, HB⟩ := hcut
     cases kq with
     | zero => exact absurd HA.out (by simp [spec_l08With.j1])
     | succ kj29 =>
      have H := HA.out
      clear HA
      simp only [spec_l08With.j1] at H
      replace H := zi H
      obtain ⟨⟨t104, t144, t145⟩, A380, H⟩ := H
      (try dsimp -simprocs only at H)
      have A38 := zA A380
      clear A380
      replace H := zi H
      obtain ⟨⟨t105, t146, t147⟩, A390, H⟩ := H
      (try dsimp -simprocs only at H)
      have A39 := zA A390
      clear A390
      by_cases c40 : t105 = 0
      ·rw [if_pos c40] at H
       have c40b0 : (t105 == 0) = true := beq_iff_eq.mpr c40
       have c40b1 : (t105 != 0) = false := bne_eq_false_iff_eq.mpr c40
       clear c40
       obtain ⟨y148, hy148⟩ : ∃ y_ : List Int, y_ = (([0, (-1), 4096] : List Int)) := ⟨_, rfl⟩
       replace H : ((spec_l01Pick.f t111 t146 t147 y148).bind fun bt106 => (if x7_29.length < 17592186044416 then ((spec_l08Bad.f t111 bt106.2.1 bt106.2.2 t113 t120 t121 t122).bind fun bt107 => (some (bt107.1, bt107.2.1, bt107.2.2.1, bt107.2.2.2.1, (x7_29 ++ [bt106.1]), t104))) else (none))) = some (r1, r2, r3, r4, r5, r6) := by first | (rw [hy148]; with_reducible exact H) | (have H2_ := (Option.bind_some _ _).symm.trans H; rw [hy148]; with_reducible exact H2_) | (have H2_ := (Option.bind_some _ _).symm.trans H; with_reducible exact H2_) | with_reducible exact H | (rw [hy148]; exact H) | exact H
       have Ny148 := zA hy148
       clear hy148
       replace H := zi H
       obtain ⟨⟨t106, t149, t150⟩, A410, H⟩ := H
       (try dsimp -simprocs only at H)
       have A41 := zA A410
       clear A410
       by_cases c42 : x7_29.length < 17592186044416
       ·rw [if_pos c42] at H
        have LMc42 := zA c42
        clear c42
        obtain ⟨y151, hy151⟩ : ∃ y_ : List Int, y_ = (x7_29 ++ [t106]) := ⟨_, rfl⟩
        replace H : ((spec_l08Bad.f t111 t149 t150 t113 t120 t121 t122).bind fun bt107 => (some (bt107.1, bt107.2.1, bt107.2.2.1, bt107.2.2.2.1, y151, t104))) = some (r1, r2, r3, r4, r5, r6) := by first | (rw [hy151]; with_reducible exact H) | (have H2_ := (Option.bind_some _ _).symm.trans H; rw [hy151]; with_reducible exact H2_) | (have H2_ := (Option.bind_some _ _).symm.trans H; with_reducible exact H2_) | with_reducible exact H | (rw [hy151]; exact H) | exact H
        have Ny151 := zA hy151
        clear hy151
        replace H := zi H
        obtain ⟨⟨t107, t152, t153, t154, t155, t156⟩, A430, H⟩ := H
        (try dsimp -simprocs only at H)
        have A43 := zA A430
        clear A430
        simp only [Option.some.injEq, Prod.mk.injEq] at H
        obtain ⟨rfl, rfl, rfl, rfl, rfl, rfl⟩ := H
        have hnb44 := NB134_128.out
        have hnc44 := NB128_134.out
        have hnb45 := NB134_129.out
        have hnc45 := NB129_134.out
        obtain ⟨hcz46_0, hcz46_1, hcz46_2, hcz46_3, hfz46_0, hfz46_1, hfz46_2, hfz46_3⟩ := zC4 BK134.out
        go_wp2_with (first | ((with_reducible refine gate_callee (f := 74) rfl ?_); refine goesL_ (some 45) rfl rfl Try.func74 (by kernel_rfl) rfl #[.pointer (some ⟨g386, 0, none⟩), .int .i64 t113, .int .i64 t121] rfl z3 ?_; (with_reducible refine (spec_l08DrawSet.calls kj29 g386 t111 t139 t140 t113 t121 t104 t144 t145 w _ ?side1 ?side2 A38.out).mono ?_); (case side1 => exact z6); (case side2 => exact z12); rintro e w47 ⟨rfl, hi, hb, hk⟩; refine ⟨_, rfl, ?_⟩; replace HO_7 := zA (Kd.R_mono (Kd.R_keep (IsS93.apart (show IsS93 w _ g386 t111 t139 t140 from z6) z16 (by decide)) hk (fun _ h => h.2)) (fun _ h => h.1)); replace BK128 := zKB BK128 hk NB128_129; replace BK134 := zKB BK134 hk NB134_129; replace HB := zA (hb); replace HI129 := zA (hi); (try clear hb); (try clear hb2); (try clear hk); (try clear hi)) | ((with_reducible refine gate_callee (f := 75) rfl ?_); refine goesL_ (some 47) rfl rfl Try.func75 (by kernel_rfl) rfl #[.pointer (some ⟨g386, 0, none⟩), .int .i64 24] rfl z3 ?_; (with_reducible refine (spec_l01Next.calls g386 t111 t144 t145 24 t105 t146 t147 w _ ?side1 ?side2 A39.out).mono ?_); (case side1 => exact z6); (case side2 => exact z12); rintro e w48 ⟨rfl, hi, hb, hk⟩; refine ⟨_, rfl, ?_⟩; replace HO_7 := zA (Kd.R_mono (Kd.R_keep (IsS93.apart (show IsS93 w _ g386 t111 t144 t145 from z6) z16 (by decide)) hk (fun _ h => h.2)) (fun _ h => h.1)); replace BK128 := zKB BK128 hk NB128_129; replace BK134 := zKB BK134 hk NB134_129; replace HB := zA (hb); replace HI129 := zA (hi); (try clear hb); (try clear hb2); (try clear hk); (try clear hi)) | ((with_reducible refine gate_dst (N := 52) rfl ?_); refine Kd.R_lit (Kd.int .i64) _ 2 ?hg (N := 52) ?hd (xs := ([0, (-1), 4096] : List Int)) (inner := [.int .i64 0, .int .i64 (-1), .int .i64 4096]) (ok := fun _ => True) (okp := fun _ => True) ?hr ?hp (fun _ hk => hk) trivial (Below.refl _ _) (Nat.le_refl _) (by simp) ?_; (case hd => rfl); (case hg => rfl); (case hr => first | (go_simp; done) | (go_simp; rfl)); (case hp => exact (Reps.one (show Kd.M (Kd.int .i64) _ _ _ 0 [.int .i64 0] from rfl) (Reps.one (show Kd.M (Kd.int .i64) _ _ _ (-1) [.int .i64 (-1)] from rfl) (Reps.one (show Kd.M (Kd.int .i64) _ _ _ 4096 [.int .i64 4096] from rfl) (Reps.none _ _))))); intro v157 w49 ho50 hb hg_ hnew_; clear hg_ hnew_; (first | rw [← Ny148.out] at ho50 | (simp only [Int.reduceToNat] at ho50; rw [← Ny148.out] at ho50)); have HO158 := zA (Kd.R_lower (Kd.R_new' ho50 (Kd.R_lt z16)) (below_size z12)); replace HO_7 := zA (Kd.R_elder' z16 (Kd.R_base ho50) hb); replace BK128 := zBB BK128 hb; replace BK134 := zBB BK134 hb; replace HB := zA (below_step z12 hb); replace HI129 := zA (IsS93.below z6 hb); clear hb ho50; obtain ⟨Ao51, co51, eo51⟩ := Kd.R_slice HO158.out; subst eo51) | ((with_reducible refine gate_callee (f := 76) rfl ?_); refine goesL_ (some 53) rfl rfl Try.func76 (by kernel_rfl) rfl #[.pointer (some ⟨g386, 0, none⟩), .slice Ao51 y148.length co51] rfl z3 ?_; (with_reducible refine (spec_l01Pick.calls g386 t111 t146 t147 _ _ y148 t106 t149 t150 w _ ?side1 ?side2 ?side3 ?side4 ?side5 A41.out).mono ?_); (case side1 => exact z6); (case side2 => exact z12); (case side3 => exact (by repeat (first | exact (Kd.R_reads' HO158.out).2.2 | (with_reducible refine Kd.C_alloc ?_ _) | (with_reducible refine Kd.C_drewN ?_ _) | (with_reducible refine Kd.C_drew ?_)))); (case side4 => exact (Kd.R_reads' HO158.out).2.1); (case side5 => exact far_slice (IsS93.own_ne HI129.out HO158.out (by decide))); rintro e w52 ⟨rfl, hi, hb, hk⟩; refine ⟨_, rfl, ?_⟩; replace HO_7 := zA (Kd.R_mono (Kd.R_keep (IsS93.apart (show IsS93 w _ g386 t111 t146 t147 from z6) z16 (by decide)) hk (fun _ h => h.2)) (fun _ h => h.1)); replace BK128 := zKB BK128 hk NB128_129; replace BK134 := zKB BK134 hk NB134_129; replace HO158 := zA (Kd.R_mono (Kd.R_keep (IsS93.apart (show IsS93 w _ g386 t111 t146 t147 from z6) z98 (by decide)) hk (fun _ h => h.2)) (fun _ h => h.1)); replace HB := zA (hb); replace HI129 := zA (hi); (try clear hb); (try clear hb2); (try clear hk); (try clear hi)) | ((with_reducible refine gate_builtin (b := .append) (xs := #[.tmp 50, .tmp 54]) rfl ?_); at_builtin; refine Kd.R_append (Kd.int .i64) (w0 := w) w.heap.size rfl (.tmp 50) (.tmp 54) 24 2 (.int .i64 0) 8 rfl Try.underlying24 info2 rfl (by decide) (by omega) u7 x7_29 t106 [.int .i64 t106] (fun k_ => some k_ ≠ (.slice Ao51 y148.length co51 : Value).ownBlock) (fun _ => False) rfl rfl ?aP (fun _ hk => hk.elim) ?aF ?aO ?aB ?aS ?aL ?_; (case aP => exact rfl); (case aB => exact z12); (case aF => exact (fun k_ hk => Kd.fresh' (Kd.R_lt z98) k_ hk)); (case aO => exact (by (with_reducible repeat (first | apply Kd.R_alloc | apply Kd.R_drewN | apply Kd.R_drew)); exact Kd.R_mono HO_7.out (fun _ hk => hk.2))); (case aS => exact (below_size z12)); (case aL => have := LMc42.out; omega); intro v159 w53 ho hb hg hat; rw [← Ny151.out] at ho; replace BK128 := zA (blk_grown (g := gb128) (o := .cells #[.int .i64 0, .int .i64 0, .int .i64 0, .int .i64 0] 27 (0, 0)) z53 hg (Kd.R_ne HO_7.out BK128.out (by decide))); replace BK134 := zA (blk_grown (g := gb134) (o := .cells #[.int .i64 t113, .int .i64 t120, .int .i64 t121, .int .i64 t122] 27 (0, 0)) z68 hg (Kd.R_ne HO_7.out BK134.out (by decide))); replace HI129 := zA (IsS93.grown z6 hg (IsS93.own_ne HI129.out HO_7.out (by decide))); replace HO158 := zA (Kd.R_after (ok := (fun _ => True)) z98 hg hat); replace HB := zA (hb); have HO160 := zA (ho); clear HO_7; clear ho hb hg hat; obtain ⟨hcz54_0, hcz54_1, hcz54_2, hcz54_3, hfz54_0, hfz54_1, hfz54_2, hfz54_3⟩ := zC4 BK134.out) | ((with_reducible refine gate_callee (f := 77) rfl ?_); refine goesL_ (some 63) rfl rfl Try.func77 (by kernel_rfl) rfl #[.pointer (some ⟨g386, 0, none⟩), .agg #[.int .i64 t113, .int .i64 t120, .int .i64 t121, .int .i64 t122]] rfl z3 ?_; (with_reducible refine (spec_l08Bad.calls g386 t111 t149 t150 t113 t120 t121 t122 t107 t152 t153 t154 t155 t156 w _ ?side1 ?side2 A43.out).mono ?_); (case side1 => exact z6); (case side2 => exact z12); rintro e w55 ⟨rfl, hi, hb, hk⟩; refine ⟨_, rfl, ?_⟩; replace BK128 := zKB BK128 hk NB128_129; replace BK134 := zKB BK134 hk NB134_129; replace HO158 := zA (Kd.R_mono (Kd.R_keep (IsS93.apart (show IsS93 w _ g386 t111 t149 t150 from z6) z98 (by decide)) hk (fun _ h => h.2)) (fun _ h => h.1)); replace HO160 := zA (Kd.R_mono (Kd.R_keep (IsS93.apart (show IsS93 w _ g386 t111 t149 t150 from z6) (zr HO160.out) (by decide)) hk (fun _ h => h.2)) (fun _ h => h.1)); replace HB := zA (hb); replace HI129 := zA (hi); (try clear hb); (try clear hb2); (try clear hk); (try clear hi); have hnb56 := NB128_129.out; have hnc56 := NB129_128.out; obtain ⟨hcz57_0, hcz57_1, hcz57_2, hcz57_3, hfz57_0, hfz57_1, hfz57_2, hfz57_3⟩ := zC4 BK128.out))
        refine bodyPost_ret (results_ctt rfl _ _ gb128 27 #[.int .i64 t107, .int .i64 t152, .int .i64 t153, .int .i64 t154] (0, 0) _ rfl (by (with_reducible repeat (first | refine blk_drewN ?_ _ | refine blk_drew ?_ | refine blk_alloc ?_ _)); refine blk_put (cs := #[.int .i64 t107, .int .i64 t152, .int .i64 t153, .int .i64 0]) ?_ 3 _ rfl; (with_reducible repeat (first | refine blk_drewN ?_ _ | refine blk_drew ?_ | refine blk_alloc ?_ _)); refine blk_put (cs := #[.int .i64 t107, .int .i64 t152, .int .i64 0, .int .i64 0]) ?_ 2 _ rfl; (with_reducible repeat (first | refine blk_drewN ?_ _ | refine blk_drew ?_ | refine blk_alloc ?_ _)); refine blk_put (cs := #[.int .i64 t107, .int .i64 0, .int .i64 0, .int .i64 0]) ?_ 1 _ rfl; (with_reducible repeat (first | refine blk_drewN ?_ _ | refine blk_drew ?_ | refine blk_alloc ?_ _)); refine blk_put (cs := #[.int .i64 0, .int .i64 0, .int .i64 0, .int .i64 0]) ?_ 0 _ rfl; (with_reducible repeat (first | refine blk_drewN ?_ _ | refine blk_drew ?_ | refine blk_alloc ?_ _)); exact BK128.out) Try.underlying27 rfl (by kernel_rfl)) rfl ?_
        exact ⟨_, z8, (by (with_reducible repeat (first | apply Kd.R_alloc | apply Kd.R_drewN | apply Kd.R_drew)); exact Kd.R_mono (Kd.R_far (p := ⟨gb128, 3, none⟩) (Kd.R_far (p := ⟨gb128, 2, none⟩) (Kd.R_far (p := ⟨gb128, 1, none⟩) (Kd.R_far (p := ⟨gb128, 0, none⟩) (Kd.R_types HO160.out BK128.out (by decide)) (fun _ hk => hk.2) (.int .i64 t107)) (fun _ hk => hk.2) (.int .i64 t152)) (fun _ hk => hk.2) (.int .i64 t153)) (fun _ hk => hk.2) (.int .i64 t154)) (fun _ hk => trivial)), z12⟩
       ·rw [if_neg c42] at H
        exact absurd H (by simp)
      ·rw [if_neg c40] at H
       have c40b0 : (t105 == 0) = false := beq_eq_false_iff_ne.mpr c40
       have c40b1 : (t105 != 0) = true := bne_iff_ne.mpr c40
       by_cases c58 : t105 = 1
       ·rw [if_pos c58] at H
        have c58b0 : (t105 == 1) = true := beq_iff_eq.mpr c58
        have c58b1 : (t105 != 1) = false := bne_eq_false_iff_eq.mpr c58
        clear c58
        obtain ⟨y161, hy161⟩ : ∃ y_ : List Int, y_ = (([0, (-1), 4096] : List Int)) := ⟨_, rfl⟩
        replace H : ((spec_l01Pick.f t111 t146 t147 y161).bind fun bt108 => ((spec_l08Bad.f t111 bt108.2.1 bt108.2.2 t113 t120 t121 t122).bind fun bt109 => (some (bt109.1, bt109.2.1, bt109.2.2.1, bt109.2.2.2.1, x7_29, bt108.1)))) = some (r1, r2, r3, r4, r5, r6) := by first | (rw [hy161]; with_reducible exact H) | (have H2_ := (Option.bind_some _ _).symm.trans H; rw [hy161]; with_reducible exact H2_) | (have H2_ := (Option.bind_some _ _).symm.trans H; with_reducible exact H2_) | with_reducible exact H | (rw [hy161]; exact H) | exact H
        have Ny161 := zA hy161
        clear hy161
        replace H := zi H
        obtain ⟨⟨t108, t162, t163⟩, A590, H⟩ := H
        (try dsimp -simprocs only at H)
        have A59 := zA A590
        clear A590
        replace H := zi H
        obtain ⟨⟨t109, t164, t165, t166, t167, t168⟩, A600, H⟩ := H
        (try dsimp -simprocs only at H)
        have A60 := zA A600
        clear A600
        simp only [Option.some.injEq, Prod.mk.injEq] at H
        obtain ⟨rfl, rfl, rfl, rfl, rfl, rfl⟩ := H
        have hnb61 := NB134_128.out
        have hnc61 := NB128_134.out
        have hnb62 := NB134_129.out
        have hnc62 := NB129_134.out
        obtain ⟨hcz63_0, hcz63_1, hcz63_2, hcz63_3, hfz63_0, hfz63_1, hfz63_2, hfz63_3⟩ := zC4 BK134.out
        go_wp2_with (first | ((with_reducible refine gate_callee (f := 74) rfl ?_); refine goesL_ (some 45) rfl rfl Try.func74 (by kernel_rfl) rfl #[.pointer (some ⟨g386, 0, none⟩), .int .i64 t113, .int .i64 t121] rfl z3 ?_; (with_reducible refine (spec_l08DrawSet.calls kj29 g386 t111 t139 t140 t113 t121 t104 t144 t145 w _ ?side1 ?side2 A38.out).mono ?_); (case side1 => exact z6); (case side2 => exact z12); rintro e w64 ⟨rfl, hi, hb, hk⟩; refine ⟨_, rfl, ?_⟩; replace HO_7 := zA (Kd.R_mono (Kd.R_keep (IsS93.apart (show IsS93 w _ g386 t111 t139 t140 from z6) z16 (by decide)) hk (fun _ h => h.2)) (fun _ h => h.1)); replace BK128 := zKB BK128 hk NB128_129; replace BK134 := zKB BK134 hk NB134_129; replace HB := zA (hb); replace HI129 := zA (hi); (try clear hb); (try clear hb2); (try clear hk); (try clear hi)) | ((with_reducible refine gate_callee (f := 75) rfl ?_); refine goesL_ (some 47) rfl rfl Try.func75 (by kernel_rfl) rfl #[.pointer (some ⟨g386, 0, none⟩), .int .i64 24] rfl z3 ?_; (with_reducible refine (spec_l01Next.calls g386 t111 t144 t145 24 t105 t146 t147 w _ ?side1 ?side2 A39.out).mono ?_); (case side1 => exact z6); (case side2 => exact z12); rintro e w65 ⟨rfl, hi, hb, hk⟩; refine ⟨_, rfl, ?_⟩; replace HO_7 := zA (Kd.R_mono (Kd.R_keep (IsS93.apart (show IsS93 w _ g386 t111 t144 t145 from z6) z16 (by decide)) hk (fun _ h => h.2)) (fun _ h => h.1)); replace BK128 := zKB BK128 hk NB128_129; replace BK134 := zKB BK134 hk NB134_129; replace HB := zA (hb); replace HI129 := zA (hi); (try clear hb); (try clear hb2); (try clear hk); (try clear hi)) | ((with_reducible refine gate_dst (N := 59) rfl ?_); refine Kd.R_lit (Kd.int .i64) _ 2 ?hg (N := 59) ?hd (xs := ([0, (-1), 4096] : List Int)) (inner := [.int .i64 0, .int .i64 (-1), .int .i64 4096]) (ok := fun _ => True) (okp := fun _ => True) ?hr ?hp (fun _ hk => hk) trivial (Below.refl _ _) (Nat.le_refl _) (by simp) ?_; (case hd => rfl); (case hg => rfl); (case hr => first | (go_simp; done) | (go_simp; rfl)); (case hp => exact (Reps.one (show Kd.M (Kd.int .i64) _ _ _ 0 [.int .i64 0] from rfl) (Reps.one (show Kd.M (Kd.int .i64) _ _ _ (-1) [.int .i64 (-1)] from rfl) (Reps.one (show Kd.M (Kd.int .i64) _ _ _ 4096 [.int .i64 4096] from rfl) (Reps.none _ _))))); intro v169 w66 ho67 hb hg_ hnew_; clear hg_ hnew_; (first | rw [← Ny161.out] at ho67 | (simp only [Int.reduceToNat] at ho67; rw [← Ny161.out] at ho67)); have HO170 := zA (Kd.R_lower (Kd.R_new' ho67 (Kd.R_lt z16)) (below_size z12)); replace HO_7 := zA (Kd.R_elder' z16 (Kd.R_base ho67) hb); replace BK128 := zBB BK128 hb; replace BK134 := zBB BK134 hb; replace HB := zA (below_step z12 hb); replace HI129 := zA (IsS93.below z6 hb); clear hb ho67; obtain ⟨Ao68, co68, eo68⟩ := Kd.R_slice HO170.out; subst eo68) | ((with_reducible refine gate_callee (f := 76) rfl ?_); refine goesL_ (some 60) rfl rfl Try.func76 (by kernel_rfl) rfl #[.pointer (some ⟨g386, 0, none⟩), .slice Ao68 y161.length co68] rfl z3 ?_; (with_reducible refine (spec_l01Pick.calls g386 t111 t146 t147 _ _ y161 t108 t162 t163 w _ ?side1 ?side2 ?side3 ?side4 ?side5 A59.out).mono ?_); (case side1 => exact z6); (case side2 => exact z12); (case side3 => exact (by repeat (first | exact (Kd.R_reads' HO170.out).2.2 | (with_reducible refine Kd.C_alloc ?_ _) | (with_reducible refine Kd.C_drewN ?_ _) | (with_reducible refine Kd.C_drew ?_)))); (case side4 => exact (Kd.R_reads' HO170.out).2.1); (case side5 => exact far_slice (IsS93.own_ne HI129.out HO170.out (by decide))); rintro e w69 ⟨rfl, hi, hb, hk⟩; refine ⟨_, rfl, ?_⟩; replace HO_7 := zA (Kd.R_mono (Kd.R_keep (IsS93.apart (show IsS93 w _ g386 t111 t146 t147 from z6) z16 (by decide)) hk (fun _ h => h.2)) (fun _ h => h.1)); replace BK128 := zKB BK128 hk NB128_129; replace BK134 := zKB BK134 hk NB134_129; replace HO170 := zA (Kd.R_mono (Kd.R_keep (IsS93.apart (show IsS93 w _ g386 t111 t146 t147 from z6) z138 (by decide)) hk (fun _ h => h.2)) (fun _ h => h.1)); replace HB := zA (hb); replace HI129 := zA (hi); (try clear hb); (try clear hb2); (try clear hk); (try clear hi); obtain ⟨hcz70_0, hcz70_1, hcz70_2, hcz70_3, hfz70_0, hfz70_1, hfz70_2, hfz70_3⟩ := zC4 BK134.out) | ((with_reducible refine gate_callee (f := 77) rfl ?_); refine goesL_ (some 63) rfl rfl Try.func77 (by kernel_rfl) rfl #[.pointer (some ⟨g386, 0, none⟩), .agg #[.int .i64 t113, .int .i64 t120, .int .i64 t121, .int .i64 t122]] rfl z3 ?_; (with_reducible refine (spec_l08Bad.calls g386 t111 t162 t163 t113 t120 t121 t122 t109 t164 t165 t166 t167 t168 w _ ?side1 ?side2 A60.out).mono ?_); (case side1 => exact z6); (case side2 => exact z12); rintro e w71 ⟨rfl, hi, hb, hk⟩; refine ⟨_, rfl, ?_⟩; replace HO_7 := zA (Kd.R_mono (Kd.R_keep (IsS93.apart (show IsS93 w _ g386 t111 t162 t163 from z6) z16 (by decide)) hk (fun _ h => h.2)) (fun _ h => h.1)); replace BK128 := zKB BK128 hk NB128_129; replace BK134 := zKB BK134 hk NB134_129; replace HO170 := zA (Kd.R_mono (Kd.R_keep (IsS93.apart (show IsS93 w _ g386 t111 t162 t163 from z6) z138 (by decide)) hk (fun _ h => h.2)) (fun _ h => h.1)); replace HB := zA (hb); replace HI129 := zA (hi); (try clear hb); (try clear hb2); (try clear hk); (try clear hi); have hnb72 := NB128_129.out; have hnc72 := NB129_128.out; obtain ⟨hcz73_0, hcz73_1, hcz73_2, hcz73_3, hfz73_0, hfz73_1, hfz73_2, hfz73_3⟩ := zC4 BK128.out))
        refine bodyPost_ret (results_ctt rfl _ _ gb128 27 #[.int .i64 t109, .int .i64 t164, .int .i64 t165, .int .i64 t166] (0, 0) _ rfl (by (with_reducible repeat (first | refine blk_drewN ?_ _ | refine blk_drew ?_ | refine blk_alloc ?_ _)); refine blk_put (cs := #[.int .i64 t109, .int .i64 t164, .int .i64 t165, .int .i64 0]) ?_ 3 _ rfl; (with_reducible repeat (first | refine blk_drewN ?_ _ | refine blk_drew ?_ | refine blk_alloc ?_ _)); refine blk_put (cs := #[.int .i64 t109, .int .i64 t164, .int .i64 0, .int .i64 0]) ?_ 2 _ rfl; (with_reducible repeat (first | refine blk_drewN ?_ _ | refine blk_drew ?_ | refine blk_alloc ?_ _)); refine blk_put (cs := #[.int .i64 t109, .int .i64 0, .int .i64 0, .int .i64 0]) ?_ 1 _ rfl; (with_reducible repeat (first | refine blk_drewN ?_ _ | refine blk_drew ?_ | refine blk_alloc ?_ _)); refine blk_put (cs := #[.int .i64 0, .int .i64 0, .int .i64 0, .int .i64 0]) ?_ 0 _ rfl; (with_reducible repeat (first | refine blk_drewN ?_ _ | refine blk_drew ?_ | refine blk_alloc ?_ _)); exact BK128.out) Try.underlying27 rfl (by kernel_rfl)) rfl ?_
        exact ⟨_, z8, (by (with_reducible repeat (first | apply Kd.R_alloc | apply Kd.R_drewN | apply Kd.R_drew)); exact Kd.R_mono (Kd.R_far (p := ⟨gb128, 3, none⟩) (Kd.R_far (p := ⟨gb128, 2, none⟩) (Kd.R_far (p := ⟨gb128, 1, none⟩) (Kd.R_far (p := ⟨gb128, 0, none⟩) (Kd.R_types HO_7.out BK128.out (by decide)) (fun _ hk => hk.2) (.int .i64 t109)) (fun _ hk => hk.2) (.int .i64 t164)) (fun _ hk => hk.2) (.int .i64 t165)) (fun _ hk => hk.2) (.int .i64 t166)) (fun _ hk => trivial)), z12⟩
       ·rw [if_neg c58] at H
        have c58b0 : (t105 == 1) = false := beq_eq_false_iff_ne.mpr c58
        have c58b1 : (t105 != 1) = true := bne_iff_ne.mpr c58
        replace H := zi H
        obtain ⟨⟨t110, t171, t172, t173, t174, t175⟩, A740, H⟩ := H
        (try dsimp -simprocs only at H)
        have A74 := zA A740
        clear A740
        simp only [Option.some.injEq, Prod.mk.injEq] at H
        obtain ⟨rfl, rfl, rfl, rfl, rfl, rfl⟩ := H
        have hnb75 := NB134_128.out
        have hnc75 := NB128_134.out
        have hnb76 := NB134_129.out
        have hnc76 := NB129_134.out
        obtain ⟨hcz77_0, hcz77_1, hcz77_2, hcz77_3, hfz77_0, hfz77_1, hfz77_2, hfz77_3⟩ := zC4 BK134.out
        go_wp2_with (first | ((with_reducible refine gate_callee (f := 74) rfl ?_); refine goesL_ (some 45) rfl rfl Try.func74 (by kernel_rfl) rfl #[.pointer (some ⟨g386, 0, none⟩), .int .i64 t113, .int .i64 t121] rfl z3 ?_; (with_reducible refine (spec_l08DrawSet.calls kj29 g386 t111 t139 t140 t113 t121 t104 t144 t145 w _ ?side1 ?side2 A38.out).mono ?_); (case side1 => exact z6); (case side2 => exact z12); rintro e w78 ⟨rfl, hi, hb, hk⟩; refine ⟨_, rfl, ?_⟩; replace HO_7 := zA (Kd.R_mono (Kd.R_keep (IsS93.apart (show IsS93 w _ g386 t111 t139 t140 from z6) z16 (by decide)) hk (fun _ h => h.2)) (fun _ h => h.1)); replace BK128 := zKB BK128 hk NB128_129; replace BK134 := zKB BK134 hk NB134_129; replace HB := zA (hb); replace HI129 := zA (hi); (try clear hb); (try clear hb2); (try clear hk); (try clear hi)) | ((with_reducible refine gate_callee (f := 75) rfl ?_); refine goesL_ (some 47) rfl rfl Try.func75 (by kernel_rfl) rfl #[.pointer (some ⟨g386, 0, none⟩), .int .i64 24] rfl z3 ?_; (with_reducible refine (spec_l01Next.calls g386 t111 t144 t145 24 t105 t146 t147 w _ ?side1 ?side2 A39.out).mono ?_); (case side1 => exact z6); (case side2 => exact z12); rintro e w79 ⟨rfl, hi, hb, hk⟩; refine ⟨_, rfl, ?_⟩; replace HO_7 := zA (Kd.R_mono (Kd.R_keep (IsS93.apart (show IsS93 w _ g386 t111 t144 t145 from z6) z16 (by decide)) hk (fun _ h => h.2)) (fun _ h => h.1)); replace BK128 := zKB BK128 hk NB128_129; replace BK134 := zKB BK134 hk NB134_129; replace HB := zA (hb); replace HI129 := zA (hi); (try clear hb); (try clear hb2); (try clear hk); (try clear hi); obtain ⟨hcz80_0, hcz80_1, hcz80_2, hcz80_3, hfz80_0, hfz80_1, hfz80_2, hfz80_3⟩ := zC4 BK134.out) | ((with_reducible refine gate_callee (f := 77) rfl ?_); refine goesL_ (some 63) rfl rfl Try.func77 (by kernel_rfl) rfl #[.pointer (some ⟨g386, 0, none⟩), .agg #[.int .i64 t113, .int .i64 t120, .int .i64 t121, .int .i64 t122]] rfl z3 ?_; (with_reducible refine (spec_l08Bad.calls g386 t111 t146 t147 t113 t120 t121 t122 t110 t171 t172 t173 t174 t175 w _ ?side1 ?side2 A74.out).mono ?_); (case side1 => exact z6); (case side2 => exact z12); rintro e w81 ⟨rfl, hi, hb, hk⟩; refine ⟨_, rfl, ?_⟩; replace HO_7 := zA (Kd.R_mono (Kd.R_keep (IsS93.apart (show IsS93 w _ g386 t111 t146 t147 from z6) z16 (by decide)) hk (fun _ h => h.2)) (fun _ h => h.1)); replace BK128 := zKB BK128 hk NB128_129; replace BK134 := zKB BK134 hk NB134_129; replace HB := zA (hb); replace HI129 := zA (hi); (try clear hb); (try clear hb2); (try clear hk); (try clear hi); have hnb82 := NB128_129.out; have hnc82 := NB129_128.out; obtain ⟨hcz83_0, hcz83_1, hcz83_2, hcz83_3, hfz83_0, hfz83_1, hfz83_2, hfz83_3⟩ := zC4 BK128.out))
        refine bodyPost_ret (results_ctt rfl _ _ gb128 27 #[.int .i64 t110, .int .i64 t171, .int .i64 t172, .int .i64 t173] (0, 0) _ rfl (by (with_reducible repeat (first | refine blk_drewN ?_ _ | refine blk_drew ?_ | refine blk_alloc ?_ _)); refine blk_put (cs := #[.int .i64 t110, .int .i64 t171, .int .i64 t172, .int .i64 0]) ?_ 3 _ rfl; (with_reducible repeat (first | refine blk_drewN ?_ _ | refine blk_drew ?_ | refine blk_alloc ?_ _)); refine blk_put (cs := #[.int .i64 t110, .int .i64 t171, .int .i64 0, .int .i64 0]) ?_ 2 _ rfl; (with_reducible repeat (first | refine blk_drewN ?_ _ | refine blk_drew ?_ | refine blk_alloc ?_ _)); refine blk_put (cs := #[.int .i64 t110, .int .i64 0, .int .i64 0, .int .i64 0]) ?_ 1 _ rfl; (with_reducible repeat (first | refine blk_drewN ?_ _ | refine blk_drew ?_ | refine blk_alloc ?_ _)); refine blk_put (cs := #[.int .i64 0, .int .i64 0, .int .i64 0, .int .i64 0]) ?_ 0 _ rfl; (with_reducible repeat (first | refine blk_drewN ?_ _ | refine blk_drew ?_ | refine blk_alloc ?_ _)); exact BK128.out) Try.underlying27 rfl (by kernel_rfl)) rfl ?_
        exact ⟨_, z8, (by (with_reducible repeat (first | apply Kd.R_alloc | apply Kd.R_drewN | apply Kd.R_drew)); exact Kd.R_mono (Kd.R_far (p := ⟨gb128, 3, none⟩) (Kd.R_far (p := ⟨gb128, 2, none⟩) (Kd.R_far (p := ⟨gb128, 1, none⟩) (Kd.R_far (p := ⟨gb128, 0, none⟩) (Kd.R_types HO_7.out BK128.out (by decide)) (fun _ hk => hk.2) (.int .i64 t110)) (fun _ hk => hk.2) (.int .i64 t171)) (fun _ hk => hk.2) (.int .i64 t172)) (fun _ hk => hk.2) (.int .i64 t173)) (fun _ hk => trivial)), z12⟩

def spec_DrawGuarantees.f (k : Nat) (l0 : List Int) : Option (Int × Int × Int × Int × List Int) := (spec_l08With.f k l0).bind fun bt100 => (some (bt100.1, bt100.2.1, bt100.2.2.1, bt100.2.2.2.1, bt100.2.2.2.2.1))
set_option maxHeartbeats 8000000 in
set_option maxRecDepth 100000 in
theorem spec_DrawGuarantees.calls (k : Nat) (A0 : Option Addr) (c0 : Nat) (l0 : List Int) (r1 : Int) (r2 : Int) (r3 : Int) (r4 : Int) (r5 : List Int) (w : World) (hr0 : Kd.C (Kd.int .u8) w A0 l0.length l0) (hc0 : l0.length ≤ c0) (h : spec_DrawGuarantees.f k l0 = some (r1, r2, r3, r4, r5)) :
  Calls Try.prog 43 #[.slice A0 l0.length c0] w fun e w' => ∃ v4_ : Value, e = .returned (.tuple #[.agg #[.int .i64 r1, .int .i64 r2, .int .i64 r3, .int .i64 r4], v4_]) ∧ Kd.R (Kd.int .i64) 2 w' w.heap.size (fun _ => True) v4_ r5 ∧ Below w.heap.size w w' := by
 have hu27 := Try.underlying27
 have HR0 := zA hr0
 have HC0 := zA hc0
 clear hr0 hc0
 have HB := zA (Below.refl w.heap.size w)
 have H : ((spec_l08With.f k l0).bind fun bt100 => (some (bt100.1, bt100.2.1, bt100.2.2.1, bt100.2.2.2.1, bt100.2.2.2.2.1))) = some (r1, r2, r3, r4, r5) := h
 clear h
 replace H := zi H
 obtain ⟨⟨t100, t101, t102, t103, t104, t105⟩, A20, H⟩ := H
 (try dsimp -simprocs only at H)
 have A2 := zA A20
 clear A20
 simp only [Option.some.injEq, Prod.mk.injEq] at H
 obtain ⟨rfl, rfl, rfl, rfl, rfl⟩ := H
 go_enter Try.func43, Try.ntmps43
 go_wp2_with (first | ((with_reducible refine gate_dst (N := 2) rfl ?_); refine zbox (N := 2) (cs := #[.int .i64 0, .int .i64 0, .int .i64 0, .int .i64 0]) (t := 27) ?_; intro gb106 hg w3 hbox hb; have BK106 := zA (hbox); have GW106 := zA ((z151 : w.heap.size ≤ gb106)); have GE106 := zA ((z151 : w.heap.size ≤ gb106)); replace HB := zA (below_step z1 hb); clear hb hbox hg) | ((with_reducible refine gate_callee (f := 89) rfl ?_); refine goesL_ (some 9) rfl rfl Try.func89 (by kernel_rfl) rfl #[.slice A0 l0.length c0] rfl z3 ?_; (with_reducible refine (spec_l08With.calls k _ _ l0 t100 t101 t102 t103 t104 t105 _ ?side1 ?side2 A2.out).mono ?_); (case side1 => exact z83); (case side2 => exact HC0.out); rintro e w4 ⟨v107, rfl, ho0, hb⟩; refine ⟨_, rfl, ?_⟩; have HO108 := zA (Kd.R_lower ho0 (below_size z21)); replace BK106 := zBB BK106 hb; replace HB := zA (below_step z21 hb); (try clear hb); (try clear hb2); (try clear hk); (try clear hi); (try clear ho0)) | ((with_reducible refine gate_dst (N := 4) rfl ?_); refine zbox (N := 4) (cs := #[.int .i64 0, .int .i64 0, .int .i64 0, .int .i64 0]) (t := 27) ?_; intro gb109 hg w5 hbox hb; replace HO108 := zA (Kd.R_below z64 hb); have BK109 := zA (hbox); have GW109 := zA (((by rw [hg]; exact (below_size z21)) : w.heap.size ≤ gb109)); have GE109 := zA (((by rw [hg]; exact (below_size z21)) : w.heap.size ≤ gb109)); replace HB := zA (below_step z21 hb); have NB106_109 := zA (((by rw [hg]; exact Nat.ne_of_lt (blk_lt (g := gb106) (o := .cells #[.int .i64 0, .int .i64 0, .int .i64 0, .int .i64 0] 27 (0, 0)) z67)) : gb106 ≠ gb109)); have NB109_106 := zA (((by rw [hg]; exact Nat.ne_of_gt (blk_lt (g := gb106) (o := .cells #[.int .i64 0, .int .i64 0, .int .i64 0, .int .i64 0] 27 (0, 0)) z67)) : gb109 ≠ gb106)); replace BK106 := zBB BK106 hb; clear hb hbox hg; have hnb6 := NB109_106.out; have hnc6 := NB106_109.out; obtain ⟨hcz7_0, hcz7_1, hcz7_2, hcz7_3, hfz7_0, hfz7_1, hfz7_2, hfz7_3⟩ := zC4 BK109.out; obtain ⟨hcz8_0, hcz8_1, hcz8_2, hcz8_3, hfz8_0, hfz8_1, hfz8_2, hfz8_3⟩ := zC4 BK106.out))
 refine bodyPost_ret (results_ct rfl _ _ gb106 27 #[.int .i64 t100, .int .i64 t101, .int .i64 t102, .int .i64 t103] (0, 0) _ rfl (by (with_reducible repeat (first | refine blk_drewN ?_ _ | refine blk_drew ?_ | refine blk_alloc ?_ _)); refine blk_put (cs := #[.int .i64 t100, .int .i64 t101, .int .i64 t102, .int .i64 0]) ?_ 3 _ rfl; (with_reducible repeat (first | refine blk_drewN ?_ _ | refine blk_drew ?_ | refine blk_alloc ?_ _)); refine blk_put (cs := #[.int .i64 t100, .int .i64 t101, .int .i64 0, .int .i64 0]) ?_ 2 _ rfl; (with_reducible repeat (first | refine blk_drewN ?_ _ | refine blk_drew ?_ | refine blk_alloc ?_ _)); refine blk_put (cs := #[.int .i64 t100, .int .i64 0, .int .i64 0, .int .i64 0]) ?_ 1 _ rfl; (with_reducible repeat (first | refine blk_drewN ?_ _ | refine blk_drew ?_ | refine blk_alloc ?_ _)); refine blk_put (cs := #[.int .i64 0, .int .i64 0, .int .i64 0, .int .i64 0]) ?_ 0 _ rfl; (with_reducible repeat (first | refine blk_drewN ?_ _ | refine blk_drew ?_ | refine blk_alloc ?_ _)); refine blk_far ?_ NB106_109.out _; (with_reducible repeat (first | refine blk_drewN ?_ _ | refine blk_drew ?_ | refine blk_alloc ?_ _)); refine blk_far ?_ NB106_109.out _; (with_reducible repeat (first | refine blk_drewN ?_ _ | refine blk_drew ?_ | refine blk_alloc ?_ _)); refine blk_far ?_ NB106_109.out _; (with_reducible repeat (first | refine blk_drewN ?_ _ | refine blk_drew ?_ | refine blk_alloc ?_ _)); refine blk_far ?_ NB106_109.out _; (with_reducible repeat (first | refine blk_drewN ?_ _ | refine blk_drew ?_ | refine blk_alloc ?_ _)); exact BK106.out) Try.underlying27 rfl (by kernel_rfl)) rfl ?_
 exact ⟨_, z8, (by (with_reducible repeat (first | apply Kd.R_alloc | apply Kd.R_drewN | apply Kd.R_drew)); exact Kd.R_mono (Kd.R_far (p := ⟨gb106, 3, none⟩) (Kd.R_far (p := ⟨gb106, 2, none⟩) (Kd.R_far (p := ⟨gb106, 1, none⟩) (Kd.R_far (p := ⟨gb106, 0, none⟩) (Kd.R_far (p := ⟨gb109, 3, none⟩) (Kd.R_far (p := ⟨gb109, 2, none⟩) (Kd.R_far (p := ⟨gb109, 1, none⟩) (Kd.R_far (p := ⟨gb109, 0, none⟩) (Kd.R_types (Kd.R_types HO108.out BK109.out (by decide)) BK106.out (by decide)) (fun _ hk => hk.1.2) (.int .i64 t100)) (fun _ hk => hk.1.2) (.int .i64 t101)) (fun _ hk => hk.1.2) (.int .i64 t102)) (fun _ hk => hk.1.2) (.int .i64 t103)) (fun _ hk => hk.2) (.int .i64 t100)) (fun _ hk => hk.2) (.int .i64 t101)) (fun _ hk => hk.2) (.int .i64 t102)) (fun _ hk => hk.2) (.int .i64 t103)) (fun _ hk => trivial)), (by repeat (first | (with_reducible first | exact HB.out | apply below_alloc | apply pw_below_drewN | apply below_drew1 | refine below_set ?_ GE106.out | refine below_set ?_ GE109.out) | exact HB.out))⟩

def impl_Guarantees.f (k : Nat) (a0_0 : Int) (a0_1 : Int) (a0_2 : Int) (a0_3 : Int) (l1 : List Int) : Option (Bool × Int) := (impl_ticketsCode.f k a0_0 a0_1 a0_2 a0_3 l1).bind fun t100 => (if t100 = 0 then ((impl_missed.f k a0_0 a0_1 a0_2 a0_3 l1).bind fun t101 => (some (((t101.length : Int) == 0), 0))) else (some (false, t100)))
set_option maxHeartbeats 8000000 in
set_option maxRecDepth 100000 in
theorem impl_Guarantees.calls (k : Nat) (a0_0 : Int) (a0_1 : Int) (a0_2 : Int) (a0_3 : Int) (A1 : Option Addr) (c1 : Nat) (l1 : List Int) (r1 : Bool) (r2 : Int) (w : World) (hr1 : Kd.C (Kd.int .i64) w A1 l1.length l1) (hc1 : l1.length ≤ c1) (h : impl_Guarantees.f k a0_0 a0_1 a0_2 a0_3 l1 = some (r1, r2)) :
  Calls Try.prog 44 #[.agg #[.int .i64 a0_0, .int .i64 a0_1, .int .i64 a0_2, .int .i64 a0_3], .slice A1 l1.length c1] w fun e w' => e = .returned (.tuple #[.bool r1, .int .i64 r2]) ∧ Below w.heap.size w w' := by
 have hu27 := Try.underlying27
 have HR1 := zA hr1
 have HC1 := zA hc1
 clear hr1 hc1
 have HB := zA (Below.refl w.heap.size w)
 have H := h
 unfold impl_Guarantees.f at H
 (try dsimp -simprocs only at H)
 clear h
 replace H := zi H
 obtain ⟨t100, A30, H⟩ := H
 (try dsimp -simprocs only at H)
 have A3 := zA A30
 clear A30
 by_cases c4 : t100 = 0
 ·rw [if_pos c4] at H
  have c4b0 : (t100 == 0) = true := beq_iff_eq.mpr c4
  have c4b1 : (t100 != 0) = false := bne_eq_false_iff_eq.mpr c4
  clear c4
  replace H := zi H
  obtain ⟨t101, A50, H⟩ := H
  replace H : (some (((t101.length : Int) == 0), 0)) = some (r1, r2) := H
  have A5 := zA A50
  clear A50
  simp only [Option.some.injEq, Prod.mk.injEq] at H
  obtain ⟨rfl, rfl⟩ := H
  go_enter Try.func44, Try.ntmps44
  go_wp2_with (first | ((with_reducible refine gate_dst (N := 2) rfl ?_); refine zbox (N := 2) (cs := #[.int .i64 a0_0, .int .i64 a0_1, .int .i64 a0_2, .int .i64 a0_3]) (t := 27) ?_; intro gb102 hg w6 hbox hb; have BK102 := zA (hbox); have GW102 := zA ((z151 : w.heap.size ≤ gb102)); have GE102 := zA ((z151 : w.heap.size ≤ gb102)); replace HB := zA (below_step z1 hb); clear hb hbox hg; obtain ⟨hcz7_0, hcz7_1, hcz7_2, hcz7_3, hfz7_0, hfz7_1, hfz7_2, hfz7_3⟩ := zC4 BK102.out) | ((with_reducible refine gate_callee (f := 93) rfl ?_); refine goesL_ (some 9) rfl rfl Try.func93 (by kernel_rfl) rfl #[.agg #[.int .i64 a0_0, .int .i64 a0_1, .int .i64 a0_2, .int .i64 a0_3], .slice A1 l1.length c1] rfl z3 ?_; (with_reducible refine (impl_ticketsCode.calls k a0_0 a0_1 a0_2 a0_3 _ _ l1 t100 _ ?side1 ?side2 A3.out).mono ?_); (case side1 => exact z17); (case side2 => exact HC1.out); rintro e w8 ⟨rfl, hb⟩; refine ⟨_, rfl, ?_⟩; replace BK102 := zBB BK102 hb; replace HB := zA (below_step z4 hb); (try clear hb); (try clear hb2); (try clear hk); (try clear hi); obtain ⟨hcz9_0, hcz9_1, hcz9_2, hcz9_3, hfz9_0, hfz9_1, hfz9_2, hfz9_3⟩ := zC4 BK102.out) | ((with_reducible refine gate_callee (f := 94) rfl ?_); refine goesL_ (some 15) rfl rfl Try.func94 (by kernel_rfl) rfl #[.agg #[.int .i64 a0_0, .int .i64 a0_1, .int .i64 a0_2, .int .i64 a0_3], .slice A1 l1.length c1] rfl z3 ?_; (with_reducible refine (impl_missed.calls k a0_0 a0_1 a0_2 a0_3 _ _ l1 t101 _ ?side1 ?side2 A5.out).mono ?_); (case side1 => exact z17); (case side2 => exact HC1.out); rintro e w10 ⟨v103, rfl, ho0, hb⟩; refine ⟨_, rfl, ?_⟩; have HO104 := zA (Kd.R_lower ho0 (below_size z4)); replace BK102 := zBB BK102 hb; replace HB := zA (below_step z4 hb); (try clear hb); (try clear hb2); (try clear hk); (try clear hi); (try clear ho0); obtain ⟨Ao11, co11, eo11⟩ := Kd.R_slice HO104.out; subst eo11))
  go_ret2
  exact ⟨z8, z4⟩
 ·rw [if_neg c4] at H
  have c4b0 : (t100 == 0) = false := beq_eq_false_iff_ne.mpr c4
  have c4b1 : (t100 != 0) = true := bne_iff_ne.mpr c4
  simp only [Option.some.injEq, Prod.mk.injEq] at H
  obtain ⟨rfl, rfl⟩ := H
  go_enter Try.func44, Try.ntmps44
  go_wp2_with (first | ((with_reducible refine gate_dst (N := 2) rfl ?_); refine zbox (N := 2) (cs := #[.int .i64 a0_0, .int .i64 a0_1, .int .i64 a0_2, .int .i64 a0_3]) (t := 27) ?_; intro gb102 hg w12 hbox hb; have BK102 := zA (hbox); have GW102 := zA ((z151 : w.heap.size ≤ gb102)); have GE102 := zA ((z151 : w.heap.size ≤ gb102)); replace HB := zA (below_step z1 hb); clear hb hbox hg; obtain ⟨hcz13_0, hcz13_1, hcz13_2, hcz13_3, hfz13_0, hfz13_1, hfz13_2, hfz13_3⟩ := zC4 BK102.out) | ((with_reducible refine gate_callee (f := 93) rfl ?_); refine goesL_ (some 9) rfl rfl Try.func93 (by kernel_rfl) rfl #[.agg #[.int .i64 a0_0, .int .i64 a0_1, .int .i64 a0_2, .int .i64 a0_3], .slice A1 l1.length c1] rfl z3 ?_; (with_reducible refine (impl_ticketsCode.calls k a0_0 a0_1 a0_2 a0_3 _ _ l1 t100 _ ?side1 ?side2 A3.out).mono ?_); (case side1 => exact z17); (case side2 => exact HC1.out); rintro e w14 ⟨rfl, hb⟩; refine ⟨_, rfl, ?_⟩; replace BK102 := zBB BK102 hb; replace HB := zA (below_step z4 hb); (try clear hb); (try clear hb2); (try clear hk); (try clear hi)))
  go_ret2
  exact ⟨z8, z4⟩

def spec_l08Set.f (k : Nat) (a0_0 : Int) (a0_1 : Int) (a0_2 : Int) (a0_3 : Int) (a1 : Int) (a2 : Int) : Option (Bool) := if 0 ≤ (IntKind.u64.wrap (a0_0)) then ((spec_l01In.f a1 0 (wrap64 ((shl .i64 1 (IntKind.u64.wrap (a0_0))) - 1))).bind fun t100 => (if t100 = true then ((spec_l08Size.f k a1).bind fun t101 => (some (t101 == a2))) else (some false))) else (none)
set_option maxHeartbeats 8000000 in
set_option maxRecDepth 100000 in
theorem spec_l08Set.calls (k : Nat) (a0_0 : Int) (a0_1 : Int) (a0_2 : Int) (a0_3 : Int) (a1 : Int) (a2 : Int) (r : Bool) (w : World) (h : spec_l08Set.f k a0_0 a0_1 a0_2 a0_3 a1 a2 = some r) :
  Calls Try.prog 80 #[.agg #[.int .i64 a0_0, .int .i64 a0_1, .int .i64 a0_2, .int .i64 a0_3], .int .i64 a1, .int .i64 a2] w fun e w' => e = .returned (.bool r) ∧ Below w.heap.size w w' := by
 have hu27 := Try.underlying27
 have HB := zA (Below.refl w.heap.size w)
 have H := h
 unfold spec_l08Set.f at H
 (try dsimp -simprocs only at H)
 clear h
 obtain ⟨ji4, hji4⟩ : ∃ j_ : Int, (IntKind.u64.wrap (a0_0)) = j_ := ⟨_, rfl⟩
 replace H : (if 0 ≤ (ji4) then ((spec_l01In.f a1 0 (wrap64 ((shl .i64 1 (ji4)) - 1))).bind fun t100 => (if t100 = true then ((spec_l08Size.f k a1).bind fun t101 => (some (t101 == a2))) else (some false))) else (none)) = some r := by first | (rw [hji4] at H; exact H) | (simp only [hji4] at H ⊢; exact H)
 by_cases c5 : 0 ≤ (ji4)
 ·rw [if_pos c5] at H
  have c5b0 := eq_true c5
  have c5b1 : decide (0 ≤ (ji4)) = true := decide_eq_true c5
  clear c5
  obtain ⟨ji6, hji6⟩ : ∃ j_ : Int, (shl .i64 1 (ji4)) = j_ := ⟨_, rfl⟩
  replace H : ((spec_l01In.f a1 0 (wrap64 ((ji6) - 1))).bind fun t100 => (if t100 = true then ((spec_l08Size.f k a1).bind fun t101 => (some (t101 == a2))) else (some false))) = some r := by first | (rw [hji6] at H; exact H) | (simp only [hji6] at H ⊢; exact H)
  have hji6_ : (IntKind.i64.wrap (1 * 2 ^ min (ji4).toNat 64)) = ji6 := hji6
  have hji6z : (ji4) ≤ 64 → (IntKind.i64.wrap (1 * 2 ^ (ji4).toNat)) = ji6 := shl_small hji6
  have hji6u : (IntKind.i64.wrap (2 ^ min (ji4).toNat 64)) = ji6 := by have h_ := hji6_; rw [Int.one_mul] at h_; exact h_
  have hji6v : (ji4) ≤ 64 → (IntKind.i64.wrap (2 ^ (ji4).toNat)) = ji6 := fun hle_ => by have h_ := hji6z hle_; rw [Int.one_mul] at h_; exact h_
  have hji6y : (wrap64 (1 * 2 ^ min (ji4).toNat 64)) = ji6 := (i64_w _).symm.trans hji6_
  have hji6x : (ji4) ≤ 64 → (wrap64 (1 * 2 ^ (ji4).toNat)) = ji6 := fun h_ => (i64_w _).symm.trans (hji6z h_)
  replace H := zi H
  obtain ⟨t100, A70, H⟩ := H
  (try dsimp -simprocs only at H)
  have A7 := zA A70
  clear A70
  by_cases c8 : t100 = true
  ·subst c8
   have H1 : ((spec_l08Size.f k a1).bind fun t101 => (some (t101 == a2))) = some r := by rw [if_pos rfl] at H; exact H
   clear H
   have H := H1
   clear H1
   replace H := zi H
   obtain ⟨t101, A90, H⟩ := H
   replace H : (some (t101 == a2)) = some r := H
   have A9 := zA A90
   clear A90
   obtain rfl := Option.some.inj H
   go_enter Try.func80, Try.ntmps80
   go_wp2_with (first | ((with_reducible refine gate_dst (N := 3) rfl ?_); refine zbox (N := 3) (cs := #[.int .i64 a0_0, .int .i64 a0_1, .int .i64 a0_2, .int .i64 a0_3]) (t := 27) ?_; intro gb102 hg w10 hbox hb; have BK102 := zA (hbox); have GW102 := zA ((z151 : w.heap.size ≤ gb102)); have GE102 := zA ((z151 : w.heap.size ≤ gb102)); replace HB := zA (below_step z1 hb); clear hb hbox hg; obtain ⟨hcz11_0, hcz11_1, hcz11_2, hcz11_3, hfz11_0, hfz11_1, hfz11_2, hfz11_3⟩ := zC4 BK102.out) | ((with_reducible refine gate_callee (f := 85) rfl ?_); refine goesL_ (some 13) rfl rfl Try.func85 (by kernel_rfl) rfl #[.int .i64 a1, .int .i64 0, .int .i64 (wrap64 ((ji6) - 1))] rfl z87 ?_; (with_reducible refine (spec_l01In.calls a1 0 (wrap64 ((ji6) - 1)) true _ A7.out).mono ?_); rintro e w' ⟨rfl, ⟨nd, rfl⟩⟩; refine ⟨_, rfl, ?_⟩) | (go_at_call 60; (with_reducible refine (spec_l08Size.calls k a1 t101 _ A9.out).mono ?_); rintro e w' ⟨rfl, ⟨nd, rfl⟩⟩))
   go_ret
   exact ⟨z105, z4⟩
  ·replace c8 := Bool.eq_false_iff.mpr c8
   subst c8
   have H1 : (some false) = some r := by rw [if_neg (show ¬ (false = true) by decide)] at H; exact H
   clear H
   have H := H1
   clear H1
   obtain rfl := Option.some.inj H
   go_enter Try.func80, Try.ntmps80
   go_wp2_with (first | ((with_reducible refine gate_dst (N := 3) rfl ?_); refine zbox (N := 3) (cs := #[.int .i64 a0_0, .int .i64 a0_1, .int .i64 a0_2, .int .i64 a0_3]) (t := 27) ?_; intro gb102 hg w12 hbox hb; have BK102 := zA (hbox); have GW102 := zA ((z151 : w.heap.size ≤ gb102)); have GE102 := zA ((z151 : w.heap.size ≤ gb102)); replace HB := zA (below_step z1 hb); clear hb hbox hg; obtain ⟨hcz13_0, hcz13_1, hcz13_2, hcz13_3, hfz13_0, hfz13_1, hfz13_2, hfz13_3⟩ := zC4 BK102.out) | ((with_reducible refine gate_callee (f := 85) rfl ?_); refine goesL_ (some 13) rfl rfl Try.func85 (by kernel_rfl) rfl #[.int .i64 a1, .int .i64 0, .int .i64 (wrap64 ((ji6) - 1))] rfl z87 ?_; (with_reducible refine (spec_l01In.calls a1 0 (wrap64 ((ji6) - 1)) false _ A7.out).mono ?_); rintro e w' ⟨rfl, ⟨nd, rfl⟩⟩; refine ⟨_, rfl, ?_⟩))
   go_ret
   exact ⟨z105, z4⟩
 ·rw [if_neg c5] at H
  exact absurd H (by simp)

end Go.Proofs.Ytchlbkcladfloaa.PFnGuarantees
