-- WALKS, by a program and by hand
import Derived.Test.YtbfhhjekonafdaaPFnPairRowsx0
import Derived.Test.YtbfhhjekonafdaaPFnPairRowsx1
import Derived.Test.YtbfhhjekonafdaaPFnPairRowsx6
import Derived.Test.YtbfhhjekonafdaaPFnPairRowsx7
import Derived.Test.YtbfhhjekonafdaaPFnPairRowsx9
namespace Go.Proofs.Ytbfhhjekonafdaa.PFnPairRows
open Go.RowKit Go.Proofs.Ytbfhhjekonafdaa.DG Go.Proofs.YtbfhhjekonafdaaW.PrintWords Go.Proofs.YtbfhhjekonafdaaW.PrintLast Go.Proofs.YtbfhhjekonafdaaW.PrintMore
attribute [local go_sem] max2_int min2_int max_two min_two max_three min_three max_four min_four   -- for this text's walks alone
set_option linter.unusedVariables false
set_option linter.unusedSimpArgs false

/-! ### spec_l10With: function 47 -/
mutual
def spec_l10With.j0 : Nat → Int → List Int → Int → List Int → Int → Int → List Int → Option (List Int × List Int × Int)
  | 0, _, _, _, _, _, _, _ => none
  | k + 1, x7, x8, x9, x413000, x413001, x413002, x418000 => (spec_l01Next.f x413000 x413001 x413002 12).bind fun bt100 => (spec_l10With.l0 k x7 x8 x9 bt100.1 x413000 bt100.2.1 bt100.2.2 x418000)
def spec_l10With.l0 : Nat → Int → List Int → Int → Int → List Int → Int → Int → List Int → Option (List Int × List Int × Int)
  | 0, _, _, _, _, _, _, _, _ => none
  | k + 1, x7, x8, x9, x10, x413000, x413001, x413002, x418000 => if x10 > 0 then ((spec_l01Next.f x413000 x413001 x413002 x9).bind fun bt101 => (if x8.length < 17592186044416 then (spec_l10With.l0 k x7 (x8 ++ [bt101.1]) x9 (wrap64 (x10 - 1)) x413000 bt101.2.1 bt101.2.2 x418000) else (none))) else ((spec_GreedyRows.f k x418000 x7).bind fun bt102 => (if bt102.2 = 0 then ((spec_l01Next.f x413000 x413001 x413002 3).bind fun bt103 => (spec_l10With.j2 k x7 x8 x9 bt102.1 (bt103.1 == 0) x413000 bt103.2.1 bt103.2.2 x418000)) else (spec_l10With.j2 k x7 x8 x9 bt102.1 false x413000 x413001 x413002 x418000)))
def spec_l10With.j2 : Nat → Int → List Int → Int → List Int → Bool → List Int → Int → Int → List Int → Option (List Int × List Int × Int)
  | 0, _, _, _, _, _, _, _, _, _ => none
  | k + 1, x7, x8, x9, x11, x49, x413000, x413001, x413002, x418000 => if x49 = true then (if 0 ≤ (mn (x8.length : Int) 2) then (if (mn (x8.length : Int) 2) ≤ (x8.length : Int) then ((some (x8.take ((mn (x8.length : Int) 2) : Int).toNat : List Int)).bind fun y104 => (if x11.length + y104.length < 17592186044416 then (spec_l10With.j3 k x7 (x11 ++ y104) x9 x413000 x413001 x413002 x418000) else (none))) else (none)) else (none)) else (spec_l10With.j3 k x7 x8 x9 x413000 x413001 x413002 x418000)
def spec_l10With.j3 : Nat → Int → List Int → Int → List Int → Int → Int → List Int → Option (List Int × List Int × Int)
  | 0, _, _, _, _, _, _, _ => none
  | k + 1, x7, x8, x9, x413000, x413001, x413002, x418000 => (spec_l01Next.f x413000 x413001 x413002 24).bind fun bt105 => (if bt105.1 = 0 then ((spec_l01Pick.f x413000 bt105.2.1 bt105.2.2 (([(-1), 1024, x9] : List Int))).bind fun bt106 => (if x8.length < 17592186044416 then (some (x418000, (x8 ++ [bt106.1]), x7)) else (none))) else (if bt105.1 = 1 then (spec_l10With.l1 k x7 x8 x418000) else (some (x418000, x8, x7))))
def spec_l10With.l1 : Nat → Int → List Int → List Int → Option (List Int × List Int × Int)
  | 0, _, _, _ => none
  | k + 1, x7, x8, x418000 => if (x8.length : Int) < 201 then (if x8.length < 17592186044416 then (spec_l10With.l1 k x7 (x8 ++ [0]) x418000) else (none)) else (some (x418000, x8, x7))
end
theorem spec_l10With.l1_succ (k : Nat) (x7 : Int) (x8 x418000 : List Int) : spec_l10With.l1 (k + 1) x7 x8 x418000 = (if (x8.length : Int) < 201 then (if x8.length < 17592186044416 then (spec_l10With.l1 k x7 (x8 ++ [0]) x418000) else (none)) else (some (x418000, x8, x7))) := rfl
def spec_l10With.f (k : Nat) (l0 : List Int) : Option (List Int × List Int × Int) := (spec_l01From.f k l0).bind fun bt107 => ((spec_l10Draw.f k l0).bind fun bt108 => ((some (([] : List Int) : List Int)).bind fun y109 => ((spec_l01Is.f k bt108.1).bind fun t110 => (if t110 = true then ((spec_l01N.f k bt108.1).bind fun t111 => (spec_l10With.j0 k bt108.2 y109 t111 bt107.1 bt107.2.1 bt107.2.2 bt108.1)) else (spec_l10With.j0 k bt108.2 y109 4 bt107.1 bt107.2.1 bt107.2.2 bt108.1)))))
set_option maxHeartbeats 8000000 in
set_option maxRecDepth 100000 in
theorem spec_l10With.calls (k : Nat) (A0 : Option Addr) (c0 : Nat) (l0 : List Int) (r1 : List Int) (r2 : List Int) (r3 : Int) (w : World) (hr0 : Kd.C (Kd.int .u8) w A0 l0.length l0) (hc0 : l0.length ≤ c0) (h : spec_l10With.f k l0 = some (r1, r2, r3)) :
    Calls Try.prog 47 #[.slice A0 l0.length c0] w fun e w' => ∃ v0_ v1_ : Value, e = .returned (.tuple #[.agg #[v0_], v1_, .int .i64 r3]) ∧ Kd.R (Kd.int .i64) 2 w' w.heap.size (fun k_ => some k_ ≠ (v1_ : Value).ownBlock) v0_ r1 ∧ Kd.R (Kd.int .i64) 2 w' w.heap.size (fun k_ => some k_ ≠ (v0_ : Value).ownBlock) v1_ r2 ∧ Below w.heap.size w w' := by
  have hu27 := Try.underlying27
  have HR0 := zA hr0
  have HC0 := zA hc0
  clear hr0 hc0
  have HB := zA (Below.refl w.heap.size w)
  have H := h
  unfold spec_l10With.f at H
  (try dsimp -simprocs only at H)
  clear h
  replace H := zi H
  obtain ⟨⟨t107, t112, t113⟩, A20, H⟩ := H
  (try dsimp -simprocs only at H)
  have A2 := zA A20
  clear A20
  replace H := zi H
  obtain ⟨⟨t108, t114⟩, A30, H⟩ := H
  (try dsimp -simprocs only at H)
  have A3 := zA A30
  clear A30
  obtain ⟨y109, hy109⟩ : ∃ y_ : List Int, y_ = (([] : List Int)) := ⟨_, rfl⟩
  replace H : ((spec_l01Is.f k t108).bind fun t110 => (if t110 = true then ((spec_l01N.f k t108).bind fun t111 => (spec_l10With.j0 k t114 y109 t111 t107 t112 t113 t108)) else (spec_l10With.j0 k t114 y109 4 t107 t112 t113 t108))) = some (r1, r2, r3) := by first | (rw [hy109]; with_reducible exact H) | (have H2_ := (Option.bind_some _ _).symm.trans H; rw [hy109]; with_reducible exact H2_) | (have H2_ := (Option.bind_some _ _).symm.trans H; with_reducible exact H2_) | with_reducible exact H | (rw [hy109]; exact H) | exact H
  have Ny109 := zA hy109
  clear hy109
  replace H := zi H
  obtain ⟨t110, A40, H⟩ := H
  (try dsimp -simprocs only at H)
  have A4 := zA A40
  clear A40
  have HC5 := zA H
  clear H
  go_enter Try.func47, Try.ntmps47
  go_upto_if 22 with (first | ((with_reducible refine gate_dst (N := 2) rfl ?_); refine box_event ?hg (N := 2) ?hd (cs := #[.slice none 0 0]) (t := 27) ?hr ?_; (case hd => rfl); (case hg => rfl); (case hr => first | (go_simp; done) | (go_simp; rfl)); intro gb115 hg w6 hbox hb; have n0_ := zA (below_step z1 hb); have n1_ := zA (hbox); have n2_ := zA ((z178 : w.heap.size ≤ gb115)); have n3_ := zA ((z178 : w.heap.size ≤ gb115)); clear HB; have HB := n0_; have BK115 := n1_; have GW115 := n2_; have GE115 := n3_; clear n0_ n1_ n2_ n3_; clear hb hbox hg) | ((with_reducible refine gate_callee (f := 38) rfl ?_); refine goesL_ (some 14) rfl rfl Try.func38 (by kernel_rfl) rfl #[.slice A0 l0.length c0] rfl z3 ?_; (with_reducible refine (spec_l01From.calls k _ _ l0 t107 t112 t113 w _ ?side1 ?side2 ?side3 A2.out).mono ?_); (case side1 => exact (by repeat (first | (with_reducible first | exact HB.out | apply below_alloc | apply pw_below_drewN | apply below_drew1 | refine below_set ?_ GE115.out) | exact HB.out))); (case side2 => exact HR0.out); (case side3 => exact HC0.out); rintro e w7 ⟨g412, rfl, hi, hb, hb2⟩; refine ⟨_, rfl, ?_⟩; have n0_ := zBB BK115 hb2; have n1_ := zA (hb); have n2_ := zA (hi); have n3_ := zA (IsS88.ne_blk hi (blk_below (g := gb115) (o := .cells #[.slice none 0 0] 27 (0, 0)) z41 hb2) (by decide)); have n4_ := zA (Ne.symm (IsS88.ne_blk hi (blk_below (g := gb115) (o := .cells #[.slice none 0 0] 27 (0, 0)) z41 hb2) (by decide))); clear BK115 HB; have BK115 := n0_; have HB := n1_; have HI116 := n2_; have NB116_115 := n3_; have NB115_116 := n4_; clear n0_ n1_ n2_ n3_ n4_; (try clear hb); (try clear hb2); (try clear hk); (try clear hi)) | ((with_reducible refine gate_callee (f := 56) rfl ?_); refine goesL_ (some 17) rfl rfl Try.func56 (by kernel_rfl) rfl #[.slice A0 l0.length c0] rfl z3 ?_; (with_reducible refine (spec_l10Draw.calls k _ _ l0 t108 t114 _ ?side1 ?side2 A3.out).mono ?_); (case side1 => exact z109); (case side2 => exact HC0.out); rintro e w8 ⟨v117, rfl, ho0, hb⟩; refine ⟨_, rfl, ?_⟩; have n0_ := zA (Kd.R_lower ho0 (below_size z76)); have n1_ := zBB BK115 hb; have n2_ := zA (IsS88.below z81 hb); have n3_ := zA (below_step z76 hb); clear BK115 HI116 HB; have HO118 := n0_; have BK115 := n1_; have HI116 := n2_; have HB := n3_; clear n0_ n1_ n2_ n3_; (try clear hb); (try clear hb2); (try clear hk); (try clear hi); (try clear ho0)) | ((with_reducible refine gate_dst (N := 6) rfl ?_); refine box_event ?hg (N := 6) ?hd (cs := #[.slice none 0 0]) (t := 27) ?hr ?_; (case hd => rfl); (case hg => rfl); (case hr => first | (go_simp; done) | (go_simp; rfl)); intro gb119 hg w9 hbox hb; have n0_ := zA (Kd.R_below z105 hb); have n1_ := zBB BK115 hb; have n2_ := zA (IsS88.below z81 hb); have n3_ := zA (below_step z76 hb); have n4_ := zA (hbox); have n5_ := zA (((by rw [hg]; exact (below_size z76)) : w.heap.size ≤ gb119)); have n6_ := zA (((by rw [hg]; exact (below_size z76)) : w.heap.size ≤ gb119)); have n7_ := zA (((by rw [hg]; exact Nat.ne_of_lt (blk_lt (g := gb115) (o := .cells #[.slice none 0 0] 27 (0, 0)) z41)) : gb115 ≠ gb119)); have n8_ := zA (((by rw [hg]; exact Nat.ne_of_gt (blk_lt (g := gb115) (o := .cells #[.slice none 0 0] 27 (0, 0)) z41)) : gb119 ≠ gb115)); have n9_ := zA (((by rw [hg]; exact Nat.ne_of_lt (IsS88.lt (show IsS88 w _ g412 t107 t112 t113 from z81))) : g412 ≠ gb119)); have n10_ := zA (((by rw [hg]; exact Nat.ne_of_gt (IsS88.lt (show IsS88 w _ g412 t107 t112 t113 from z81))) : gb119 ≠ g412)); clear HO118 BK115 HI116 HB; have HO118 := n0_; have BK115 := n1_; have HI116 := n2_; have HB := n3_; have BK119 := n4_; have GW119 := n5_; have GE119 := n6_; have NB115_119 := n7_; have NB119_115 := n8_; have NB116_119 := n9_; have NB119_116 := n10_; clear n0_ n1_ n2_ n3_ n4_ n5_ n6_ n7_ n8_ n9_ n10_; clear hb hbox hg; obtain ⟨Ao10, co10, eo10⟩ := Kd.R_slice HO118.out; subst eo10; have hnb11 := NB119_115.out; have hnc11 := NB115_119.out; have hnb12 := NB119_116.out; have hnc12 := NB116_119.out; obtain ⟨hcz13_0, hfz13_0⟩ := zC1 BK119.out) | ((with_reducible refine gate_dst (N := 20) rfl ?_); refine Kd.R_lit (Kd.int .i64) _ 2 ?hg (N := 20) ?hd (xs := ([] : List Int)) (inner := []) (ok := fun _ => True) (okp := fun _ => True) ?hr ?hp (fun _ hk => hk) trivial (Below.refl _ _) (Nat.le_refl _) (by simp) ?_; (case hd => rfl); (case hg => rfl); (case hr => first | (go_simp; done) | (go_simp; rfl)); (case hp => exact (Reps.none _ _)); intro v120 w14 ho15 hb hg_ hnew_; clear hg_ hnew_; (first | rw [← Ny109.out] at ho15 | (simp only [Int.reduceToNat] at ho15; rw [← Ny109.out] at ho15)); have n0_ := zA (Kd.R_elder' z111 (Kd.R_base ho15) hb); have n1_ := zA (Kd.R_lower (Kd.R_new' ho15 (Kd.R_lt z111)) (below_size z12)); have n2_ := zA (blk_below (g := gb115) (o := .cells #[.slice none 0 0] 27 (0, 0)) (by (with_reducible repeat (first | refine blk_drewN ?_ _ | refine blk_drew ?_ | refine blk_alloc ?_ _)); refine blk_far ?_ NB115_119.out _; (with_reducible repeat (first | refine blk_drewN ?_ _ | refine blk_drew ?_ | refine blk_alloc ?_ _)); exact BK115.out) hb); have n3_ := zA (IsS88.below (show IsS88 w (w9.setCell ⟨gb119, 0, none⟩ (.slice Ao10 t108.length co10)) g412 t107 t112 t113 from z6) hb); have n4_ := zA (blk_below (g := gb119) (o := .cells #[.slice Ao10 t108.length co10] 27 (0, 0)) (by (with_reducible repeat (first | refine blk_drewN ?_ _ | refine blk_drew ?_ | refine blk_alloc ?_ _)); refine blk_put (cs := #[.slice none 0 0]) ?_ 0 _ rfl; (with_reducible repeat (first | refine blk_drewN ?_ _ | refine blk_drew ?_ | refine blk_alloc ?_ _)); exact BK119.out) hb); have n5_ := zA (below_step z12 hb); clear HO118 BK115 HI116 BK119 HB; have HO118 := n0_; have HO121 := n1_; have BK115 := n2_; have HI116 := n3_; have BK119 := n4_; have HB := n5_; clear n0_ n1_ n2_ n3_ n4_ n5_; clear hb ho15; obtain ⟨hcz16_0, hfz16_0⟩ := zC1 BK119.out) | ((with_reducible refine gate_callee (f := 77) rfl ?_); refine goesL_ (some 22) rfl rfl Try.func77 (by kernel_rfl) rfl #[.agg #[.slice Ao10 t108.length co10]] rfl z3 ?_; (with_reducible refine (spec_l01Is.calls k _ _ t108 t110 _ ?side1 ?side2 A4.out).mono ?_); (case side1 => exact z108); (case side2 => exact (Kd.R_reads' HO118.out).2.1); rintro e w17 ⟨rfl, hb⟩; refine ⟨_, rfl, ?_⟩; have n0_ := zA (Kd.R_below z105 hb); have n1_ := zA (Kd.R_below z164 hb); have n2_ := zBB BK115 hb; have n3_ := zA (IsS88.below z6 hb); have n4_ := zBB BK119 hb; have n5_ := zA (below_step z12 hb); clear HO118 HO121 BK115 HI116 BK119 HB; have HO118 := n0_; have HO121 := n1_; have BK115 := n2_; have HI116 := n3_; have BK119 := n4_; have HB := n5_; clear n0_ n1_ n2_ n3_ n4_ n5_; (try clear hb); (try clear hb2); (try clear hk); (try clear hi)))
  (try simp only [Act.put, List.setIfInBounds_toArray, List.set_cons_zero, List.set_cons_succ])
  go_cut [9] (fun v9 wc => ∃ (kq : Nat) (x9_4 : Int), v9 = .int .i64 x9_4 ∧ Aside0 (spec_l10With.j0 kq t114 y109 x9_4 t107 t112 t113 t108 = some (r1, r2, r3)) ∧ Aside0 (kq ≤ k) ∧ Aside0 (Kd.R (Kd.int .i64) 2 wc w.heap.size (fun k_ => some k_ ≠ ((.slice Ao10 t108.length co10) : Value).ownBlock) v120 y109) ∧ Aside0 (Kd.R (Kd.int .i64) 2 wc w.heap.size (fun k_ => some k_ ≠ (v120 : Value).ownBlock) (.slice Ao10 t108.length co10) t108) ∧ Aside0 (wc.heap[gb115]? = some (.cells #[(.slice none 0 0)] 27 (0, 0))) ∧ Aside0 (wc.heap[gb119]? = some (.cells #[(.slice Ao10 t108.length co10)] 27 (0, 0))) ∧ Aside0 (IsS88 w wc g412 t107 t112 t113) ∧ Aside0 (Below w.heap.size w wc))
  case first =>
    have H := HC5.out
    clear HC5
    by_cases c18 : t110 = true
    · subst c18
      have H1 : ((spec_l01N.f k t108).bind fun t111 => (spec_l10With.j0 k t114 y109 t111 t107 t112 t113 t108)) = some (r1, r2, r3) := by rw [if_pos rfl] at H; exact H
      clear H
      have H := H1
      clear H1
      replace H := zi H
      obtain ⟨t111, A190, H⟩ := H
      (try dsimp -simprocs only at H)
      have A19 := zA A190
      clear A190
      have H' := zA H
      clear H
      have hnb20 := NB119_115.out
      have hnc20 := NB115_119.out
      have hnb21 := NB119_116.out
      have hnc21 := NB116_119.out
      obtain ⟨hcz22_0, hfz22_0⟩ := zC1 BK119.out
      go_wp2_with (first | ((with_reducible refine gate_callee (f := 60) rfl ?_); refine goesL_ (some 24) rfl rfl Try.func60 (by kernel_rfl) rfl #[.agg #[.slice Ao10 t108.length co10]] rfl z3 ?_; (with_reducible refine (spec_l01N.calls k _ _ t108 t111 _ ?side1 ?side2 A19.out).mono ?_); (case side1 => exact z108); (case side2 => exact (Kd.R_reads' HO118.out).2.1); rintro e w23 ⟨rfl, hb⟩; refine ⟨_, rfl, ?_⟩; have n0_ := zA (Kd.R_below z105 hb); have n1_ := zA (Kd.R_below z164 hb); have n2_ := zBB BK115 hb; have n3_ := zA (IsS88.below z6 hb); have n4_ := zBB BK119 hb; have n5_ := zA (below_step z12 hb); clear HO118 HO121 BK115 HI116 BK119 HB; have HO118 := n0_; have HO121 := n1_; have BK115 := n2_; have HI116 := n3_; have BK119 := n4_; have HB := n5_; clear n0_ n1_ n2_ n3_ n4_ n5_; (try clear hb); (try clear hb2); (try clear hk); (try clear hi)))
      go_meet
      case rel => exact ⟨_, (t111), z16, H', ⟨z156⟩, ⟨z154⟩, ⟨z155⟩, ⟨z41⟩, ⟨z49⟩, ⟨z6⟩, ⟨z12⟩⟩
    · replace c18 := Bool.eq_false_iff.mpr c18
      subst c18
      have H1 : (spec_l10With.j0 k t114 y109 4 t107 t112 t113 t108) = some (r1, r2, r3) := by rw [if_neg (show ¬ (false = true) by decide)] at H; exact H
      clear H
      have H := H1
      clear H1
      have H' := zA H
      clear H
      go_wp2
      go_meet
      case rel => exact ⟨_, (4), z16, H', ⟨z156⟩, ⟨z154⟩, ⟨z155⟩, ⟨z41⟩, ⟨z49⟩, ⟨z6⟩, ⟨z12⟩⟩
  case rest =>
    clear HC5
    try clear c1
    try clear c2
    try clear p2
    try clear c3
    try clear c4
    try clear c5
    try clear c6
    try clear c7
    try clear c11
    try clear c12
    try clear c18
    try clear c20
    try clear c21
    try clear hcz13_0
    try clear hcz16_0
    try clear hcz22_0
    try clear hfz13_0
    try clear hfz16_0
    try clear hfz22_0
    obtain ⟨kq, x9_4, rfl, HA, HJ4, HO_8, HO_418000, BK115, BK119, HI116, HB⟩ := hcut
    cases kq with
    | zero => exact absurd (show (none : Option _) = some _ from HA.out) (by simp)
    | succ kj4 =>
      have H := HA.out
      clear HA
      simp only [spec_l10With.j0] at H
      replace H := zi H
      obtain ⟨⟨t100, t122, t123⟩, A240, H⟩ := H
      (try dsimp -simprocs only at H)
      have A24 := zA A240
      clear A240
      have H' := zA H
      clear H
      go_wp2_with (first | ((with_reducible refine gate_callee (f := 69) rfl ?_); refine goesL_ (some 26) rfl rfl Try.func69 (by kernel_rfl) rfl #[.pointer (some ⟨g412, 0, none⟩), .int .i64 12] rfl z3 ?_; (with_reducible refine (spec_l01Next.calls g412 t107 t112 t113 12 t100 t122 t123 w _ ?side1 ?side2 A24.out).mono ?_); (case side1 => exact z6); (case side2 => exact z12); rintro e w25 ⟨rfl, hi, hb, hk⟩; refine ⟨_, rfl, ?_⟩; have n0_ := zA (Kd.R_mono (Kd.R_keep (IsS88.apart (show IsS88 w _ g412 t107 t112 t113 from z6) z37 (by decide)) hk (fun _ h => h.2)) (fun _ h => h.1)); have n1_ := zA (Kd.R_mono (Kd.R_keep (IsS88.apart (show IsS88 w _ g412 t107 t112 t113 from z6) z40 (by decide)) hk (fun _ h => h.2)) (fun _ h => h.1)); have n2_ := zKB BK115 hk NB115_116; have n3_ := zKB BK119 hk NB119_116; have n4_ := zA (hb); have n5_ := zA (hi); clear HO_8 HO_418000 BK115 BK119 HB HI116; have HO_8 := n0_; have HO_418000 := n1_; have BK115 := n2_; have BK119 := n3_; have HB := n4_; have HI116 := n5_; clear n0_ n1_ n2_ n3_ n4_ n5_; (try clear hb); (try clear hb2); (try clear hk); (try clear hi)))
      go_loopg [8, 10] kj4 (fun kq v8 v10 w' => ∃ (x8_2 : List Int) (x10_2 : Int) (x413001_2 : Int) (x413002_2 : Int), v10 = .int .i64 x10_2 ∧ Aside0 (spec_l10With.l0 kq t114 x8_2 x9_4 x10_2 t107 x413001_2 x413002_2 t108 = some (r1, r2, r3)) ∧ Aside0 (kq ≤ kj4) ∧ Aside0 (Kd.R (Kd.int .i64) 2 w' w.heap.size (fun k_ => some k_ ≠ ((.slice Ao10 t108.length co10) : Value).ownBlock) v8 x8_2) ∧ Aside0 (Kd.R (Kd.int .i64) 2 w' w.heap.size (fun k_ => some k_ ≠ (v8 : Value).ownBlock) (.slice Ao10 t108.length co10) t108) ∧ Aside0 (w'.heap[gb115]? = some (.cells #[(.slice none 0 0)] 27 (0, 0))) ∧ Aside0 (w'.heap[gb119]? = some (.cells #[(.slice Ao10 t108.length co10)] 27 (0, 0))) ∧ Aside0 (IsS88 w w' g412 t107 x413001_2 x413002_2) ∧ Aside0 (Below w.heap.size w w'))
      case atStart => exact ⟨(y109), (t100), (t122), (t123), z16, H', ⟨Nat.le_refl _⟩, ⟨z37⟩, ⟨z40⟩, ⟨z41⟩, ⟨z49⟩, ⟨z6⟩, ⟨z12⟩⟩
      case round =>
        clear H'
        try clear c1
        try clear c2
        try clear p2
        try clear c3
        try clear c4
        try clear c5
        try clear c6
        try clear c7
        try clear c11
        try clear c12
        try clear c18
        try clear c20
        try clear c21
        try clear hcz13_0
        try clear hcz16_0
        try clear hcz22_0
        try clear hfz13_0
        try clear hfz16_0
        try clear hfz22_0
        try clear p2
        obtain ⟨x8_2, x10_2, x413001_2, x413002_2, rfl, HA, HK2, HO_8, HO_418000, BK115, BK119, HI116, HB⟩ := hrel
        cases gk with
        | zero => exact absurd (show (none : Option _) = some _ from HA.out) (by simp)
        | succ k2 =>
          have H := HA.out
          clear HA
          simp only [spec_l10With.l0] at H
          by_cases c26 : x10_2 > 0
          · rw [if_pos c26] at H
            have c26b0 : decide (0 < x10_2) = true := decide_eq_true c26
            clear c26
            replace H := zi H
            obtain ⟨⟨t101, t124, t125⟩, A270, H⟩ := H
            (try dsimp -simprocs only at H)
            have A27 := zA A270
            clear A270
            by_cases c28 : x8_2.length < 17592186044416
            · rw [if_pos c28] at H
              have LMc28 := zA c28
              clear c28
              obtain ⟨y126, hy126⟩ : ∃ y_ : List Int, y_ = (x8_2 ++ [t101]) := ⟨_, rfl⟩
              replace H : (spec_l10With.l0 k2 t114 y126 x9_4 (wrap64 (x10_2 - 1)) t107 t124 t125 t108) = some (r1, r2, r3) := by first | (rw [hy126]; with_reducible exact H) | (have H2_ := (Option.bind_some _ _).symm.trans H; rw [hy126]; with_reducible exact H2_) | (have H2_ := (Option.bind_some _ _).symm.trans H; with_reducible exact H2_) | with_reducible exact H | (rw [hy126]; exact H) | exact H
              have Ny126 := zA hy126
              clear hy126
              have H' := zA H
              clear H
              go_wp2_with (first | ((with_reducible refine gate_callee (f := 69) rfl ?_); refine goesL_ (some 34) rfl rfl Try.func69 (by kernel_rfl) rfl #[.pointer (some ⟨g412, 0, none⟩), .int .i64 x9_4] rfl z3 ?_; (with_reducible refine (spec_l01Next.calls g412 t107 x413001_2 x413002_2 x9_4 t101 t124 t125 w _ ?side1 ?side2 A27.out).mono ?_); (case side1 => exact z6); (case side2 => exact z12); rintro e w29 ⟨rfl, hi, hb, hk⟩; refine ⟨_, rfl, ?_⟩; have n0_ := zA (Kd.R_mono (Kd.R_keep (IsS88.apart (show IsS88 w _ g412 t107 x413001_2 x413002_2 from z6) z37 (by decide)) hk (fun _ h => h.2)) (fun _ h => h.1)); have n1_ := zA (Kd.R_mono (Kd.R_keep (IsS88.apart (show IsS88 w _ g412 t107 x413001_2 x413002_2 from z6) z40 (by decide)) hk (fun _ h => h.2)) (fun _ h => h.1)); have n2_ := zKB BK115 hk NB115_116; have n3_ := zKB BK119 hk NB119_116; have n4_ := zA (hb); have n5_ := zA (hi); clear HO_8 HO_418000 BK115 BK119 HB HI116; have HO_8 := n0_; have HO_418000 := n1_; have BK115 := n2_; have BK119 := n3_; have HB := n4_; have HI116 := n5_; clear n0_ n1_ n2_ n3_ n4_ n5_; (try clear hb); (try clear hb2); (try clear hk); (try clear hi)) | ((with_reducible refine gate_builtin (b := .append) (xs := #[.tmp 31, .tmp 35]) rfl ?_); at_builtin; refine Kd.R_append (Kd.int .i64) (w0 := w) w.heap.size rfl (.tmp 31) (.tmp 35) 25 2 (.int .i64 0) 8 rfl Try.underlying25 info2 rfl (by decide) (by omega) u8 x8_2 t101 [.int .i64 t101] (fun k_ => some k_ ≠ (.slice Ao10 t108.length co10 : Value).ownBlock) (fun _ => False) rfl rfl ?aP (fun _ hk => hk.elim) ?aF ?aO ?aB ?aS ?aL ?_; (case aP => exact rfl); (case aB => exact z12); (case aF => exact (fun k_ hk => Kd.fresh' (Kd.R_lt z40) k_ hk)); (case aO => exact z37); (case aS => exact (below_size z12)); (case aL => have := LMc28.out; omega); intro v127 w30 ho hb hg hat; rw [← Ny126.out] at ho; have n0_ := zA (Kd.R_after (ok := (fun _ => True)) z148 hg hat); have n1_ := zA (blk_grown (g := gb115) (o := .cells #[.slice none 0 0] 27 (0, 0)) z41 hg (Kd.R_ne HO_8.out BK115.out (by decide))); have n2_ := zA (blk_grown (g := gb119) (o := .cells #[.slice Ao10 t108.length co10] 27 (0, 0)) z49 hg (Kd.R_ne HO_8.out BK119.out (by decide))); have n3_ := zA (IsS88.grown z6 hg (IsS88.own_ne HI116.out HO_8.out (by decide))); have n4_ := zA (hb); have n5_ := zA (ho); clear HO_418000 BK115 BK119 HI116 HB HO_8; have HO_418000 := n0_; have BK115 := n1_; have BK119 := n2_; have HI116 := n3_; have HB := n4_; have HO128 := n5_; clear n0_ n1_ n2_ n3_ n4_ n5_; clear ho hb hg hat))
              go_roundg k2
              case measure => have := HJ4.out; have := HK2.out; omega
              case rel => exact ⟨(y126), (wrap64 (x10_2 - 1)), (t124), (t125), z16, H', ⟨(by have := HJ4.out; have := HK2.out; omega)⟩, ⟨(by (with_reducible repeat (first | apply Kd.R_alloc | apply Kd.R_drewN | apply Kd.R_drew)); exact HO128.out)⟩, ⟨z125⟩, ⟨z41⟩, ⟨z49⟩, ⟨z6⟩, ⟨z12⟩⟩
            · rw [if_neg c28] at H
              exact absurd H (by simp)
          · rw [if_neg c26] at H
            have c26b0 : decide (0 < x10_2) = false := decide_eq_false c26
            clear c26
            replace H := zi H
            obtain ⟨⟨t102, t129⟩, A310, H⟩ := H
            (try dsimp -simprocs only at H)
            have A31 := zA A310
            clear A310
            have HC32 := zA H
            clear H
            have hnb33 := NB119_115.out
            have hnc33 := NB115_119.out
            have hnb34 := NB119_116.out
            have hnc34 := NB116_119.out
            obtain ⟨hcz35_0, hfz35_0⟩ := zC1 BK119.out
            go_upto_region 11 with (first | ((with_reducible refine gate_callee (f := 30) rfl ?_); refine goesL_ (some 40) rfl rfl Try.func30 (by kernel_rfl) rfl #[.agg #[.slice Ao10 t108.length co10], .int .i64 t114] rfl z3 ?_; (with_reducible refine (spec_GreedyRows.calls k2 _ _ t108 t114 t102 t129 _ ?side1 ?side2 A31.out).mono ?_); (case side1 => exact (by repeat (first | exact (Kd.R_reads' HO_418000.out).2.2 | (with_reducible refine Kd.C_alloc ?_ _) | (with_reducible refine Kd.C_drewN ?_ _) | (with_reducible refine Kd.C_drew ?_)))); (case side2 => exact (Kd.R_reads' HO_418000.out).2.1); rintro e w36 ⟨v130, rfl, ho0, hb⟩; refine ⟨_, rfl, ?_⟩; have n0_ := zA (Kd.R_elder' z37 (Kd.R_base ho0) hb); have n1_ := zA (Kd.R_elder' z40 (Kd.R_base ho0) hb); have n2_ := zA (Kd.R_lower (Kd.R_new' (Kd.R_new' ho0 (Kd.R_lt z37)) (Kd.R_lt z40)) (below_size z12)); have n3_ := zBB BK115 hb; have n4_ := zBB BK119 hb; have n5_ := zA (IsS88.below z6 hb); have n6_ := zA (below_step z12 hb); clear HO_8 HO_418000 BK115 BK119 HI116 HB; have HO_8 := n0_; have HO_418000 := n1_; have HO131 := n2_; have BK115 := n3_; have BK119 := n4_; have HI116 := n5_; have HB := n6_; clear n0_ n1_ n2_ n3_ n4_ n5_ n6_; (try clear hb); (try clear hb2); (try clear hk); (try clear hi); (try clear ho0)))
            (try simp only [Act.put, List.setIfInBounds_toArray, List.set_cons_zero, List.set_cons_succ])
            go_cut [49] (fun v49 wc => ∃ (kq : Nat) (x49_31 : Bool) (x413001_31 : Int) (x413002_31 : Int), v49 = .bool x49_31 ∧ Aside0 (spec_l10With.j2 kq t114 x8_2 x9_4 t102 x49_31 t107 x413001_31 x413002_31 t108 = some (r1, r2, r3)) ∧ Aside0 (kq ≤ k2) ∧ Aside0 (Kd.R (Kd.int .i64) 2 wc w.heap.size (fun k_ => some k_ ≠ (v130 : Value).ownBlock ∧ some k_ ≠ ((.slice Ao10 t108.length co10) : Value).ownBlock) u8 x8_2) ∧ Aside0 (Kd.R (Kd.int .i64) 2 wc w.heap.size (fun k_ => some k_ ≠ (u8 : Value).ownBlock ∧ some k_ ≠ ((.slice Ao10 t108.length co10) : Value).ownBlock) v130 t102) ∧ Aside0 (Kd.R (Kd.int .i64) 2 wc w.heap.size (fun k_ => some k_ ≠ (u8 : Value).ownBlock ∧ some k_ ≠ (v130 : Value).ownBlock) (.slice Ao10 t108.length co10) t108) ∧ Aside0 (wc.heap[gb115]? = some (.cells #[(.slice none 0 0)] 27 (0, 0))) ∧ Aside0 (wc.heap[gb119]? = some (.cells #[(.slice Ao10 t108.length co10)] 27 (0, 0))) ∧ Aside0 (IsS88 w wc g412 t107 x413001_31 x413002_31) ∧ Aside0 (Below w.heap.size w wc))
            case first =>
              have H := HC32.out
              clear HC32
              by_cases c37 : t129 = 0
              · rw [if_pos c37] at H
                have c37b0 : (t129 == 0) = true := beq_iff_eq.mpr c37
                have c37b1 : (t129 != 0) = false := bne_eq_false_iff_eq.mpr c37
                clear c37
                (first | rw [c37b0] | (simp only [i64_w, i32_w]; rw [c37b0]) | skip)
                replace H := zi H
                obtain ⟨⟨t103, t132, t133⟩, A380, H⟩ := H
                (try dsimp -simprocs only at H)
                have A38 := zA A380
                clear A380
                have H' := zA H
                clear H
                go_wp2_with (first | (go_at_call 69; (with_reducible refine (spec_l01Next.calls g412 t107 x413001_2 x413002_2 3 t103 t132 t133 w _ ?side1 ?side2 A38.out).mono ?_); (case side1 => exact z6); (case side2 => exact z12); rintro e w39 ⟨rfl, hi, hb, hk⟩; have n0_ := zA (Kd.R_mono (Kd.R_keep (IsS88.apart (show IsS88 w _ g412 t107 x413001_2 x413002_2 from z6) z37 (by decide)) hk (fun _ h => h.2)) (fun _ h => h.1)); have n1_ := zA (Kd.R_mono (Kd.R_keep (IsS88.apart (show IsS88 w _ g412 t107 x413001_2 x413002_2 from z6) z40 (by decide)) hk (fun _ h => h.2)) (fun _ h => h.1)); have n2_ := zKB BK115 hk NB115_116; have n3_ := zKB BK119 hk NB119_116; have n4_ := zA (Kd.R_mono (Kd.R_keep (IsS88.apart (show IsS88 w _ g412 t107 x413001_2 x413002_2 from z6) (by (with_reducible repeat (first | apply Kd.R_alloc | apply Kd.R_drewN | apply Kd.R_drew)); exact HO131.out) (by decide)) hk (fun _ h => h.2)) (fun _ h => h.1)); have n5_ := zA (hb); have n6_ := zA (hi); clear HO_8 HO_418000 BK115 BK119 HO131 HB HI116; have HO_8 := n0_; have HO_418000 := n1_; have BK115 := n2_; have BK119 := n3_; have HO131 := n4_; have HB := n5_; have HI116 := n6_; clear n0_ n1_ n2_ n3_ n4_ n5_ n6_; (try clear hb); (try clear hb2); (try clear hk); (try clear hi)))
                go_meet
                case rel => exact ⟨_, ((t103 == 0)), (t132), (t133), z16, H', ⟨z170⟩, ⟨z77⟩, ⟨z150⟩, ⟨z40⟩, ⟨z41⟩, ⟨z49⟩, ⟨z6⟩, ⟨z12⟩⟩
              · rw [if_neg c37] at H
                have c37b0 : (t129 == 0) = false := beq_eq_false_iff_ne.mpr c37
                have c37b1 : (t129 != 0) = true := bne_iff_ne.mpr c37
                (first | rw [c37b0] | (simp only [i64_w, i32_w]; rw [c37b0]) | skip)
                have H' := zA H
                clear H
                go_wp2
                go_meet
                case rel => exact ⟨_, (false), (x413001_2), (x413002_2), z16, H', ⟨z170⟩, ⟨z77⟩, ⟨z150⟩, ⟨z40⟩, ⟨z41⟩, ⟨z49⟩, ⟨z6⟩, ⟨z12⟩⟩
            case rest =>
              clear HC32
              try clear c1
              try clear c2
              try clear p2
              try clear c3
              try clear c4
              try clear c5
              try clear c6
              try clear p6
              try clear c7
              try clear c11
              try clear c12
              try clear c18
              try clear c20
              try clear c21
              try clear c26
              try clear c26b0
              try clear c28
              try clear c30
              try clear c33
              try clear c34
              try clear c37
              try clear c37b0
              try clear c37b1
              try clear c38
              try clear hcz13_0
              try clear hcz16_0
              try clear hcz22_0
              try clear hcz35_0
              try clear hfz13_0
              try clear hfz16_0
              try clear hfz22_0
              try clear hfz35_0
              try clear p2
              obtain ⟨kq, x49_31, x413001_31, x413002_31, rfl, HA, HJ31, HO_8, HO_11, HO_418000, BK115, BK119, HI116, HB⟩ := hcut
              cases kq with
              | zero => exact absurd (show (none : Option _) = some _ from HA.out) (by simp)
              | succ kj31 =>
                have H := HA.out
                clear HA
                simp only [spec_l10With.j2] at H
                have HC40 := zA H
                clear H
                go_upto_if 49 with (fail)
                go_cut [8] (fun v8 wc => ∃ (kq : Nat) (x8_39 : List Int), Aside0 (spec_l10With.j3 kq t114 x8_39 x9_4 t107 x413001_31 x413002_31 t108 = some (r1, r2, r3)) ∧ Aside0 (kq ≤ kj31) ∧ Aside0 (Kd.R (Kd.int .i64) 2 wc w.heap.size (fun k_ => some k_ ≠ ((.slice Ao10 t108.length co10) : Value).ownBlock) v8 x8_39) ∧ Aside0 (Kd.R (Kd.int .i64) 2 wc w.heap.size (fun k_ => some k_ ≠ (v8 : Value).ownBlock) (.slice Ao10 t108.length co10) t108) ∧ Aside0 (wc.heap[gb115]? = some (.cells #[(.slice none 0 0)] 27 (0, 0))) ∧ Aside0 (wc.heap[gb119]? = some (.cells #[(.slice Ao10 t108.length co10)] 27 (0, 0))) ∧ Aside0 (IsS88 w wc g412 t107 x413001_31 x413002_31) ∧ Aside0 (Below w.heap.size w wc))
                case first =>
                  have H := HC40.out
                  clear HC40
                  by_cases c41 : x49_31 = true
                  · subst c41
                    have H1 : (if 0 ≤ (mn (x8_2.length : Int) 2) then (if (mn (x8_2.length : Int) 2) ≤ (x8_2.length : Int) then ((some (x8_2.take ((mn (x8_2.length : Int) 2) : Int).toNat : List Int)).bind fun y104 => (if t102.length + y104.length < 17592186044416 then (spec_l10With.j3 kj31 t114 (t102 ++ y104) x9_4 t107 x413001_31 x413002_31 t108) else (none))) else (none)) else (none)) = some (r1, r2, r3) := by rw [if_pos rfl] at H; exact H
                    clear H
                    have H := H1
                    clear H1
                    obtain ⟨ji42, hji42⟩ : ∃ j_ : Int, (mn (x8_2.length : Int) 2) = j_ := ⟨_, rfl⟩
                    replace H : (if 0 ≤ (ji42) then (if (ji42) ≤ (x8_2.length : Int) then ((some (x8_2.take ((ji42) : Int).toNat : List Int)).bind fun y104 => (if t102.length + y104.length < 17592186044416 then (spec_l10With.j3 kj31 t114 (t102 ++ y104) x9_4 t107 x413001_31 x413002_31 t108) else (none))) else (none)) else (none)) = some (r1, r2, r3) := by first | (rw [hji42] at H; exact H) | (simp only [hji42] at H ⊢; exact H)
                    have hji42_ : (if 2 < (x8_2.length : Int) then 2 else (x8_2.length : Int)) = ji42 := hji42
                    by_cases c43 : 0 ≤ (ji42)
                    · rw [if_pos c43] at H
                      have c43b0 := eq_true c43
                      have c43b1 : decide (0 ≤ (ji42)) = true := decide_eq_true c43
                      clear c43
                      by_cases c44 : (ji42) ≤ (x8_2.length : Int)
                      · rw [if_pos c44] at H
                        have c44b0 := eq_true c44
                        have c44b1 : decide ((ji42) ≤ (x8_2.length : Int)) = true := decide_eq_true c44
                        clear c44
                        obtain ⟨y104, hy104⟩ : ∃ y_ : List Int, y_ = (x8_2.take ((ji42) : Int).toNat) := ⟨_, rfl⟩
                        replace H : (if t102.length + y104.length < 17592186044416 then (spec_l10With.j3 kj31 t114 (t102 ++ y104) x9_4 t107 x413001_31 x413002_31 t108) else (none)) = some (r1, r2, r3) := by first | (rw [hy104]; with_reducible exact H) | (have H2_ := (Option.bind_some _ _).symm.trans H; rw [hy104]; with_reducible exact H2_) | (have H2_ := (Option.bind_some _ _).symm.trans H; with_reducible exact H2_) | with_reducible exact H | (rw [hy104]; exact H) | exact H
                        have Ny104 := zA hy104
                        clear hy104
                        by_cases c45 : t102.length + y104.length < 17592186044416
                        · rw [if_pos c45] at H
                          have LMc45 := zA c45
                          clear c45
                          obtain ⟨y134, hy134⟩ : ∃ y_ : List Int, y_ = (t102 ++ y104) := ⟨_, rfl⟩
                          replace H : (spec_l10With.j3 kj31 t114 y134 x9_4 t107 x413001_31 x413002_31 t108) = some (r1, r2, r3) := by first | (rw [hy134]; with_reducible exact H) | (have H2_ := (Option.bind_some _ _).symm.trans H; rw [hy134]; with_reducible exact H2_) | (have H2_ := (Option.bind_some _ _).symm.trans H; with_reducible exact H2_) | with_reducible exact H | (rw [hy134]; exact H) | exact H
                          have Ny134 := zA hy134
                          clear hy134
                          have H' := zA H
                          clear H
                          obtain ⟨Ao46, co46, eo46⟩ := Kd.R_slice HO_8.out
                          subst eo46
                          have q47 : ((ji42) : Int) ≤ ((x8_2.length : Int) : Int) := of_decide_eq_true z14
                          obtain ⟨i047, hi047, _, hsz47, _⟩ := info_parts info2
                          have hroom47 : x8_2.length ≤ co46 := (Kd.R_reads' HO_8.out).2.1
                          have hC47 : Kd.C (Kd.int .i64) _ Ao46 x8_2.length x8_2 := (Kd.R_reads' HO_8.out).2.2
                          have hcut47 := cut_to (P := Try.prog) 25 2 .i64 Try.underlying25 hi047 Ao46 x8_2.length co46 (ji42) (of_decide_eq_true z14) q47 hroom47
                          have hr47 := Kd.C_take (m := ((ji42) : Int).toNat) hC47 (by omega)
                          have hy47 : y104.length = ((ji42) : Int).toNat := (by rw [Ny104.out, List.length_take]; omega)
                          rw [← Ny104.out] at hr47
                          rw [← hy47] at hcut47
                          have HR442 := zA hr47
                          have HC442 := zA (show y104.length ≤ co46 from by omega)
                          clear hr47 hC47 hroom47 hi047 hsz47
                          have KY47 := zA hy47
                          clear hy47
                          have KL47 := zA (show ((ji42) : Int).toNat ≤ x8_2.length from by omega)
                          replace q47 := eq_true q47
                          go_wp2_with (first | ((with_reducible refine gate_builtin (b := .append) (xs := #[.tmp 50, .tmp 55]) rfl ?_); at_builtin; refine Kd.R_append_rows (Kd.int .i64) (w0 := w) w.heap.size rfl (.tmp 50) (.tmp 55) 25 2 (.int .i64 0) 8 rfl Try.underlying25 info2 rfl (by decide) (by omega) v130 t102 y104 _ _ _ (fun k_ => some k_ ≠ (.slice Ao46 x8_2.length co46 : Value).ownBlock ∧ some k_ ≠ (.slice Ao10 t108.length co10 : Value).ownBlock) (fun _ => False) rfl rfl ?aO ?aR (fun _ _ h => h) (fun _ h => h.elim) ?aF ?aB ?aS ?aL ?_; (case aR => repeat (first | exact (by repeat (first | (with_reducible exact HR442.out) | (with_reducible refine Kd.C_alloc ?_ _) | (with_reducible refine Kd.C_drewN ?_ _) | (with_reducible refine Kd.C_drew ?_) | exact HR442.out)) | (with_reducible refine Kd.C_alloc ?_ _) | (with_reducible refine Kd.C_drewN ?_ _) | (with_reducible refine Kd.C_drew ?_))); (case aB => exact z12); (case aF => exact (fun k_ hk => ⟨Kd.fresh' (Kd.R_lt z37) k_ hk, Kd.fresh' (Kd.R_lt z40) k_ hk⟩)); (case aO => exact (by (with_reducible repeat (first | apply Kd.R_alloc | apply Kd.R_drewN | apply Kd.R_drew)); exact HO_11.out)); (case aS => exact (below_size z12)); (case aL => have := LMc45.out; omega); intro v135 w48 ho hb hg hat; rw [← Ny134.out] at ho; have n0_ := zA (Kd.R_after (ok := (fun k_ => some k_ ≠ (.slice Ao10 t108.length co10 : Value).ownBlock)) z77 hg hat); have n1_ := zA (Kd.R_after (ok := (fun k_ => some k_ ≠ (.slice Ao46 x8_2.length co46 : Value).ownBlock)) z40 hg hat); have n2_ := zA (blk_grown (g := gb115) (o := .cells #[.slice none 0 0] 27 (0, 0)) z41 hg (Kd.R_ne HO_11.out BK115.out (by decide))); have n3_ := zA (blk_grown (g := gb119) (o := .cells #[.slice Ao10 t108.length co10] 27 (0, 0)) z49 hg (Kd.R_ne HO_11.out BK119.out (by decide))); have n4_ := zA (IsS88.grown z6 hg (IsS88.own_ne HI116.out HO_11.out (by decide))); have n5_ := zA (hb); have n6_ := zA ((show Kd.C (Kd.int .i64) w48 Ao46 y104.length y104 from by rw [Ny104.out]; exact Kd.C_take (m := ((ji42) : Int).toNat) ((Kd.R_reads' (Kd.R_after (ok := (fun k_ => some k_ ≠ (.slice Ao10 t108.length co10 : Value).ownBlock)) z77 hg hat)).2.2) KL47.out)); have n7_ := zA (ho); clear HO_8 HO_418000 BK115 BK119 HI116 HB HR442 HO_11; have HO_8 := n0_; have HO_418000 := n1_; have BK115 := n2_; have BK119 := n3_; have HI116 := n4_; have HB := n5_; have HR442 := n6_; have HO136 := n7_; clear n0_ n1_ n2_ n3_ n4_ n5_ n6_ n7_; clear ho hb hg hat))
                          go_meet
                          case rel => exact ⟨_, (y134), H', ⟨z169⟩, ⟨(by (with_reducible repeat (first | apply Kd.R_alloc | apply Kd.R_drewN | apply Kd.R_drew)); exact Kd.R_mono HO136.out (fun _ hk => hk.2))⟩, ⟨z125⟩, ⟨z41⟩, ⟨z49⟩, ⟨z6⟩, ⟨z12⟩⟩
                        · rw [if_neg c45] at H
                          exact absurd H (by simp)
                      · rw [if_neg c44] at H
                        exact absurd H (by simp)
                    · rw [if_neg c43] at H
                      exact absurd H (by simp)
                  · replace c41 := Bool.eq_false_iff.mpr c41
                    subst c41
                    have H1 : (spec_l10With.j3 kj31 t114 x8_2 x9_4 t107 x413001_31 x413002_31 t108) = some (r1, r2, r3) := by rw [if_neg (show ¬ (false = true) by decide)] at H; exact H
                    clear H
                    have H := H1
                    clear H1
                    have H' := zA H
                    clear H
                    go_wp2
                    go_meet
                    case rel => exact ⟨_, (x8_2), H', ⟨z169⟩, ⟨(by (with_reducible repeat (first | apply Kd.R_alloc | apply Kd.R_drewN | apply Kd.R_drew)); exact Kd.R_mono HO_8.out (fun _ hk => hk.2))⟩, ⟨(by (with_reducible repeat (first | apply Kd.R_alloc | apply Kd.R_drewN | apply Kd.R_drew)); exact Kd.R_mono HO_418000.out (fun _ hk => hk.1))⟩, ⟨z41⟩, ⟨z49⟩, ⟨z6⟩, ⟨z12⟩⟩
                case rest =>
                  clear HC40
                  try clear c1
                  try clear c2
                  try clear p2
                  try clear c3
                  try clear c4
                  try clear q4
                  try clear c5
                  try clear c6
                  try clear p6
                  try clear c7
                  try clear c11
                  try clear c12
                  try clear c18
                  try clear c20
                  try clear c21
                  try clear c26
                  try clear c26b0
                  try clear c28
                  try clear c30
                  try clear c33
                  try clear c34
                  try clear c37
                  try clear c37b0
                  try clear c37b1
                  try clear c38
                  try clear c41
                  try clear c43
                  try clear c43b0
                  try clear c43b1
                  try clear c44
                  try clear c44b0
                  try clear c44b1
                  try clear c45
                  try clear c47
                  try clear q47
                  try clear hcz13_0
                  try clear hcz16_0
                  try clear hcz22_0
                  try clear hcz35_0
                  try clear hfz13_0
                  try clear hfz16_0
                  try clear hfz22_0
                  try clear hfz35_0
                  try clear p2
                  try clear p6
                  try clear q47
                  obtain ⟨kq, x8_39, HA, HJ39, HO_8, HO_418000, BK115, BK119, HI116, HB⟩ := hcut
                  cases kq with
                  | zero => exact absurd (show (none : Option _) = some _ from HA.out) (by simp)
                  | succ kj39 =>
                    have H := HA.out
                    clear HA
                    simp only [spec_l10With.j3] at H
                    replace H := zi H
                    obtain ⟨⟨t105, t137, t138⟩, A490, H⟩ := H
                    (try dsimp -simprocs only at H)
                    have A49 := zA A490
                    clear A490
                    by_cases c50 : t105 = 0
                    · rw [if_pos c50] at H
                      have c50b0 : (t105 == 0) = true := beq_iff_eq.mpr c50
                      have c50b1 : (t105 != 0) = false := bne_eq_false_iff_eq.mpr c50
                      clear c50
                      obtain ⟨y139, hy139⟩ : ∃ y_ : List Int, y_ = (([(-1), 1024, x9_4] : List Int)) := ⟨_, rfl⟩
                      replace H : ((spec_l01Pick.f t107 t137 t138 y139).bind fun bt106 => (if x8_39.length < 17592186044416 then (some (t108, (x8_39 ++ [bt106.1]), t114)) else (none))) = some (r1, r2, r3) := by first | (rw [hy139]; with_reducible exact H) | (have H2_ := (Option.bind_some _ _).symm.trans H; rw [hy139]; with_reducible exact H2_) | (have H2_ := (Option.bind_some _ _).symm.trans H; with_reducible exact H2_) | with_reducible exact H | (rw [hy139]; exact H) | exact H
                      have Ny139 := zA hy139
                      clear hy139
                      replace H := zi H
                      obtain ⟨⟨t106, t140, t141⟩, A510, H⟩ := H
                      (try dsimp -simprocs only at H)
                      have A51 := zA A510
                      clear A510
                      by_cases c52 : x8_39.length < 17592186044416
                      · rw [if_pos c52] at H
                        have LMc52 := zA c52
                        clear c52
                        obtain ⟨y142, hy142⟩ : ∃ y_ : List Int, y_ = (x8_39 ++ [t106]) := ⟨_, rfl⟩
                        replace H : (some (t108, y142, t114)) = some (r1, r2, r3) := by first | (rw [hy142]; with_reducible exact H) | (have H2_ := (Option.bind_some _ _).symm.trans H; rw [hy142]; with_reducible exact H2_) | (have H2_ := (Option.bind_some _ _).symm.trans H; with_reducible exact H2_) | with_reducible exact H | (rw [hy142]; exact H) | exact H
                        have Ny142 := zA hy142
                        clear hy142
                        simp only [Option.some.injEq, Prod.mk.injEq] at H
                        obtain ⟨rfl, rfl, rfl⟩ := H
                        go_wp2_with (first | ((with_reducible refine gate_callee (f := 69) rfl ?_); refine goesL_ (some 58) rfl rfl Try.func69 (by kernel_rfl) rfl #[.pointer (some ⟨g412, 0, none⟩), .int .i64 24] rfl z3 ?_; (with_reducible refine (spec_l01Next.calls g412 t107 x413001_31 x413002_31 24 t105 t137 t138 w _ ?side1 ?side2 A49.out).mono ?_); (case side1 => exact z6); (case side2 => exact z12); rintro e w53 ⟨rfl, hi, hb, hk⟩; refine ⟨_, rfl, ?_⟩; have n0_ := zA (Kd.R_mono (Kd.R_keep (IsS88.apart (show IsS88 w _ g412 t107 x413001_31 x413002_31 from z6) z37 (by decide)) hk (fun _ h => h.2)) (fun _ h => h.1)); have n1_ := zA (Kd.R_mono (Kd.R_keep (IsS88.apart (show IsS88 w _ g412 t107 x413001_31 x413002_31 from z6) z40 (by decide)) hk (fun _ h => h.2)) (fun _ h => h.1)); have n2_ := zKB BK115 hk NB115_116; have n3_ := zKB BK119 hk NB119_116; have n4_ := zA (hb); have n5_ := zA (hi); clear HO_8 HO_418000 BK115 BK119 HB HI116; have HO_8 := n0_; have HO_418000 := n1_; have BK115 := n2_; have BK119 := n3_; have HB := n4_; have HI116 := n5_; clear n0_ n1_ n2_ n3_ n4_ n5_; (try clear hb); (try clear hb2); (try clear hk); (try clear hi)) | ((with_reducible refine gate_dst (N := 64) rfl ?_); refine Kd.R_lit (Kd.int .i64) _ 2 ?hg (N := 64) ?hd (xs := ([(-1), 1024, x9_4] : List Int)) (inner := [.int .i64 (-1), .int .i64 1024, .int .i64 x9_4]) (ok := fun _ => True) (okp := fun _ => True) ?hr ?hp (fun _ hk => hk) trivial (Below.refl _ _) (Nat.le_refl _) (by simp) ?_; (case hd => rfl); (case hg => rfl); (case hr => first | (go_simp; done) | (go_simp; rfl)); (case hp => exact (Reps.one (show Kd.M (Kd.int .i64) _ _ _ (-1) [.int .i64 (-1)] from rfl) (Reps.one (show Kd.M (Kd.int .i64) _ _ _ 1024 [.int .i64 1024] from rfl) (Reps.one (show Kd.M (Kd.int .i64) _ _ _ x9_4 [.int .i64 x9_4] from rfl) (Reps.none _ _))))); intro v143 w54 ho55 hb hg_ hnew_; clear hg_ hnew_; (first | rw [← Ny139.out] at ho55 | (simp only [Int.reduceToNat] at ho55; rw [← Ny139.out] at ho55)); have n0_ := zA (Kd.R_elder' z37 (Kd.R_base ho55) hb); have n1_ := zA (Kd.R_elder' z40 (Kd.R_base ho55) hb); have n2_ := zA (Kd.R_lower (Kd.R_new' (Kd.R_new' ho55 (Kd.R_lt z37)) (Kd.R_lt z40)) (below_size z12)); have n3_ := zBB BK115 hb; have n4_ := zBB BK119 hb; have n5_ := zA (IsS88.below z6 hb); have n6_ := zA (below_step z12 hb); clear HO_8 HO_418000 BK115 BK119 HI116 HB; have HO_8 := n0_; have HO_418000 := n1_; have HO144 := n2_; have BK115 := n3_; have BK119 := n4_; have HI116 := n5_; have HB := n6_; clear n0_ n1_ n2_ n3_ n4_ n5_ n6_; clear hb ho55; obtain ⟨Ao56, co56, eo56⟩ := Kd.R_slice HO144.out; subst eo56) | ((with_reducible refine gate_callee (f := 70) rfl ?_); refine goesL_ (some 65) rfl rfl Try.func70 (by kernel_rfl) rfl #[.pointer (some ⟨g412, 0, none⟩), .slice Ao56 y139.length co56] rfl z3 ?_; (with_reducible refine (spec_l01Pick.calls g412 t107 t137 t138 _ _ y139 t106 t140 t141 w _ ?side1 ?side2 ?side3 ?side4 ?side5 A51.out).mono ?_); (case side1 => exact z6); (case side2 => exact z12); (case side3 => exact (by repeat (first | exact (Kd.R_reads' HO144.out).2.2 | (with_reducible refine Kd.C_alloc ?_ _) | (with_reducible refine Kd.C_drewN ?_ _) | (with_reducible refine Kd.C_drew ?_)))); (case side4 => exact (Kd.R_reads' HO144.out).2.1); (case side5 => exact far_slice (IsS88.own_ne HI116.out HO144.out (by decide))); rintro e w57 ⟨rfl, hi, hb, hk⟩; refine ⟨_, rfl, ?_⟩; have n0_ := zA (Kd.R_mono (Kd.R_keep (IsS88.apart (show IsS88 w _ g412 t107 t137 t138 from z6) z37 (by decide)) hk (fun _ h => h.2)) (fun _ h => h.1)); have n1_ := zA (Kd.R_mono (Kd.R_keep (IsS88.apart (show IsS88 w _ g412 t107 t137 t138 from z6) z40 (by decide)) hk (fun _ h => h.2)) (fun _ h => h.1)); have n2_ := zKB BK115 hk NB115_116; have n3_ := zKB BK119 hk NB119_116; have n4_ := zA (Kd.R_mono (Kd.R_keep (IsS88.apart (show IsS88 w _ g412 t107 t137 t138 from z6) z165 (by decide)) hk (fun _ h => h.2)) (fun _ h => h.1)); have n5_ := zA (hb); have n6_ := zA (hi); clear HO_8 HO_418000 BK115 BK119 HO144 HB HI116; have HO_8 := n0_; have HO_418000 := n1_; have BK115 := n2_; have BK119 := n3_; have HO144 := n4_; have HB := n5_; have HI116 := n6_; clear n0_ n1_ n2_ n3_ n4_ n5_ n6_; (try clear hb); (try clear hb2); (try clear hk); (try clear hi)) | ((with_reducible refine gate_builtin (b := .append) (xs := #[.tmp 61, .tmp 66]) rfl ?_); at_builtin; refine Kd.R_append (Kd.int .i64) (w0 := w) w.heap.size rfl (.tmp 61) (.tmp 66) 25 2 (.int .i64 0) 8 rfl Try.underlying25 info2 rfl (by decide) (by omega) u8 x8_39 t106 [.int .i64 t106] (fun k_ => some k_ ≠ (.slice Ao10 t108.length co10 : Value).ownBlock ∧ some k_ ≠ (.slice Ao56 y139.length co56 : Value).ownBlock) (fun _ => False) rfl rfl ?aP (fun _ hk => hk.elim) ?aF ?aO ?aB ?aS ?aL ?_; (case aP => exact rfl); (case aB => exact z12); (case aF => exact (fun k_ hk => ⟨Kd.fresh' (Kd.R_lt z40) k_ hk, Kd.fresh' (Kd.R_lt z165) k_ hk⟩)); (case aO => exact z37); (case aS => exact (below_size z12)); (case aL => have := LMc52.out; omega); intro v145 w58 ho hb hg hat; rw [← Ny142.out] at ho; have n0_ := zA (Kd.R_after (ok := (fun k_ => some k_ ≠ (.slice Ao56 y139.length co56 : Value).ownBlock)) (by (with_reducible repeat (first | apply Kd.R_alloc | apply Kd.R_drewN | apply Kd.R_drew)); exact Kd.R_mono HO_418000.out (fun _ hk => ⟨hk.2, hk.1⟩)) hg hat); have n1_ := zA (blk_grown (g := gb115) (o := .cells #[.slice none 0 0] 27 (0, 0)) z41 hg (Kd.R_ne HO_8.out BK115.out (by decide))); have n2_ := zA (blk_grown (g := gb119) (o := .cells #[.slice Ao10 t108.length co10] 27 (0, 0)) z49 hg (Kd.R_ne HO_8.out BK119.out (by decide))); have n3_ := zA (IsS88.grown z6 hg (IsS88.own_ne HI116.out HO_8.out (by decide))); have n4_ := zA (Kd.R_after (ok := (fun k_ => some k_ ≠ (.slice Ao10 t108.length co10 : Value).ownBlock)) (by (with_reducible repeat (first | apply Kd.R_alloc | apply Kd.R_drewN | apply Kd.R_drew)); exact Kd.R_mono HO144.out (fun _ hk => ⟨hk.2, hk.1.2⟩)) hg hat); have n5_ := zA (hb); have n6_ := zA (ho); clear HO_418000 BK115 BK119 HI116 HO144 HB HO_8; have HO_418000 := n0_; have BK115 := n1_; have BK119 := n2_; have HI116 := n3_; have HO144 := n4_; have HB := n5_; have HO146 := n6_; clear n0_ n1_ n2_ n3_ n4_ n5_ n6_; clear ho hb hg hat; have hnb59 := NB119_115.out; have hnc59 := NB115_119.out; have hnb60 := NB119_116.out; have hnc60 := NB116_119.out; obtain ⟨hcz61_0, hfz61_0⟩ := zC1 BK119.out; have hnb62 := NB115_116.out; have hnc62 := NB116_115.out; obtain ⟨hcz63_0, hfz63_0⟩ := zC1 BK115.out))
                        refine bodyPost_ret (results_ctt rfl _ _ gb115 27 #[.slice Ao10 t108.length co10] (0, 0) _ rfl z86 Try.underlying27 rfl (by kernel_rfl)) rfl ?_
                        exact ⟨_, _, z15, (by (with_reducible repeat (first | apply Kd.R_alloc | apply Kd.R_drewN | apply Kd.R_drew)); exact Kd.R_mono (Kd.R_far (p := ⟨gb115, 0, none⟩) (Kd.R_types HO_418000.out BK115.out (by decide)) (fun _ hk => hk.2) (.slice Ao10 t108.length co10)) (fun _ hk => hk.1.2)), (by (with_reducible repeat (first | apply Kd.R_alloc | apply Kd.R_drewN | apply Kd.R_drew)); exact Kd.R_mono (Kd.R_far (p := ⟨gb115, 0, none⟩) (Kd.R_types HO146.out BK115.out (by decide)) (fun _ hk => hk.2) (.slice Ao10 t108.length co10)) (fun _ hk => hk.1.1)), z12⟩
                      · rw [if_neg c52] at H
                        exact absurd H (by simp)
                    · rw [if_neg c50] at H
                      have c50b0 : (t105 == 0) = false := beq_eq_false_iff_ne.mpr c50
                      have c50b1 : (t105 != 0) = true := bne_iff_ne.mpr c50
                      by_cases c64 : t105 = 1
                      · rw [if_pos c64] at H
                        have c64b0 : (t105 == 1) = true := beq_iff_eq.mpr c64
                        have c64b1 : (t105 != 1) = false := bne_eq_false_iff_eq.mpr c64
                        clear c64
                        have H' := zA H
                        clear H
                        go_wp2_with (first | ((with_reducible refine gate_callee (f := 69) rfl ?_); refine goesL_ (some 58) rfl rfl Try.func69 (by kernel_rfl) rfl #[.pointer (some ⟨g412, 0, none⟩), .int .i64 24] rfl z3 ?_; (with_reducible refine (spec_l01Next.calls g412 t107 x413001_31 x413002_31 24 t105 t137 t138 w _ ?side1 ?side2 A49.out).mono ?_); (case side1 => exact z6); (case side2 => exact z12); rintro e w65 ⟨rfl, hi, hb, hk⟩; refine ⟨_, rfl, ?_⟩; have n0_ := zA (Kd.R_mono (Kd.R_keep (IsS88.apart (show IsS88 w _ g412 t107 x413001_31 x413002_31 from z6) z37 (by decide)) hk (fun _ h => h.2)) (fun _ h => h.1)); have n1_ := zA (Kd.R_mono (Kd.R_keep (IsS88.apart (show IsS88 w _ g412 t107 x413001_31 x413002_31 from z6) z40 (by decide)) hk (fun _ h => h.2)) (fun _ h => h.1)); have n2_ := zKB BK115 hk NB115_116; have n3_ := zKB BK119 hk NB119_116; have n4_ := zA (hb); have n5_ := zA (hi); clear HO_8 HO_418000 BK115 BK119 HB HI116; have HO_8 := n0_; have HO_418000 := n1_; have BK115 := n2_; have BK119 := n3_; have HB := n4_; have HI116 := n5_; clear n0_ n1_ n2_ n3_ n4_ n5_; (try clear hb); (try clear hb2); (try clear hk); (try clear hi)))
                        go_loopg [8] kj39 (fun kq v8 w' => ∃ (x8_5 : List Int), Aside0 (spec_l10With.l1 kq t114 x8_5 t108 = some (r1, r2, r3)) ∧ Aside0 (kq ≤ kj39) ∧ Aside0 (Kd.R (Kd.int .i64) 2 w' w.heap.size (fun k_ => some k_ ≠ ((.slice Ao10 t108.length co10) : Value).ownBlock) v8 x8_5) ∧ Aside0 (Kd.R (Kd.int .i64) 2 w' w.heap.size (fun k_ => some k_ ≠ (v8 : Value).ownBlock) (.slice Ao10 t108.length co10) t108) ∧ Aside0 (w'.heap[gb115]? = some (.cells #[(.slice none 0 0)] 27 (0, 0))) ∧ Aside0 (w'.heap[gb119]? = some (.cells #[(.slice Ao10 t108.length co10)] 27 (0, 0))) ∧ Aside0 (Below w.heap.size w w'))
                        case atStart => exact ⟨(x8_39), H', ⟨Nat.le_refl _⟩, ⟨z37⟩, ⟨z40⟩, ⟨z41⟩, ⟨z49⟩, ⟨z12⟩⟩
                        case round =>
                          clear H'
                          try clear c1
                          try clear c2
                          try clear p2
                          try clear c3
                          try clear c4
                          try clear q4
                          try clear c5
                          try clear c6
                          try clear p6
                          try clear c7
                          try clear c11
                          try clear c12
                          try clear c18
                          try clear c20
                          try clear c21
                          try clear c26
                          try clear c26b0
                          try clear c28
                          try clear c30
                          try clear c33
                          try clear c34
                          try clear c37
                          try clear c37b0
                          try clear c37b1
                          try clear c38
                          try clear c41
                          try clear c43
                          try clear c43b0
                          try clear c43b1
                          try clear c44
                          try clear c44b0
                          try clear c44b1
                          try clear c45
                          try clear c47
                          try clear q47
                          try clear c50
                          try clear c50b0
                          try clear c50b1
                          try clear c52
                          try clear c56
                          try clear c59
                          try clear c60
                          try clear c62
                          try clear c64
                          try clear c64b0
                          try clear c64b1
                          try clear p64
                          try clear hcz13_0
                          try clear hcz16_0
                          try clear hcz22_0
                          try clear hcz35_0
                          try clear hcz61_0
                          try clear hcz63_0
                          try clear hfz13_0
                          try clear hfz16_0
                          try clear hfz22_0
                          try clear hfz35_0
                          try clear hfz61_0
                          try clear hfz63_0
                          try clear p2
                          try clear p6
                          try clear q4
                          try clear q47
                          obtain ⟨x8_5, HA, HK5, HO_8, HO_418000, BK115, BK119, HB⟩ := hrel
                          cases gk with
                          | zero => exact absurd (show (none : Option _) = some _ from HA.out) (by simp)
                          | succ k5 =>
                            have H := HA.out
                            clear HA
                            rw [spec_l10With.l1_succ] at H
                            by_cases c66 : (x8_5.length : Int) < 201
                            · rw [if_pos c66] at H
                              have c66b0 : decide ((x8_5.length : Int) < 201) = true := decide_eq_true c66
                              have c66b1 : decide (x8_5.length < 201) = true := decide_eq_true (by omega)
                              clear c66
                              by_cases c67 : x8_5.length < 17592186044416
                              · rw [if_pos c67] at H
                                have LMc67 := zA c67
                                clear c67
                                obtain ⟨y147, hy147⟩ : ∃ y_ : List Int, y_ = (x8_5 ++ [0]) := ⟨_, rfl⟩
                                replace H : (spec_l10With.l1 k5 t114 y147 t108) = some (r1, r2, r3) := by first | (rw [hy147]; with_reducible exact H) | (have H2_ := (Option.bind_some _ _).symm.trans H; rw [hy147]; with_reducible exact H2_) | (have H2_ := (Option.bind_some _ _).symm.trans H; with_reducible exact H2_) | with_reducible exact H | (rw [hy147]; exact H) | exact H
                                have Ny147 := zA hy147
                                clear hy147
                                have H' := zA H
                                clear H
                                obtain ⟨Ao68, co68, eo68⟩ := Kd.R_slice HO_8.out
                                subst eo68
                                go_wp2_with (first | ((with_reducible refine gate_builtin (b := .append) (xs := #[.tmp 73, .tmp 74]) rfl ?_); at_builtin; refine Kd.R_append (Kd.int .i64) (w0 := w) w.heap.size rfl (.tmp 73) (.tmp 74) 25 2 (.int .i64 0) 8 rfl Try.underlying25 info2 rfl (by decide) (by omega) (.slice Ao68 x8_5.length co68) x8_5 0 [.int .i64 0] (fun k_ => some k_ ≠ (.slice Ao10 t108.length co10 : Value).ownBlock) (fun _ => False) rfl rfl ?aP (fun _ hk => hk.elim) ?aF ?aO ?aB ?aS ?aL ?_; (case aP => exact rfl); (case aB => exact z87); (case aF => exact (fun k_ hk => Kd.fresh' (Kd.R_lt z40) k_ hk)); (case aO => exact z37); (case aS => exact (below_size z87)); (case aL => have := LMc67.out; omega); intro v148 w69 ho hb hg hat; rw [← Ny147.out] at ho; have n0_ := zA (Kd.R_after (ok := (fun _ => True)) z148 hg hat); have n1_ := zA (blk_grown (g := gb115) (o := .cells #[.slice none 0 0] 27 (0, 0)) z41 hg (Kd.R_ne HO_8.out BK115.out (by decide))); have n2_ := zA (blk_grown (g := gb119) (o := .cells #[.slice Ao10 t108.length co10] 27 (0, 0)) z49 hg (Kd.R_ne HO_8.out BK119.out (by decide))); have n3_ := zA (hb); have n4_ := zA (ho); clear HO_418000 BK115 BK119 HB HO_8; have HO_418000 := n0_; have BK115 := n1_; have BK119 := n2_; have HB := n3_; have HO149 := n4_; clear n0_ n1_ n2_ n3_ n4_; clear ho hb hg hat))
                                go_roundg k5
                                case measure => have := HJ4.out; have := HK2.out; have := HJ31.out; have := HJ39.out; have := HK5.out; omega
                                case rel => exact ⟨(y147), H', ⟨(by have := HJ4.out; have := HK2.out; have := HJ31.out; have := HJ39.out; have := HK5.out; omega)⟩, ⟨(by (with_reducible repeat (first | apply Kd.R_alloc | apply Kd.R_drewN | apply Kd.R_drew)); exact HO149.out)⟩, ⟨z125⟩, ⟨z41⟩, ⟨z49⟩, ⟨z87⟩⟩
                              · rw [if_neg c67] at H
                                exact absurd H (by simp)
                            · rw [if_neg c66] at H
                              have c66b0 : decide ((x8_5.length : Int) < 201) = false := decide_eq_false c66
                              have c66b1 : decide (x8_5.length < 201) = false := decide_eq_false (by omega)
                              clear c66
                              simp only [Option.some.injEq, Prod.mk.injEq] at H
                              obtain ⟨rfl, rfl, rfl⟩ := H
                              obtain ⟨Ao70, co70, eo70⟩ := Kd.R_slice HO_8.out
                              subst eo70
                              have hnb71 := NB119_115.out
                              have hnc71 := NB115_119.out
                              obtain ⟨hcz72_0, hfz72_0⟩ := zC1 BK119.out
                              obtain ⟨hcz73_0, hfz73_0⟩ := zC1 BK115.out
                              go_wp2
                              refine bodyPost_ret (results_ctt rfl _ _ gb115 27 #[.slice Ao10 t108.length co10] (0, 0) _ rfl z86 Try.underlying27 rfl (by kernel_rfl)) rfl ?_
                              exact ⟨_, _, z15, z110, z112, z87⟩
                      · rw [if_neg c64] at H
                        have c64b0 : (t105 == 1) = false := beq_eq_false_iff_ne.mpr c64
                        have c64b1 : (t105 != 1) = true := bne_iff_ne.mpr c64
                        simp only [Option.some.injEq, Prod.mk.injEq] at H
                        obtain ⟨rfl, rfl, rfl⟩ := H
                        go_wp2_with (first | ((with_reducible refine gate_callee (f := 69) rfl ?_); refine goesL_ (some 58) rfl rfl Try.func69 (by kernel_rfl) rfl #[.pointer (some ⟨g412, 0, none⟩), .int .i64 24] rfl z3 ?_; (with_reducible refine (spec_l01Next.calls g412 t107 x413001_31 x413002_31 24 t105 t137 t138 w _ ?side1 ?side2 A49.out).mono ?_); (case side1 => exact z6); (case side2 => exact z12); rintro e w74 ⟨rfl, hi, hb, hk⟩; refine ⟨_, rfl, ?_⟩; have n0_ := zA (Kd.R_mono (Kd.R_keep (IsS88.apart (show IsS88 w _ g412 t107 x413001_31 x413002_31 from z6) z37 (by decide)) hk (fun _ h => h.2)) (fun _ h => h.1)); have n1_ := zA (Kd.R_mono (Kd.R_keep (IsS88.apart (show IsS88 w _ g412 t107 x413001_31 x413002_31 from z6) z40 (by decide)) hk (fun _ h => h.2)) (fun _ h => h.1)); have n2_ := zKB BK115 hk NB115_116; have n3_ := zKB BK119 hk NB119_116; have n4_ := zA (hb); have n5_ := zA (hi); clear HO_8 HO_418000 BK115 BK119 HB HI116; have HO_8 := n0_; have HO_418000 := n1_; have BK115 := n2_; have BK119 := n3_; have HB := n4_; have HI116 := n5_; clear n0_ n1_ n2_ n3_ n4_ n5_; (try clear hb); (try clear hb2); (try clear hk); (try clear hi); have hnb75 := NB119_115.out; have hnc75 := NB115_119.out; have hnb76 := NB119_116.out; have hnc76 := NB116_119.out; obtain ⟨hcz77_0, hfz77_0⟩ := zC1 BK119.out; have hnb78 := NB115_116.out; have hnc78 := NB116_115.out; obtain ⟨hcz79_0, hfz79_0⟩ := zC1 BK115.out))
                        refine bodyPost_ret (results_ctt rfl _ _ gb115 27 #[.slice Ao10 t108.length co10] (0, 0) _ rfl z86 Try.underlying27 rfl (by kernel_rfl)) rfl ?_
                        exact ⟨_, _, z15, z110, z112, z12⟩

/-! ### spec_DrawStrengthOf: function 12 -/
def spec_DrawStrengthOf.f (k : Nat) (l0 : List Int) : Option (List Int × List Int) := (spec_l10With.f k l0).bind fun bt100 => (some (bt100.1, bt100.2.1))
set_option maxHeartbeats 8000000 in
set_option maxRecDepth 100000 in
theorem spec_DrawStrengthOf.calls (k : Nat) (A0 : Option Addr) (c0 : Nat) (l0 : List Int) (r1 : List Int) (r2 : List Int) (w : World) (hr0 : Kd.C (Kd.int .u8) w A0 l0.length l0) (hc0 : l0.length ≤ c0) (h : spec_DrawStrengthOf.f k l0 = some (r1, r2)) :
    Calls Try.prog 12 #[.slice A0 l0.length c0] w fun e w' => ∃ v0_ v1_ : Value, e = .returned (.tuple #[.agg #[v0_], v1_]) ∧ Kd.R (Kd.int .i64) 2 w' w.heap.size (fun k_ => some k_ ≠ (v1_ : Value).ownBlock) v0_ r1 ∧ Kd.R (Kd.int .i64) 2 w' w.heap.size (fun k_ => some k_ ≠ (v0_ : Value).ownBlock) v1_ r2 ∧ Below w.heap.size w w' := by
  have hu27 := Try.underlying27
  have HR0 := zA hr0
  have HC0 := zA hc0
  clear hr0 hc0
  have HB := zA (Below.refl w.heap.size w)
  have H : ((spec_l10With.f k l0).bind fun bt100 => (some (bt100.1, bt100.2.1))) = some (r1, r2) := h
  clear h
  replace H := zi H
  obtain ⟨⟨t100, t101, t102⟩, A20, H⟩ := H
  replace H : (some (t100, t101)) = some (r1, r2) := H
  have A2 := zA A20
  clear A20
  simp only [Option.some.injEq, Prod.mk.injEq] at H
  obtain ⟨rfl, rfl⟩ := H
  go_enter Try.func12, Try.ntmps12
  go_wp2_with (first | ((with_reducible refine gate_dst (N := 2) rfl ?_); refine box_event ?hg (N := 2) ?hd (cs := #[.slice none 0 0]) (t := 27) ?hr ?_; (case hd => rfl); (case hg => rfl); (case hr => first | (go_simp; done) | (go_simp; rfl)); intro gb103 hg w3 hbox hb; have n0_ := zA (below_step z1 hb); have n1_ := zA (hbox); have n2_ := zA ((z178 : w.heap.size ≤ gb103)); have n3_ := zA ((z178 : w.heap.size ≤ gb103)); clear HB; have HB := n0_; have BK103 := n1_; have GW103 := n2_; have GE103 := n3_; clear n0_ n1_ n2_ n3_; clear hb hbox hg) | ((with_reducible refine gate_callee (f := 47) rfl ?_); refine goesL_ (some 9) rfl rfl Try.func47 (by kernel_rfl) rfl #[.slice A0 l0.length c0] rfl z3 ?_; (with_reducible refine (spec_l10With.calls k _ _ l0 t100 t101 t102 _ ?side1 ?side2 A2.out).mono ?_); (case side1 => exact z109); (case side2 => exact HC0.out); rintro e w4 ⟨v104, v105, rfl, ho0, ho1, hb⟩; refine ⟨_, rfl, ?_⟩; have n0_ := zA (Kd.R_lower ho0 (below_size z2)); have n1_ := zA (Kd.R_lower ho1 (below_size z2)); have n2_ := zBB BK103 hb; have n3_ := zA (below_step z2 hb); clear BK103 HB; have HO106 := n0_; have HO107 := n1_; have BK103 := n2_; have HB := n3_; clear n0_ n1_ n2_ n3_; (try clear hb); (try clear hb2); (try clear hk); (try clear hi); (try clear ho0); (try clear ho1)) | ((with_reducible refine gate_dst (N := 4) rfl ?_); refine box_event ?hg (N := 4) ?hd (cs := #[.slice none 0 0]) (t := 27) ?hr ?_; (case hd => rfl); (case hg => rfl); (case hr => first | (go_simp; done) | (go_simp; rfl)); intro gb108 hg w5 hbox hb; have n0_ := zA (Kd.R_below z118 hb); have n1_ := zA (Kd.R_below z119 hb); have n2_ := zBB BK103 hb; have n3_ := zA (below_step z2 hb); have n4_ := zA (hbox); have n5_ := zA (((by rw [hg]; exact (below_size z2)) : w.heap.size ≤ gb108)); have n6_ := zA (((by rw [hg]; exact (below_size z2)) : w.heap.size ≤ gb108)); have n7_ := zA (((by rw [hg]; exact Nat.ne_of_lt (blk_lt (g := gb103) (o := .cells #[.slice none 0 0] 27 (0, 0)) z24)) : gb103 ≠ gb108)); have n8_ := zA (((by rw [hg]; exact Nat.ne_of_gt (blk_lt (g := gb103) (o := .cells #[.slice none 0 0] 27 (0, 0)) z24)) : gb108 ≠ gb103)); clear HO106 HO107 BK103 HB; have HO106 := n0_; have HO107 := n1_; have BK103 := n2_; have HB := n3_; have BK108 := n4_; have GW108 := n5_; have GE108 := n6_; have NB103_108 := n7_; have NB108_103 := n8_; clear n0_ n1_ n2_ n3_ n4_ n5_ n6_ n7_ n8_; clear hb hbox hg; obtain ⟨Ao6, co6, eo6⟩ := Kd.R_slice HO106.out; subst eo6; have hnb7 := NB108_103.out; have hnc7 := NB103_108.out; obtain ⟨hcz8_0, hfz8_0⟩ := zC1 BK108.out; obtain ⟨hcz9_0, hfz9_0⟩ := zC1 BK103.out))
  refine bodyPost_ret (results_ct rfl _ _ gb103 27 #[.slice Ao6 t100.length co6] (0, 0) _ rfl (by (with_reducible repeat (first | refine blk_drewN ?_ _ | refine blk_drew ?_ | refine blk_alloc ?_ _)); refine blk_put (cs := #[.slice none 0 0]) ?_ 0 _ rfl; (with_reducible repeat (first | refine blk_drewN ?_ _ | refine blk_drew ?_ | refine blk_alloc ?_ _)); refine blk_far ?_ NB103_108.out _; (with_reducible repeat (first | refine blk_drewN ?_ _ | refine blk_drew ?_ | refine blk_alloc ?_ _)); exact BK103.out) Try.underlying27 rfl (by kernel_rfl)) rfl ?_
  exact ⟨_, _, z15, (by (with_reducible repeat (first | apply Kd.R_alloc | apply Kd.R_drewN | apply Kd.R_drew)); exact Kd.R_mono (Kd.R_far (p := ⟨gb103, 0, none⟩) (Kd.R_far (p := ⟨gb108, 0, none⟩) (Kd.R_types (Kd.R_types HO106.out BK108.out (by decide)) BK103.out (by decide)) (fun _ hk => hk.1.2) (.slice Ao6 t100.length co6)) (fun _ hk => hk.2) (.slice Ao6 t100.length co6)) (fun _ hk => hk.1.1)), (by (with_reducible repeat (first | apply Kd.R_alloc | apply Kd.R_drewN | apply Kd.R_drew)); exact Kd.R_mono (Kd.R_far (p := ⟨gb103, 0, none⟩) (Kd.R_far (p := ⟨gb108, 0, none⟩) (Kd.R_types (Kd.R_types HO107.out BK108.out (by decide)) BK103.out (by decide)) (fun _ hk => hk.1.2) (.slice Ao6 t100.length co6)) (fun _ hk => hk.2) (.slice Ao6 t100.length co6)) (fun _ hk => hk.1.1)), (by repeat (first | (with_reducible first | exact HB.out | apply below_alloc | apply pw_below_drewN | apply below_drew1 | refine below_set ?_ GE103.out | refine below_set ?_ GE108.out) | exact HB.out))⟩

/-! ### impl_places: function 80 -/
def impl_places.f (l0_0 : List Int) : Option (Int) := some (l0_0.length : Int)
set_option maxHeartbeats 8000000 in
set_option maxRecDepth 100000 in
theorem impl_places.calls (A0_0 : Option Addr) (c0_0 : Nat) (l0_0 : List Int) (r : Int) (w : World) (hr0_0 : Kd.C (Kd.int .i64) w A0_0 l0_0.length l0_0) (hc0_0 : l0_0.length ≤ c0_0) (h : impl_places.f l0_0 = some r) :
    Calls Try.prog 80 #[.agg #[.slice A0_0 l0_0.length c0_0]] w fun e w' => e = .returned (.int .i64 r) ∧ Below w.heap.size w w' := by
  have hu27 := Try.underlying27
  have HR0_0 := zA hr0_0
  have HC0_0 := zA hc0_0
  clear hr0_0 hc0_0
  have HB := zA (Below.refl w.heap.size w)
  have H : (some (l0_0.length : Int)) = some r := h
  clear h
  obtain rfl := Option.some.inj H
  go_enter Try.func80, Try.ntmps80
  go_wp2_with (first | ((with_reducible refine gate_dst (N := 1) rfl ?_); refine box_event ?hg (N := 1) ?hd (cs := #[.slice A0_0 l0_0.length c0_0]) (t := 27) ?hr ?_; (case hd => rfl); (case hg => rfl); (case hr => first | (go_simp; done) | (go_simp; rfl)); intro gb100 hg w2 hbox hb; have n0_ := zA (below_step z1 hb); have n1_ := zA (hbox); have n2_ := zA ((z178 : w.heap.size ≤ gb100)); have n3_ := zA ((z178 : w.heap.size ≤ gb100)); clear HB; have HB := n0_; have BK100 := n1_; have GW100 := n2_; have GE100 := n3_; clear n0_ n1_ n2_ n3_; clear hb hbox hg; obtain ⟨hcz3_0, hfz3_0⟩ := zC1 BK100.out))
  go_ret
  exact ⟨z15, z28⟩

/-! ### impl_isStrength: function 49 -/
def impl_isStrength.f (l0_0 : List Int) (a1 : Int) : Option (Bool) := if a1 ≥ 1 then ((impl_places.f l0_0).bind fun t100 => (some (decide (a1 ≤ (mn 3 t100))))) else (some false)
set_option maxHeartbeats 8000000 in
set_option maxRecDepth 100000 in
theorem impl_isStrength.calls (A0_0 : Option Addr) (c0_0 : Nat) (l0_0 : List Int) (a1 : Int) (r : Bool) (w : World) (hr0_0 : Kd.C (Kd.int .i64) w A0_0 l0_0.length l0_0) (hc0_0 : l0_0.length ≤ c0_0) (h : impl_isStrength.f l0_0 a1 = some r) :
    Calls Try.prog 49 #[.agg #[.slice A0_0 l0_0.length c0_0], .int .i64 a1] w fun e w' => e = .returned (.bool r) ∧ Below w.heap.size w w' := by
  have hu27 := Try.underlying27
  have HR0_0 := zA hr0_0
  have HC0_0 := zA hc0_0
  clear hr0_0 hc0_0
  have HB := zA (Below.refl w.heap.size w)
  have H : (if a1 ≥ 1 then ((impl_places.f l0_0).bind fun t100 => (some (decide (a1 ≤ (mn 3 t100))))) else (some false)) = some r := h
  clear h
  by_cases c3 : a1 ≥ 1
  · rw [if_pos c3] at H
    have c3b0 : decide (1 ≤ a1) = true := decide_eq_true c3
    clear c3
    replace H := zi H
    obtain ⟨t100, A40, H⟩ := H
    replace H : (some (decide (a1 ≤ (mn 3 t100)))) = some r := H
    have A4 := zA A40
    clear A40
    obtain ⟨ji5, hji5⟩ : ∃ j_ : Int, (mn 3 t100) = j_ := ⟨_, rfl⟩
    replace H : (some (decide (a1 ≤ (ji5)))) = some r := by first | (rw [hji5] at H; exact H) | (simp only [hji5] at H ⊢; exact H)
    (try rw [hji5] at A4)
    (try (have hji5h : ji5 ≤ 3 := by (rw [← hji5]; unfold mn; (repeat' split) <;> omega)))
    (try (have hji5g : ji5 ≤ 64 := by omega))
    have hji5_ : (if t100 < 3 then t100 else 3) = ji5 := hji5
    obtain rfl := Option.some.inj H
    go_enter Try.func49, Try.ntmps49
    go_wp2_with (first | ((with_reducible refine gate_dst (N := 2) rfl ?_); (try (refine gate_guard (by rfl) ?_; dsimp only)); refine box_event ?hg (N := 2) ?hd (cs := #[.slice A0_0 l0_0.length c0_0]) (t := 27) ?hr ?_; (case hd => rfl); (case hg => rfl); (case hr => first | (go_simp; done) | (go_simp; rfl)); intro gb101 hg w6 hbox hb; have n0_ := zA (below_step z1 hb); have n1_ := zA (hbox); have n2_ := zA ((z178 : w.heap.size ≤ gb101)); have n3_ := zA ((z178 : w.heap.size ≤ gb101)); clear HB; have HB := n0_; have BK101 := n1_; have GW101 := n2_; have GE101 := n3_; clear n0_ n1_ n2_ n3_; clear hb hbox hg; obtain ⟨hcz7_0, hfz7_0⟩ := zC1 BK101.out) | (go_at_call 80; (with_reducible refine (impl_places.calls _ _ l0_0 t100 _ ?side1 ?side2 A4.out).mono ?_); (case side1 => exact z5); (case side2 => exact HC0_0.out); rintro e w8 ⟨rfl, hb⟩; have n0_ := zBB BK101 hb; have n1_ := zA (below_step z39 hb); clear BK101 HB; have BK101 := n0_; have HB := n1_; clear n0_ n1_; (try clear hb); (try clear hb2); (try clear hk); (try clear hi)))
    go_ret
    exact ⟨z79, z39⟩
  · rw [if_neg c3] at H
    have c3b0 : decide (1 ≤ a1) = false := decide_eq_false c3
    clear c3
    obtain rfl := Option.some.inj H
    go_enter Try.func49, Try.ntmps49
    go_wp2_with (first | ((with_reducible refine gate_dst (N := 2) rfl ?_); (try (refine gate_guard (by rfl) ?_; dsimp only)); refine box_event ?hg (N := 2) ?hd (cs := #[.slice A0_0 l0_0.length c0_0]) (t := 27) ?hr ?_; (case hd => rfl); (case hg => rfl); (case hr => first | (go_simp; done) | (go_simp; rfl)); intro gb101 hg w9 hbox hb; have n0_ := zA (below_step z1 hb); have n1_ := zA (hbox); have n2_ := zA ((z178 : w.heap.size ≤ gb101)); have n3_ := zA ((z178 : w.heap.size ≤ gb101)); clear HB; have HB := n0_; have BK101 := n1_; have GW101 := n2_; have GE101 := n3_; clear n0_ n1_ n2_ n3_; clear hb hbox hg))
    go_ret
    exact ⟨z15, z39⟩

end Go.Proofs.Ytbfhhjekonafdaa.PFnPairRows
