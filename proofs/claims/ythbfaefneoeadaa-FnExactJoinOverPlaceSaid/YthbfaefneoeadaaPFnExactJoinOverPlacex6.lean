-- WALKS, by a program and by hand
import Derived.Test.YthbfaefneoeadaaPFnExactJoinOverPlacex0
import Derived.Test.YthbfaefneoeadaaPFnExactJoinOverPlacex5
namespace Go.Proofs.Ythbfaefneoeadaa.PFnExactJoinOverPlace
open Go.RowKit Go.Proofs.Ythbfaefneoeadaa.DG Go.Proofs.YthbfaefneoeadaaW.PrintWords Go.Proofs.YthbfaefneoeadaaW.PrintLast Go.Proofs.YthbfaefneoeadaaW.PrintMore
attribute [local go_sem] max2_int min2_int max_two min_two max_three min_three max_four min_four   -- for this text's walks alone
set_option linter.unusedVariables false
set_option linter.unusedSimpArgs false

/-! ### impl_twoCode: function 43 -/
def impl_twoCode.j0 : Nat → List Int → List Int → Bool → List Int → List Int → Option (Int)
  | 0, _, _, _, _, _ => none
  | k + 1, x1, x3, x9, x182000, x183000 => if x9 = true then (some 1) else ((impl_isCode.f k x182000 x1).bind fun t100 => (if t100 = true then ((impl_isCode.f k x183000 x3).bind fun t101 => (if t101 = true then (some 0) else (some 2))) else (some 2)))
def impl_twoCode.f (k : Nat) (l0_0 : List Int) (l1 : List Int) (l2_0 : List Int) (l3 : List Int) : Option (Int) := (impl_IsSpace.f k l0_0).bind fun t102 => (if t102 = true then ((impl_IsSpace.f k l2_0).bind fun t103 => (impl_twoCode.j0 k l1 l3 (!t103) l0_0 l2_0)) else (impl_twoCode.j0 k l1 l3 true l0_0 l2_0))
theorem impl_twoCode.mono_l : ∀ k, (∀ y0 y1 y2 y3 y4, LeO (impl_twoCode.j0 k y0 y1 y2 y3 y4) (impl_twoCode.j0 (k + 1) y0 y1 y2 y3 y4))
  | 0 => fun _ _ _ _ _ r h => by simp [impl_twoCode.j0] at h
  | k + 1 => by
    have ih0 := impl_twoCode.mono_l k
    · intro y0 y1 y2 y3 y4
      unfold impl_twoCode.j0
      repeat' first
      | (with_reducible exact ih0 _ _ _ _ _)
      | (with_reducible exact impl_IsSpace.mono _ _)
      | (with_reducible exact impl_isCode.mono _ _ _)
      | (with_reducible exact LeO.refl _)
      | (with_reducible exact LeO.none _)
      | (with_reducible refine LeO.ite ?_ ?_)
      | (with_reducible refine LeO.bind ?_ (fun _ => ?_))
theorem impl_twoCode.mono : ∀ a0 a1 a2 a3 k, LeO (impl_twoCode.f k a0 a1 a2 a3) (impl_twoCode.f (k + 1) a0 a1 a2 a3) := by
  intro a0 a1 a2 a3 k
  have ih0 := impl_twoCode.mono_l k
  unfold impl_twoCode.f
  repeat' first
      | (with_reducible exact ih0 _ _ _ _ _)
      | (with_reducible exact impl_IsSpace.mono _ _)
      | (with_reducible exact impl_isCode.mono _ _ _)
      | (with_reducible exact LeO.refl _)
      | (with_reducible exact LeO.none _)
      | (with_reducible refine LeO.ite ?_ ?_)
      | (with_reducible refine LeO.bind ?_ (fun _ => ?_))
set_option maxHeartbeats 8000000 in
set_option maxRecDepth 100000 in
theorem impl_twoCode.calls (k : Nat) (A0_0 : Option Addr) (c0_0 : Nat) (l0_0 : List Int) (A1 : Option Addr) (c1 : Nat) (l1 : List Int) (A2_0 : Option Addr) (c2_0 : Nat) (l2_0 : List Int) (A3 : Option Addr) (c3 : Nat) (l3 : List Int) (r : Int) (w : World) (hr0_0 : Kd.C (Kd.int .i64) w A0_0 l0_0.length l0_0) (hc0_0 : l0_0.length ≤ c0_0) (hr1 : Kd.C (Kd.int .i64) w A1 l1.length l1) (hc1 : l1.length ≤ c1) (hr2_0 : Kd.C (Kd.int .i64) w A2_0 l2_0.length l2_0) (hc2_0 : l2_0.length ≤ c2_0) (hr3 : Kd.C (Kd.int .i64) w A3 l3.length l3) (hc3 : l3.length ≤ c3) (h : impl_twoCode.f k l0_0 l1 l2_0 l3 = some r) :
    Calls Try.prog 43 #[.agg #[.slice A0_0 l0_0.length c0_0], .slice A1 l1.length c1, .agg #[.slice A2_0 l2_0.length c2_0], .slice A3 l3.length c3] w fun e w' => e = .returned (.int .i64 r) ∧ Below w.heap.size w w' := by
  have hu30 := Try.underlying30
  have HR0_0 := Aside0.mk hr0_0
  have HC0_0 := Aside0.mk hc0_0
  clear hr0_0 hc0_0
  have HR1 := Aside0.mk hr1
  have HC1 := Aside0.mk hc1
  clear hr1 hc1
  have HR2_0 := Aside0.mk hr2_0
  have HC2_0 := Aside0.mk hc2_0
  clear hr2_0 hc2_0
  have HR3 := Aside0.mk hr3
  have HC3 := Aside0.mk hc3
  clear hr3 hc3
  have HB := Aside0.mk (Below.refl w.heap.size w)
  have H := h
  unfold impl_twoCode.f at H
  (try dsimp -simprocs only at H)
  clear h
  have HC5 := Aside0.mk H
  clear H
  go_enter Try.func43, Try.ntmps43
  go_upto_region 1 with (first | ((with_reducible refine gate_dst (N := 4) rfl ?_); refine box_event ?hg (N := 4) ?hd (cs := #[.slice A0_0 l0_0.length c0_0]) (t := 30) ?hr ?_; (case hd => rfl); (case hg => rfl); (case hr => first | (go_simp; done) | (go_simp; rfl)); intro gb104 hg w6 hbox hb; have n0_ := Aside0.mk (below_step z5 hb); have n1_ := Aside0.mk (hbox); have n2_ := Aside0.mk ((z86 : w.heap.size ≤ gb104)); have n3_ := Aside0.mk ((z86 : w.heap.size ≤ gb104)); clear HB; have HB := n0_; have BK104 := n1_; have GW104 := n2_; have GE104 := n3_; clear n0_ n1_ n2_ n3_; clear hb hbox hg) | ((with_reducible refine gate_dst (N := 6) rfl ?_); refine box_event ?hg (N := 6) ?hd (cs := #[.slice A2_0 l2_0.length c2_0]) (t := 30) ?hr ?_; (case hd => rfl); (case hg => rfl); (case hr => first | (go_simp; done) | (go_simp; rfl)); intro gb105 hg w7 hbox hb; have n0_ := zBB BK104 hb; have n1_ := Aside0.mk (below_step z65 hb); have n2_ := Aside0.mk (hbox); have n3_ := Aside0.mk (((by rw [hg]; exact (below_size z65)) : w.heap.size ≤ gb105)); have n4_ := Aside0.mk (((by rw [hg]; exact (below_size z65)) : w.heap.size ≤ gb105)); have n5_ := Aside0.mk (((by rw [hg]; exact Nat.ne_of_lt (blk_lt (g := gb104) (o := .cells #[.slice A0_0 l0_0.length c0_0] 30 (0, 0)) z66)) : gb104 ≠ gb105)); have n6_ := Aside0.mk (((by rw [hg]; exact Nat.ne_of_gt (blk_lt (g := gb104) (o := .cells #[.slice A0_0 l0_0.length c0_0] 30 (0, 0)) z66)) : gb105 ≠ gb104)); clear BK104 HB; have BK104 := n0_; have HB := n1_; have BK105 := n2_; have GW105 := n3_; have GE105 := n4_; have NB104_105 := n5_; have NB105_104 := n6_; clear n0_ n1_ n2_ n3_ n4_ n5_ n6_; clear hb hbox hg))
  (try simp only [Act.put, List.setIfInBounds_toArray, List.set_cons_zero, List.set_cons_succ])
  go_cut [9] (fun v9 wc => ∃ (kq : Nat) (x9_4 : Bool), v9 = .bool x9_4 ∧ Aside0 (impl_twoCode.j0 kq l1 l3 x9_4 l0_0 l2_0 = some r) ∧ Aside0 (kq ≤ k) ∧ Aside0 (wc.heap[gb104]? = some (.cells #[(.slice A0_0 l0_0.length c0_0)] 30 (0, 0))) ∧ Aside0 (wc.heap[gb105]? = some (.cells #[(.slice A2_0 l2_0.length c2_0)] 30 (0, 0))) ∧ Aside0 (Below w.heap.size w wc))
  case first =>
    have H := HC5.out
    clear HC5
    replace H := Option.bind_eq_some_iff.mp H
    obtain ⟨t102, A80, H⟩ := H
    (try dsimp -simprocs only at H)
    have A8 := Aside0.mk A80
    clear A80
    by_cases c9 : t102 = true
    · subst c9
      have H1 : ((impl_IsSpace.f k l2_0).bind fun t103 => (impl_twoCode.j0 k l1 l3 (!t103) l0_0 l2_0)) = some r := by rw [if_pos rfl] at H; exact H
      clear H
      have H := H1
      clear H1
      replace H := Option.bind_eq_some_iff.mp H
      obtain ⟨t103, A100, H⟩ := H
      replace H : (impl_twoCode.j0 k l1 l3 (!t103) l0_0 l2_0) = some r := H
      have A10 := Aside0.mk A100
      clear A100
      have H' := Aside0.mk H
      clear H
      have hnb11 := NB104_105.out
      have hnc11 := NB105_104.out
      obtain ⟨hcz12_0, hfz12_0⟩ := zC1 BK104.out
      go_wp2_with (first | ((with_reducible refine gate_callee (f := 36) rfl ?_); refine goesL_ (some 11) rfl rfl Try.func36 (by kernel_rfl) rfl #[.agg #[.slice A0_0 l0_0.length c0_0]] rfl z9 ?_; (with_reducible refine (impl_IsSpace.calls k _ _ l0_0 true _ ?side1 ?side2 A8.out).mono ?_); (case side1 => exact z11); (case side2 => exact HC0_0.out); rintro e w13 ⟨rfl, hb⟩; refine ⟨_, rfl, ?_⟩; have n0_ := zBB BK104 hb; have n1_ := zBB BK105 hb; have n2_ := Aside0.mk (below_step z21 hb); clear BK104 BK105 HB; have BK104 := n0_; have BK105 := n1_; have HB := n2_; clear n0_ n1_ n2_; (try clear hb); (try clear hb2); (try clear hk); (try clear hi); obtain ⟨hcz14_0, hfz14_0⟩ := zC1 BK105.out) | (go_at_call 36; (with_reducible refine (impl_IsSpace.calls k _ _ l2_0 t103 _ ?side1 ?side2 A10.out).mono ?_); (case side1 => exact z41); (case side2 => exact HC2_0.out); rintro e w15 ⟨rfl, hb⟩; have n0_ := zBB BK104 hb; have n1_ := zBB BK105 hb; have n2_ := Aside0.mk (below_step z21 hb); clear BK104 BK105 HB; have BK104 := n0_; have BK105 := n1_; have HB := n2_; clear n0_ n1_ n2_; (try clear hb); (try clear hb2); (try clear hk); (try clear hi)))
      go_meet
      case rel => exact ⟨_, (!t103), z18, H', ⟨z75⟩, ⟨z66⟩, ⟨z78⟩, ⟨z21⟩⟩
    · replace c9 := Bool.eq_false_iff.mpr c9
      subst c9
      have H1 : (impl_twoCode.j0 k l1 l3 true l0_0 l2_0) = some r := by rw [if_neg (show ¬ (false = true) by decide)] at H; exact H
      clear H
      have H := H1
      clear H1
      have H' := Aside0.mk H
      clear H
      have hnb16 := NB104_105.out
      have hnc16 := NB105_104.out
      obtain ⟨hcz17_0, hfz17_0⟩ := zC1 BK104.out
      go_wp2_with (first | ((with_reducible refine gate_callee (f := 36) rfl ?_); refine goesL_ (some 11) rfl rfl Try.func36 (by kernel_rfl) rfl #[.agg #[.slice A0_0 l0_0.length c0_0]] rfl z9 ?_; (with_reducible refine (impl_IsSpace.calls k _ _ l0_0 false _ ?side1 ?side2 A8.out).mono ?_); (case side1 => exact z11); (case side2 => exact HC0_0.out); rintro e w18 ⟨rfl, hb⟩; refine ⟨_, rfl, ?_⟩; have n0_ := zBB BK104 hb; have n1_ := zBB BK105 hb; have n2_ := Aside0.mk (below_step z21 hb); clear BK104 BK105 HB; have BK104 := n0_; have BK105 := n1_; have HB := n2_; clear n0_ n1_ n2_; (try clear hb); (try clear hb2); (try clear hk); (try clear hi)))
      go_meet
      case rel => exact ⟨_, (true), z18, H', ⟨z75⟩, ⟨z66⟩, ⟨z78⟩, ⟨z21⟩⟩
  case rest =>
    clear HC5
    try clear c1
    try clear c2
    try clear p2
    try clear c3
    try clear c4
    try clear c9
    try clear c11
    try clear c16
    try clear hcz12_0
    try clear hcz14_0
    try clear hcz17_0
    try clear hfz12_0
    try clear hfz14_0
    try clear hfz17_0
    obtain ⟨kq, x9_4, rfl, HA, HJ4, BK104, BK105, HB⟩ := hcut
    cases kq with
    | zero => exact absurd HA.out (by simp [impl_twoCode.j0])
    | succ kj4 =>
      have H := HA.out
      clear HA
      simp only [impl_twoCode.j0] at H
      by_cases c19 : x9_4 = true
      · subst c19
        have H1 : (some 1) = some r := by rw [if_pos rfl] at H; exact H
        clear H
        have H := H1
        clear H1
        obtain rfl := Option.some.inj H
        go_wp2
        go_ret
        exact ⟨z17, z21⟩
      · replace c19 := Bool.eq_false_iff.mpr c19
        subst c19
        have H1 : ((impl_isCode.f kj4 l0_0 l1).bind fun t100 => (if t100 = true then ((impl_isCode.f kj4 l2_0 l3).bind fun t101 => (if t101 = true then (some 0) else (some 2))) else (some 2))) = some r := by rw [if_neg (show ¬ (false = true) by decide)] at H; exact H
        clear H
        have H := H1
        clear H1
        replace H := Option.bind_eq_some_iff.mp H
        obtain ⟨t100, A200, H⟩ := H
        (try dsimp -simprocs only at H)
        have A20 := Aside0.mk A200
        clear A200
        by_cases c21 : t100 = true
        · subst c21
          have H1 : ((impl_isCode.f kj4 l2_0 l3).bind fun t101 => (if t101 = true then (some 0) else (some 2))) = some r := by rw [if_pos rfl] at H; exact H
          clear H
          have H := H1
          clear H1
          replace H := Option.bind_eq_some_iff.mp H
          obtain ⟨t101, A220, H⟩ := H
          replace H : (if t101 = true then (some 0) else (some 2)) = some r := H
          have A22 := Aside0.mk A220
          clear A220
          by_cases c23 : t101 = true
          · subst c23
            have H1 : (some 0) = some r := by rw [if_pos rfl] at H; exact H
            clear H
            have H := H1
            clear H1
            obtain rfl := Option.some.inj H
            have hnb24 := NB104_105.out
            have hnc24 := NB105_104.out
            obtain ⟨hcz25_0, hfz25_0⟩ := zC1 BK104.out
            go_wp2_with (first | ((with_reducible refine gate_callee (f := 37) rfl ?_); refine goesL_ (some 21) rfl rfl Try.func37 (by kernel_rfl) rfl #[.agg #[.slice A0_0 l0_0.length c0_0], .slice A1 l1.length c1] rfl z9 ?_; (with_reducible refine (impl_isCode.calls kj4 _ _ l0_0 _ _ l1 true _ ?side1 ?side2 ?side3 ?side4 A20.out).mono ?_); (case side1 => exact z11); (case side2 => exact HC0_0.out); (case side3 => exact z27); (case side4 => exact HC1.out); rintro e w26 ⟨rfl, hb⟩; refine ⟨_, rfl, ?_⟩; have n0_ := zBB BK104 hb; have n1_ := zBB BK105 hb; have n2_ := Aside0.mk (below_step z21 hb); clear BK104 BK105 HB; have BK104 := n0_; have BK105 := n1_; have HB := n2_; clear n0_ n1_ n2_; (try clear hb); (try clear hb2); (try clear hk); (try clear hi); obtain ⟨hcz27_0, hfz27_0⟩ := zC1 BK105.out) | (go_at_call 37; (with_reducible refine (impl_isCode.calls kj4 _ _ l2_0 _ _ l3 true _ ?side1 ?side2 ?side3 ?side4 A22.out).mono ?_); (case side1 => exact z41); (case side2 => exact HC2_0.out); (case side3 => exact z39); (case side4 => exact HC3.out); rintro e w28 ⟨rfl, hb⟩; have n0_ := zBB BK104 hb; have n1_ := zBB BK105 hb; have n2_ := Aside0.mk (below_step z21 hb); clear BK104 BK105 HB; have BK104 := n0_; have BK105 := n1_; have HB := n2_; clear n0_ n1_ n2_; (try clear hb); (try clear hb2); (try clear hk); (try clear hi)))
            go_ret
            exact ⟨z17, z21⟩
          · replace c23 := Bool.eq_false_iff.mpr c23
            subst c23
            have H1 : (some 2) = some r := by rw [if_neg (show ¬ (false = true) by decide)] at H; exact H
            clear H
            have H := H1
            clear H1
            obtain rfl := Option.some.inj H
            have hnb29 := NB104_105.out
            have hnc29 := NB105_104.out
            obtain ⟨hcz30_0, hfz30_0⟩ := zC1 BK104.out
            go_wp2_with (first | ((with_reducible refine gate_callee (f := 37) rfl ?_); refine goesL_ (some 21) rfl rfl Try.func37 (by kernel_rfl) rfl #[.agg #[.slice A0_0 l0_0.length c0_0], .slice A1 l1.length c1] rfl z9 ?_; (with_reducible refine (impl_isCode.calls kj4 _ _ l0_0 _ _ l1 true _ ?side1 ?side2 ?side3 ?side4 A20.out).mono ?_); (case side1 => exact z11); (case side2 => exact HC0_0.out); (case side3 => exact z27); (case side4 => exact HC1.out); rintro e w31 ⟨rfl, hb⟩; refine ⟨_, rfl, ?_⟩; have n0_ := zBB BK104 hb; have n1_ := zBB BK105 hb; have n2_ := Aside0.mk (below_step z21 hb); clear BK104 BK105 HB; have BK104 := n0_; have BK105 := n1_; have HB := n2_; clear n0_ n1_ n2_; (try clear hb); (try clear hb2); (try clear hk); (try clear hi); obtain ⟨hcz32_0, hfz32_0⟩ := zC1 BK105.out) | (go_at_call 37; (with_reducible refine (impl_isCode.calls kj4 _ _ l2_0 _ _ l3 false _ ?side1 ?side2 ?side3 ?side4 A22.out).mono ?_); (case side1 => exact z41); (case side2 => exact HC2_0.out); (case side3 => exact z39); (case side4 => exact HC3.out); rintro e w33 ⟨rfl, hb⟩; have n0_ := zBB BK104 hb; have n1_ := zBB BK105 hb; have n2_ := Aside0.mk (below_step z21 hb); clear BK104 BK105 HB; have BK104 := n0_; have BK105 := n1_; have HB := n2_; clear n0_ n1_ n2_; (try clear hb); (try clear hb2); (try clear hk); (try clear hi)))
            go_ret
            exact ⟨z17, z21⟩
        · replace c21 := Bool.eq_false_iff.mpr c21
          subst c21
          have H1 : (some 2) = some r := by rw [if_neg (show ¬ (false = true) by decide)] at H; exact H
          clear H
          have H := H1
          clear H1
          obtain rfl := Option.some.inj H
          have hnb34 := NB104_105.out
          have hnc34 := NB105_104.out
          obtain ⟨hcz35_0, hfz35_0⟩ := zC1 BK104.out
          go_wp2_with (first | ((with_reducible refine gate_callee (f := 37) rfl ?_); refine goesL_ (some 21) rfl rfl Try.func37 (by kernel_rfl) rfl #[.agg #[.slice A0_0 l0_0.length c0_0], .slice A1 l1.length c1] rfl z9 ?_; (with_reducible refine (impl_isCode.calls kj4 _ _ l0_0 _ _ l1 false _ ?side1 ?side2 ?side3 ?side4 A20.out).mono ?_); (case side1 => exact z11); (case side2 => exact HC0_0.out); (case side3 => exact z27); (case side4 => exact HC1.out); rintro e w36 ⟨rfl, hb⟩; refine ⟨_, rfl, ?_⟩; have n0_ := zBB BK104 hb; have n1_ := zBB BK105 hb; have n2_ := Aside0.mk (below_step z21 hb); clear BK104 BK105 HB; have BK104 := n0_; have BK105 := n1_; have HB := n2_; clear n0_ n1_ n2_; (try clear hb); (try clear hb2); (try clear hk); (try clear hi)))
          go_ret
          exact ⟨z17, z21⟩

/-! ### impl_limitedSpace: function 44 -/
def impl_limitedSpace.f (k : Nat) (l0 : List Int) : Option (List Int × Bool) := (impl_IsSpace.f k l0).bind fun t100 => (some (l0, t100))
theorem impl_limitedSpace.mono : ∀ a0 k, LeO (impl_limitedSpace.f k a0) (impl_limitedSpace.f (k + 1) a0) := by
  intro a0 k
  unfold impl_limitedSpace.f
  repeat' first
      | (with_reducible exact impl_IsSpace.mono _ _)
      | (with_reducible exact LeO.refl _)
      | (with_reducible exact LeO.none _)
      | (with_reducible refine LeO.ite ?_ ?_)
      | (with_reducible refine LeO.bind ?_ (fun _ => ?_))
set_option maxHeartbeats 8000000 in
set_option maxRecDepth 100000 in
theorem impl_limitedSpace.calls (k : Nat) (P0_ : Nat → Prop) (u9000_ : Value) (l0 : List Int) (r1 : List Int) (r2 : Bool) (w0 w : World) (hB : Below w0.heap.size w0 w) (ho0 : Kd.R (Kd.int .i64) 2 w w0.heap.size P0_ u9000_ l0) (h : impl_limitedSpace.f k l0 = some (r1, r2)) :
    Calls Try.prog 44 #[u9000_] w fun e w' => ∃ v0_ : Value, e = .returned (.tuple #[.agg #[v0_], .bool r2]) ∧ Kd.R (Kd.int .i64) 2 w' w0.heap.size (fun k_ => (P0_ k_ ∨ w.heap.size ≤ k_)) v0_ r1 ∧ Below w0.heap.size w0 w' ∧ Kept w w' (fun k_ => P0_ k_) := by
  have hu30 := Try.underlying30
  have HO0 := Aside0.mk (show Kd.R (Kd.int .i64) 2 w w0.heap.size (fun k_ => (P0_ k_ ∨ w.heap.size ≤ k_)) u9000_ l0 from Kd.R_mono ho0 (fun k_ hk => (.inl hk)))
  have HK := Aside0.mk (Kept.refl w (fun k_ => P0_ k_))
  have HW0 := Aside0.mk hB.size
  have HB := Aside0.mk hB
  clear hB
  have H : ((impl_IsSpace.f k l0).bind fun t100 => (some (l0, t100))) = some (r1, r2) := h
  clear h
  replace H := Option.bind_eq_some_iff.mp H
  obtain ⟨t100, A20, H⟩ := H
  replace H : (some (l0, t100)) = some (r1, r2) := H
  have A2 := Aside0.mk A20
  clear A20
  simp only [Option.some.injEq, Prod.mk.injEq] at H
  obtain ⟨rfl, rfl⟩ := H
  go_enter Try.func44, Try.ntmps44
  try go_wp2_with (first | ((with_reducible refine gate_dst (N := 2) rfl ?_); refine box_event ?hg (N := 2) ?hd (cs := #[.slice none 0 0]) (t := 30) ?hr ?_; (case hd => rfl); (case hg => rfl); (case hr => first | (go_simp; done) | (go_simp; rfl)); intro gb101 hg w3 hbox hb; have n0_ := Aside0.mk (Kd.R_below z70 hb); have n1_ := Aside0.mk (Kept.below (S := (fun k_ => P0_ k_)) z43 hb); have n2_ := Aside0.mk (below_step z5 hb); have n3_ := Aside0.mk (hbox); have n4_ := Aside0.mk (((by rw [hg]; exact (by first | exact HK.out.1 | exact (show Kept w _ (fun k_ => P0_ k_) from z43).1)) : w.heap.size ≤ gb101)); have n5_ := Aside0.mk ((z86 : w0.heap.size ≤ gb101)); clear HO0 HK HB; have HO0 := n0_; have HK := n1_; have HB := n2_; have BK101 := n3_; have GW101 := n4_; have GE101 := n5_; clear n0_ n1_ n2_ n3_ n4_ n5_; clear hb hbox hg; obtain ⟨Ao4, co4, eo4⟩ := Kd.R_slice HO0.out; subst eo4) | ((with_reducible refine gate_dst (N := 4) rfl ?_); refine box_event ?hg (N := 4) ?hd (cs := #[.slice none 0 0]) (t := 30) ?hr ?_; (case hd => rfl); (case hg => rfl); (case hr => first | (go_simp; done) | (go_simp; rfl)); intro gb102 hg w5 hbox hb; have n0_ := Aside0.mk (Kd.R_below z70 hb); have n1_ := zBB BK101 hb; have n2_ := Aside0.mk (Kept.below (S := (fun k_ => P0_ k_)) z72 hb); have n3_ := Aside0.mk (below_step z16 hb); have n4_ := Aside0.mk (hbox); have n5_ := Aside0.mk (((by rw [hg]; exact (by first | exact HK.out.1 | exact (show Kept w _ (fun k_ => P0_ k_) from z72).1)) : w.heap.size ≤ gb102)); have n6_ := Aside0.mk ((z104 : w0.heap.size ≤ gb102)); have n7_ := Aside0.mk (((by rw [hg]; exact Nat.ne_of_lt (blk_lt (g := gb101) (o := .cells #[.slice none 0 0] 30 (0, 0)) z36)) : gb101 ≠ gb102)); have n8_ := Aside0.mk (((by rw [hg]; exact Nat.ne_of_gt (blk_lt (g := gb101) (o := .cells #[.slice none 0 0] 30 (0, 0)) z36)) : gb102 ≠ gb101)); clear HO0 BK101 HK HB; have HO0 := n0_; have BK101 := n1_; have HK := n2_; have HB := n3_; have BK102 := n4_; have GW102 := n5_; have GE102 := n6_; have NB101_102 := n7_; have NB102_101 := n8_; clear n0_ n1_ n2_ n3_ n4_ n5_ n6_ n7_ n8_; clear hb hbox hg; have hnb6 := NB102_101.out; have hnc6 := NB101_102.out; obtain ⟨hcz7_0, hfz7_0⟩ := zC1 BK102.out))
  have n0_ : Aside0 (Kd.R (Kd.int .i64) 2 (w5.setCell ⟨gb102, 0, none⟩ (.slice Ao4 l0.length co4)) w0.heap.size (fun k_ => (P0_ k_ ∨ w.heap.size ≤ k_)) (.slice Ao4 l0.length co4) l0) := ⟨(by (with_reducible repeat (first | apply Kd.R_alloc | apply Kd.R_drewN | apply Kd.R_drew)); exact Kd.R_mono (Kd.R_far (p := ⟨gb102, 0, none⟩) (Kd.R_types HO0.out BK102.out (by decide)) (fun _ hk => hk.2) (.slice Ao4 l0.length co4)) (fun _ hk => hk.1))⟩
  have n1_ : Aside0 ((w5.setCell ⟨gb102, 0, none⟩ (.slice Ao4 l0.length co4)).heap[gb101]? = some (.cells #[.slice none 0 0] 30 (0, 0))) := ⟨(by (with_reducible repeat (first | refine blk_drewN ?_ _ | refine blk_drew ?_ | refine blk_alloc ?_ _)); refine blk_far ?_ NB101_102.out _; (with_reducible repeat (first | refine blk_drewN ?_ _ | refine blk_drew ?_ | refine blk_alloc ?_ _)); exact BK101.out)⟩
  have n2_ : Aside0 ((w5.setCell ⟨gb102, 0, none⟩ (.slice Ao4 l0.length co4)).heap[gb102]? = some (.cells #[.slice Ao4 l0.length co4] 30 (0, 0))) := ⟨(by (with_reducible repeat (first | refine blk_drewN ?_ _ | refine blk_drew ?_ | refine blk_alloc ?_ _)); refine blk_put (cs := #[.slice none 0 0]) ?_ 0 _ rfl; (with_reducible repeat (first | refine blk_drewN ?_ _ | refine blk_drew ?_ | refine blk_alloc ?_ _)); exact BK102.out)⟩
  have n3_ : Aside0 (Kept w (w5.setCell ⟨gb102, 0, none⟩ (.slice Ao4 l0.length co4)) (fun k_ => P0_ k_)) := ⟨z52⟩
  have n4_ : Aside0 (Below w0.heap.size w0 (w5.setCell ⟨gb102, 0, none⟩ (.slice Ao4 l0.length co4))) := ⟨z34⟩
  (try clear HO0)
  (try clear BK101)
  (try clear BK102)
  (try clear HK)
  (try clear HB)
  generalize (w5.setCell ⟨gb102, 0, none⟩ (.slice Ao4 l0.length co4)) = w8 at n0_ n1_ n2_ n3_ n4_ ⊢
  have HO0 := n0_
  have BK101 := n1_
  have BK102 := n2_
  have HK := n3_
  have HB := n4_
  clear n0_ n1_ n2_ n3_ n4_
  have n0_ := Aside0.mk (Kd.R_drew HO0.out)
  have n1_ := Aside0.mk (blk_drew BK101.out)
  have n2_ := Aside0.mk (blk_drew BK102.out)
  have n3_ := Aside0.mk (Kept.drew HK.out)
  have n4_ := Aside0.mk (below_drew1 HB.out)
  clear HO0 BK101 BK102 HK HB
  have HO0 := n0_
  have BK101 := n1_
  have BK102 := n2_
  have HK := n3_
  have HB := n4_
  clear n0_ n1_ n2_ n3_ n4_
  refine start_ (n := 5) (S := fun w' => w'.cell? ⟨gb102, 0, none⟩ = some (.slice Ao4 l0.length co4)) (ds := []) #[false, false, false, false, false] (by kernel_rfl) rfl rfl ((blk_cell BK102.out 0).trans rfl) (fun hHeld => ?_)
  generalize w8.drew = w9 at HO0 BK101 BK102 HK HB hHeld ⊢
  refine take_ (i := 0) (N := some 7) (v := ?_) (a' := ?_) #[true, false, false, false, false] rfl rfl (by kernel_rfl) (fun _ _ _ h => h) (Or.inl ⟨(by rfl), ?_⟩) hHeld ?_ ?_
  rotate_left
  · intro w' s0
    go_simp
    with_reducible rfl
  rotate_left
  · exact z1
  refine take_ (i := 1) (N := some 8) (v := ?_) (a' := ?_) #[true, true, false, false, false] rfl rfl (by kernel_rfl) (fun _ _ _ h => h) (Or.inl ⟨(by rfl), ?_⟩) hHeld ?_ ?_
  rotate_left
  · intro w' s0
    go_simp
    with_reducible rfl
  rotate_left
  · exact z1
  refine one_ (i := 2) (N := some 9) #[true, true, true, false, false] rfl rfl (by kernel_rfl) (by decide) (fun K hK => ?_)
  refine goes_ Try.func36 (by kernel_rfl) rfl #[.agg #[.slice Ao4 l0.length co4]] (by rfl) rfl rfl z9 ?_
  with_reducible refine (impl_IsSpace.calls k _ _ l0 t100 _ ?side1 ?side2 A2.out).mono ?_
  (case side1 => exact (by repeat (first | exact (Kd.R_reads' HO0.out).2.2 | (with_reducible refine Kd.C_alloc ?_ _) | (with_reducible refine Kd.C_drewN ?_ _) | (with_reducible refine Kd.C_drew ?_))))
  (case side2 => exact (Kd.R_reads' HO0.out).2.1)
  rintro e w10 ⟨rfl, hb⟩
  refine ⟨_, rfl, ?_⟩
  have n0_ := Aside0.mk (Kd.R_below z70 hb)
  have n1_ := zBB BK101 hb
  have n2_ := zBB BK102 hb
  have n3_ := Aside0.mk (Kept.below (S := (fun k_ => P0_ k_)) z52 hb)
  have n4_ := Aside0.mk (below_step z34 hb)
  clear HO0 BK101 BK102 HK HB
  have HO0 := n0_
  have BK101 := n1_
  have BK102 := n2_
  have HK := n3_
  have HB := n4_
  clear n0_ n1_ n2_ n3_ n4_
  (try clear hb)
  (try clear hb2)
  (try clear hk)
  (try clear hi)
  refine hK.out _ _ ((blk_cell BK102.out 0).trans rfl) (fun hHeld => ?_)
  clear hK K
  refine norm_ (a' := ?_) ?_ ?_
  rotate_left
  · show Act.put _ (some 9) _ = _
    simp only [Act.put, List.setIfInBounds_toArray, List.set_cons_zero, List.set_cons_succ, i64_w, i32_w]
    rfl
  refine one_ (i := 3) (N := none) #[true, true, true, true, false] rfl rfl (by kernel_rfl) (by decide) (fun K hK => ?_)
  have hs11 : w10.cell? ⟨gb101, 0, none⟩ = some (.slice none 0 0) := (blk_cell BK101.out 0).trans rfl
  have hfs11 := blk_frozen BK101.out 0
  have hns11_1 := NB102_101.out
  have hms11_1 := NB101_102.out
  refine skip_ (w1 := ?_) (by rfl) rfl ?_ ?_
  rotate_left
  · go_simp
    rfl
  refine hK.out _ _ (((cell_far (p := ⟨gb101, _, none⟩) NB102_101.out _).trans (hHeld))) (fun hHeld => ?_)
  clear hK K
  refine pure_ (i := 4) (N := some 3) (v := ?_) (a' := ?_) #[true, true, true, true, true] rfl rfl (by kernel_rfl) (fun _ _ _ h => h) (Or.inl ⟨(by rfl), ?_⟩) ?_ ?_
  rotate_left
  · exact z10
  rotate_left
  · exact z1
  refine done_ (by kernel_rfl) ?_
  try go_wp2
  refine bodyPost_ret (results_ct rfl _ _ gb101 30 #[.slice Ao4 l0.length co4] (0, 0) _ rfl (by (with_reducible repeat (first | refine blk_drewN ?_ _ | refine blk_drew ?_ | refine blk_alloc ?_ _)); refine blk_put (cs := #[.slice none 0 0]) ?_ 0 _ rfl; (with_reducible repeat (first | refine blk_drewN ?_ _ | refine blk_drew ?_ | refine blk_alloc ?_ _)); exact BK101.out) Try.underlying30 rfl (by kernel_rfl)) rfl ?_
  exact ⟨_, z17, (by (with_reducible repeat (first | apply Kd.R_alloc | apply Kd.R_drewN | apply Kd.R_drew)); exact Kd.R_mono (Kd.R_far (p := ⟨gb101, 0, none⟩) (Kd.R_types HO0.out BK101.out (by decide)) (fun _ hk => hk.2) (.slice Ao4 l0.length co4)) (fun _ hk => hk.1)), z34, z52⟩

/-! ### slices_Concat_int64_int64: function 45 -/
def slices_Concat_int64_int64.f (k : Nat) (l0 : List (List Int)) : Option (List Int) := if 0 < lenS l0 ∧ l0.length ≤ 1000 ∧ lenS l0 ≤ 1000000 then some l0.flatten else none
theorem slices_Concat_int64_int64.mono : ∀ a0 k, LeO (slices_Concat_int64_int64.f k a0) (slices_Concat_int64_int64.f (k + 1) a0) := fun _ _ => LeO.refl _
theorem slices_Concat_int64_int64.calls (k : Nat) (A0 : Option Addr) (c0 : Nat) (l0 : List (List Int)) (r : List Int) (w : World) (hr0 : Kd.C (Kd.slice 2 (Kd.int .i64)) w A0 l0.length l0) (hc0 : l0.length ≤ c0) (h : slices_Concat_int64_int64.f k l0 = some r) :
    Calls Try.prog 45 #[.slice A0 l0.length c0] w fun e w' => ∃ v0_ : Value, e = .returned (v0_) ∧ Kd.R (Kd.int .i64) 2 w' w.heap.size (fun _ => True) v0_ r ∧ Below w.heap.size w w' := by
  unfold slices_Concat_int64_int64.f at h
  split at h
  · rename_i hc
    injection h with h
    subst h
    exact concat_walk A0 c0 l0 w hr0 hc.2.1 hc.1 hc.2.2
  · cases h

end Go.Proofs.Ythbfaefneoeadaa.PFnExactJoinOverPlace
