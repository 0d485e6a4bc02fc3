-- WALKS, by a program and by hand
import Derived.Test.YtbfhhjekonafdaaPFnPairRowsx0
import Derived.Test.YtbfhhjekonafdaaPFnPairRowsx2
import Derived.Test.YtbfhhjekonafdaaPFnPairRowsx4
import Derived.Test.YtbfhhjekonafdaaPFnPairRowsx6
namespace Go.Proofs.Ytbfhhjekonafdaa.PFnPairRows
open Go.RowKit Go.Proofs.Ytbfhhjekonafdaa.DG Go.Proofs.YtbfhhjekonafdaaW.PrintWords Go.Proofs.YtbfhhjekonafdaaW.PrintLast Go.Proofs.YtbfhhjekonafdaaW.PrintMore
attribute [local go_sem] max2_int min2_int max_two min_two max_three min_three max_four min_four   -- for this text's walks alone
set_option linter.unusedVariables false
set_option linter.unusedSimpArgs false

/-! ### spec_l01Is: function 77 -/
def spec_l01Is.l0 : Nat → Int → List Int → Option (Bool)
  | 0, _, _ => none
  | k + 1, x3, x275000 => if x3 < (x275000.length : Int) then (if 0 ≤ x3 then ((spec_l01In.f (rd x275000 x3) 2 4).bind fun t100 => (if t100 = true then (spec_l01Is.l0 k (wrap64 (x3 + 1)) x275000) else (some false))) else (none)) else ((spec_l01N.f k x275000).bind fun t101 => (some (decide (t101 ≤ 1024))))
def spec_l01Is.f (k : Nat) (l0_0 : List Int) : Option (Bool) := (spec_l01In.f (l0_0.length : Int) 1 8).bind fun t102 => (if t102 = true then (spec_l01Is.l0 k 0 l0_0) else (some false))
set_option maxHeartbeats 8000000 in
set_option maxRecDepth 100000 in
theorem spec_l01Is.calls (k : Nat) (A0_0 : Option Addr) (c0_0 : Nat) (l0_0 : List Int) (r : Bool) (w : World) (hr0_0 : Kd.C (Kd.int .i64) w A0_0 l0_0.length l0_0) (hc0_0 : l0_0.length ≤ c0_0) (h : spec_l01Is.f k l0_0 = some r) :
    Calls Try.prog 77 #[.agg #[.slice A0_0 l0_0.length c0_0]] w fun e w' => e = .returned (.bool r) ∧ Below w.heap.size w w' := by
  have hu27 := Try.underlying27
  have HR0_0 := zA hr0_0
  have HC0_0 := zA hc0_0
  clear hr0_0 hc0_0
  have HB := zA (Below.refl w.heap.size w)
  have H : ((spec_l01In.f (l0_0.length : Int) 1 8).bind fun t102 => (if t102 = true then (spec_l01Is.l0 k 0 l0_0) else (some false))) = some r := h
  clear h
  replace H := zi H
  obtain ⟨t102, A20, H⟩ := H
  (try dsimp -simprocs only at H)
  have A2 := zA A20
  clear A20
  by_cases c3 : t102 = true
  · subst c3
    have H1 : (spec_l01Is.l0 k 0 l0_0) = some r := by rw [if_pos rfl] at H; exact H
    clear H
    have H := H1
    clear H1
    have H' := zA H
    clear H
    go_enter Try.func77, Try.ntmps77
    go_wp2_with (first | ((with_reducible refine gate_dst (N := 1) rfl ?_); refine box_event ?hg (N := 1) ?hd (cs := #[.slice A0_0 l0_0.length c0_0]) (t := 27) ?hr ?_; (case hd => rfl); (case hg => rfl); (case hr => first | (go_simp; done) | (go_simp; rfl)); intro gb103 hg w4 hbox hb; have n0_ := zA (below_step z1 hb); have n1_ := zA (hbox); have n2_ := zA ((z178 : w.heap.size ≤ gb103)); have n3_ := zA ((z178 : w.heap.size ≤ gb103)); clear HB; have HB := n0_; have BK103 := n1_; have GW103 := n2_; have GE103 := n3_; clear n0_ n1_ n2_ n3_; clear hb hbox hg; obtain ⟨hcz5_0, hfz5_0⟩ := zC1 BK103.out) | ((with_reducible refine gate_callee (f := 43) rfl ?_); refine goesL_ (some 7) rfl rfl Try.func43 (by kernel_rfl) rfl #[.int .i64 (l0_0.length : Int), .int .i64 1, .int .i64 8] rfl z3 ?_; (with_reducible refine (spec_l01In.calls (l0_0.length : Int) 1 8 true _ A2.out).mono ?_); rintro e w' ⟨rfl, ⟨nd, rfl⟩⟩; refine ⟨_, rfl, ?_⟩))
    go_loopg [3] k (fun kq v3 w' => ∃ (x3_1 : Int), v3 = .int .i64 x3_1 ∧ Aside0 (spec_l01Is.l0 kq x3_1 l0_0 = some r) ∧ Aside0 (kq ≤ k) ∧ Aside0 (w'.heap[gb103]? = some (.cells #[(.slice A0_0 l0_0.length c0_0)] 27 (0, 0))) ∧ Aside0 (Below w.heap.size w w'))
    case atStart => exact ⟨(0), z16, H', ⟨Nat.le_refl _⟩, ⟨z24⟩, ⟨z2⟩⟩
    case round =>
      clear H'
      try clear p2
      try clear c3
      try clear c4
      try clear hcz5_0
      try clear hfz5_0
      obtain ⟨x3_1, rfl, HA, HK1, BK103, HB⟩ := hrel
      cases gk with
      | zero => exact absurd HA.out (by simp [spec_l01Is.l0])
      | succ k1 =>
        have H := HA.out
        clear HA
        simp only [spec_l01Is.l0] at H
        by_cases c6 : x3_1 < (l0_0.length : Int)
        · rw [if_pos c6] at H
          have c6b0 : decide (x3_1 < (l0_0.length : Int)) = true := decide_eq_true c6
          clear c6
          by_cases c7 : 0 ≤ x3_1
          · rw [if_pos c7] at H
            have c7b0 : decide (0 ≤ x3_1) = true := decide_eq_true c7
            clear c7
            replace H := zi H
            obtain ⟨t100, A80, H⟩ := H
            (try dsimp -simprocs only at H)
            have A8 := zA A80
            clear A80
            by_cases c9 : t100 = true
            · subst c9
              have H1 : (spec_l01Is.l0 k1 (wrap64 (x3_1 + 1)) l0_0) = some r := by rw [if_pos rfl] at H; exact H
              clear H
              have H := H1
              clear H1
              have H' := zA H
              clear H
              obtain ⟨hcz10_0, hfz10_0⟩ := zC1 BK103.out
              have p276 : 0 ≤ (x3_1 : Int) := of_decide_eq_true z14
              have q276 : x3_1 < (l0_0.length : Int) := of_decide_eq_true z14
              obtain ⟨ad276, e276, hx276_0⟩ := Kd.at_int HR0_0.out x3_1 p276 q276
              cases e276
              try replace hx276_0 := (HB.out.cell (World.block_lt_of_cell? w _ hx276_0)).trans hx276_0
              replace p276 := eq_true p276
              replace q276 := eq_true q276
              go_wp2_with (first | ((with_reducible refine gate_callee (f := 43) rfl ?_); refine goesL_ (some 21) rfl rfl Try.func43 (by kernel_rfl) rfl #[.int .i64 (rd l0_0 x3_1), .int .i64 2, .int .i64 4] rfl z3 ?_; (with_reducible refine (spec_l01In.calls (rd l0_0 x3_1) 2 4 true _ A8.out).mono ?_); rintro e w' ⟨rfl, ⟨nd, rfl⟩⟩; refine ⟨_, rfl, ?_⟩))
              go_roundg k1
              case measure => have := HK1.out; omega
              case rel => exact ⟨(wrap64 (x3_1 + 1)), z16, H', ⟨z99⟩, ⟨z24⟩, ⟨z2⟩⟩
            · replace c9 := Bool.eq_false_iff.mpr c9
              subst c9
              have H1 : (some false) = some r := by rw [if_neg (show ¬ (false = true) by decide)] at H; exact H
              clear H
              have H := H1
              clear H1
              obtain rfl := Option.some.inj H
              obtain ⟨hcz11_0, hfz11_0⟩ := zC1 BK103.out
              have p276 : 0 ≤ (x3_1 : Int) := of_decide_eq_true z14
              have q276 : x3_1 < (l0_0.length : Int) := of_decide_eq_true z14
              obtain ⟨ad276, e276, hx276_0⟩ := Kd.at_int HR0_0.out x3_1 p276 q276
              cases e276
              try replace hx276_0 := (HB.out.cell (World.block_lt_of_cell? w _ hx276_0)).trans hx276_0
              replace p276 := eq_true p276
              replace q276 := eq_true q276
              go_wp2_with (first | ((with_reducible refine gate_callee (f := 43) rfl ?_); refine goesL_ (some 21) rfl rfl Try.func43 (by kernel_rfl) rfl #[.int .i64 (rd l0_0 x3_1), .int .i64 2, .int .i64 4] rfl z3 ?_; (with_reducible refine (spec_l01In.calls (rd l0_0 x3_1) 2 4 false _ A8.out).mono ?_); rintro e w' ⟨rfl, ⟨nd, rfl⟩⟩; refine ⟨_, rfl, ?_⟩))
              go_ret
              exact ⟨z15, z2⟩
          · rw [if_neg c7] at H
            exact absurd H (by simp)
        · rw [if_neg c6] at H
          have c6b0 : decide (x3_1 < (l0_0.length : Int)) = false := decide_eq_false c6
          clear c6
          replace H := zi H
          obtain ⟨t101, A120, H⟩ := H
          replace H : (some (decide (t101 ≤ 1024))) = some r := H
          have A12 := zA A120
          clear A120
          obtain rfl := Option.some.inj H
          obtain ⟨hcz13_0, hfz13_0⟩ := zC1 BK103.out
          go_wp2_with (first | ((with_reducible refine gate_callee (f := 60) rfl ?_); refine goesL_ (some 24) rfl rfl Try.func60 (by kernel_rfl) rfl #[.agg #[.slice A0_0 l0_0.length c0_0]] rfl z3 ?_; (with_reducible refine (spec_l01N.calls k1 _ _ l0_0 t101 _ ?side1 ?side2 A12.out).mono ?_); (case side1 => exact z5); (case side2 => exact HC0_0.out); rintro e w14 ⟨rfl, hb⟩; refine ⟨_, rfl, ?_⟩; have n0_ := zBB BK103 hb; have n1_ := zA (below_step z2 hb); clear BK103 HB; have BK103 := n0_; have HB := n1_; clear n0_ n1_; (try clear hb); (try clear hb2); (try clear hk); (try clear hi)))
          go_ret
          exact ⟨z15, z2⟩
  · replace c3 := Bool.eq_false_iff.mpr c3
    subst c3
    have H1 : (some false) = some r := by rw [if_neg (show ¬ (false = true) by decide)] at H; exact H
    clear H
    have H := H1
    clear H1
    obtain rfl := Option.some.inj H
    go_enter Try.func77, Try.ntmps77
    go_wp2_with (first | ((with_reducible refine gate_dst (N := 1) rfl ?_); refine box_event ?hg (N := 1) ?hd (cs := #[.slice A0_0 l0_0.length c0_0]) (t := 27) ?hr ?_; (case hd => rfl); (case hg => rfl); (case hr => first | (go_simp; done) | (go_simp; rfl)); intro gb103 hg w15 hbox hb; have n0_ := zA (below_step z1 hb); have n1_ := zA (hbox); have n2_ := zA ((z178 : w.heap.size ≤ gb103)); have n3_ := zA ((z178 : w.heap.size ≤ gb103)); clear HB; have HB := n0_; have BK103 := n1_; have GW103 := n2_; have GE103 := n3_; clear n0_ n1_ n2_ n3_; clear hb hbox hg; obtain ⟨hcz16_0, hfz16_0⟩ := zC1 BK103.out) | ((with_reducible refine gate_callee (f := 43) rfl ?_); refine goesL_ (some 7) rfl rfl Try.func43 (by kernel_rfl) rfl #[.int .i64 (l0_0.length : Int), .int .i64 1, .int .i64 8] rfl z3 ?_; (with_reducible refine (spec_l01In.calls (l0_0.length : Int) 1 8 false _ A2.out).mono ?_); rintro e w' ⟨rfl, ⟨nd, rfl⟩⟩; refine ⟨_, rfl, ?_⟩))
    go_ret
    exact ⟨z15, z2⟩

/-! ### spec_l10Code: function 59 -/
def spec_l10Code.f (k : Nat) (l0_0 : List Int) (a1 : Int) : Option (Int) := (spec_l01Is.f k l0_0).bind fun t100 => (if t100 = true then ((spec_l01In.f a1 1 (mn 3 (l0_0.length : Int))).bind fun t101 => (if t101 = true then (some 0) else (some 2))) else (some 1))
set_option maxHeartbeats 8000000 in
set_option maxRecDepth 100000 in
theorem spec_l10Code.calls (k : Nat) (A0_0 : Option Addr) (c0_0 : Nat) (l0_0 : List Int) (a1 : Int) (r : Int) (w : World) (hr0_0 : Kd.C (Kd.int .i64) w A0_0 l0_0.length l0_0) (hc0_0 : l0_0.length ≤ c0_0) (h : spec_l10Code.f k l0_0 a1 = some r) :
    Calls Try.prog 59 #[.agg #[.slice A0_0 l0_0.length c0_0], .int .i64 a1] w fun e w' => e = .returned (.int .i64 r) ∧ Below w.heap.size w w' := by
  have hu27 := Try.underlying27
  have HR0_0 := zA hr0_0
  have HC0_0 := zA hc0_0
  clear hr0_0 hc0_0
  have HB := zA (Below.refl w.heap.size w)
  have H := h
  unfold spec_l10Code.f at H
  (try dsimp -simprocs only at H)
  clear h
  replace H := zi H
  obtain ⟨t100, A30, H⟩ := H
  (try dsimp -simprocs only at H)
  have A3 := zA A30
  clear A30
  by_cases c4 : t100 = true
  · subst c4
    have H1 : ((spec_l01In.f a1 1 (mn 3 (l0_0.length : Int))).bind fun t101 => (if t101 = true then (some 0) else (some 2))) = some r := by rw [if_pos rfl] at H; exact H
    clear H
    have H := H1
    clear H1
    obtain ⟨ji5, hji5⟩ : ∃ j_ : Int, (mn 3 (l0_0.length : Int)) = j_ := ⟨_, rfl⟩
    replace H : ((spec_l01In.f a1 1 (ji5)).bind fun t101 => (if t101 = true then (some 0) else (some 2))) = some r := by first | (rw [hji5] at H; exact H) | (simp only [hji5] at H ⊢; exact H)
    (try rw [hji5] at A3)
    (try (have hji5h : ji5 ≤ 3 := by (rw [← hji5]; unfold mn; (repeat' split) <;> omega)))
    (try (have hji5g : ji5 ≤ 64 := by omega))
    (try (have hji5l : 0 ≤ ji5 := by (rw [← hji5]; unfold mn; (repeat' split) <;> omega)))
    (try (have hji5m : 0 ≤ ji5 := by omega))
    have hji5_ : (if (l0_0.length : Int) < 3 then (l0_0.length : Int) else 3) = ji5 := hji5
    replace H := zi H
    obtain ⟨t101, A60, H⟩ := H
    replace H : (if t101 = true then (some 0) else (some 2)) = some r := H
    have A6 := zA A60
    clear A60
    by_cases c7 : t101 = true
    · subst c7
      have H1 : (some 0) = some r := by rw [if_pos rfl] at H; exact H
      clear H
      have H := H1
      clear H1
      obtain rfl := Option.some.inj H
      go_enter Try.func59, Try.ntmps59
      go_wp2_with (first | ((with_reducible refine gate_dst (N := 2) rfl ?_); refine box_event ?hg (N := 2) ?hd (cs := #[.slice A0_0 l0_0.length c0_0]) (t := 27) ?hr ?_; (case hd => rfl); (case hg => rfl); (case hr => first | (go_simp; done) | (go_simp; rfl)); intro gb102 hg w8 hbox hb; have n0_ := zA (below_step z1 hb); have n1_ := zA (hbox); have n2_ := zA ((z178 : w.heap.size ≤ gb102)); have n3_ := zA ((z178 : w.heap.size ≤ gb102)); clear HB; have HB := n0_; have BK102 := n1_; have GW102 := n2_; have GE102 := n3_; clear n0_ n1_ n2_ n3_; clear hb hbox hg; obtain ⟨hcz9_0, hfz9_0⟩ := zC1 BK102.out) | ((with_reducible refine gate_callee (f := 77) rfl ?_); refine goesL_ (some 7) rfl rfl Try.func77 (by kernel_rfl) rfl #[.agg #[.slice A0_0 l0_0.length c0_0]] rfl z3 ?_; (with_reducible refine (spec_l01Is.calls k _ _ l0_0 true _ ?side1 ?side2 A3.out).mono ?_); (case side1 => exact z5); (case side2 => exact HC0_0.out); rintro e w10 ⟨rfl, hb⟩; refine ⟨_, rfl, ?_⟩; have n0_ := zBB BK102 hb; have n1_ := zA (below_step z11 hb); clear BK102 HB; have BK102 := n0_; have HB := n1_; clear n0_ n1_; (try clear hb); (try clear hb2); (try clear hk); (try clear hi); obtain ⟨hcz11_0, hfz11_0⟩ := zC1 BK102.out) | ((with_reducible refine gate_callee (f := 43) rfl ?_); refine goesL_ (some 15) rfl rfl Try.func43 (by kernel_rfl) rfl #[.int .i64 a1, .int .i64 1, .int .i64 ji5] rfl z135 ?_; (with_reducible refine (spec_l01In.calls a1 1 ji5 true _ A6.out).mono ?_); rintro e w' ⟨rfl, ⟨nd, rfl⟩⟩; refine ⟨_, rfl, ?_⟩))
      go_ret
      exact ⟨z79, z11⟩
    · replace c7 := Bool.eq_false_iff.mpr c7
      subst c7
      have H1 : (some 2) = some r := by rw [if_neg (show ¬ (false = true) by decide)] at H; exact H
      clear H
      have H := H1
      clear H1
      obtain rfl := Option.some.inj H
      go_enter Try.func59, Try.ntmps59
      go_wp2_with (first | ((with_reducible refine gate_dst (N := 2) rfl ?_); refine box_event ?hg (N := 2) ?hd (cs := #[.slice A0_0 l0_0.length c0_0]) (t := 27) ?hr ?_; (case hd => rfl); (case hg => rfl); (case hr => first | (go_simp; done) | (go_simp; rfl)); intro gb102 hg w12 hbox hb; have n0_ := zA (below_step z1 hb); have n1_ := zA (hbox); have n2_ := zA ((z178 : w.heap.size ≤ gb102)); have n3_ := zA ((z178 : w.heap.size ≤ gb102)); clear HB; have HB := n0_; have BK102 := n1_; have GW102 := n2_; have GE102 := n3_; clear n0_ n1_ n2_ n3_; clear hb hbox hg; obtain ⟨hcz13_0, hfz13_0⟩ := zC1 BK102.out) | ((with_reducible refine gate_callee (f := 77) rfl ?_); refine goesL_ (some 7) rfl rfl Try.func77 (by kernel_rfl) rfl #[.agg #[.slice A0_0 l0_0.length c0_0]] rfl z3 ?_; (with_reducible refine (spec_l01Is.calls k _ _ l0_0 true _ ?side1 ?side2 A3.out).mono ?_); (case side1 => exact z5); (case side2 => exact HC0_0.out); rintro e w14 ⟨rfl, hb⟩; refine ⟨_, rfl, ?_⟩; have n0_ := zBB BK102 hb; have n1_ := zA (below_step z11 hb); clear BK102 HB; have BK102 := n0_; have HB := n1_; clear n0_ n1_; (try clear hb); (try clear hb2); (try clear hk); (try clear hi); obtain ⟨hcz15_0, hfz15_0⟩ := zC1 BK102.out) | ((with_reducible refine gate_callee (f := 43) rfl ?_); refine goesL_ (some 15) rfl rfl Try.func43 (by kernel_rfl) rfl #[.int .i64 a1, .int .i64 1, .int .i64 ji5] rfl z135 ?_; (with_reducible refine (spec_l01In.calls a1 1 ji5 false _ A6.out).mono ?_); rintro e w' ⟨rfl, ⟨nd, rfl⟩⟩; refine ⟨_, rfl, ?_⟩))
      go_ret
      exact ⟨z79, z11⟩
  · replace c4 := Bool.eq_false_iff.mpr c4
    subst c4
    have H1 : (some 1) = some r := by rw [if_neg (show ¬ (false = true) by decide)] at H; exact H
    clear H
    have H := H1
    clear H1
    obtain rfl := Option.some.inj H
    go_enter Try.func59, Try.ntmps59
    go_wp2_with (first | ((with_reducible refine gate_dst (N := 2) rfl ?_); refine box_event ?hg (N := 2) ?hd (cs := #[.slice A0_0 l0_0.length c0_0]) (t := 27) ?hr ?_; (case hd => rfl); (case hg => rfl); (case hr => first | (go_simp; done) | (go_simp; rfl)); intro gb102 hg w16 hbox hb; have n0_ := zA (below_step z1 hb); have n1_ := zA (hbox); have n2_ := zA ((z178 : w.heap.size ≤ gb102)); have n3_ := zA ((z178 : w.heap.size ≤ gb102)); clear HB; have HB := n0_; have BK102 := n1_; have GW102 := n2_; have GE102 := n3_; clear n0_ n1_ n2_ n3_; clear hb hbox hg; obtain ⟨hcz17_0, hfz17_0⟩ := zC1 BK102.out) | ((with_reducible refine gate_callee (f := 77) rfl ?_); refine goesL_ (some 7) rfl rfl Try.func77 (by kernel_rfl) rfl #[.agg #[.slice A0_0 l0_0.length c0_0]] rfl z3 ?_; (with_reducible refine (spec_l01Is.calls k _ _ l0_0 false _ ?side1 ?side2 A3.out).mono ?_); (case side1 => exact z5); (case side2 => exact HC0_0.out); rintro e w18 ⟨rfl, hb⟩; refine ⟨_, rfl, ?_⟩; have n0_ := zBB BK102 hb; have n1_ := zA (below_step z11 hb); clear BK102 HB; have BK102 := n0_; have HB := n1_; clear n0_ n1_; (try clear hb); (try clear hb2); (try clear hk); (try clear hi)))
    go_ret
    exact ⟨z15, z11⟩

/-! ### spec_GreedyRows: function 30 -/
mutual
def spec_GreedyRows.l0 : Nat → Int → List (List Int) → Int → List Int → Option (List Int × Int)
  | 0, _, _, _, _ => none
  | k + 1, x1, x7, x8, x283000 => (spec_l01N.f k x283000).bind fun t100 => (if x8 < t100 then ((spec_l01Digits.f k x283000 x8).bind fun t101 => (if x7.length < 5864062014805 then (spec_GreedyRows.l0 k x1 (x7 ++ [t101]) (wrap64 (x8 + 1)) x283000) else (none))) else ((spec_l10All.f k x283000 x1).bind fun t102 => (spec_GreedyRows.l1 k x7 t102 (([] : List Int)) x283000)))
def spec_GreedyRows.l1 : Nat → List (List Int) → List (List Int) → List Int → List Int → Option (List Int × Int)
  | 0, _, _, _, _ => none
  | k + 1, x7, x9, x10, x283000 => if (x9.length : Int) > 0 then (if (x10.length : Int) = 200 then (some (([] : List Int), 3)) else (spec_GreedyRows.l2 k x7 x9 x10 0 0 0 x283000)) else (some (x10, 0))
def spec_GreedyRows.l2 : Nat → List (List Int) → List (List Int) → List Int → Int → Int → Int → List Int → Option (List Int × Int)
  | 0, _, _, _, _, _, _, _ => none
  | k + 1, x7, x9, x10, x11, x12, x13, x283000 => if x13 < (x7.length : Int) then (spec_GreedyRows.l3 k x7 x9 x10 x11 x12 x13 0 0 x283000) else (if x10.length < 17592186044416 then ((spec_l10Missing.f k x283000 x9 (([x11] : List Int))).bind fun t103 => (spec_GreedyRows.l1 k x7 t103 (x10 ++ [x11]) x283000)) else (none))
def spec_GreedyRows.l3 : Nat → List (List Int) → List (List Int) → List Int → Int → Int → Int → Int → Int → List Int → Option (List Int × Int)
  | 0, _, _, _, _, _, _, _, _, _ => none
  | k + 1, x7, x9, x10, x11, x12, x13, x14, x15, x283000 => if x15 < (x9.length : Int) then (if 0 ≤ x13 then (if x13 < (x7.length : Int) then (if 0 ≤ x15 then ((spec_l10Has.f k (rd_L2 x7 x13) (rd_L2 x9 x15)).bind fun t104 => (if t104 = true then (spec_GreedyRows.l3 k x7 x9 x10 x11 x12 x13 (wrap64 (x14 + 1)) (wrap64 (x15 + 1)) x283000) else (spec_GreedyRows.l3 k x7 x9 x10 x11 x12 x13 x14 (wrap64 (x15 + 1)) x283000))) else (none)) else (none)) else (none)) else (if x14 > x12 then (spec_GreedyRows.l2 k x7 x9 x10 x13 x14 (wrap64 (x13 + 1)) x283000) else (spec_GreedyRows.l2 k x7 x9 x10 x11 x12 (wrap64 (x13 + 1)) x283000))
end
def spec_GreedyRows.f (k : Nat) (l0_0 : List Int) (a1 : Int) : Option (List Int × Int) := (spec_l10Code.f k l0_0 a1).bind fun t105 => (if t105 = 0 then (spec_GreedyRows.l0 k a1 (([] : List (List Int))) 0 l0_0) else (some (([] : List Int), t105)))
set_option maxHeartbeats 8000000 in
set_option maxRecDepth 100000 in
theorem spec_GreedyRows.calls (k : Nat) (A0_0 : Option Addr) (c0_0 : Nat) (l0_0 : List Int) (a1 : Int) (r1 : List Int) (r2 : Int) (w : World) (hr0_0 : Kd.C (Kd.int .i64) w A0_0 l0_0.length l0_0) (hc0_0 : l0_0.length ≤ c0_0) (h : spec_GreedyRows.f k l0_0 a1 = some (r1, r2)) :
    Calls Try.prog 30 #[.agg #[.slice A0_0 l0_0.length c0_0], .int .i64 a1] w fun e w' => ∃ v0_ : Value, e = .returned (.tuple #[v0_, .int .i64 r2]) ∧ Kd.R (Kd.int .i64) 2 w' w.heap.size (fun _ => True) v0_ r1 ∧ Below w.heap.size w w' := by
  have hu27 := Try.underlying27
  have HR0_0 := zA hr0_0
  have HC0_0 := zA hc0_0
  clear hr0_0 hc0_0
  have HB := zA (Below.refl w.heap.size w)
  have H := h
  unfold spec_GreedyRows.f at H
  (try dsimp -simprocs only at H)
  clear h
  replace H := zi H
  obtain ⟨t105, A30, H⟩ := H
  (try dsimp -simprocs only at H)
  have A3 := zA A30
  clear A30
  by_cases c4 : t105 = 0
  · rw [if_pos c4] at H
    have c4b0 : (t105 == 0) = true := beq_iff_eq.mpr c4
    have c4b1 : (t105 != 0) = false := bne_eq_false_iff_eq.mpr c4
    clear c4
    obtain ⟨y106, hy106⟩ : ∃ y_ : List (List Int), y_ = (([] : List (List Int))) := ⟨_, rfl⟩
    replace H : (spec_GreedyRows.l0 k a1 y106 0 l0_0) = some (r1, r2) := by first | (rw [hy106]; with_reducible exact H) | (have H2_ := (Option.bind_some _ _).symm.trans H; rw [hy106]; with_reducible exact H2_) | (have H2_ := (Option.bind_some _ _).symm.trans H; with_reducible exact H2_) | with_reducible exact H | (rw [hy106]; exact H) | exact H
    have Ny106 := zA hy106
    clear hy106
    have H' := zA H
    clear H
    go_enter Try.func30, Try.ntmps30
    go_wp2_with (first | ((with_reducible refine gate_dst (N := 2) rfl ?_); refine box_event ?hg (N := 2) ?hd (cs := #[.slice A0_0 l0_0.length c0_0]) (t := 27) ?hr ?_; (case hd => rfl); (case hg => rfl); (case hr => first | (go_simp; done) | (go_simp; rfl)); intro gb107 hg w5 hbox hb; have n0_ := zA (below_step z1 hb); have n1_ := zA (hbox); have n2_ := zA ((z178 : w.heap.size ≤ gb107)); have n3_ := zA ((z178 : w.heap.size ≤ gb107)); clear HB; have HB := n0_; have BK107 := n1_; have GW107 := n2_; have GE107 := n3_; clear n0_ n1_ n2_ n3_; clear hb hbox hg; obtain ⟨hcz6_0, hfz6_0⟩ := zC1 BK107.out) | (go_at_call 59; (with_reducible refine (spec_l10Code.calls k _ _ l0_0 a1 t105 _ ?side1 ?side2 A3.out).mono ?_); (case side1 => exact z5); (case side2 => exact HC0_0.out); rintro e w7 ⟨rfl, hb⟩; have n0_ := zBB BK107 hb; have n1_ := zA (below_step z4 hb); clear BK107 HB; have BK107 := n0_; have HB := n1_; clear n0_ n1_; (try clear hb); (try clear hb2); (try clear hk); (try clear hi)) | ((with_reducible refine gate_dst (N := 22) rfl ?_); refine Kd.N_lit (Kd.slice 2 (Kd.int .i64)) _ 25 ?hg (N' := 22) ?hd (xs := ([] : List (List Int))) (inner := []) (ok := (fun k_ => k_ ≠ gb107)) (okp := (fun k_ => k_ ≠ gb107)) ?hr ?hp (fun _ hk => hk) ((show ∀ k_, w7.heap.size ≤ k_ → (fun k_ => k_ ≠ gb107) k_ from fun k_ hk => Kd.freshB (g := gb107) (o := .cells #[.slice A0_0 l0_0.length c0_0] 27 (0, 0)) z21 k_ hk) _ (Nat.le_refl _)) (Below.refl _ _) (Nat.le_refl _) (by simp) ?_; (case hd => rfl); (case hg => rfl); (case hr => first | (go_simp; done) | (go_simp; rfl)); (case hp => exact (Reps.none _ _)); intro v108 w8 ho9 hb hg_ hnew_; clear hg_ hnew_; (first | rw [← Ny106.out] at ho9 | (simp only [Int.reduceToNat] at ho9; rw [← Ny106.out] at ho9)); have n0_ := zA (Kd.N_lower ho9 (below_size z4)); have n1_ := zBB BK107 hb; have n2_ := zA (below_step z4 hb); clear BK107 HB; have HO109 := n0_; have BK107 := n1_; have HB := n2_; clear n0_ n1_ n2_; clear hb ho9))
    repeat (go_quiet (first | ((with_reducible refine gate_dst (N := 2) rfl ?_); refine box_event ?hg (N := 2) ?hd (cs := #[.slice A0_0 l0_0.length c0_0]) (t := 27) ?hr ?_; (case hd => rfl); (case hg => rfl); (case hr => first | (go_simp; done) | (go_simp; rfl)); intro gb107 hg w5 hbox hb; have n0_ := zA (below_step z1 hb); have n1_ := zA (hbox); have n2_ := zA ((z178 : w.heap.size ≤ gb107)); have n3_ := zA ((z178 : w.heap.size ≤ gb107)); clear HB; have HB := n0_; have BK107 := n1_; have GW107 := n2_; have GE107 := n3_; clear n0_ n1_ n2_ n3_; clear hb hbox hg; obtain ⟨hcz6_0, hfz6_0⟩ := zC1 BK107.out) | (go_at_call 59; (with_reducible refine (spec_l10Code.calls k _ _ l0_0 a1 t105 _ ?side1 ?side2 A3.out).mono ?_); (case side1 => exact z5); (case side2 => exact HC0_0.out); rintro e w7 ⟨rfl, hb⟩; have n0_ := zBB BK107 hb; have n1_ := zA (below_step z4 hb); clear BK107 HB; have BK107 := n0_; have HB := n1_; clear n0_ n1_; (try clear hb); (try clear hb2); (try clear hk); (try clear hi)) | ((with_reducible refine gate_dst (N := 22) rfl ?_); refine Kd.N_lit (Kd.slice 2 (Kd.int .i64)) _ 25 ?hg (N' := 22) ?hd (xs := ([] : List (List Int))) (inner := []) (ok := (fun k_ => k_ ≠ gb107)) (okp := (fun k_ => k_ ≠ gb107)) ?hr ?hp (fun _ hk => hk) ((show ∀ k_, w7.heap.size ≤ k_ → (fun k_ => k_ ≠ gb107) k_ from fun k_ hk => Kd.freshB (g := gb107) (o := .cells #[.slice A0_0 l0_0.length c0_0] 27 (0, 0)) z21 k_ hk) _ (Nat.le_refl _)) (Below.refl _ _) (Nat.le_refl _) (by simp) ?_; (case hd => rfl); (case hg => rfl); (case hr => first | (go_simp; done) | (go_simp; rfl)); (case hp => exact (Reps.none _ _)); intro v108 w8 ho9 hb hg_ hnew_; clear hg_ hnew_; (first | rw [← Ny106.out] at ho9 | (simp only [Int.reduceToNat] at ho9; rw [← Ny106.out] at ho9)); have n0_ := zA (Kd.N_lower ho9 (below_size z4)); have n1_ := zBB BK107 hb; have n2_ := zA (below_step z4 hb); clear BK107 HB; have HO109 := n0_; have BK107 := n1_; have HB := n2_; clear n0_ n1_ n2_; clear hb ho9)); try go_wp2_with (first | ((with_reducible refine gate_dst (N := 2) rfl ?_); refine box_event ?hg (N := 2) ?hd (cs := #[.slice A0_0 l0_0.length c0_0]) (t := 27) ?hr ?_; (case hd => rfl); (case hg => rfl); (case hr => first | (go_simp; done) | (go_simp; rfl)); intro gb107 hg w5 hbox hb; have n0_ := zA (below_step z1 hb); have n1_ := zA (hbox); have n2_ := zA ((z178 : w.heap.size ≤ gb107)); have n3_ := zA ((z178 : w.heap.size ≤ gb107)); clear HB; have HB := n0_; have BK107 := n1_; have GW107 := n2_; have GE107 := n3_; clear n0_ n1_ n2_ n3_; clear hb hbox hg; obtain ⟨hcz6_0, hfz6_0⟩ := zC1 BK107.out) | (go_at_call 59; (with_reducible refine (spec_l10Code.calls k _ _ l0_0 a1 t105 _ ?side1 ?side2 A3.out).mono ?_); (case side1 => exact z5); (case side2 => exact HC0_0.out); rintro e w7 ⟨rfl, hb⟩; have n0_ := zBB BK107 hb; have n1_ := zA (below_step z4 hb); clear BK107 HB; have BK107 := n0_; have HB := n1_; clear n0_ n1_; (try clear hb); (try clear hb2); (try clear hk); (try clear hi)) | ((with_reducible refine gate_dst (N := 22) rfl ?_); refine Kd.N_lit (Kd.slice 2 (Kd.int .i64)) _ 25 ?hg (N' := 22) ?hd (xs := ([] : List (List Int))) (inner := []) (ok := (fun k_ => k_ ≠ gb107)) (okp := (fun k_ => k_ ≠ gb107)) ?hr ?hp (fun _ hk => hk) ((show ∀ k_, w7.heap.size ≤ k_ → (fun k_ => k_ ≠ gb107) k_ from fun k_ hk => Kd.freshB (g := gb107) (o := .cells #[.slice A0_0 l0_0.length c0_0] 27 (0, 0)) z21 k_ hk) _ (Nat.le_refl _)) (Below.refl _ _) (Nat.le_refl _) (by simp) ?_; (case hd => rfl); (case hg => rfl); (case hr => first | (go_simp; done) | (go_simp; rfl)); (case hp => exact (Reps.none _ _)); intro v108 w8 ho9 hb hg_ hnew_; clear hg_ hnew_; (first | rw [← Ny106.out] at ho9 | (simp only [Int.reduceToNat] at ho9; rw [← Ny106.out] at ho9)); have n0_ := zA (Kd.N_lower ho9 (below_size z4)); have n1_ := zBB BK107 hb; have n2_ := zA (below_step z4 hb); clear BK107 HB; have HO109 := n0_; have BK107 := n1_; have HB := n2_; clear n0_ n1_ n2_; clear hb ho9)))
    go_loopg [7, 8] k (fun kq v7 v8 w' => ∃ (x7_1 : List (List Int)) (x8_1 : Int), v8 = .int .i64 x8_1 ∧ Aside0 (spec_GreedyRows.l0 kq a1 x7_1 x8_1 l0_0 = some (r1, r2)) ∧ Aside0 (kq ≤ k) ∧ Aside0 (Kd.N (Kd.slice 2 (Kd.int .i64)) 25 w' w.heap.size (fun k_ => k_ ≠ gb107) v7 x7_1) ∧ Aside0 (w'.heap[gb107]? = some (.cells #[(.slice A0_0 l0_0.length c0_0)] 27 (0, 0))) ∧ Aside0 (Below w.heap.size w w'))
    case atStart => exact ⟨(y106), (0), z16, H', ⟨Nat.le_refl _⟩, ⟨(by (with_reducible repeat (first | apply Kd.N_alloc | apply Kd.N_drewN | apply Kd.N_drew)); exact HO109.out)⟩, ⟨z21⟩, ⟨z4⟩⟩
    case round =>
      clear H'
      try clear p2
      try clear c3
      try clear c4
      try clear c4b0
      try clear c4b1
      try clear hcz6_0
      try clear hfz6_0
      obtain ⟨x7_1, x8_1, rfl, HA, HK1, HO_7, BK107, HB⟩ := hrel
      cases gk with
      | zero => exact absurd HA.out (by simp [spec_GreedyRows.l0])
      | succ k1 =>
        have H := HA.out
        clear HA
        simp only [spec_GreedyRows.l0] at H
        replace H := zi H
        obtain ⟨t100, A100, H⟩ := H
        (try dsimp -simprocs only at H)
        have A10 := zA A100
        clear A100
        by_cases c11 : x8_1 < t100
        · rw [if_pos c11] at H
          have c11b0 : decide (x8_1 < t100) = true := decide_eq_true c11
          clear c11
          replace H := zi H
          obtain ⟨t101, A120, H⟩ := H
          (try dsimp -simprocs only at H)
          have A12 := zA A120
          clear A120
          by_cases c13 : x7_1.length < 5864062014805
          · rw [if_pos c13] at H
            have LMc13 := zA c13
            clear c13
            obtain ⟨y110, hy110⟩ : ∃ y_ : List (List Int), y_ = (x7_1 ++ [t101]) := ⟨_, rfl⟩
            replace H : (spec_GreedyRows.l0 k1 a1 y110 (wrap64 (x8_1 + 1)) l0_0) = some (r1, r2) := by first | (rw [hy110]; with_reducible exact H) | (have H2_ := (Option.bind_some _ _).symm.trans H; rw [hy110]; with_reducible exact H2_) | (have H2_ := (Option.bind_some _ _).symm.trans H; with_reducible exact H2_) | with_reducible exact H | (rw [hy110]; exact H) | exact H
            have Ny110 := zA hy110
            clear hy110
            have H' := zA H
            clear H
            obtain ⟨hcz14_0, hfz14_0⟩ := zC1 BK107.out
            go_wp2_with (first | (go_at_call 60; (with_reducible refine (spec_l01N.calls k1 _ _ l0_0 t100 _ ?side1 ?side2 A10.out).mono ?_); (case side1 => exact z5); (case side2 => exact HC0_0.out); rintro e w15 ⟨rfl, hb⟩; have n0_ := zA (Kd.N_below z22 hb); have n1_ := zBB BK107 hb; have n2_ := zA (below_step z4 hb); clear HO_7 BK107 HB; have HO_7 := n0_; have BK107 := n1_; have HB := n2_; clear n0_ n1_ n2_; (try clear hb); (try clear hb2); (try clear hk); (try clear hi); obtain ⟨hcz16_0, hfz16_0⟩ := zC1 BK107.out) | (go_at_call 67; (with_reducible refine (spec_l01Digits.calls k1 _ _ l0_0 x8_1 t101 _ ?side1 ?side2 A12.out).mono ?_); (case side1 => exact z5); (case side2 => exact HC0_0.out); rintro e w17 ⟨v111, rfl, ho0, hb⟩; have n0_ := zA (Kd.N_elder' z22 (Kd.R_base ho0) hb); have n1_ := zA (Kd.R_lower ho0 (below_size z4)); have n2_ := zBB BK107 hb; have n3_ := zA (below_step z4 hb); clear HO_7 BK107 HB; have HO_7 := n0_; have HO112 := n1_; have BK107 := n2_; have HB := n3_; clear n0_ n1_ n2_ n3_; (try clear hb); (try clear hb2); (try clear hk); (try clear hi); (try clear ho0); obtain ⟨Ao19, co19, eo19⟩ := Kd.R_slice HO112.out; subst eo19) | ((with_reducible refine gate_builtin (b := .append) (xs := #[.tmp 29, .tmp 33]) rfl ?_); at_builtin; refine Kd.N_append (Kd.slice 2 (Kd.int .i64)) (w0 := w) w.heap.size rfl (.tmp 29) (.tmp 33) 42 25 (.slice none 0 0) 24 rfl Try.underlying42 info25 rfl (by decide) (by omega) u7 x7_1 t101 [.slice Ao19 t101.length co19] (fun k_ => k_ ≠ gb107) (fun k_ => ((fun k_ => k_ ≠ gb107)) k_ ∧ some k_ ≠ (u7 : Value).ownBlock) rfl rfl ?aP (fun _ hk => hk) ?aF ?aO ?aB ?aS ?aL ?_; (case aP => exact (Kd.FK_slice_mk (Kd.R_reads' (Kd.R_mono (ok' := (fun k_ => ((fun k_ => k_ ≠ gb107)) k_ ∧ some k_ ≠ (u7 : Value).ownBlock)) (Kd.R_types (Kd.R_apart' (HO112.out) (Kd.N_typed HO_7.out) (by decide)) BK107.out (by decide)) (fun k_ hk => ⟨hk.2, hk.1.2⟩))).2.1 (Kd.R_F (Kd.R_mono (ok' := (fun k_ => ((fun k_ => k_ ≠ gb107)) k_ ∧ some k_ ≠ (u7 : Value).ownBlock)) (Kd.R_types (Kd.R_apart' (HO112.out) (Kd.N_typed HO_7.out) (by decide)) BK107.out (by decide)) (fun k_ hk => ⟨hk.2, hk.1.2⟩))))); (case aB => exact z4); (case aF => exact (fun k_ hk => Kd.freshB (g := gb107) (o := .cells #[.slice A0_0 l0_0.length c0_0] 27 (0, 0)) z21 k_ hk)); (case aO => exact z104); (case aS => exact (below_size z4)); (case aL => have := LMc13.out; omega); intro v113 w18 ho hb hg hat; rw [← Ny110.out] at ho; have n0_ := zA (blk_grown (g := gb107) (o := .cells #[.slice A0_0 l0_0.length c0_0] 27 (0, 0)) z21 hg (Kd.N_ne HO_7.out BK107.out (by decide))); have n1_ := zA (hb); have n2_ := zA (ho); clear BK107 HB HO_7 HO112; have BK107 := n0_; have HB := n1_; have HO114 := n2_; clear n0_ n1_ n2_; clear ho hb hg hat))
            repeat (go_quiet (first | (go_at_call 60; (with_reducible refine (spec_l01N.calls k1 _ _ l0_0 t100 _ ?side1 ?side2 A10.out).mono ?_); (case side1 => exact z5); (case side2 => exact HC0_0.out); rintro e w15 ⟨rfl, hb⟩; have n0_ := zA (Kd.N_below z22 hb); have n1_ := zBB BK107 hb; have n2_ := zA (below_step z4 hb); clear HO_7 BK107 HB; have HO_7 := n0_; have BK107 := n1_; have HB := n2_; clear n0_ n1_ n2_; (try clear hb); (try clear hb2); (try clear hk); (try clear hi); obtain ⟨hcz16_0, hfz16_0⟩ := zC1 BK107.out) | (go_at_call 67; (with_reducible refine (spec_l01Digits.calls k1 _ _ l0_0 x8_1 t101 _ ?side1 ?side2 A12.out).mono ?_); (case side1 => exact z5); (case side2 => exact HC0_0.out); rintro e w17 ⟨v111, rfl, ho0, hb⟩; have n0_ := zA (Kd.N_elder' z22 (Kd.R_base ho0) hb); have n1_ := zA (Kd.R_lower ho0 (below_size z4)); have n2_ := zBB BK107 hb; have n3_ := zA (below_step z4 hb); clear HO_7 BK107 HB; have HO_7 := n0_; have HO112 := n1_; have BK107 := n2_; have HB := n3_; clear n0_ n1_ n2_ n3_; (try clear hb); (try clear hb2); (try clear hk); (try clear hi); (try clear ho0); obtain ⟨Ao19, co19, eo19⟩ := Kd.R_slice HO112.out; subst eo19) | ((with_reducible refine gate_builtin (b := .append) (xs := #[.tmp 29, .tmp 33]) rfl ?_); at_builtin; refine Kd.N_append (Kd.slice 2 (Kd.int .i64)) (w0 := w) w.heap.size rfl (.tmp 29) (.tmp 33) 42 25 (.slice none 0 0) 24 rfl Try.underlying42 info25 rfl (by decide) (by omega) u7 x7_1 t101 [.slice Ao19 t101.length co19] (fun k_ => k_ ≠ gb107) (fun k_ => ((fun k_ => k_ ≠ gb107)) k_ ∧ some k_ ≠ (u7 : Value).ownBlock) rfl rfl ?aP (fun _ hk => hk) ?aF ?aO ?aB ?aS ?aL ?_; (case aP => exact (Kd.FK_slice_mk (Kd.R_reads' (Kd.R_mono (ok' := (fun k_ => ((fun k_ => k_ ≠ gb107)) k_ ∧ some k_ ≠ (u7 : Value).ownBlock)) (Kd.R_types (Kd.R_apart' (HO112.out) (Kd.N_typed HO_7.out) (by decide)) BK107.out (by decide)) (fun k_ hk => ⟨hk.2, hk.1.2⟩))).2.1 (Kd.R_F (Kd.R_mono (ok' := (fun k_ => ((fun k_ => k_ ≠ gb107)) k_ ∧ some k_ ≠ (u7 : Value).ownBlock)) (Kd.R_types (Kd.R_apart' (HO112.out) (Kd.N_typed HO_7.out) (by decide)) BK107.out (by decide)) (fun k_ hk => ⟨hk.2, hk.1.2⟩))))); (case aB => exact z4); (case aF => exact (fun k_ hk => Kd.freshB (g := gb107) (o := .cells #[.slice A0_0 l0_0.length c0_0] 27 (0, 0)) z21 k_ hk)); (case aO => exact z104); (case aS => exact (below_size z4)); (case aL => have := LMc13.out; omega); intro v113 w18 ho hb hg hat; rw [← Ny110.out] at ho; have n0_ := zA (blk_grown (g := gb107) (o := .cells #[.slice A0_0 l0_0.length c0_0] 27 (0, 0)) z21 hg (Kd.N_ne HO_7.out BK107.out (by decide))); have n1_ := zA (hb); have n2_ := zA (ho); clear BK107 HB HO_7 HO112; have BK107 := n0_; have HB := n1_; have HO114 := n2_; clear n0_ n1_ n2_; clear ho hb hg hat)); try go_wp2_with (first | (go_at_call 60; (with_reducible refine (spec_l01N.calls k1 _ _ l0_0 t100 _ ?side1 ?side2 A10.out).mono ?_); (case side1 => exact z5); (case side2 => exact HC0_0.out); rintro e w15 ⟨rfl, hb⟩; have n0_ := zA (Kd.N_below z22 hb); have n1_ := zBB BK107 hb; have n2_ := zA (below_step z4 hb); clear HO_7 BK107 HB; have HO_7 := n0_; have BK107 := n1_; have HB := n2_; clear n0_ n1_ n2_; (try clear hb); (try clear hb2); (try clear hk); (try clear hi); obtain ⟨hcz16_0, hfz16_0⟩ := zC1 BK107.out) | (go_at_call 67; (with_reducible refine (spec_l01Digits.calls k1 _ _ l0_0 x8_1 t101 _ ?side1 ?side2 A12.out).mono ?_); (case side1 => exact z5); (case side2 => exact HC0_0.out); rintro e w17 ⟨v111, rfl, ho0, hb⟩; have n0_ := zA (Kd.N_elder' z22 (Kd.R_base ho0) hb); have n1_ := zA (Kd.R_lower ho0 (below_size z4)); have n2_ := zBB BK107 hb; have n3_ := zA (below_step z4 hb); clear HO_7 BK107 HB; have HO_7 := n0_; have HO112 := n1_; have BK107 := n2_; have HB := n3_; clear n0_ n1_ n2_ n3_; (try clear hb); (try clear hb2); (try clear hk); (try clear hi); (try clear ho0); obtain ⟨Ao19, co19, eo19⟩ := Kd.R_slice HO112.out; subst eo19) | ((with_reducible refine gate_builtin (b := .append) (xs := #[.tmp 29, .tmp 33]) rfl ?_); at_builtin; refine Kd.N_append (Kd.slice 2 (Kd.int .i64)) (w0 := w) w.heap.size rfl (.tmp 29) (.tmp 33) 42 25 (.slice none 0 0) 24 rfl Try.underlying42 info25 rfl (by decide) (by omega) u7 x7_1 t101 [.slice Ao19 t101.length co19] (fun k_ => k_ ≠ gb107) (fun k_ => ((fun k_ => k_ ≠ gb107)) k_ ∧ some k_ ≠ (u7 : Value).ownBlock) rfl rfl ?aP (fun _ hk => hk) ?aF ?aO ?aB ?aS ?aL ?_; (case aP => exact (Kd.FK_slice_mk (Kd.R_reads' (Kd.R_mono (ok' := (fun k_ => ((fun k_ => k_ ≠ gb107)) k_ ∧ some k_ ≠ (u7 : Value).ownBlock)) (Kd.R_types (Kd.R_apart' (HO112.out) (Kd.N_typed HO_7.out) (by decide)) BK107.out (by decide)) (fun k_ hk => ⟨hk.2, hk.1.2⟩))).2.1 (Kd.R_F (Kd.R_mono (ok' := (fun k_ => ((fun k_ => k_ ≠ gb107)) k_ ∧ some k_ ≠ (u7 : Value).ownBlock)) (Kd.R_types (Kd.R_apart' (HO112.out) (Kd.N_typed HO_7.out) (by decide)) BK107.out (by decide)) (fun k_ hk => ⟨hk.2, hk.1.2⟩))))); (case aB => exact z4); (case aF => exact (fun k_ hk => Kd.freshB (g := gb107) (o := .cells #[.slice A0_0 l0_0.length c0_0] 27 (0, 0)) z21 k_ hk)); (case aO => exact z104); (case aS => exact (below_size z4)); (case aL => have := LMc13.out; omega); intro v113 w18 ho hb hg hat; rw [← Ny110.out] at ho; have n0_ := zA (blk_grown (g := gb107) (o := .cells #[.slice A0_0 l0_0.length c0_0] 27 (0, 0)) z21 hg (Kd.N_ne HO_7.out BK107.out (by decide))); have n1_ := zA (hb); have n2_ := zA (ho); clear BK107 HB HO_7 HO112; have BK107 := n0_; have HB := n1_; have HO114 := n2_; clear n0_ n1_ n2_; clear ho hb hg hat)))
            go_roundg k1
            case measure => have := HK1.out; omega
            case rel => exact ⟨(y110), (wrap64 (x8_1 + 1)), z16, H', ⟨z99⟩, ⟨(by (with_reducible repeat (first | apply Kd.N_alloc | apply Kd.N_drewN | apply Kd.N_drew)); exact HO114.out)⟩, ⟨z21⟩, ⟨z4⟩⟩
          · rw [if_neg c13] at H
            exact absurd H (by simp)
        · rw [if_neg c11] at H
          have c11b0 : decide (x8_1 < t100) = false := decide_eq_false c11
          clear c11
          replace H := zi H
          obtain ⟨t102, A200, H⟩ := H
          (try dsimp -simprocs only at H)
          have A20 := zA A200
          clear A200
          obtain ⟨y115, hy115⟩ : ∃ y_ : List Int, y_ = (([] : List Int)) := ⟨_, rfl⟩
          replace H : (spec_GreedyRows.l1 k1 x7_1 t102 y115 l0_0) = some (r1, r2) := by first | (rw [hy115]; with_reducible exact H) | (have H2_ := (Option.bind_some _ _).symm.trans H; rw [hy115]; with_reducible exact H2_) | (have H2_ := (Option.bind_some _ _).symm.trans H; with_reducible exact H2_) | with_reducible exact H | (rw [hy115]; exact H) | exact H
          have Ny115 := zA hy115
          clear hy115
          have H' := zA H
          clear H
          obtain ⟨hcz21_0, hfz21_0⟩ := zC1 BK107.out
          go_wp2_with (first | (go_at_call 60; (with_reducible refine (spec_l01N.calls k1 _ _ l0_0 t100 _ ?side1 ?side2 A10.out).mono ?_); (case side1 => exact z5); (case side2 => exact HC0_0.out); rintro e w22 ⟨rfl, hb⟩; have n0_ := zA (Kd.N_below z22 hb); have n1_ := zBB BK107 hb; have n2_ := zA (below_step z4 hb); clear HO_7 BK107 HB; have HO_7 := n0_; have BK107 := n1_; have HB := n2_; clear n0_ n1_ n2_; (try clear hb); (try clear hb2); (try clear hk); (try clear hi); obtain ⟨hcz23_0, hfz23_0⟩ := zC1 BK107.out) | (go_at_call 55; (with_reducible refine (spec_l10All.calls k1 _ _ l0_0 a1 t102 _ ?side1 ?side2 A20.out).mono ?_); (case side1 => exact z5); (case side2 => exact HC0_0.out); rintro e w24 ⟨v116, rfl, ho0, hb⟩; have n0_ := zA (Kd.N_elder' z22 (Kd.N_base ho0) hb); have n1_ := zA (Kd.N_lower (Kd.N_mono (ok' := fun k_ => some k_ ≠ (u7 : Value).ownBlock ∧ k_ ≠ gb107) ho0 (fun k_ hk_ => ⟨(Kd.fresh' (Kd.N_lt z22) k_ hk_), (Kd.freshB (g := gb107) (o := .cells #[.slice A0_0 l0_0.length c0_0] 27 (0, 0)) z21 k_ hk_)⟩)) (below_size z4)); have n2_ := zBB BK107 hb; have n3_ := zA (below_step z4 hb); clear HO_7 BK107 HB; have HO_7 := n0_; have HO117 := n1_; have BK107 := n2_; have HB := n3_; clear n0_ n1_ n2_ n3_; (try clear hb); (try clear hb2); (try clear hk); (try clear hi); (try clear ho0)) | ((with_reducible refine gate_dst (N := 38) rfl ?_); refine Kd.R_lit (Kd.int .i64) _ 2 ?hg (N := 38) ?hd (xs := ([] : List Int)) (inner := []) (ok := fun _ => True) (okp := fun _ => True) ?hr ?hp (fun _ hk => hk) trivial (Below.refl _ _) (Nat.le_refl _) (by simp) ?_; (case hd => rfl); (case hg => rfl); (case hr => first | (go_simp; done) | (go_simp; rfl)); (case hp => exact (Reps.none _ _)); intro v118 w25 ho26 hb hg_ hnew_; clear hg_ hnew_; (first | rw [← Ny115.out] at ho26 | (simp only [Int.reduceToNat] at ho26; rw [← Ny115.out] at ho26)); have n0_ := zA (Kd.N_elder' z22 (Kd.R_base ho26) hb); have n1_ := zA (Kd.N_elder' z144 (Kd.R_base ho26) hb); have n2_ := zA (Kd.R_lower ho26 (below_size z4)); have n3_ := zBB BK107 hb; have n4_ := zA (below_step z4 hb); clear HO_7 HO117 BK107 HB; have HO_7 := n0_; have HO117 := n1_; have HO119 := n2_; have BK107 := n3_; have HB := n4_; clear n0_ n1_ n2_ n3_ n4_; clear hb ho26))
          repeat (go_quiet (first | (go_at_call 60; (with_reducible refine (spec_l01N.calls k1 _ _ l0_0 t100 _ ?side1 ?side2 A10.out).mono ?_); (case side1 => exact z5); (case side2 => exact HC0_0.out); rintro e w22 ⟨rfl, hb⟩; have n0_ := zA (Kd.N_below z22 hb); have n1_ := zBB BK107 hb; have n2_ := zA (below_step z4 hb); clear HO_7 BK107 HB; have HO_7 := n0_; have BK107 := n1_; have HB := n2_; clear n0_ n1_ n2_; (try clear hb); (try clear hb2); (try clear hk); (try clear hi); obtain ⟨hcz23_0, hfz23_0⟩ := zC1 BK107.out) | (go_at_call 55; (with_reducible refine (spec_l10All.calls k1 _ _ l0_0 a1 t102 _ ?side1 ?side2 A20.out).mono ?_); (case side1 => exact z5); (case side2 => exact HC0_0.out); rintro e w24 ⟨v116, rfl, ho0, hb⟩; have n0_ := zA (Kd.N_elder' z22 (Kd.N_base ho0) hb); have n1_ := zA (Kd.N_lower (Kd.N_mono (ok' := fun k_ => some k_ ≠ (u7 : Value).ownBlock ∧ k_ ≠ gb107) ho0 (fun k_ hk_ => ⟨(Kd.fresh' (Kd.N_lt z22) k_ hk_), (Kd.freshB (g := gb107) (o := .cells #[.slice A0_0 l0_0.length c0_0] 27 (0, 0)) z21 k_ hk_)⟩)) (below_size z4)); have n2_ := zBB BK107 hb; have n3_ := zA (below_step z4 hb); clear HO_7 BK107 HB; have HO_7 := n0_; have HO117 := n1_; have BK107 := n2_; have HB := n3_; clear n0_ n1_ n2_ n3_; (try clear hb); (try clear hb2); (try clear hk); (try clear hi); (try clear ho0)) | ((with_reducible refine gate_dst (N := 38) rfl ?_); refine Kd.R_lit (Kd.int .i64) _ 2 ?hg (N := 38) ?hd (xs := ([] : List Int)) (inner := []) (ok := fun _ => True) (okp := fun _ => True) ?hr ?hp (fun _ hk => hk) trivial (Below.refl _ _) (Nat.le_refl _) (by simp) ?_; (case hd => rfl); (case hg => rfl); (case hr => first | (go_simp; done) | (go_simp; rfl)); (case hp => exact (Reps.none _ _)); intro v118 w25 ho26 hb hg_ hnew_; clear hg_ hnew_; (first | rw [← Ny115.out] at ho26 | (simp only [Int.reduceToNat] at ho26; rw [← Ny115.out] at ho26)); have n0_ := zA (Kd.N_elder' z22 (Kd.R_base ho26) hb); have n1_ := zA (Kd.N_elder' z144 (Kd.R_base ho26) hb); have n2_ := zA (Kd.R_lower ho26 (below_size z4)); have n3_ := zBB BK107 hb; have n4_ := zA (below_step z4 hb); clear HO_7 HO117 BK107 HB; have HO_7 := n0_; have HO117 := n1_; have HO119 := n2_; have BK107 := n3_; have HB := n4_; clear n0_ n1_ n2_ n3_ n4_; clear hb ho26)); try go_wp2_with (first | (go_at_call 60; (with_reducible refine (spec_l01N.calls k1 _ _ l0_0 t100 _ ?side1 ?side2 A10.out).mono ?_); (case side1 => exact z5); (case side2 => exact HC0_0.out); rintro e w22 ⟨rfl, hb⟩; have n0_ := zA (Kd.N_below z22 hb); have n1_ := zBB BK107 hb; have n2_ := zA (below_step z4 hb); clear HO_7 BK107 HB; have HO_7 := n0_; have BK107 := n1_; have HB := n2_; clear n0_ n1_ n2_; (try clear hb); (try clear hb2); (try clear hk); (try clear hi); obtain ⟨hcz23_0, hfz23_0⟩ := zC1 BK107.out) | (go_at_call 55; (with_reducible refine (spec_l10All.calls k1 _ _ l0_0 a1 t102 _ ?side1 ?side2 A20.out).mono ?_); (case side1 => exact z5); (case side2 => exact HC0_0.out); rintro e w24 ⟨v116, rfl, ho0, hb⟩; have n0_ := zA (Kd.N_elder' z22 (Kd.N_base ho0) hb); have n1_ := zA (Kd.N_lower (Kd.N_mono (ok' := fun k_ => some k_ ≠ (u7 : Value).ownBlock ∧ k_ ≠ gb107) ho0 (fun k_ hk_ => ⟨(Kd.fresh' (Kd.N_lt z22) k_ hk_), (Kd.freshB (g := gb107) (o := .cells #[.slice A0_0 l0_0.length c0_0] 27 (0, 0)) z21 k_ hk_)⟩)) (below_size z4)); have n2_ := zBB BK107 hb; have n3_ := zA (below_step z4 hb); clear HO_7 BK107 HB; have HO_7 := n0_; have HO117 := n1_; have BK107 := n2_; have HB := n3_; clear n0_ n1_ n2_ n3_; (try clear hb); (try clear hb2); (try clear hk); (try clear hi); (try clear ho0)) | ((with_reducible refine gate_dst (N := 38) rfl ?_); refine Kd.R_lit (Kd.int .i64) _ 2 ?hg (N := 38) ?hd (xs := ([] : List Int)) (inner := []) (ok := fun _ => True) (okp := fun _ => True) ?hr ?hp (fun _ hk => hk) trivial (Below.refl _ _) (Nat.le_refl _) (by simp) ?_; (case hd => rfl); (case hg => rfl); (case hr => first | (go_simp; done) | (go_simp; rfl)); (case hp => exact (Reps.none _ _)); intro v118 w25 ho26 hb hg_ hnew_; clear hg_ hnew_; (first | rw [← Ny115.out] at ho26 | (simp only [Int.reduceToNat] at ho26; rw [← Ny115.out] at ho26)); have n0_ := zA (Kd.N_elder' z22 (Kd.R_base ho26) hb); have n1_ := zA (Kd.N_elder' z144 (Kd.R_base ho26) hb); have n2_ := zA (Kd.R_lower ho26 (below_size z4)); have n3_ := zBB BK107 hb; have n4_ := zA (below_step z4 hb); clear HO_7 HO117 BK107 HB; have HO_7 := n0_; have HO117 := n1_; have HO119 := n2_; have BK107 := n3_; have HB := n4_; clear n0_ n1_ n2_ n3_ n4_; clear hb ho26)))
          go_loopg [9, 10] k1 (fun kq v9 v10 w' => ∃ (x9_2 : List (List Int)) (x10_2 : List Int), Aside0 (spec_GreedyRows.l1 kq x7_1 x9_2 x10_2 l0_0 = some (r1, r2)) ∧ Aside0 (kq ≤ k1) ∧ Aside0 (Kd.N (Kd.slice 2 (Kd.int .i64)) 25 w' w.heap.size (fun k_ => some k_ ≠ (v10 : Value).ownBlock ∧ k_ ≠ gb107) u7 x7_1) ∧ Aside0 (Kd.V (Kd.slice 2 (Kd.int .i64)) 25 w' w.heap.size (fun k_ => some k_ ≠ (u7 : Value).ownBlock ∧ some k_ ≠ (v10 : Value).ownBlock ∧ k_ ≠ gb107) v9 x9_2) ∧ Aside0 (Kd.R (Kd.int .i64) 2 w' w.heap.size (fun _ => True) v10 x10_2) ∧ Aside0 (w'.heap[gb107]? = some (.cells #[(.slice A0_0 l0_0.length c0_0)] 27 (0, 0))) ∧ Aside0 (Below w.heap.size w w'))
          case atStart => exact ⟨(t102), (y115), H', ⟨Nat.le_refl _⟩, ⟨(by (with_reducible repeat (first | apply Kd.N_alloc | apply Kd.N_drewN | apply Kd.N_drew)); exact Kd.N_mono HO_7.out (fun _ hk => ⟨hk.2, hk.1.1⟩))⟩, ⟨Kd.N_V (by (with_reducible repeat (first | apply Kd.N_alloc | apply Kd.N_drewN | apply Kd.N_drew)); exact Kd.N_mono HO117.out (fun _ hk => ⟨hk.1.1, ⟨hk.2, hk.1.2⟩⟩))⟩, ⟨z162⟩, ⟨z21⟩, ⟨z4⟩⟩
          case round =>
            clear H'
            try clear c1
            try clear p2
            try clear c3
            try clear c4
            try clear c4b0
            try clear c4b1
            try clear p6
            try clear c11
            try clear c11b0
            try clear c13
            try clear hcz14_0
            try clear hcz16_0
            try clear hcz21_0
            try clear hcz23_0
            try clear hcz6_0
            try clear hfz14_0
            try clear hfz16_0
            try clear hfz21_0
            try clear hfz23_0
            try clear hfz6_0
            try clear p2
            obtain ⟨x9_2, x10_2, HA, HK2, HO_7, HO_9, HO_10, BK107, HB⟩ := hrel
            cases gk with
            | zero => exact absurd HA.out (by simp [spec_GreedyRows.l1])
            | succ k2 =>
              have H := HA.out
              clear HA
              simp only [spec_GreedyRows.l1] at H
              by_cases c27 : (x9_2.length : Int) > 0
              · rw [if_pos c27] at H
                have c27b0 : decide (0 < (x9_2.length : Int)) = true := decide_eq_true c27
                have c27b1 : decide (0 < x9_2.length) = true := decide_eq_true (by omega)
                clear c27
                by_cases c28 : (x10_2.length : Int) = 200
                · rw [if_pos c28] at H
                  have c28b0 : ((x10_2.length : Int) == 200) = true := beq_iff_eq.mpr c28
                  have c28b1 : ((x10_2.length : Int) != 200) = false := bne_eq_false_iff_eq.mpr c28
                  clear c28
                  simp only [Option.some.injEq, Prod.mk.injEq] at H
                  obtain ⟨rfl, rfl⟩ := H
                  obtain ⟨Ao29, co29, eo29⟩ := Kd.V_slice HO_9.out
                  subst eo29
                  obtain ⟨Ao30, co30, eo30⟩ := Kd.R_slice HO_10.out
                  subst eo30
                  go_wp2
                  repeat (go_quiet (fail); try go_wp2)
                  go_ret2
                  exact ⟨_, z15, z89, z4⟩
                · rw [if_neg c28] at H
                  have c28b0 : ((x10_2.length : Int) == 200) = false := beq_eq_false_iff_ne.mpr c28
                  have c28b1 : ((x10_2.length : Int) != 200) = true := bne_iff_ne.mpr c28
                  have H' := zA H
                  clear H
                  obtain ⟨Ao31, co31, eo31⟩ := Kd.V_slice HO_9.out
                  subst eo31
                  obtain ⟨Ao32, co32, eo32⟩ := Kd.R_slice HO_10.out
                  subst eo32
                  go_wp2
                  repeat (go_quiet (fail); try go_wp2)
                  go_loopg [11, 12, 13] k2 (fun kq v11 v12 v13 w' => ∃ (x11_3 : Int) (x12_3 : Int) (x13_3 : Int), v11 = .int .i64 x11_3 ∧ v12 = .int .i64 x12_3 ∧ v13 = .int .i64 x13_3 ∧ Aside0 (spec_GreedyRows.l2 kq x7_1 x9_2 x10_2 x11_3 x12_3 x13_3 l0_0 = some (r1, r2)) ∧ Aside0 (kq ≤ k2) ∧ Aside0 (Kd.N (Kd.slice 2 (Kd.int .i64)) 25 w' w.heap.size (fun k_ => some k_ ≠ ((.slice Ao32 x10_2.length co32) : Value).ownBlock ∧ k_ ≠ gb107) u7 x7_1) ∧ Aside0 (Kd.V (Kd.slice 2 (Kd.int .i64)) 25 w' w.heap.size (fun k_ => some k_ ≠ (u7 : Value).ownBlock ∧ some k_ ≠ ((.slice Ao32 x10_2.length co32) : Value).ownBlock ∧ k_ ≠ gb107) (.slice Ao31 x9_2.length co31) x9_2) ∧ Aside0 (Kd.R (Kd.int .i64) 2 w' w.heap.size (fun _ => True) (.slice Ao32 x10_2.length co32) x10_2) ∧ Aside0 (w'.heap[gb107]? = some (.cells #[(.slice A0_0 l0_0.length c0_0)] 27 (0, 0))) ∧ Aside0 (Below w.heap.size w w'))
                  case atStart => exact ⟨(0), (0), (0), z16, z16, z16, H', ⟨Nat.le_refl _⟩, ⟨z22⟩, ⟨z63⟩, ⟨z58⟩, ⟨z21⟩, ⟨z4⟩⟩
                  case round =>
                    clear H'
                    try clear c1
                    try clear c2
                    try clear p2
                    try clear c3
                    try clear c4
                    try clear c4b0
                    try clear c4b1
                    try clear p6
                    try clear c11
                    try clear c11b0
                    try clear c13
                    try clear c27
                    try clear c27b0
                    try clear c27b1
                    try clear c28
                    try clear c28b0
                    try clear c28b1
                    try clear c30
                    try clear hcz14_0
                    try clear hcz16_0
                    try clear hcz21_0
                    try clear hcz23_0
                    try clear hcz6_0
                    try clear hfz14_0
                    try clear hfz16_0
                    try clear hfz21_0
                    try clear hfz23_0
                    try clear hfz6_0
                    try clear p2
                    try clear p6
                    obtain ⟨x11_3, x12_3, x13_3, rfl, rfl, rfl, HA, HK3, HO_7, HO_9, HO_10, BK107, HB⟩ := hrel
                    cases gk with
                    | zero => exact absurd HA.out (by simp [spec_GreedyRows.l2])
                    | succ k3 =>
                      have H := HA.out
                      clear HA
                      simp only [spec_GreedyRows.l2] at H
                      by_cases c33 : x13_3 < (x7_1.length : Int)
                      · rw [if_pos c33] at H
                        have c33b0 : decide (x13_3 < (x7_1.length : Int)) = true := decide_eq_true c33
                        clear c33
                        have H' := zA H
                        clear H
                        obtain ⟨Ao34, co34, eo34⟩ := Kd.N_slice HO_7.out
                        subst eo34
                        go_wp2
                        repeat (go_quiet (fail); try go_wp2)
                        go_loopg [14, 15] k3 (fun kq v14 v15 w' => ∃ (x14_4 : Int) (x15_4 : Int), v14 = .int .i64 x14_4 ∧ v15 = .int .i64 x15_4 ∧ Aside0 (spec_GreedyRows.l3 kq x7_1 x9_2 x10_2 x11_3 x12_3 x13_3 x14_4 x15_4 l0_0 = some (r1, r2)) ∧ Aside0 (kq ≤ k3) ∧ Aside0 (Kd.N (Kd.slice 2 (Kd.int .i64)) 25 w' w.heap.size (fun k_ => some k_ ≠ ((.slice Ao32 x10_2.length co32) : Value).ownBlock ∧ k_ ≠ gb107) (.slice Ao34 x7_1.length co34) x7_1) ∧ Aside0 (Kd.V (Kd.slice 2 (Kd.int .i64)) 25 w' w.heap.size (fun k_ => some k_ ≠ ((.slice Ao34 x7_1.length co34) : Value).ownBlock ∧ some k_ ≠ ((.slice Ao32 x10_2.length co32) : Value).ownBlock ∧ k_ ≠ gb107) (.slice Ao31 x9_2.length co31) x9_2) ∧ Aside0 (Kd.R (Kd.int .i64) 2 w' w.heap.size (fun _ => True) (.slice Ao32 x10_2.length co32) x10_2) ∧ Aside0 (w'.heap[gb107]? = some (.cells #[(.slice A0_0 l0_0.length c0_0)] 27 (0, 0))) ∧ Aside0 (Below w.heap.size w w'))
                        case atStart => exact ⟨(0), (0), z16, z16, H', ⟨Nat.le_refl _⟩, ⟨z22⟩, ⟨z63⟩, ⟨z58⟩, ⟨z21⟩, ⟨z4⟩⟩
                        case round =>
                          clear H'
                          try clear c1
                          try clear c2
                          try clear p2
                          try clear c3
                          try clear c4
                          try clear c4b0
                          try clear c4b1
                          try clear p6
                          try clear c11
                          try clear c11b0
                          try clear c13
                          try clear c27
                          try clear c27b0
                          try clear c27b1
                          try clear c28
                          try clear c28b0
                          try clear c28b1
                          try clear c30
                          try clear c33
                          try clear c33b0
                          try clear hcz14_0
                          try clear hcz16_0
                          try clear hcz21_0
                          try clear hcz23_0
                          try clear hcz6_0
                          try clear hfz14_0
                          try clear hfz16_0
                          try clear hfz21_0
                          try clear hfz23_0
                          try clear hfz6_0
                          try clear p2
                          try clear p6
                          obtain ⟨x14_4, x15_4, rfl, rfl, HA, HK4, HO_7, HO_9, HO_10, BK107, HB⟩ := hrel
                          cases gk with
                          | zero => exact absurd HA.out (by simp [spec_GreedyRows.l3])
                          | succ k4 =>
                            have H := HA.out
                            clear HA
                            simp only [spec_GreedyRows.l3] at H
                            by_cases c35 : x15_4 < (x9_2.length : Int)
                            · rw [if_pos c35] at H
                              have c35b0 : decide (x15_4 < (x9_2.length : Int)) = true := decide_eq_true c35
                              clear c35
                              by_cases c36 : 0 ≤ x13_3
                              · rw [if_pos c36] at H
                                have c36b0 : decide (0 ≤ x13_3) = true := decide_eq_true c36
                                clear c36
                                by_cases c37 : x13_3 < (x7_1.length : Int)
                                · rw [if_pos c37] at H
                                  have c37b0 : decide (x13_3 < (x7_1.length : Int)) = true := decide_eq_true c37
                                  clear c37
                                  by_cases c38 : 0 ≤ x15_4
                                  · rw [if_pos c38] at H
                                    have c38b0 : decide (0 ≤ x15_4) = true := decide_eq_true c38
                                    clear c38
                                    replace H := zi H
                                    obtain ⟨t104, A390, H⟩ := H
                                    (try dsimp -simprocs only at H)
                                    have A39 := zA A390
                                    clear A390
                                    by_cases c40 : t104 = true
                                    · subst c40
                                      have H1 : (spec_GreedyRows.l3 k4 x7_1 x9_2 x10_2 x11_3 x12_3 x13_3 (wrap64 (x14_4 + 1)) (wrap64 (x15_4 + 1)) l0_0) = some (r1, r2) := by rw [if_pos rfl] at H; exact H
                                      clear H
                                      have H := H1
                                      clear H1
                                      have H' := zA H
                                      clear H
                                      have p309 : 0 ≤ (x13_3 : Int) := of_decide_eq_true z14
                                      have q309 : x13_3 < (x7_1.length : Int) := of_decide_eq_true z14
                                      obtain ⟨ad309, A309_0, c309_0, e309, hx309_0, hl309_0, hi309_0⟩ := at_L2 (Kd.N_reads' HO_7.out).2.2 x13_3 p309 q309
                                      cases e309
                                      obtain ⟨ce309, hce309, hMe309, hcc309⟩ := Kd.N_get HO_7.out [] x13_3 p309 z202
                                      obtain ⟨ua309_0, uc309_0, rfl, ul309_0, ge309_0⟩ := Kd.FK_slice_open hMe309
                                      have hv309_0 := hcc309 0 _ rfl
                                      rw [Nat.add_zero, show ((Kd.slice 2 (Kd.int .i64))).sz = 1 from rfl, Nat.mul_one] at hv309_0
                                      replace hv309_0 := Option.some.inj (hv309_0.symm.trans hx309_0)
                                      injection hv309_0 with hva_ hvn_ hvc_
                                      rw [hva_] at ge309_0
                                      rw [hvc_] at ul309_0
                                      have HL309_0 := zA (show Kd.V (Kd.int .i64) 2 _ w.heap.size _ _ (rd_L2 x7_1 x13_3) from Kd.V_mk ul309_0 ge309_0)
                                      clear hva_ hvn_ hvc_ ge309_0 ul309_0
                                      clear hcc309 hce309
                                      have HR309_0 := zA hi309_0
                                      have HC309_0 := zA hl309_0
                                      clear hi309_0 hl309_0
                                      replace p309 := eq_true p309
                                      replace q309 := eq_true q309
                                      have p310 : 0 ≤ (x15_4 : Int) := of_decide_eq_true z14
                                      have q310 : x15_4 < (x9_2.length : Int) := of_decide_eq_true z14
                                      obtain ⟨ad310, A310_0, c310_0, e310, hx310_0, hl310_0, hi310_0⟩ := at_L2 (Kd.V_reads' HO_9.out).2.2 x15_4 p310 q310
                                      cases e310
                                      obtain ⟨ce310, hce310, hMe310, hcc310⟩ := Kd.V_get HO_9.out [] x15_4 p310 z203
                                      obtain ⟨ua310_0, uc310_0, rfl, ul310_0, ge310_0⟩ := Kd.FK_slice_open hMe310
                                      have hv310_0 := hcc310 0 _ rfl
                                      rw [Nat.add_zero, show ((Kd.slice 2 (Kd.int .i64))).sz = 1 from rfl, Nat.mul_one] at hv310_0
                                      replace hv310_0 := Option.some.inj (hv310_0.symm.trans hx310_0)
                                      injection hv310_0 with hva_ hvn_ hvc_
                                      rw [hva_] at ge310_0
                                      rw [hvc_] at ul310_0
                                      have HL310_0 := zA (show Kd.V (Kd.int .i64) 2 _ w.heap.size _ _ (rd_L2 x9_2 x15_4) from Kd.V_mk ul310_0 ge310_0)
                                      clear hva_ hvn_ hvc_ ge310_0 ul310_0
                                      clear hcc310 hce310
                                      have HR310_0 := zA hi310_0
                                      have HC310_0 := zA hl310_0
                                      clear hi310_0 hl310_0
                                      replace p310 := eq_true p310
                                      replace q310 := eq_true q310
                                      go_wp2_with (first | (go_at_call 68; (with_reducible refine (spec_l10Has.calls k4 _ _ (rd_L2 x7_1 x13_3) _ _ (rd_L2 x9_2 x15_4) true _ ?side1 ?side2 ?side3 ?side4 A39.out).mono ?_); (case side1 => exact z42); (case side2 => exact HC309_0.out); (case side3 => exact z43); (case side4 => exact HC310_0.out); rintro e w' ⟨rfl, ⟨nd, rfl⟩⟩; (try first | exact ⟨rfl, _, World.drewN_drewN _ _ _⟩ | exact ⟨rfl, _, Eq.trans (World.drewN_drewN _ _ _) (congrArg (World.drewN _) (Nat.add_assoc _ _ _))⟩)))
                                      repeat (go_quiet (first | (go_at_call 68; (with_reducible refine (spec_l10Has.calls k4 _ _ (rd_L2 x7_1 x13_3) _ _ (rd_L2 x9_2 x15_4) true _ ?side1 ?side2 ?side3 ?side4 A39.out).mono ?_); (case side1 => exact z42); (case side2 => exact HC309_0.out); (case side3 => exact z43); (case side4 => exact HC310_0.out); rintro e w' ⟨rfl, ⟨nd, rfl⟩⟩; (try first | exact ⟨rfl, _, World.drewN_drewN _ _ _⟩ | exact ⟨rfl, _, Eq.trans (World.drewN_drewN _ _ _) (congrArg (World.drewN _) (Nat.add_assoc _ _ _))⟩))); try go_wp2_with (first | (go_at_call 68; (with_reducible refine (spec_l10Has.calls k4 _ _ (rd_L2 x7_1 x13_3) _ _ (rd_L2 x9_2 x15_4) true _ ?side1 ?side2 ?side3 ?side4 A39.out).mono ?_); (case side1 => exact z42); (case side2 => exact HC309_0.out); (case side3 => exact z43); (case side4 => exact HC310_0.out); rintro e w' ⟨rfl, ⟨nd, rfl⟩⟩; (try first | exact ⟨rfl, _, World.drewN_drewN _ _ _⟩ | exact ⟨rfl, _, Eq.trans (World.drewN_drewN _ _ _) (congrArg (World.drewN _) (Nat.add_assoc _ _ _))⟩))))
                                      go_roundg k4
                                      case measure => have := HK1.out; have := HK2.out; have := HK3.out; have := HK4.out; omega
                                      case rel => exact ⟨(wrap64 (x14_4 + 1)), (wrap64 (x15_4 + 1)), z16, z16, H', ⟨z147⟩, ⟨z22⟩, ⟨z63⟩, ⟨z58⟩, ⟨z21⟩, ⟨z4⟩⟩
                                    · replace c40 := Bool.eq_false_iff.mpr c40
                                      subst c40
                                      have H1 : (spec_GreedyRows.l3 k4 x7_1 x9_2 x10_2 x11_3 x12_3 x13_3 x14_4 (wrap64 (x15_4 + 1)) l0_0) = some (r1, r2) := by rw [if_neg (show ¬ (false = true) by decide)] at H; exact H
                                      clear H
                                      have H := H1
                                      clear H1
                                      have H' := zA H
                                      clear H
                                      have p309 : 0 ≤ (x13_3 : Int) := of_decide_eq_true z14
                                      have q309 : x13_3 < (x7_1.length : Int) := of_decide_eq_true z14
                                      obtain ⟨ad309, A309_0, c309_0, e309, hx309_0, hl309_0, hi309_0⟩ := at_L2 (Kd.N_reads' HO_7.out).2.2 x13_3 p309 q309
                                      cases e309
                                      obtain ⟨ce309, hce309, hMe309, hcc309⟩ := Kd.N_get HO_7.out [] x13_3 p309 z202
                                      obtain ⟨ua309_0, uc309_0, rfl, ul309_0, ge309_0⟩ := Kd.FK_slice_open hMe309
                                      have hv309_0 := hcc309 0 _ rfl
                                      rw [Nat.add_zero, show ((Kd.slice 2 (Kd.int .i64))).sz = 1 from rfl, Nat.mul_one] at hv309_0
                                      replace hv309_0 := Option.some.inj (hv309_0.symm.trans hx309_0)
                                      injection hv309_0 with hva_ hvn_ hvc_
                                      rw [hva_] at ge309_0
                                      rw [hvc_] at ul309_0
                                      have HL309_0 := zA (show Kd.V (Kd.int .i64) 2 _ w.heap.size _ _ (rd_L2 x7_1 x13_3) from Kd.V_mk ul309_0 ge309_0)
                                      clear hva_ hvn_ hvc_ ge309_0 ul309_0
                                      clear hcc309 hce309
                                      have HR309_0 := zA hi309_0
                                      have HC309_0 := zA hl309_0
                                      clear hi309_0 hl309_0
                                      replace p309 := eq_true p309
                                      replace q309 := eq_true q309
                                      have p310 : 0 ≤ (x15_4 : Int) := of_decide_eq_true z14
                                      have q310 : x15_4 < (x9_2.length : Int) := of_decide_eq_true z14
                                      obtain ⟨ad310, A310_0, c310_0, e310, hx310_0, hl310_0, hi310_0⟩ := at_L2 (Kd.V_reads' HO_9.out).2.2 x15_4 p310 q310
                                      cases e310
                                      obtain ⟨ce310, hce310, hMe310, hcc310⟩ := Kd.V_get HO_9.out [] x15_4 p310 z203
                                      obtain ⟨ua310_0, uc310_0, rfl, ul310_0, ge310_0⟩ := Kd.FK_slice_open hMe310
                                      have hv310_0 := hcc310 0 _ rfl
                                      rw [Nat.add_zero, show ((Kd.slice 2 (Kd.int .i64))).sz = 1 from rfl, Nat.mul_one] at hv310_0
                                      replace hv310_0 := Option.some.inj (hv310_0.symm.trans hx310_0)
                                      injection hv310_0 with hva_ hvn_ hvc_
                                      rw [hva_] at ge310_0
                                      rw [hvc_] at ul310_0
                                      have HL310_0 := zA (show Kd.V (Kd.int .i64) 2 _ w.heap.size _ _ (rd_L2 x9_2 x15_4) from Kd.V_mk ul310_0 ge310_0)
                                      clear hva_ hvn_ hvc_ ge310_0 ul310_0
                                      clear hcc310 hce310
                                      have HR310_0 := zA hi310_0
                                      have HC310_0 := zA hl310_0
                                      clear hi310_0 hl310_0
                                      replace p310 := eq_true p310
                                      replace q310 := eq_true q310
                                      go_wp2_with (first | (go_at_call 68; (with_reducible refine (spec_l10Has.calls k4 _ _ (rd_L2 x7_1 x13_3) _ _ (rd_L2 x9_2 x15_4) false _ ?side1 ?side2 ?side3 ?side4 A39.out).mono ?_); (case side1 => exact z42); (case side2 => exact HC309_0.out); (case side3 => exact z43); (case side4 => exact HC310_0.out); rintro e w' ⟨rfl, ⟨nd, rfl⟩⟩; (try first | exact ⟨rfl, _, World.drewN_drewN _ _ _⟩ | exact ⟨rfl, _, Eq.trans (World.drewN_drewN _ _ _) (congrArg (World.drewN _) (Nat.add_assoc _ _ _))⟩)))
                                      repeat (go_quiet (first | (go_at_call 68; (with_reducible refine (spec_l10Has.calls k4 _ _ (rd_L2 x7_1 x13_3) _ _ (rd_L2 x9_2 x15_4) false _ ?side1 ?side2 ?side3 ?side4 A39.out).mono ?_); (case side1 => exact z42); (case side2 => exact HC309_0.out); (case side3 => exact z43); (case side4 => exact HC310_0.out); rintro e w' ⟨rfl, ⟨nd, rfl⟩⟩; (try first | exact ⟨rfl, _, World.drewN_drewN _ _ _⟩ | exact ⟨rfl, _, Eq.trans (World.drewN_drewN _ _ _) (congrArg (World.drewN _) (Nat.add_assoc _ _ _))⟩))); try go_wp2_with (first | (go_at_call 68; (with_reducible refine (spec_l10Has.calls k4 _ _ (rd_L2 x7_1 x13_3) _ _ (rd_L2 x9_2 x15_4) false _ ?side1 ?side2 ?side3 ?side4 A39.out).mono ?_); (case side1 => exact z42); (case side2 => exact HC309_0.out); (case side3 => exact z43); (case side4 => exact HC310_0.out); rintro e w' ⟨rfl, ⟨nd, rfl⟩⟩; (try first | exact ⟨rfl, _, World.drewN_drewN _ _ _⟩ | exact ⟨rfl, _, Eq.trans (World.drewN_drewN _ _ _) (congrArg (World.drewN _) (Nat.add_assoc _ _ _))⟩))))
                                      go_roundg k4
                                      case measure => have := HK1.out; have := HK2.out; have := HK3.out; have := HK4.out; omega
                                      case rel => exact ⟨(x14_4), (wrap64 (x15_4 + 1)), z16, z16, H', ⟨z147⟩, ⟨z22⟩, ⟨z63⟩, ⟨z58⟩, ⟨z21⟩, ⟨z4⟩⟩
                                  · rw [if_neg c38] at H
                                    exact absurd H (by simp)
                                · rw [if_neg c37] at H
                                  exact absurd H (by simp)
                              · rw [if_neg c36] at H
                                exact absurd H (by simp)
                            · rw [if_neg c35] at H
                              have c35b0 : decide (x15_4 < (x9_2.length : Int)) = false := decide_eq_false c35
                              clear c35
                              by_cases c41 : x14_4 > x12_3
                              · rw [if_pos c41] at H
                                have c41b0 : decide (x12_3 < x14_4) = true := decide_eq_true c41
                                clear c41
                                have H' := zA H
                                clear H
                                go_wp2
                                repeat (go_quiet (fail); try go_wp2)
                                go_roundg k4
                                case measure => have := HK1.out; have := HK2.out; have := HK3.out; have := HK4.out; omega
                                case rel => exact ⟨(x13_3), (x14_4), (wrap64 (x13_3 + 1)), z16, z16, z16, H', ⟨z147⟩, ⟨z22⟩, ⟨z63⟩, ⟨z58⟩, ⟨z21⟩, ⟨z4⟩⟩
                              · rw [if_neg c41] at H
                                have c41b0 : decide (x12_3 < x14_4) = false := decide_eq_false c41
                                clear c41
                                have H' := zA H
                                clear H
                                go_wp2
                                repeat (go_quiet (fail); try go_wp2)
                                go_roundg k4
                                case measure => have := HK1.out; have := HK2.out; have := HK3.out; have := HK4.out; omega
                                case rel => exact ⟨(x11_3), (x12_3), (wrap64 (x13_3 + 1)), z16, z16, z16, H', ⟨z147⟩, ⟨z22⟩, ⟨z63⟩, ⟨z58⟩, ⟨z21⟩, ⟨z4⟩⟩
                      · rw [if_neg c33] at H
                        have c33b0 : decide (x13_3 < (x7_1.length : Int)) = false := decide_eq_false c33
                        clear c33
                        by_cases c42 : x10_2.length < 17592186044416
                        · rw [if_pos c42] at H
                          have LMc42 := zA c42
                          clear c42
                          obtain ⟨y120, hy120⟩ : ∃ y_ : List Int, y_ = (x10_2 ++ [x11_3]) := ⟨_, rfl⟩
                          replace H : ((spec_l10Missing.f k3 l0_0 x9_2 (([x11_3] : List Int))).bind fun t103 => (spec_GreedyRows.l1 k3 x7_1 t103 y120 l0_0)) = some (r1, r2) := by first | (rw [hy120]; with_reducible exact H) | (have H2_ := (Option.bind_some _ _).symm.trans H; rw [hy120]; with_reducible exact H2_) | (have H2_ := (Option.bind_some _ _).symm.trans H; with_reducible exact H2_) | with_reducible exact H | (rw [hy120]; exact H) | exact H
                          have Ny120 := zA hy120
                          clear hy120
                          obtain ⟨y121, hy121⟩ : ∃ y_ : List Int, y_ = (([x11_3] : List Int)) := ⟨_, rfl⟩
                          replace H : ((spec_l10Missing.f k3 l0_0 x9_2 y121).bind fun t103 => (spec_GreedyRows.l1 k3 x7_1 t103 y120 l0_0)) = some (r1, r2) := by first | (rw [hy121]; with_reducible exact H) | (have H2_ := (Option.bind_some _ _).symm.trans H; rw [hy121]; with_reducible exact H2_) | (have H2_ := (Option.bind_some _ _).symm.trans H; with_reducible exact H2_) | with_reducible exact H | (rw [hy121]; exact H) | exact H
                          have Ny121 := zA hy121
                          clear hy121
                          replace H := zi H
                          obtain ⟨t103, A430, H⟩ := H
                          replace H : (spec_GreedyRows.l1 k3 x7_1 t103 y120 l0_0) = some (r1, r2) := H
                          have A43 := zA A430
                          clear A430
                          have H' := zA H
                          clear H
                          obtain ⟨Ao44, co44, eo44⟩ := Kd.N_slice HO_7.out
                          subst eo44
                          go_wp2_with (first | ((with_reducible refine gate_builtin (b := .append) (xs := #[.tmp 73, .tmp 75]) rfl ?_); at_builtin; refine Kd.R_append (Kd.int .i64) (w0 := w) w.heap.size rfl (.tmp 73) (.tmp 75) 25 2 (.int .i64 0) 8 rfl Try.underlying25 info2 rfl (by decide) (by omega) (.slice Ao32 x10_2.length co32) x10_2 x11_3 [.int .i64 x11_3] (fun _ => True) (fun _ => False) rfl rfl ?aP (fun _ hk => hk.elim) ?aF ?aO ?aB ?aS ?aL ?_; (case aP => exact rfl); (case aB => exact z4); (case aF => exact (fun _ _ => trivial)); (case aO => exact z58); (case aS => exact (below_size z4)); (case aL => have := LMc42.out; omega); intro v122 w45 ho hb hg hat; rw [← Ny120.out] at ho; have n0_ := zA (Kd.N_afterv (ok := (fun k_ => k_ ≠ gb107)) z117 hg hat); have n1_ := zA (Kd.V_afterv (ok := (fun k_ => some k_ ≠ (.slice Ao44 x7_1.length co44 : Value).ownBlock ∧ k_ ≠ gb107)) z114 hg hat); have n2_ := zA (blk_grown (g := gb107) (o := .cells #[.slice A0_0 l0_0.length c0_0] 27 (0, 0)) z21 hg (Kd.R_ne HO_10.out BK107.out (by decide))); have n3_ := zA (hb); have n4_ := zA (ho); clear HO_7 HO_9 BK107 HB HO_10; have HO_7 := n0_; have HO_9 := n1_; have BK107 := n2_; have HB := n3_; have HO123 := n4_; clear n0_ n1_ n2_ n3_ n4_; clear ho hb hg hat; obtain ⟨hcz46_0, hfz46_0⟩ := zC1 BK107.out) | ((with_reducible refine gate_dst (N := 80) rfl ?_); refine Kd.R_lit (Kd.int .i64) _ 2 ?hg (N := 80) ?hd (xs := ([x11_3] : List Int)) (inner := [.int .i64 x11_3]) (ok := fun _ => True) (okp := fun _ => True) ?hr ?hp (fun _ hk => hk) trivial (Below.refl _ _) (Nat.le_refl _) (by simp) ?_; (case hd => rfl); (case hg => rfl); (case hr => first | (go_simp; done) | (go_simp; rfl)); (case hp => exact (Reps.one (show Kd.M (Kd.int .i64) _ _ _ x11_3 [.int .i64 x11_3] from rfl) (Reps.none _ _))); intro v124 w47 ho48 hb hg_ hnew_; clear hg_ hnew_; (first | rw [← Ny121.out] at ho48 | (simp only [Int.reduceToNat] at ho48; rw [← Ny121.out] at ho48)); have n0_ := zA (Kd.N_elder' z22 (Kd.R_base ho48) hb); have n1_ := zA (Kd.V_elder' z63 (Kd.R_base ho48) hb); have n2_ := zA (Kd.R_elder' z62 (Kd.R_base ho48) hb); have n3_ := zA (Kd.R_lower (Kd.R_new' ho48 (Kd.R_lt z62)) (below_size z4)); have n4_ := zBB BK107 hb; have n5_ := zA (below_step z4 hb); clear HO_7 HO_9 HO123 BK107 HB; have HO_7 := n0_; have HO_9 := n1_; have HO123 := n2_; have HO125 := n3_; have BK107 := n4_; have HB := n5_; clear n0_ n1_ n2_ n3_ n4_ n5_; clear hb ho48; obtain ⟨Ao49, co49, eo49⟩ := Kd.R_slice HO125.out; subst eo49) | (go_at_call 54; (with_reducible refine (spec_l10Missing.calls k3 _ _ l0_0 (fun k_ => (((some k_ ≠ (.slice Ao44 x7_1.length co44 : Value).ownBlock ∧ k_ ≠ gb107) ∧ some k_ ≠ (v122 : Value).ownBlock) ∧ some k_ ≠ (.slice Ao49 y121.length co49 : Value).ownBlock)) _ _ x9_2 _ _ y121 t103 _ ?side1 ?side2 ?side3 ?side4 ?side5 A43.out).mono ?_); (case side1 => exact z5); (case side2 => exact HC0_0.out); (case side3 => exact HO_9.out); (case side4 => exact z106); (case side5 => exact (Kd.R_reads' HO125.out).2.1); rintro e w50 ⟨v126, rfl, ho0, hb⟩; have n0_ := zA (Kd.N_below z22 hb); have n1_ := zA (Kd.V_below z63 hb); have n2_ := zA (Kd.R_below z62 hb); have n3_ := zA (Kd.R_below z94 hb); have n4_ := zA (Kd.V_lower (Kd.V_mono (ok' := fun k_ => some k_ ≠ (.slice Ao44 x7_1.length co44 : Value).ownBlock ∧ some k_ ≠ (v122 : Value).ownBlock ∧ some k_ ≠ (.slice Ao49 y121.length co49 : Value).ownBlock ∧ k_ ≠ gb107) ho0 (fun k_ hk_ => ⟨Or.elim hk_ (fun hs_ => hs_.1.1.1) (fun hn_ => (Kd.fresh' (Kd.N_lt z22) k_ hn_)), Or.elim hk_ (fun hs_ => hs_.1.2) (fun hn_ => (Kd.fresh' (Kd.R_lt z62) k_ hn_)), Or.elim hk_ (fun hs_ => hs_.2) (fun hn_ => (Kd.fresh' (Kd.R_lt z94) k_ hn_)), Or.elim hk_ (fun hs_ => hs_.1.1.2) (fun hn_ => (Kd.freshB (g := gb107) (o := .cells #[.slice A0_0 l0_0.length c0_0] 27 (0, 0)) z21 k_ hn_))⟩)) (below_size z4)); have n5_ := zBB BK107 hb; have n6_ := zA (below_step z4 hb); clear HO_7 HO_9 HO123 HO125 BK107 HB; have HO_7 := n0_; have HO_9 := n1_; have HO123 := n2_; have HO125 := n3_; have HO127 := n4_; have BK107 := n5_; have HB := n6_; clear n0_ n1_ n2_ n3_ n4_ n5_ n6_; (try clear hb); (try clear hb2); (try clear hk); (try clear hi); (try clear ho0)))
                          repeat (go_quiet (first | ((with_reducible refine gate_builtin (b := .append) (xs := #[.tmp 73, .tmp 75]) rfl ?_); at_builtin; refine Kd.R_append (Kd.int .i64) (w0 := w) w.heap.size rfl (.tmp 73) (.tmp 75) 25 2 (.int .i64 0) 8 rfl Try.underlying25 info2 rfl (by decide) (by omega) (.slice Ao32 x10_2.length co32) x10_2 x11_3 [.int .i64 x11_3] (fun _ => True) (fun _ => False) rfl rfl ?aP (fun _ hk => hk.elim) ?aF ?aO ?aB ?aS ?aL ?_; (case aP => exact rfl); (case aB => exact z4); (case aF => exact (fun _ _ => trivial)); (case aO => exact z58); (case aS => exact (below_size z4)); (case aL => have := LMc42.out; omega); intro v122 w45 ho hb hg hat; rw [← Ny120.out] at ho; have n0_ := zA (Kd.N_afterv (ok := (fun k_ => k_ ≠ gb107)) z117 hg hat); have n1_ := zA (Kd.V_afterv (ok := (fun k_ => some k_ ≠ (.slice Ao44 x7_1.length co44 : Value).ownBlock ∧ k_ ≠ gb107)) z114 hg hat); have n2_ := zA (blk_grown (g := gb107) (o := .cells #[.slice A0_0 l0_0.length c0_0] 27 (0, 0)) z21 hg (Kd.R_ne HO_10.out BK107.out (by decide))); have n3_ := zA (hb); have n4_ := zA (ho); clear HO_7 HO_9 BK107 HB HO_10; have HO_7 := n0_; have HO_9 := n1_; have BK107 := n2_; have HB := n3_; have HO123 := n4_; clear n0_ n1_ n2_ n3_ n4_; clear ho hb hg hat; obtain ⟨hcz46_0, hfz46_0⟩ := zC1 BK107.out) | ((with_reducible refine gate_dst (N := 80) rfl ?_); refine Kd.R_lit (Kd.int .i64) _ 2 ?hg (N := 80) ?hd (xs := ([x11_3] : List Int)) (inner := [.int .i64 x11_3]) (ok := fun _ => True) (okp := fun _ => True) ?hr ?hp (fun _ hk => hk) trivial (Below.refl _ _) (Nat.le_refl _) (by simp) ?_; (case hd => rfl); (case hg => rfl); (case hr => first | (go_simp; done) | (go_simp; rfl)); (case hp => exact (Reps.one (show Kd.M (Kd.int .i64) _ _ _ x11_3 [.int .i64 x11_3] from rfl) (Reps.none _ _))); intro v124 w47 ho48 hb hg_ hnew_; clear hg_ hnew_; (first | rw [← Ny121.out] at ho48 | (simp only [Int.reduceToNat] at ho48; rw [← Ny121.out] at ho48)); have n0_ := zA (Kd.N_elder' z22 (Kd.R_base ho48) hb); have n1_ := zA (Kd.V_elder' z63 (Kd.R_base ho48) hb); have n2_ := zA (Kd.R_elder' z62 (Kd.R_base ho48) hb); have n3_ := zA (Kd.R_lower (Kd.R_new' ho48 (Kd.R_lt z62)) (below_size z4)); have n4_ := zBB BK107 hb; have n5_ := zA (below_step z4 hb); clear HO_7 HO_9 HO123 BK107 HB; have HO_7 := n0_; have HO_9 := n1_; have HO123 := n2_; have HO125 := n3_; have BK107 := n4_; have HB := n5_; clear n0_ n1_ n2_ n3_ n4_ n5_; clear hb ho48; obtain ⟨Ao49, co49, eo49⟩ := Kd.R_slice HO125.out; subst eo49) | (go_at_call 54; (with_reducible refine (spec_l10Missing.calls k3 _ _ l0_0 (fun k_ => (((some k_ ≠ (.slice Ao44 x7_1.length co44 : Value).ownBlock ∧ k_ ≠ gb107) ∧ some k_ ≠ (v122 : Value).ownBlock) ∧ some k_ ≠ (.slice Ao49 y121.length co49 : Value).ownBlock)) _ _ x9_2 _ _ y121 t103 _ ?side1 ?side2 ?side3 ?side4 ?side5 A43.out).mono ?_); (case side1 => exact z5); (case side2 => exact HC0_0.out); (case side3 => exact HO_9.out); (case side4 => exact z106); (case side5 => exact (Kd.R_reads' HO125.out).2.1); rintro e w50 ⟨v126, rfl, ho0, hb⟩; have n0_ := zA (Kd.N_below z22 hb); have n1_ := zA (Kd.V_below z63 hb); have n2_ := zA (Kd.R_below z62 hb); have n3_ := zA (Kd.R_below z94 hb); have n4_ := zA (Kd.V_lower (Kd.V_mono (ok' := fun k_ => some k_ ≠ (.slice Ao44 x7_1.length co44 : Value).ownBlock ∧ some k_ ≠ (v122 : Value).ownBlock ∧ some k_ ≠ (.slice Ao49 y121.length co49 : Value).ownBlock ∧ k_ ≠ gb107) ho0 (fun k_ hk_ => ⟨Or.elim hk_ (fun hs_ => hs_.1.1.1) (fun hn_ => (Kd.fresh' (Kd.N_lt z22) k_ hn_)), Or.elim hk_ (fun hs_ => hs_.1.2) (fun hn_ => (Kd.fresh' (Kd.R_lt z62) k_ hn_)), Or.elim hk_ (fun hs_ => hs_.2) (fun hn_ => (Kd.fresh' (Kd.R_lt z94) k_ hn_)), Or.elim hk_ (fun hs_ => hs_.1.1.2) (fun hn_ => (Kd.freshB (g := gb107) (o := .cells #[.slice A0_0 l0_0.length c0_0] 27 (0, 0)) z21 k_ hn_))⟩)) (below_size z4)); have n5_ := zBB BK107 hb; have n6_ := zA (below_step z4 hb); clear HO_7 HO_9 HO123 HO125 BK107 HB; have HO_7 := n0_; have HO_9 := n1_; have HO123 := n2_; have HO125 := n3_; have HO127 := n4_; have BK107 := n5_; have HB := n6_; clear n0_ n1_ n2_ n3_ n4_ n5_ n6_; (try clear hb); (try clear hb2); (try clear hk); (try clear hi); (try clear ho0))); try go_wp2_with (first | ((with_reducible refine gate_builtin (b := .append) (xs := #[.tmp 73, .tmp 75]) rfl ?_); at_builtin; refine Kd.R_append (Kd.int .i64) (w0 := w) w.heap.size rfl (.tmp 73) (.tmp 75) 25 2 (.int .i64 0) 8 rfl Try.underlying25 info2 rfl (by decide) (by omega) (.slice Ao32 x10_2.length co32) x10_2 x11_3 [.int .i64 x11_3] (fun _ => True) (fun _ => False) rfl rfl ?aP (fun _ hk => hk.elim) ?aF ?aO ?aB ?aS ?aL ?_; (case aP => exact rfl); (case aB => exact z4); (case aF => exact (fun _ _ => trivial)); (case aO => exact z58); (case aS => exact (below_size z4)); (case aL => have := LMc42.out; omega); intro v122 w45 ho hb hg hat; rw [← Ny120.out] at ho; have n0_ := zA (Kd.N_afterv (ok := (fun k_ => k_ ≠ gb107)) z117 hg hat); have n1_ := zA (Kd.V_afterv (ok := (fun k_ => some k_ ≠ (.slice Ao44 x7_1.length co44 : Value).ownBlock ∧ k_ ≠ gb107)) z114 hg hat); have n2_ := zA (blk_grown (g := gb107) (o := .cells #[.slice A0_0 l0_0.length c0_0] 27 (0, 0)) z21 hg (Kd.R_ne HO_10.out BK107.out (by decide))); have n3_ := zA (hb); have n4_ := zA (ho); clear HO_7 HO_9 BK107 HB HO_10; have HO_7 := n0_; have HO_9 := n1_; have BK107 := n2_; have HB := n3_; have HO123 := n4_; clear n0_ n1_ n2_ n3_ n4_; clear ho hb hg hat; obtain ⟨hcz46_0, hfz46_0⟩ := zC1 BK107.out) | ((with_reducible refine gate_dst (N := 80) rfl ?_); refine Kd.R_lit (Kd.int .i64) _ 2 ?hg (N := 80) ?hd (xs := ([x11_3] : List Int)) (inner := [.int .i64 x11_3]) (ok := fun _ => True) (okp := fun _ => True) ?hr ?hp (fun _ hk => hk) trivial (Below.refl _ _) (Nat.le_refl _) (by simp) ?_; (case hd => rfl); (case hg => rfl); (case hr => first | (go_simp; done) | (go_simp; rfl)); (case hp => exact (Reps.one (show Kd.M (Kd.int .i64) _ _ _ x11_3 [.int .i64 x11_3] from rfl) (Reps.none _ _))); intro v124 w47 ho48 hb hg_ hnew_; clear hg_ hnew_; (first | rw [← Ny121.out] at ho48 | (simp only [Int.reduceToNat] at ho48; rw [← Ny121.out] at ho48)); have n0_ := zA (Kd.N_elder' z22 (Kd.R_base ho48) hb); have n1_ := zA (Kd.V_elder' z63 (Kd.R_base ho48) hb); have n2_ := zA (Kd.R_elder' z62 (Kd.R_base ho48) hb); have n3_ := zA (Kd.R_lower (Kd.R_new' ho48 (Kd.R_lt z62)) (below_size z4)); have n4_ := zBB BK107 hb; have n5_ := zA (below_step z4 hb); clear HO_7 HO_9 HO123 BK107 HB; have HO_7 := n0_; have HO_9 := n1_; have HO123 := n2_; have HO125 := n3_; have BK107 := n4_; have HB := n5_; clear n0_ n1_ n2_ n3_ n4_ n5_; clear hb ho48; obtain ⟨Ao49, co49, eo49⟩ := Kd.R_slice HO125.out; subst eo49) | (go_at_call 54; (with_reducible refine (spec_l10Missing.calls k3 _ _ l0_0 (fun k_ => (((some k_ ≠ (.slice Ao44 x7_1.length co44 : Value).ownBlock ∧ k_ ≠ gb107) ∧ some k_ ≠ (v122 : Value).ownBlock) ∧ some k_ ≠ (.slice Ao49 y121.length co49 : Value).ownBlock)) _ _ x9_2 _ _ y121 t103 _ ?side1 ?side2 ?side3 ?side4 ?side5 A43.out).mono ?_); (case side1 => exact z5); (case side2 => exact HC0_0.out); (case side3 => exact HO_9.out); (case side4 => exact z106); (case side5 => exact (Kd.R_reads' HO125.out).2.1); rintro e w50 ⟨v126, rfl, ho0, hb⟩; have n0_ := zA (Kd.N_below z22 hb); have n1_ := zA (Kd.V_below z63 hb); have n2_ := zA (Kd.R_below z62 hb); have n3_ := zA (Kd.R_below z94 hb); have n4_ := zA (Kd.V_lower (Kd.V_mono (ok' := fun k_ => some k_ ≠ (.slice Ao44 x7_1.length co44 : Value).ownBlock ∧ some k_ ≠ (v122 : Value).ownBlock ∧ some k_ ≠ (.slice Ao49 y121.length co49 : Value).ownBlock ∧ k_ ≠ gb107) ho0 (fun k_ hk_ => ⟨Or.elim hk_ (fun hs_ => hs_.1.1.1) (fun hn_ => (Kd.fresh' (Kd.N_lt z22) k_ hn_)), Or.elim hk_ (fun hs_ => hs_.1.2) (fun hn_ => (Kd.fresh' (Kd.R_lt z62) k_ hn_)), Or.elim hk_ (fun hs_ => hs_.2) (fun hn_ => (Kd.fresh' (Kd.R_lt z94) k_ hn_)), Or.elim hk_ (fun hs_ => hs_.1.1.2) (fun hn_ => (Kd.freshB (g := gb107) (o := .cells #[.slice A0_0 l0_0.length c0_0] 27 (0, 0)) z21 k_ hn_))⟩)) (below_size z4)); have n5_ := zBB BK107 hb; have n6_ := zA (below_step z4 hb); clear HO_7 HO_9 HO123 HO125 BK107 HB; have HO_7 := n0_; have HO_9 := n1_; have HO123 := n2_; have HO125 := n3_; have HO127 := n4_; have BK107 := n5_; have HB := n6_; clear n0_ n1_ n2_ n3_ n4_ n5_ n6_; (try clear hb); (try clear hb2); (try clear hk); (try clear hi); (try clear ho0))))
                          go_roundg k3
                          case measure => have := HK1.out; have := HK2.out; have := HK3.out; omega
                          case rel => exact ⟨(t103), (y120), H', ⟨z149⟩, ⟨(by (with_reducible repeat (first | apply Kd.N_alloc | apply Kd.N_drewN | apply Kd.N_drew)); exact Kd.N_mono HO_7.out (fun _ hk => ⟨hk.1.2, hk.1.1⟩))⟩, ⟨(by (with_reducible repeat (first | apply Kd.V_alloc | apply Kd.V_drewN | apply Kd.V_drew)); exact Kd.V_mono HO127.out (fun _ hk => ⟨hk.1, ⟨hk.2.1, hk.2.2.2⟩⟩))⟩, ⟨(by (with_reducible repeat (first | apply Kd.R_alloc | apply Kd.R_drewN | apply Kd.R_drew)); exact Kd.R_mono HO123.out (fun _ hk => trivial))⟩, ⟨z21⟩, ⟨z4⟩⟩
                        · rw [if_neg c42] at H
                          exact absurd H (by simp)
              · rw [if_neg c27] at H
                have c27b0 : decide (0 < (x9_2.length : Int)) = false := decide_eq_false c27
                have c27b1 : decide (0 < x9_2.length) = false := decide_eq_false (by omega)
                clear c27
                simp only [Option.some.injEq, Prod.mk.injEq] at H
                obtain ⟨rfl, rfl⟩ := H
                obtain ⟨Ao51, co51, eo51⟩ := Kd.V_slice HO_9.out
                subst eo51
                go_wp2
                repeat (go_quiet (fail); try go_wp2)
                go_ret2
                exact ⟨_, z15, z58, z4⟩
  · rw [if_neg c4] at H
    have c4b0 : (t105 == 0) = false := beq_eq_false_iff_ne.mpr c4
    have c4b1 : (t105 != 0) = true := bne_iff_ne.mpr c4
    simp only [Option.some.injEq, Prod.mk.injEq] at H
    obtain ⟨rfl, rfl⟩ := H
    go_enter Try.func30, Try.ntmps30
    go_wp2_with (first | ((with_reducible refine gate_dst (N := 2) rfl ?_); refine box_event ?hg (N := 2) ?hd (cs := #[.slice A0_0 l0_0.length c0_0]) (t := 27) ?hr ?_; (case hd => rfl); (case hg => rfl); (case hr => first | (go_simp; done) | (go_simp; rfl)); intro gb107 hg w52 hbox hb; have n0_ := zA (below_step z1 hb); have n1_ := zA (hbox); have n2_ := zA ((z178 : w.heap.size ≤ gb107)); have n3_ := zA ((z178 : w.heap.size ≤ gb107)); clear HB; have HB := n0_; have BK107 := n1_; have GW107 := n2_; have GE107 := n3_; clear n0_ n1_ n2_ n3_; clear hb hbox hg; obtain ⟨hcz53_0, hfz53_0⟩ := zC1 BK107.out) | (go_at_call 59; (with_reducible refine (spec_l10Code.calls k _ _ l0_0 a1 t105 _ ?side1 ?side2 A3.out).mono ?_); (case side1 => exact z5); (case side2 => exact HC0_0.out); rintro e w54 ⟨rfl, hb⟩; have n0_ := zBB BK107 hb; have n1_ := zA (below_step z4 hb); clear BK107 HB; have BK107 := n0_; have HB := n1_; clear n0_ n1_; (try clear hb); (try clear hb2); (try clear hk); (try clear hi)))
    repeat (go_quiet (first | ((with_reducible refine gate_dst (N := 2) rfl ?_); refine box_event ?hg (N := 2) ?hd (cs := #[.slice A0_0 l0_0.length c0_0]) (t := 27) ?hr ?_; (case hd => rfl); (case hg => rfl); (case hr => first | (go_simp; done) | (go_simp; rfl)); intro gb107 hg w52 hbox hb; have n0_ := zA (below_step z1 hb); have n1_ := zA (hbox); have n2_ := zA ((z178 : w.heap.size ≤ gb107)); have n3_ := zA ((z178 : w.heap.size ≤ gb107)); clear HB; have HB := n0_; have BK107 := n1_; have GW107 := n2_; have GE107 := n3_; clear n0_ n1_ n2_ n3_; clear hb hbox hg; obtain ⟨hcz53_0, hfz53_0⟩ := zC1 BK107.out) | (go_at_call 59; (with_reducible refine (spec_l10Code.calls k _ _ l0_0 a1 t105 _ ?side1 ?side2 A3.out).mono ?_); (case side1 => exact z5); (case side2 => exact HC0_0.out); rintro e w54 ⟨rfl, hb⟩; have n0_ := zBB BK107 hb; have n1_ := zA (below_step z4 hb); clear BK107 HB; have BK107 := n0_; have HB := n1_; clear n0_ n1_; (try clear hb); (try clear hb2); (try clear hk); (try clear hi))); try go_wp2_with (first | ((with_reducible refine gate_dst (N := 2) rfl ?_); refine box_event ?hg (N := 2) ?hd (cs := #[.slice A0_0 l0_0.length c0_0]) (t := 27) ?hr ?_; (case hd => rfl); (case hg => rfl); (case hr => first | (go_simp; done) | (go_simp; rfl)); intro gb107 hg w52 hbox hb; have n0_ := zA (below_step z1 hb); have n1_ := zA (hbox); have n2_ := zA ((z178 : w.heap.size ≤ gb107)); have n3_ := zA ((z178 : w.heap.size ≤ gb107)); clear HB; have HB := n0_; have BK107 := n1_; have GW107 := n2_; have GE107 := n3_; clear n0_ n1_ n2_ n3_; clear hb hbox hg; obtain ⟨hcz53_0, hfz53_0⟩ := zC1 BK107.out) | (go_at_call 59; (with_reducible refine (spec_l10Code.calls k _ _ l0_0 a1 t105 _ ?side1 ?side2 A3.out).mono ?_); (case side1 => exact z5); (case side2 => exact HC0_0.out); rintro e w54 ⟨rfl, hb⟩; have n0_ := zBB BK107 hb; have n1_ := zA (below_step z4 hb); clear BK107 HB; have BK107 := n0_; have HB := n1_; clear n0_ n1_; (try clear hb); (try clear hb2); (try clear hk); (try clear hi))))
    go_ret2
    exact ⟨_, z15, z89, z4⟩

end Go.Proofs.Ytbfhhjekonafdaa.PFnPairRows
