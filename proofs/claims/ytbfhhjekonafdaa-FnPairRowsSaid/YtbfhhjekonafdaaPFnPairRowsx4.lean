-- WALKS, by a program and by hand
import Derived.Test.YtbfhhjekonafdaaPFnPairRowsx0
import Derived.Test.YtbfhhjekonafdaaPFnPairRowsx2
namespace Go.Proofs.Ytbfhhjekonafdaa.PFnPairRows
open Go.RowKit Go.Proofs.Ytbfhhjekonafdaa.DG Go.Proofs.YtbfhhjekonafdaaW.PrintWords Go.Proofs.YtbfhhjekonafdaaW.PrintLast Go.Proofs.YtbfhhjekonafdaaW.PrintMore
attribute [local go_sem] max2_int min2_int max_two min_two max_three min_three max_four min_four   -- for this text's walks alone
set_option linter.unusedVariables false
set_option linter.unusedSimpArgs false

/-! ### spec_PairNumber: function 11 -/
def spec_PairNumber.f (k : Nat) (a0 : Int) : Option (Int × Int) := (spec_l01In.f a0 1 8).bind fun t100 => (if t100 = true then ((spec_l10Pairs.f k a0).bind fun t101 => (some (t101, 0))) else (some (0, 2)))
theorem spec_PairNumber.mono : ∀ a0 k, LeO (spec_PairNumber.f k a0) (spec_PairNumber.f (k + 1) a0) := by
  intro a0 k
  unfold spec_PairNumber.f
  repeat' first
      | (with_reducible exact spec_l10Pairs.mono _ _)
      | (with_reducible exact LeO.refl _)
      | (with_reducible exact LeO.none _)
      | (with_reducible refine LeO.ite ?_ ?_)
      | (with_reducible refine LeO.bind ?_ (fun _ => ?_))
set_option maxHeartbeats 8000000 in
set_option maxRecDepth 100000 in
theorem spec_PairNumber.calls (k : Nat) (a0 : Int) (r1 : Int) (r2 : Int) (w : World) (h : spec_PairNumber.f k a0 = some (r1, r2)) :
    Calls Try.prog 11 #[.int .i64 a0] w fun e w' => e = .returned (.tuple #[.int .i64 r1, .int .i64 r2]) ∧ Drawn0 w w' := by
  have H : ((spec_l01In.f a0 1 8).bind fun t100 => (if t100 = true then ((spec_l10Pairs.f k a0).bind fun t101 => (some (t101, 0))) else (some (0, 2)))) = some (r1, r2) := h
  clear h
  replace H := zi H
  obtain ⟨t100, A20, H⟩ := H
  (try dsimp -simprocs only at H)
  have A2 := zA A20
  clear A20
  by_cases c3 : t100 = true
  · subst c3
    have H1 : ((spec_l10Pairs.f k a0).bind fun t101 => (some (t101, 0))) = some (r1, r2) := by rw [if_pos rfl] at H; exact H
    clear H
    have H := H1
    clear H1
    replace H := zi H
    obtain ⟨t101, A40, H⟩ := H
    replace H : (some (t101, 0)) = some (r1, r2) := H
    have A4 := zA A40
    clear A40
    simp only [Option.some.injEq, Prod.mk.injEq] at H
    obtain ⟨rfl, rfl⟩ := H
    go_enter Try.func11, Try.ntmps11
    go_wp2_with (first | ((with_reducible refine gate_callee (f := 43) rfl ?_); refine goesL_ (some 5) rfl rfl Try.func43 (by kernel_rfl) rfl #[.int .i64 a0, .int .i64 1, .int .i64 8] rfl z3 ?_; (with_reducible refine (spec_l01In.calls a0 1 8 true _ A2.out).mono ?_); rintro e w' ⟨rfl, ⟨nd, rfl⟩⟩; refine ⟨_, rfl, ?_⟩) | ((with_reducible refine gate_callee (f := 44) rfl ?_); refine goesL_ (some 8) rfl rfl Try.func44 (by kernel_rfl) rfl #[.int .i64 a0] rfl z3 ?_; (with_reducible refine (spec_l10Pairs.calls k a0 t101 _ A4.out).mono ?_); rintro e w' ⟨rfl, ⟨nd, rfl⟩⟩; refine ⟨_, rfl, ?_⟩))
    go_ret2
    exact ⟨z16, z46⟩
  · replace c3 := Bool.eq_false_iff.mpr c3
    subst c3
    have H1 : (some (0, 2)) = some (r1, r2) := by rw [if_neg (show ¬ (false = true) by decide)] at H; exact H
    clear H
    have H := H1
    clear H1
    simp only [Option.some.injEq, Prod.mk.injEq] at H
    obtain ⟨rfl, rfl⟩ := H
    go_enter Try.func11, Try.ntmps11
    go_wp2_with (first | ((with_reducible refine gate_callee (f := 43) rfl ?_); refine goesL_ (some 5) rfl rfl Try.func43 (by kernel_rfl) rfl #[.int .i64 a0, .int .i64 1, .int .i64 8] rfl z3 ?_; (with_reducible refine (spec_l01In.calls a0 1 8 false _ A2.out).mono ?_); rintro e w' ⟨rfl, ⟨nd, rfl⟩⟩; refine ⟨_, rfl, ?_⟩))
    go_ret2
    exact ⟨z16, z46⟩

/-! ### spec_l01Digits: function 67 -/
def spec_l01Digits.l0 : Nat → Int → List Int → Int → List Int → Option (List Int)
  | 0, _, _, _, _ => none
  | k + 1, x1, x5, x6, x176000 => if x6 ≥ 0 then (if 0 ≤ x6 then (if x6 < (x176000.length : Int) then (if (rd x176000 x6) = 0 then (none) else (if x6 < (x5.length : Int) then (spec_l01Digits.l0 k (wrap64 (Int.tdiv x1 (rd x176000 x6))) (x5.set (x6 : Int).toNat (Int.tmod x1 (rd x176000 x6))) (wrap64 (x6 - 1)) x176000) else (none))) else (none)) else (none)) else (some x5)
def spec_l01Digits.f (k : Nat) (l0_0 : List Int) (a1 : Int) : Option (List Int) := if 0 ≤ (l0_0.length : Int) then (if ((l0_0.length : Int) : Int).toNat ≤ 35184372088832 then (spec_l01Digits.l0 k a1 (List.replicate ((l0_0.length : Int) : Int).toNat 0) (wrap64 ((l0_0.length : Int) - 1)) l0_0) else (none)) else (none)
set_option maxHeartbeats 8000000 in
set_option maxRecDepth 100000 in
theorem spec_l01Digits.calls (k : Nat) (A0_0 : Option Addr) (c0_0 : Nat) (l0_0 : List Int) (a1 : Int) (r : List Int) (w : World) (hr0_0 : Kd.C (Kd.int .i64) w A0_0 l0_0.length l0_0) (hc0_0 : l0_0.length ≤ c0_0) (h : spec_l01Digits.f k l0_0 a1 = some r) :
    Calls Try.prog 67 #[.agg #[.slice A0_0 l0_0.length c0_0], .int .i64 a1] w fun e w' => ∃ v0_ : Value, e = .returned (v0_) ∧ Kd.R (Kd.int .i64) 2 w' w.heap.size (fun _ => True) v0_ r ∧ Below w.heap.size w w' := by
  have hu27 := Try.underlying27
  have HR0_0 := zA hr0_0
  have HC0_0 := zA hc0_0
  clear hr0_0 hc0_0
  have HB := zA (Below.refl w.heap.size w)
  have H := h
  unfold spec_l01Digits.f at H
  (try dsimp -simprocs only at H)
  clear h
  by_cases c3 : 0 ≤ (l0_0.length : Int)
  · rw [if_pos c3] at H
    have c3b0 := eq_true c3
    have c3b1 : decide (0 ≤ (l0_0.length : Int)) = true := decide_eq_true c3
    clear c3
    by_cases c4 : ((l0_0.length : Int) : Int).toNat ≤ 35184372088832
    · rw [if_pos c4] at H
      have c4b0 := eq_true c4
      have c4b1 : decide (((l0_0.length : Int) : Int).toNat ≤ 35184372088832) = true := decide_eq_true c4
      clear c4
      obtain ⟨y100, hy100⟩ : ∃ y_ : List Int, y_ = (List.replicate ((l0_0.length : Int) : Int).toNat 0) := ⟨_, rfl⟩
      replace H : (spec_l01Digits.l0 k a1 y100 (wrap64 ((l0_0.length : Int) - 1)) l0_0) = some r := by first | (rw [hy100]; with_reducible exact H) | (have H2_ := (Option.bind_some _ _).symm.trans H; rw [hy100]; with_reducible exact H2_) | (have H2_ := (Option.bind_some _ _).symm.trans H; with_reducible exact H2_) | with_reducible exact H | (rw [hy100]; exact H) | exact H
      have Ny100 := zA hy100
      clear hy100
      have H' := zA H
      clear H
      go_enter Try.func67, Try.ntmps67
      go_wp2_with (first | ((with_reducible refine gate_dst (N := 2) rfl ?_); refine box_event ?hg (N := 2) ?hd (cs := #[.slice A0_0 l0_0.length c0_0]) (t := 27) ?hr ?_; (case hd => rfl); (case hg => rfl); (case hr => first | (go_simp; done) | (go_simp; rfl)); intro gb101 hg w5 hbox hb; have n0_ := zA (below_step z1 hb); have n1_ := zA (hbox); have n2_ := zA ((z178 : w.heap.size ≤ gb101)); have n3_ := zA ((z178 : w.heap.size ≤ gb101)); clear HB; have HB := n0_; have BK101 := n1_; have GW101 := n2_; have GE101 := n3_; clear n0_ n1_ n2_ n3_; clear hb hbox hg; obtain ⟨hcz6_0, hfz6_0⟩ := zC1 BK101.out) | ((with_reducible refine gate_dst (N := 10) rfl ?_); refine Kd.R_make (Kd.int .i64) _ 2 rfl (N := 10) rfl 25 _ _ rfl (l0_0.length : Int) rfl rfl Try.underlying25 (.int .i64 0) 8 info2 rfl (by decide) (by omega) 0 (ok := fun _ => True) (okp := fun _ => True) rfl (fun _ hk => hk) trivial (of_decide_eq_true z14) (Nat.le_trans (Nat.mul_le_mul_right _ (of_decide_eq_true z14 : (l0_0.length : Int).toNat ≤ 35184372088832)) (by omega)) (Below.refl _ _) (Nat.le_refl _) ?_; intro v102 w7 ho8 hb hg_ hnew_; clear hg_ hnew_; (first | rw [← Ny100.out] at ho8 | (simp only [Int.reduceToNat] at ho8; rw [← Ny100.out] at ho8)); have n0_ := zA (Kd.R_lower ho8 (below_size z39)); have n1_ := zBB BK101 hb; have n2_ := zA (below_step z39 hb); clear BK101 HB; have HO103 := n0_; have BK101 := n1_; have HB := n2_; clear n0_ n1_ n2_; clear hb ho8; obtain ⟨hcz9_0, hfz9_0⟩ := zC1 BK101.out))
      go_loopg [1, 6] k (fun kq v1 v6 w' => ∃ (x1_1 : Int) (x5_1 : List Int) (x6_1 : Int), v1 = .int .i64 x1_1 ∧ v6 = .int .i64 x6_1 ∧ Aside0 (spec_l01Digits.l0 kq x1_1 x5_1 x6_1 l0_0 = some r) ∧ Aside0 (kq ≤ k) ∧ Aside0 (Kd.R (Kd.int .i64) 2 w' w.heap.size (fun _ => True) v102 x5_1) ∧ Aside0 (w'.heap[gb101]? = some (.cells #[(.slice A0_0 l0_0.length c0_0)] 27 (0, 0))) ∧ Aside0 (Below w.heap.size w w'))
      case atStart => exact ⟨(a1), (y100), (wrap64 ((l0_0.length : Int) - 1)), z16, z16, H', ⟨Nat.le_refl _⟩, ⟨z140⟩, ⟨z98⟩, ⟨z39⟩⟩
      case round =>
        clear H'
        try clear p2
        try clear c3
        try clear c3b0
        try clear c3b1
        try clear c4
        try clear c4b0
        try clear c4b1
        try clear c6
        try clear p6
        try clear hcz6_0
        try clear hcz9_0
        try clear hfz6_0
        try clear hfz9_0
        obtain ⟨x1_1, x5_1, x6_1, rfl, rfl, HA, HK1, HO_5, BK101, HB⟩ := hrel
        cases gk with
        | zero => exact absurd HA.out (by simp [spec_l01Digits.l0])
        | succ k1 =>
          have H := HA.out
          clear HA
          simp only [spec_l01Digits.l0] at H
          by_cases c10 : x6_1 ≥ 0
          · rw [if_pos c10] at H
            have c10b0 : decide (0 ≤ x6_1) = true := decide_eq_true c10
            clear c10
            by_cases c11 : 0 ≤ x6_1
            · rw [if_pos c11] at H
              have c11b0 : decide (0 ≤ x6_1) = true := decide_eq_true c11
              clear c11
              by_cases c12 : x6_1 < (l0_0.length : Int)
              · rw [if_pos c12] at H
                have c12b0 : decide (x6_1 < (l0_0.length : Int)) = true := decide_eq_true c12
                clear c12
                by_cases c13 : (rd l0_0 x6_1) = 0
                · rw [if_pos c13] at H
                  exact absurd H (by simp)
                · rw [if_neg c13] at H
                  have c13b0 : ((rd l0_0 x6_1) == 0) = false := beq_eq_false_iff_ne.mpr c13
                  have c13b1 : ((rd l0_0 x6_1) != 0) = true := bne_iff_ne.mpr c13
                  by_cases c14 : x6_1 < (x5_1.length : Int)
                  · rw [if_pos c14] at H
                    have c14b0 : decide (x6_1 < (x5_1.length : Int)) = true := decide_eq_true c14
                    clear c14
                    obtain ⟨y104, hy104⟩ : ∃ y_ : List Int, y_ = (x5_1.set (x6_1 : Int).toNat (Int.tmod x1_1 (rd l0_0 x6_1))) := ⟨_, rfl⟩
                    replace H : (spec_l01Digits.l0 k1 (wrap64 (Int.tdiv x1_1 (rd l0_0 x6_1))) y104 (wrap64 (x6_1 - 1)) l0_0) = some r := by first | (rw [hy104]; with_reducible exact H) | (have H2_ := (Option.bind_some _ _).symm.trans H; rw [hy104]; with_reducible exact H2_) | (have H2_ := (Option.bind_some _ _).symm.trans H; with_reducible exact H2_) | with_reducible exact H | (rw [hy104]; exact H) | exact H
                    have Ny104 := zA hy104
                    clear hy104
                    have H' := zA H
                    clear H
                    obtain ⟨hcz16_0, hfz16_0⟩ := zC1 BK101.out
                    have p179 : 0 ≤ (x6_1 : Int) := of_decide_eq_true z14
                    have q179 : x6_1 < (l0_0.length : Int) := of_decide_eq_true z14
                    obtain ⟨ad179, e179, hx179_0⟩ := Kd.at_int HR0_0.out x6_1 p179 q179
                    cases e179
                    try replace hx179_0 := (HB.out.cell (World.block_lt_of_cell? w _ hx179_0)).trans hx179_0
                    replace p179 := eq_true p179
                    replace q179 := eq_true q179
                    have p15 : 0 ≤ (x6_1 : Int) := of_decide_eq_true z14
                    have q15 : (x6_1 : Int) < ((x5_1.length : Int) : Int) := of_decide_eq_true z14
                    obtain ⟨go15, co15, eo15, gb15, gl15, cl15, HG15⟩ := Kd.R_form HO_5.out (by omega)
                    (first | cases eo15 | (injection eo15 with ea_ en_ ec_; (first | subst ea_ | (injection ea_ with ea_; subst ea_)); subst ec_; clear en_))
                    have GB15 := zA gb15
                    have GG15 := zA HG15
                    clear gb15 gl15 HG15
                    obtain ⟨hx15_0, hf15_0⟩ := Kd.R_celln 0 HO_5.out (x6_1 : Int) p15 q15
                    replace p15 := eq_true p15
                    replace q15 := eq_true q15
                    have HP17 := Kd.R_putg HO_5.out (x6_1 : Int) (Int.tmod x1_1 (rd l0_0 x6_1))
                    go_wp2_with (first | ((with_reducible refine gate_store (t := 2) (p := 28) rfl ?_); refine store_event (t := 2) (p := 28) (v := ?vo_w18) (w1 := (wr.setCell ⟨go15, (x6_1 : Int).toNat, none⟩ (.int .i64 (Int.tmod x1_1 (rd l0_0 x6_1))))) ?hg ?ho ?hn ?hr ?_; (case ho => rfl); (case hg => rfl); (case hn => rfl); (case hr => first | (go_simp; done) | (go_simp; rfl)); intro w18 hw; have hg : wr.grownBy w18 (some go15) := (by rw [hw]; exact HP17.2); have hp_ : Kd.R (Kd.int .i64) 2 w18 w.heap.size (fun _ => True) (.slice (some ⟨go15, 0, none⟩) x5_1.length co15) y104 := (by rw [hw, Ny104.out]; exact HP17.1); clear HP17; have n0_ := zA (hp_); have n1_ := zA (blk_grown (g := gb101) (o := .cells #[.slice (some ad179) l0_0.length c0_0] 27 (0, 0)) z98 hg (Kd.R_ne HO_5.out BK101.out (by decide))); have n2_ := zA (((by rw [hw]; exact below_set (HB.out) GB15.out) : Below w.heap.size w w18)); clear HO_5 BK101 HB; have HO_5 := n0_; have BK101 := n1_; have HB := n2_; clear n0_ n1_ n2_; clear hg hw hp_; obtain ⟨hcz19_0, hfz19_0⟩ := zC1 BK101.out; have p181 : 0 ≤ (x6_1 : Int) := of_decide_eq_true z14; have q181 : x6_1 < (l0_0.length : Int) := of_decide_eq_true z14; obtain ⟨ad181, e181, hx181_0⟩ := Kd.at_int HR0_0.out x6_1 p181 q181; obtain rfl : ad179 = ad181 := (by injection e181); try replace hx181_0 := (HB.out.cell (World.block_lt_of_cell? w _ hx181_0)).trans hx181_0; replace p181 := eq_true p181; replace q181 := eq_true q181))
                    go_roundg k1
                    case measure => have := HK1.out; omega
                    case rel => exact ⟨(wrap64 (Int.tdiv x1_1 (rd l0_0 x6_1))), (y104), (wrap64 (x6_1 - 1)), z16, z16, H', ⟨z99⟩, ⟨z74⟩, ⟨z98⟩, ⟨z39⟩⟩
                  · rw [if_neg c14] at H
                    exact absurd H (by simp)
              · rw [if_neg c12] at H
                exact absurd H (by simp)
            · rw [if_neg c11] at H
              exact absurd H (by simp)
          · rw [if_neg c10] at H
            have c10b0 : decide (0 ≤ x6_1) = false := decide_eq_false c10
            clear c10
            obtain rfl := Option.some.inj H
            go_wp2
            go_ret
            exact ⟨_, z15, z74, z39⟩
    · rw [if_neg c4] at H
      exact absurd H (by simp)
  · rw [if_neg c3] at H
    exact absurd H (by simp)

/-! ### spec_l10Has: function 68 -/
def spec_l10Has.l0 : Nat → List Int → List Int → Int → Int → Option (Bool)
  | 0, _, _, _, _ => none
  | k + 1, x0, x1, x5, x6 => if x6 < x5 then (if 0 ≤ x6 then (if x6 < (x1.length : Int) then (if 0 ≤ (rd x1 x6) then (if (rd x1 x6) < (x0.length : Int) then (if 0 ≤ (wrap64 (x5 + x6)) then (if (wrap64 (x5 + x6)) < (x1.length : Int) then (if (rd x0 (rd x1 x6)) = (rd x1 (wrap64 (x5 + x6))) then (spec_l10Has.l0 k x0 x1 x5 (wrap64 (x6 + 1))) else (some false)) else (none)) else (none)) else (none)) else (none)) else (none)) else (none)) else (some true)
def spec_l10Has.f (k : Nat) (l0 : List Int) (l1 : List Int) : Option (Bool) := spec_l10Has.l0 k l0 l1 (wrap64 ((l1.length : Int) / 2)) 0
set_option maxHeartbeats 8000000 in
set_option maxRecDepth 100000 in
theorem spec_l10Has.calls (k : Nat) (A0 : Option Addr) (c0 : Nat) (l0 : List Int) (A1 : Option Addr) (c1 : Nat) (l1 : List Int) (r : Bool) (w : World) (hr0 : Kd.C (Kd.int .i64) w A0 l0.length l0) (hc0 : l0.length ≤ c0) (hr1 : Kd.C (Kd.int .i64) w A1 l1.length l1) (hc1 : l1.length ≤ c1) (h : spec_l10Has.f k l0 l1 = some r) :
    Calls Try.prog 68 #[.slice A0 l0.length c0, .slice A1 l1.length c1] w fun e w' => e = .returned (.bool r) ∧ Drawn0 w w' := by
  have HR0 := zA hr0
  have HC0 := zA hc0
  clear hr0 hc0
  have HR1 := zA hr1
  have HC1 := zA hc1
  clear hr1 hc1
  have H : (spec_l10Has.l0 k l0 l1 (wrap64 ((l1.length : Int) / 2)) 0) = some r := h
  clear h
  have H' := zA H
  clear H
  go_enter Try.func68, Try.ntmps68
  go_wp2
  repeat (go_quiet (fail); try go_wp2)
  go_loopg [6] k (fun kq v6 w' => ∃ (x6_1 : Int), v6 = .int .i64 x6_1 ∧ Aside0 (spec_l10Has.l0 kq l0 l1 (wrap64 ((l1.length : Int) / 2)) x6_1 = some r) ∧ Aside0 (kq ≤ k) ∧ Drawn0 w w')
  case atStart => exact ⟨(0), z16, H', ⟨Nat.le_refl _⟩, z46⟩
  case round =>
    clear H'
    try clear c1
    try clear p2
    obtain ⟨x6_1, rfl, HA, HK1, ⟨m1, rfl⟩⟩ := hrel
    cases gk with
    | zero => exact absurd HA.out (by simp [spec_l10Has.l0])
    | succ k1 =>
      have H := HA.out
      clear HA
      simp only [spec_l10Has.l0] at H
      by_cases c3 : x6_1 < (wrap64 ((l1.length : Int) / 2))
      · rw [if_pos c3] at H
        have c3b0 : decide (x6_1 < (wrap64 ((l1.length : Int) / 2))) = true := decide_eq_true c3
        clear c3
        by_cases c4 : 0 ≤ x6_1
        · rw [if_pos c4] at H
          have c4b0 : decide (0 ≤ x6_1) = true := decide_eq_true c4
          clear c4
          by_cases c5 : x6_1 < (l1.length : Int)
          · rw [if_pos c5] at H
            have c5b0 : decide (x6_1 < (l1.length : Int)) = true := decide_eq_true c5
            clear c5
            by_cases c6 : 0 ≤ (rd l1 x6_1)
            · rw [if_pos c6] at H
              have c6b0 : decide (0 ≤ (rd l1 x6_1)) = true := decide_eq_true c6
              clear c6
              by_cases c7 : (rd l1 x6_1) < (l0.length : Int)
              · rw [if_pos c7] at H
                have c7b0 : decide ((rd l1 x6_1) < (l0.length : Int)) = true := decide_eq_true c7
                clear c7
                obtain ⟨ji8, hji8⟩ : ∃ j_ : Int, (wrap64 ((wrap64 ((l1.length : Int) / 2)) + x6_1)) = j_ := ⟨_, rfl⟩
                replace H : (if 0 ≤ (ji8) then (if (ji8) < (l1.length : Int) then (if (rd l0 (rd l1 x6_1)) = (rd l1 (ji8)) then (spec_l10Has.l0 k1 l0 l1 (wrap64 ((l1.length : Int) / 2)) (wrap64 (x6_1 + 1))) else (some false)) else (none)) else (none)) = some r := by first | (rw [hji8] at H; exact H) | (simp only [hji8] at H ⊢; exact H)
                have hji8w : (IntKind.i64.wrap ((wrap64 ((l1.length : Int) / 2)) + x6_1)) = ji8 := (i64_w _).trans hji8
                by_cases c9 : 0 ≤ (ji8)
                · rw [if_pos c9] at H
                  have c9b0 : decide (0 ≤ (ji8)) = true := decide_eq_true c9
                  clear c9
                  by_cases c10 : (ji8) < (l1.length : Int)
                  · rw [if_pos c10] at H
                    have c10b0 : decide ((ji8) < (l1.length : Int)) = true := decide_eq_true c10
                    clear c10
                    by_cases c11 : (rd l0 (rd l1 x6_1)) = (rd l1 (ji8))
                    · rw [if_pos c11] at H
                      have c11b0 : ((rd l0 (rd l1 x6_1)) == (rd l1 (ji8))) = true := beq_iff_eq.mpr c11
                      have c11b1 : ((rd l0 (rd l1 x6_1)) != (rd l1 (ji8))) = false := bne_eq_false_iff_eq.mpr c11
                      clear c11
                      have H' := zA H
                      clear H
                      have p182 : 0 ≤ (x6_1 : Int) := of_decide_eq_true z14
                      have q182 : x6_1 < (l1.length : Int) := of_decide_eq_true z14
                      obtain ⟨ad182, e182, hx182_0⟩ := Kd.at_int HR1.out x6_1 p182 q182
                      cases e182
                      replace p182 := eq_true p182
                      replace q182 := eq_true q182
                      have p183 : 0 ≤ ((rd l1 x6_1) : Int) := of_decide_eq_true z14
                      have q183 : (rd l1 x6_1) < (l0.length : Int) := of_decide_eq_true z14
                      obtain ⟨ad183, e183, hx183_0⟩ := Kd.at_int HR0.out (rd l1 x6_1) p183 q183
                      cases e183
                      replace p183 := eq_true p183
                      replace q183 := eq_true q183
                      have p184 : 0 ≤ ((ji8) : Int) := of_decide_eq_true z14
                      have q184 : (ji8) < (l1.length : Int) := of_decide_eq_true z14
                      obtain ⟨ad184, e184, hx184_0⟩ := Kd.at_int HR1.out (ji8) p184 q184
                      obtain rfl : ad182 = ad184 := (by injection e184)
                      replace p184 := eq_true p184
                      replace q184 := eq_true q184
                      go_wp2
                      repeat (go_quiet (fail); try go_wp2)
                      go_roundg k1
                      case measure => have := HK1.out; omega
                      case rel => exact ⟨(wrap64 (x6_1 + 1)), z16, H', ⟨z99⟩, z46⟩
                    · rw [if_neg c11] at H
                      have c11b0 : ((rd l0 (rd l1 x6_1)) == (rd l1 (ji8))) = false := beq_eq_false_iff_ne.mpr c11
                      have c11b1 : ((rd l0 (rd l1 x6_1)) != (rd l1 (ji8))) = true := bne_iff_ne.mpr c11
                      obtain rfl := Option.some.inj H
                      have p182 : 0 ≤ (x6_1 : Int) := of_decide_eq_true z14
                      have q182 : x6_1 < (l1.length : Int) := of_decide_eq_true z14
                      obtain ⟨ad182, e182, hx182_0⟩ := Kd.at_int HR1.out x6_1 p182 q182
                      cases e182
                      replace p182 := eq_true p182
                      replace q182 := eq_true q182
                      have p183 : 0 ≤ ((rd l1 x6_1) : Int) := of_decide_eq_true z14
                      have q183 : (rd l1 x6_1) < (l0.length : Int) := of_decide_eq_true z14
                      obtain ⟨ad183, e183, hx183_0⟩ := Kd.at_int HR0.out (rd l1 x6_1) p183 q183
                      cases e183
                      replace p183 := eq_true p183
                      replace q183 := eq_true q183
                      have p184 : 0 ≤ ((ji8) : Int) := of_decide_eq_true z14
                      have q184 : (ji8) < (l1.length : Int) := of_decide_eq_true z14
                      obtain ⟨ad184, e184, hx184_0⟩ := Kd.at_int HR1.out (ji8) p184 q184
                      obtain rfl : ad182 = ad184 := (by injection e184)
                      replace p184 := eq_true p184
                      replace q184 := eq_true q184
                      go_wp2
                      repeat (go_quiet (fail); try go_wp2)
                      go_ret
                      exact ⟨(by first | rfl | (simp; done) | (simp only [← hji8] <;> (first | rfl | simp)) | (simp [*]; done)), z46⟩
                  · rw [if_neg c10] at H
                    exact absurd H (by simp)
                · rw [if_neg c9] at H
                  exact absurd H (by simp)
              · rw [if_neg c7] at H
                exact absurd H (by simp)
            · rw [if_neg c6] at H
              exact absurd H (by simp)
          · rw [if_neg c5] at H
            exact absurd H (by simp)
        · rw [if_neg c4] at H
          exact absurd H (by simp)
      · rw [if_neg c3] at H
        have c3b0 : decide (x6_1 < (wrap64 ((l1.length : Int) / 2))) = false := decide_eq_false c3
        clear c3
        obtain rfl := Option.some.inj H
        go_wp2
        repeat (go_quiet (fail); try go_wp2)
        go_ret
        exact ⟨z16, z46⟩

/-! ### spec_l10Missing: function 54 -/
mutual
def spec_l10Missing.l0 : Nat → List Int → List (List Int) → Int → List Int → Option ((List (List Int)))
  | 0, _, _, _, _ => none
  | k + 1, x2, x7, x8, x186000 => if x8 < (x2.length : Int) then (if 0 ≤ x8 then ((spec_l01Digits.f k x186000 (rd x2 x8)).bind fun t100 => (spec_l10Missing.l1 k x2 x7 x8 t100 (([] : List (List Int))) 0 x186000)) else (none)) else (some x7)
def spec_l10Missing.l1 : Nat → List Int → List (List Int) → Int → List Int → List (List Int) → Int → List Int → Option ((List (List Int)))
  | 0, _, _, _, _, _, _, _ => none
  | k + 1, x2, x7, x8, x9, x10, x11, x186000 => if x11 < (x7.length : Int) then (if 0 ≤ x11 then ((spec_l10Has.f k x9 (rd_L2 x7 x11)).bind fun t101 => (if t101 = true then (spec_l10Missing.l1 k x2 x7 x8 x9 x10 (wrap64 (x11 + 1)) x186000) else (if x10.length < 5864062014805 then (spec_l10Missing.l1 k x2 x7 x8 x9 (x10 ++ [rd_L2 x7 x11]) (wrap64 (x11 + 1)) x186000) else (none)))) else (none)) else (spec_l10Missing.l0 k x2 x10 (wrap64 (x8 + 1)) x186000)
end
def spec_l10Missing.f (k : Nat) (l0_0 : List Int) (l1 : List (List Int)) (l2 : List Int) : Option ((List (List Int))) := spec_l10Missing.l0 k l2 l1 0 l0_0
def spec_l10Missing.T5 : Bool × List (List Nat × List Nat) := (true, [([], []), ([], []), ([], []), ([1, 2], [1, 2]), ([3], [3]), ([0, 4], [0, 4]), ([], []), ([5, 5, 0, 1, 2, 3, 4, 5], [5]), ([6, 7, 0, 1, 2, 3, 4, 5, 6, 7], [6])])
def spec_l10Missing.B5 : List Nat := [0, 0, 0, 6, 14, 31, 0, 63, 255]
theorem spec_l10Missing.tab5 : rtab .any (opsOf Try.f54 5) = spec_l10Missing.T5 := by kernel_rfl
theorem spec_l10Missing.bits5 : waitsOk spec_l10Missing.T5.2 spec_l10Missing.B5 = true := by kernel_rfl
structure MX9 (W0 w' : World) (g : Nat) (P1_ : Nat → Prop) (va vn u7 : Value) (x7 : List (List Int)) (H : Nat) (b5 b6 : Bool) : Prop where
  le : W0.heap.size ≤ w'.heap.size
  vv : Kd.V (Kd.slice 2 (Kd.int .i64)) 25 w' H (fun k => ((P1_ k ∨ H ≤ k) ∧ k ≠ g) ∧ k < W0.heap.size) u7 x7
  a : b5 = true → ∀ k, va.ownBlock = some k → W0.heap.size ≤ k ∧ k < w'.heap.size
  n : b6 = true → ∀ k, vn.ownBlock = some k → W0.heap.size ≤ k ∧ k < w'.heap.size
  c : b5 = true → b6 = true → ∀ k, va.ownBlock = some k → vn.ownBlock ≠ some k
theorem MX9.start {W0 : World} {g : Nat} {P1_ : Nat → Prop} {va vn u7 : Value} {x7 : List (List Int)} {H : Nat} (h : Kd.V (Kd.slice 2 (Kd.int .i64)) 25 W0 H (fun k => (P1_ k ∨ H ≤ k) ∧ k ≠ g) u7 x7) : MX9 W0 W0 g P1_ va vn u7 x7 H false false :=
  ⟨Nat.le_refl _, Kd.V_bound h, fun h => absurd h (by decide), fun h => absurd h (by decide), fun h => absurd h (by decide)⟩
theorem MX9.call {W0 w' w9 : World} {g : Nat} {P1_ : Nat → Prop} {va va' vn u7 : Value} {x7 : List (List Int)} {H : Nat} {b5 b6 : Bool} (h : MX9 W0 w' g P1_ va vn u7 x7 H b5 b6) (hb : Below w'.heap.size w' w9) (h1 : ∀ k, va'.ownBlock = some k → w'.heap.size ≤ k) (h2 : ∀ k, va'.ownBlock = some k → k < w9.heap.size) : MX9 W0 w9 g P1_ va' vn u7 x7 H true b6 := by
  have hs := hb.size
  have hle := h.le
  exact ⟨(by omega), Kd.V_below h.vv hb, fun _ k hk => ⟨Nat.le_trans hle (h1 k hk), h2 k hk⟩, fun h6 k hk => ⟨(h.n h6 k hk).1, Nat.lt_of_lt_of_le (h.n h6 k hk).2 hs⟩, fun _ h6 k hk he => by have := h1 k hk; have := (h.n h6 k he).2; omega⟩
theorem MX9.lit {W0 w' w9 : World} {g : Nat} {P1_ : Nat → Prop} {va vn vn' u7 : Value} {x7 : List (List Int)} {H : Nat} {b5 b6 : Bool} (h : MX9 W0 w' g P1_ va vn u7 x7 H b5 b6) (hb : Below w'.heap.size w' w9) (h1 : ∀ k, vn'.ownBlock = some k → w'.heap.size ≤ k) (h2 : ∀ k, vn'.ownBlock = some k → k < w9.heap.size) : MX9 W0 w9 g P1_ va vn' u7 x7 H b5 true := by
  have hs := hb.size
  have hle := h.le
  exact ⟨(by omega), Kd.V_below h.vv hb, fun h5 k hk => ⟨(h.a h5 k hk).1, Nat.lt_of_lt_of_le (h.a h5 k hk).2 hs⟩, fun _ k hk => ⟨Nat.le_trans hle (h1 k hk), h2 k hk⟩, fun h5 _ k hk he => by have := h1 k he; have := (h.a h5 k hk).2; omega⟩
theorem MX9.v {W0 w' : World} {g : Nat} {P1_ : Nat → Prop} {va vn u7 : Value} {x7 : List (List Int)} {H : Nat} (h : MX9 W0 w' g P1_ va vn u7 x7 H true true) : Kd.V (Kd.slice 2 (Kd.int .i64)) 25 w' H (fun k => (P1_ k ∨ H ≤ k) ∧ some k ≠ va.ownBlock ∧ some k ≠ vn.ownBlock ∧ k ≠ g) u7 x7 :=
  Kd.V_mono h.vv (fun k hk => ⟨hk.1.1, fun he => by have := (h.a rfl k he.symm).1; have := hk.2; omega, fun he => by have := (h.n rfl k he.symm).1; have := hk.2; omega, hk.1.2⟩)
theorem MX9.nn {W0 w' : World} {g : Nat} {P1_ : Nat → Prop} {va vn u7 : Value} {x7 y : List (List Int)} {H : Nat} (h : MX9 W0 w' g P1_ va vn u7 x7 H true true) (hy : y = []) (hn : Kd.N (Kd.slice 2 (Kd.int .i64)) 25 w' H (fun k => (P1_ k ∨ H ≤ k) ∧ k ≠ g) vn y) : Kd.N (Kd.slice 2 (Kd.int .i64)) 25 w' H (fun k => (P1_ k ∨ H ≤ k) ∧ some k ≠ va.ownBlock ∧ k ≠ g) vn y := by
  obtain ⟨h0, rows, hl, hR, _⟩ := hn
  exact ⟨fun k hk => ⟨(h0 k hk).1, fun he => h.c rfl rfl k he.symm hk, (h0 k hk).2⟩, rows, hl, hR, fun j x c hx => by rw [hy] at hx; simp at hx⟩
set_option maxHeartbeats 8000000 in
set_option maxRecDepth 100000 in
theorem spec_l10Missing.calls (k : Nat) (A0_0 : Option Addr) (c0_0 : Nat) (l0_0 : List Int) (P1_ : Nat → Prop) (A1 : Option Addr) (c1 : Nat) (l1 : List (List Int)) (A2 : Option Addr) (c2 : Nat) (l2 : List Int) (r : List (List Int)) (w : World) (hr0_0 : Kd.C (Kd.int .i64) w A0_0 l0_0.length l0_0) (hc0_0 : l0_0.length ≤ c0_0) (hs1 : Kd.V (Kd.slice 2 (Kd.int .i64)) 25 w w.heap.size (fun k_ => P1_ k_) (.slice A1 l1.length c1) l1) (hr2 : Kd.C (Kd.int .i64) w A2 l2.length l2) (hc2 : l2.length ≤ c2) (h : spec_l10Missing.f k l0_0 l1 l2 = some r) :
    Calls Try.prog 54 #[.agg #[.slice A0_0 l0_0.length c0_0], .slice A1 l1.length c1, .slice A2 l2.length c2] w fun e w' => ∃ v0_ : Value, e = .returned (v0_) ∧ Kd.V (Kd.slice 2 (Kd.int .i64)) 25 w' w.heap.size (fun k_ => (P1_ k_ ∨ w.heap.size ≤ k_)) v0_ r ∧ Below w.heap.size w w' := by
  have hu27 := Try.underlying27
  have HR0_0 := zA hr0_0
  have HC0_0 := zA hc0_0
  clear hr0_0 hc0_0
  have HO1 := zA (show Kd.V (Kd.slice 2 (Kd.int .i64)) 25 w w.heap.size (fun k_ => (P1_ k_ ∨ w.heap.size ≤ k_)) (.slice A1 l1.length c1) l1 from Kd.V_mono hs1 (fun k_ hk => .inl hk))
  have HR2 := zA hr2
  have HC2 := zA hc2
  clear hr2 hc2
  have HB := zA (Below.refl w.heap.size w)
  have H : (spec_l10Missing.l0 k l2 l1 0 l0_0) = some r := h
  clear h
  have H' := zA H
  clear H
  go_enter Try.func54, Try.ntmps54
  go_wp2_with (first | ((with_reducible refine gate_dst (N := 3) rfl ?_); refine box_event ?hg (N := 3) ?hd (cs := #[.slice A0_0 l0_0.length c0_0]) (t := 27) ?hr ?_; (case hd => rfl); (case hg => rfl); (case hr => first | (go_simp; done) | (go_simp; rfl)); intro gb102 hg w4 hbox hb; have n0_ := zA (Kd.V_below (Kd.V_elderB z167 gb102 (Nat.le_of_eq hg.symm)) hb); have n1_ := zA (below_step z1 hb); have n2_ := zA (hbox); have n3_ := zA ((z178 : w.heap.size ≤ gb102)); have n4_ := zA ((z178 : w.heap.size ≤ gb102)); clear HO1 HB; have HO1 := n0_; have HB := n1_; have BK102 := n2_; have GW102 := n3_; have GE102 := n4_; clear n0_ n1_ n2_ n3_ n4_; clear hb hbox hg))
  go_loopg [7, 8] k (fun kq v7 v8 w' => ∃ (x7_1 : List (List Int)) (x8_1 : Int), v8 = .int .i64 x8_1 ∧ Aside0 (spec_l10Missing.l0 kq l2 x7_1 x8_1 l0_0 = some r) ∧ Aside0 (kq ≤ k) ∧ Aside0 (Kd.V (Kd.slice 2 (Kd.int .i64)) 25 w' w.heap.size (fun k_ => (P1_ k_ ∨ w.heap.size ≤ k_) ∧ k_ ≠ gb102) v7 x7_1) ∧ Aside0 (w'.heap[gb102]? = some (.cells #[(.slice A0_0 l0_0.length c0_0)] 27 (0, 0))) ∧ Aside0 (Below w.heap.size w w'))
  case atStart => exact ⟨(l1), (0), z16, H', ⟨Nat.le_refl _⟩, ⟨z167⟩, ⟨z30⟩, ⟨z11⟩⟩
  case round =>
    clear H'
    try clear c1
    try clear c2
    try clear p2
    obtain ⟨x7_1, x8_1, rfl, HA, HK1, HO_7, BK102, HB⟩ := hrel
    cases gk with
    | zero => exact absurd HA.out (by simp [spec_l10Missing.l0])
    | succ k1 =>
      have H := HA.out
      clear HA
      simp only [spec_l10Missing.l0] at H
      by_cases c5 : x8_1 < (l2.length : Int)
      · rw [if_pos c5] at H
        have c5b0 : decide (x8_1 < (l2.length : Int)) = true := decide_eq_true c5
        clear c5
        by_cases c6 : 0 ≤ x8_1
        · rw [if_pos c6] at H
          have c6b0 : decide (0 ≤ x8_1) = true := decide_eq_true c6
          clear c6
          replace H := zi H
          obtain ⟨t100, A70, H⟩ := H
          (try dsimp -simprocs only at H)
          have A7 := zA A70
          clear A70
          obtain ⟨y103, hy103⟩ : ∃ y_ : List (List Int), y_ = (([] : List (List Int))) := ⟨_, rfl⟩
          replace H : (spec_l10Missing.l1 k1 l2 x7_1 x8_1 t100 y103 0 l0_0) = some r := by first | (rw [hy103]; with_reducible exact H) | (have H2_ := (Option.bind_some _ _).symm.trans H; rw [hy103]; with_reducible exact H2_) | (have H2_ := (Option.bind_some _ _).symm.trans H; with_reducible exact H2_) | with_reducible exact H | (rw [hy103]; exact H) | exact H
          have Ny103 := zA hy103
          clear hy103
          have H' := zA H
          clear H
          try go_wp2
          have n0_ := zA (Kd.V_drew HO_7.out)
          have n1_ := zA (blk_drew BK102.out)
          have n2_ := zA (below_drew1 HB.out)
          clear HO_7 BK102 HB
          have HO_7 := n0_
          have BK102 := n1_
          have HB := n2_
          clear n0_ n1_ n2_
          have p186 : 0 ≤ (x8_1 : Int) := of_decide_eq_true z14
          have q186 : x8_1 < (l2.length : Int) := of_decide_eq_true z14
          obtain ⟨ad186, e186, hx186_0⟩ := Kd.at_int HR2.out x8_1 p186 q186
          have hw186_0 := hx186_0
          cases e186
          try replace hx186_0 := (HB.out.cell (World.block_lt_of_cell? w _ hx186_0)).trans hx186_0
          replace p186 := eq_true p186
          replace q186 := eq_true q186
          refine start_ (n := 9) (S := fun w' => True) (ds := []) #[false, false, false, false, false, false, false, false, false] (by kernel_rfl) rfl rfl trivial (fun hHeld => ?_); refine with_tabW spec_l10Missing.tab5 spec_l10Missing.bits5 (fun HT_ HW_ => ?_)
          generalize wr.drew = w8 at HO_7 BK102 HB hx186_0 hHeld ⊢
          refine pure_ (i := 1) (N := some 20) (v := ?_) (a' := ?_) #[false, true, false, false, false, false, false, false, false] rfl rfl (any_of HT_.out (by kernel_rfl)) (fun _ _ _ h => h) (Or.inl ⟨(by rfl), ?_⟩) ?_ ?_
          rotate_left
          · exact z35
          rotate_left
          · exact z9
          refine pure_ (i := 2) (N := some 21) (v := ?_) (a' := ?_) #[false, true, true, false, false, false, false, false, false] rfl rfl (any_of HT_.out (by kernel_rfl)) (fun _ _ _ h => h) (Or.inl ⟨(by rfl), ?_⟩) ?_ ?_
          rotate_left
          · exact z35
          rotate_left
          · exact z9
          refine inv_at [0, 3, 4, 5, 6, 7, 8] (fun a0_ b a w' => ∃ (v104 : Value) (v105 : Value) (m7_ : Value) (m8_ : Value), a = putSel a0_ b [(0, 19, .agg #[.slice A0_0 l0_0.length c0_0]), (3, 22, .pointer (some (ad186.add (x8_1).toNat))), (4, 23, .int .i64 (rd l2 x8_1)), (5, 24, v104), (6, 25, v105), (7, 9, m7_), (8, 10, m8_)] ∧ (Kd.V (Kd.slice 2 (Kd.int .i64)) 25 w' w.heap.size (fun k_ => (P1_ k_ ∨ w.heap.size ≤ k_) ∧ k_ ≠ gb102) u7 x7_1) ∧ (w'.heap[gb102]? = some (.cells #[.slice A0_0 l0_0.length c0_0] 27 (0, 0))) ∧ (Below w.heap.size w w') ∧ (b 5 = true → Kd.R (Kd.int .i64) 2 w' w.heap.size (fun k_ => (w.heap.size ≤ k_)) v104 t100) ∧ (b 6 = true → Kd.N (Kd.slice 2 (Kd.int .i64)) 25 w' w.heap.size (fun k_ => (P1_ k_ ∨ w.heap.size ≤ k_) ∧ k_ ≠ gb102) v105 y103) ∧ (b 7 = true → (m7_ : Value) = v104) ∧ (b 8 = true → (m8_ : Value) = v105) ∧ MX9 w8 w' gb102 P1_ v104 v105 u7 x7_1 w.heap.size (b 5) (b 6)) HT_.out HW_.out (by kernel_rfl) (by kernel_rfl) ?_ ?_ ?_
          · exact ⟨.bool false, .bool false, .bool false, .bool false, (by simp only [putSel, Bool.false_eq_true, if_false]), HO_7.out, BK102.out, HB.out, fun h_ => absurd h_ (by decide), fun h_ => absurd h_ (by decide), fun h_ => absurd h_ (by decide), fun h_ => absurd h_ (by decide), MX9.start HO_7.out⟩
          · skip
            clear BK102 HB HO_7
            refine steps_cons ?_ ?_
            · rintro b a w' ⟨v104, v105, m7_, m8_, ha, Q_HO_7, Q_BK185, Q_HB, Q_HO189, Q_HO192, Q_X7_, Q_X8_, Q_MX⟩ hb_ hon hoff
              refine ⟨_, rfl, fun K hK => ?_⟩
              have e3 : a.tmps[3]? = some (.pointer (some ⟨gb102, 0, none⟩)) := by rw [ha]; exact (putSel_off rfl).trans rfl
              replace ha := zA ha
              have HO_7 := zA Q_HO_7
              have BK102 := zA Q_BK185
              have HB := zA Q_HB
              have hc0_ : w'.cell? ⟨gb102, 0, none⟩ = some (.slice A0_0 l0_0.length c0_0) := (blk_cell BK102.out 0).trans rfl
              refine value_ (w1 := w') (v := .agg #[.slice A0_0 l0_0.length c0_0]) (by rfl) rfl ?_ ?_
              · go_simp
                (try simp only [i64_w])
                try rfl
              refine hK.out _ _ ⟨v104, v105, m7_, m8_, (by rw [ha.out]; exact putSel_upk 0 hb_ rfl rfl rfl), Q_HO_7, Q_BK185, Q_HB, fun h0_ => absurd ((hoff 5 (by kernel_rfl)).symm.trans h0_) (by decide), Q_HO192, fun h0_ => absurd ((hoff 7 (by kernel_rfl)).symm.trans h0_) (by decide), fun h0_ => absurd ((hoff 8 (by kernel_rfl)).symm.trans h0_) (by decide), Q_MX⟩
            refine steps_cons ?_ ?_
            · rintro b a w' ⟨v104, v105, m7_, m8_, ha, Q_HO_7, Q_BK185, Q_HB, Q_HO189, Q_HO192, Q_X7_, Q_X8_, Q_MX⟩ hb_ hon hoff
              refine ⟨_, rfl, fun K hK => ?_⟩
              have e20 : a.tmps[20]? = some (.slice (some ad186) l2.length c2) := by rw [ha]; exact (putSel_off rfl).trans rfl
              have e21 : a.tmps[21]? = some (.int .i64 x8_1) := by rw [ha]; exact (putSel_off rfl).trans rfl
              replace ha := zA ha
              have HO_7 := zA Q_HO_7
              have BK102 := zA Q_BK185
              have HB := zA Q_HB
              have hs0_ : w'.cell? (ad186.add (x8_1).toNat) = some (.int .i64 (rd l2 x8_1)) := ((HB.out.cell (World.block_lt_of_cell? w _ hw186_0)).trans hw186_0)
              refine value_ (w1 := w') (v := .pointer (some (ad186.add (x8_1).toNat))) (by rfl) rfl ?_ ?_
              · go_simp
                (try simp only [i64_w])
                try rfl
              refine hK.out _ _ ⟨v104, v105, m7_, m8_, (by rw [ha.out]; exact putSel_upk 1 hb_ rfl rfl rfl), Q_HO_7, Q_BK185, Q_HB, fun h0_ => absurd ((hoff 5 (by kernel_rfl)).symm.trans h0_) (by decide), Q_HO192, fun h0_ => absurd ((hoff 7 (by kernel_rfl)).symm.trans h0_) (by decide), fun h0_ => absurd ((hoff 8 (by kernel_rfl)).symm.trans h0_) (by decide), Q_MX⟩
            refine steps_cons ?_ ?_
            · rintro b a w' ⟨v104, v105, m7_, m8_, ha, Q_HO_7, Q_BK185, Q_HB, Q_HO189, Q_HO192, Q_X7_, Q_X8_, Q_MX⟩ hb_ hon hoff
              refine ⟨_, rfl, fun K hK => ?_⟩
              have e22 : a.tmps[22]? = some (.pointer (some (ad186.add (x8_1).toNat))) := by rw [ha]; exact putSel_on (e := (3, 22, .pointer (some (ad186.add (x8_1).toNat)))) 1 rfl rfl (hon 3 (by kernel_rfl)) rfl
              replace ha := zA ha
              have HO_7 := zA Q_HO_7
              have BK102 := zA Q_BK185
              have HB := zA Q_HB
              have hs0_ : w'.cell? (ad186.add (x8_1).toNat) = some (.int .i64 (rd l2 x8_1)) := ((HB.out.cell (World.block_lt_of_cell? w _ hw186_0)).trans hw186_0)
              refine value_ (w1 := w') (v := .int .i64 (rd l2 x8_1)) (by rfl) rfl ?_ ?_
              · go_simp
                (try simp only [i64_w])
                try rfl
              refine hK.out _ _ ⟨v104, v105, m7_, m8_, (by rw [ha.out]; exact putSel_upk 2 hb_ rfl rfl rfl), Q_HO_7, Q_BK185, Q_HB, fun h0_ => absurd ((hoff 5 (by kernel_rfl)).symm.trans h0_) (by decide), Q_HO192, fun h0_ => absurd ((hoff 7 (by kernel_rfl)).symm.trans h0_) (by decide), fun h0_ => absurd ((hoff 8 (by kernel_rfl)).symm.trans h0_) (by decide), Q_MX⟩
            refine steps_cons ?_ ?_
            · rintro b a w' ⟨v104, v105, m7_, m8_, ha, Q_HO_7, Q_BK185, Q_HB, Q_HO189, Q_HO192, Q_X7_, Q_X8_, Q_MX⟩ hb_ hon hoff
              refine ⟨_, rfl, fun K hK => ?_⟩
              have e19 : a.tmps[19]? = some (.agg #[.slice A0_0 l0_0.length c0_0]) := by rw [ha]; exact putSel_on (e := (0, 19, .agg #[.slice A0_0 l0_0.length c0_0])) 0 rfl rfl (hon 0 (by kernel_rfl)) rfl
              have e23 : a.tmps[23]? = some (.int .i64 (rd l2 x8_1)) := by rw [ha]; exact putSel_on (e := (4, 23, .int .i64 (rd l2 x8_1))) 2 rfl rfl (hon 4 (by kernel_rfl)) rfl
              replace ha := zA ha
              have HO_7 := zA Q_HO_7
              have BK102 := zA Q_BK185
              have HB := zA Q_HB
              refine goes_ Try.func67 (by kernel_rfl) rfl #[.agg #[.slice A0_0 l0_0.length c0_0], .int .i64 (rd l2 x8_1)] (by rfl) rfl rfl (by first | (simp only [List.map_toArray, List.map_cons, List.map_nil, Act.eval, Array.getD_eq_getD_getElem?, Option.getD_some, e19, e23]; done) | (simp only [List.map_toArray, List.map_cons, List.map_nil, Act.eval, Array.getD_eq_getD_getElem?, Option.getD_some, e19, e23]; rfl)) ?_
              with_reducible refine (spec_l01Digits.calls k1 _ _ l0_0 (rd l2 x8_1) t100 _ ?side1 ?side2 A7.out).mono ?_
              (case side1 => exact z5)
              (case side2 => exact HC0_0.out)
              rintro e w9 ⟨v104, rfl, ho0, hb⟩
              have q_mx := MX9.call Q_MX hb (Kd.R_base ho0) (Kd.R_lt ho0)
              refine ⟨_, rfl, ?_⟩
              have n0_ := zA (Kd.V_elder' z122 (Kd.R_base ho0) hb)
              have n1_ := zA (Kd.R_lower (Kd.R_newM (M := fun k_ => (w.heap.size ≤ k_)) ho0 (below_size z11) (fun k_ h_ => h_)) (below_size z11))
              have n2_ := zBB BK102 hb
              have n3_ := zA (below_step z11 hb)
              have z_HO192 := fun (h0_ : b 6 = true) => (show Kd.N (Kd.slice 2 (Kd.int .i64)) 25 w9 w.heap.size (fun k_ => (P1_ k_ ∨ w.heap.size ≤ k_) ∧ k_ ≠ gb102) v105 y103 from by first | exact (Kd.N_elder' z157 (Kd.R_base ho0) hb) | exact Kd.N_mono (Kd.N_elder' z157 (Kd.R_base ho0) hb) (fun _ h_ => by first | trivial | exact h_ | exact h_.1))
              clear HO_7 BK102 HB
              have HO_7 := n0_
              have HO106 := n1_
              have BK102 := n2_
              have HB := n3_
              clear n0_ n1_ n2_ n3_
              (try clear hb)
              (try clear hb2)
              (try clear hk)
              (try clear hi)
              (try clear ho0)
              refine hK.out _ _ ⟨v104, v105, m7_, m8_, (by rw [ha.out]; exact putSel_upk 3 hb_ rfl rfl rfl), z116, z30, z11, fun _ => (by (with_reducible repeat (first | apply Kd.R_alloc | apply Kd.R_drewN | apply Kd.R_drew)); exact Kd.R_mono HO106.out (fun _ hk => hk.1)), z_HO192, fun h0_ => absurd ((hoff 7 (by kernel_rfl)).symm.trans h0_) (by decide), fun h0_ => absurd ((hoff 8 (by kernel_rfl)).symm.trans h0_) (by decide), q_mx⟩
            refine steps_cons ?_ ?_
            · rintro b a w' ⟨v104, v105, m7_, m8_, ha, Q_HO_7, Q_BK185, Q_HB, Q_HO189, Q_HO192, Q_X7_, Q_X8_, Q_MX⟩ hb_ hon hoff
              refine ⟨_, rfl, fun K hK => ?_⟩
              replace ha := zA ha
              have HO_7 := zA Q_HO_7
              have BK102 := zA Q_BK185
              have HB := zA Q_HB
              refine Kd.N_lit_step (Kd.slice 2 (Kd.int .i64)) _ 25 ?hg (N' := 25) ?hd (xs := ([] : List (List Int))) (inner := []) (ok := (fun k_ => (P1_ k_ ∨ w.heap.size ≤ k_) ∧ k_ ≠ gb102)) (okp := (fun k_ => (P1_ k_ ∨ w.heap.size ≤ k_) ∧ k_ ≠ gb102)) ?hr ?hp (fun _ hk => hk) ((show ∀ k_, w'.heap.size ≤ k_ → (fun k_ => (P1_ k_ ∨ w.heap.size ≤ k_) ∧ k_ ≠ gb102) k_ from fun k_ hk => ⟨(.inr (Nat.le_trans (below_size z11) hk)), Kd.freshB (g := gb102) (o := .cells #[.slice A0_0 l0_0.length c0_0] 27 (0, 0)) z30 k_ hk⟩) _ (Nat.le_refl _)) (Below.refl _ _) (Nat.le_refl _) (by simp) ?_; (case hd => rfl); (case hg => rfl); (case hr => first | (go_simp; done) | (go_simp; rfl)); (case hp => exact (Reps.none _ _))
              intro v105 w9 ho10 hb hg_ hnew_
              have q_mx := MX9.lit Q_MX hb (Kd.N_base ho10) (Kd.N_lt ho10)
              clear hg_ hnew_
              (first | rw [← Ny103.out] at ho10 | (simp only [Int.reduceToNat] at ho10; rw [← Ny103.out] at ho10))
              have n0_ := zA (Kd.V_elder' z122 (Kd.N_base ho10) hb)
              have n1_ := zA (Kd.N_lower ho10 (below_size z11))
              have n2_ := zBB BK102 hb
              have n3_ := zA (below_step z11 hb)
              have z_HO189 := fun (h0_ : b 5 = true) => (show Kd.R (Kd.int .i64) 2 w9 w.heap.size (fun k_ => (w.heap.size ≤ k_)) v104 t100 from by first | exact (Kd.R_below z158 hb) | exact Kd.R_mono (Kd.R_below z158 hb) (fun _ h_ => by first | trivial | exact h_ | exact h_.1))
              clear HO_7 BK102 HB
              have HO_7 := n0_
              have HO107 := n1_
              have BK102 := n2_
              have HB := n3_
              clear n0_ n1_ n2_ n3_
              clear hb ho10
              refine hK.out _ _ ⟨v104, v105, m7_, m8_, (by rw [ha.out]; exact putSel_upk 4 hb_ rfl rfl rfl), z116, z30, z11, z_HO189, fun _ => z141, Q_X7_, fun h0_ => absurd ((hoff 8 (by kernel_rfl)).symm.trans h0_) (by decide), q_mx⟩
            refine steps_cons ?_ ?_
            · rintro b a w' ⟨v104, v105, m7_, m8_, ha, Q_HO_7, Q_BK185, Q_HB, Q_HO189, Q_HO192, Q_X7_, Q_X8_, Q_MX⟩ hb_ hon hoff
              refine ⟨_, rfl, fun K hK => ?_⟩
              have e24 : a.tmps[24]? = some (v104) := by rw [ha]; exact putSel_on (e := (5, 24, v104)) 3 rfl rfl (hon 5 (by kernel_rfl)) rfl
              replace ha := zA ha
              have HO_7 := zA Q_HO_7
              have BK102 := zA Q_BK185
              have HB := zA Q_HB
              have HO106 := zA (Q_HO189 (hon 5 (by kernel_rfl)))
              refine value_ (w1 := w') (v := v104) (by rfl) rfl ?_ ?_
              · go_simp
                (try simp only [i64_w])
                try rfl
              refine hK.out _ _ ⟨v104, v105, (v104), m8_, (by rw [ha.out]; exact putSel_upk 5 hb_ rfl rfl rfl), Q_HO_7, Q_BK185, Q_HB, Q_HO189, Q_HO192, fun _ => rfl, fun h0_ => absurd ((hoff 8 (by kernel_rfl)).symm.trans h0_) (by decide), Q_MX⟩
            refine steps_cons ?_ ?_
            · rintro b a w' ⟨v104, v105, m7_, m8_, ha, Q_HO_7, Q_BK185, Q_HB, Q_HO189, Q_HO192, Q_X7_, Q_X8_, Q_MX⟩ hb_ hon hoff
              refine ⟨_, rfl, fun K hK => ?_⟩
              have e25 : a.tmps[25]? = some (v105) := by rw [ha]; exact putSel_on (e := (6, 25, v105)) 4 rfl rfl (hon 6 (by kernel_rfl)) rfl
              replace ha := zA ha
              have HO_7 := zA Q_HO_7
              have BK102 := zA Q_BK185
              have HB := zA Q_HB
              have HO106 := zA (Q_HO189 (hon 5 (by kernel_rfl)))
              have HO107 := zA (Q_HO192 (hon 6 (by kernel_rfl)))
              refine value_ (w1 := w') (v := v105) (by rfl) rfl ?_ ?_
              · go_simp
                (try simp only [i64_w])
                try rfl
              refine hK.out _ _ ⟨v104, v105, m7_, (v105), (by rw [ha.out]; exact putSel_upk 6 hb_ rfl rfl rfl), Q_HO_7, Q_BK185, Q_HB, Q_HO189, Q_HO192, Q_X7_, fun _ => rfl, Q_MX⟩
            exact steps_nil
          rintro b a w12 hall ⟨v104, v105, m7_, m8_, ha, Q_HO_7, Q_BK185, Q_HB, Q_HO189, Q_HO192, Q_X7_, Q_X8_, Q_MX⟩
          clear BK102 HB HO_7
          have hb0_ := hall 0 (by kernel_rfl)
          have hb3_ := hall 3 (by kernel_rfl)
          have hb4_ := hall 4 (by kernel_rfl)
          have hb5_ := hall 5 (by kernel_rfl)
          have hb6_ := hall 6 (by kernel_rfl)
          have hb7_ := hall 7 (by kernel_rfl)
          have hb8_ := hall 8 (by kernel_rfl)
          subst ha
          have qx7_ := Q_X7_ hb7_
          subst m7_
          have qx8_ := Q_X8_ hb8_
          subst m8_
          rw [hb5_, hb6_] at Q_MX
          simp only [putSel, hb0_, hb3_, hb4_, hb5_, hb6_, hb7_, hb8_, if_true, Act.put, List.setIfInBounds_toArray, List.set_cons_zero, List.set_cons_succ]
          have HO_7 := zA (MX9.v Q_MX)
          clear Q_HO_7
          have BK102 := zA Q_BK185
          clear Q_BK185
          have HB := zA Q_HB
          clear Q_HB
          have HO106 := zA (Q_HO189 hb5_)
          clear Q_HO189
          have HO107 := zA (MX9.nn Q_MX Ny103.out (Q_HO192 hb6_))
          clear Q_MX Q_HO192
          clear hall hb0_ hb3_ hb4_ hb5_ hb6_ hb7_ hb8_
          try go_wp2
          go_loopg [10, 11] k1 (fun kq v10 v11 w' => ∃ (x10_2 : List (List Int)) (x11_2 : Int), v11 = .int .i64 x11_2 ∧ Aside0 (spec_l10Missing.l1 kq l2 x7_1 x8_1 t100 x10_2 x11_2 l0_0 = some r) ∧ Aside0 (kq ≤ k1) ∧ Aside0 (Kd.V (Kd.slice 2 (Kd.int .i64)) 25 w' w.heap.size (fun k_ => (P1_ k_ ∨ w.heap.size ≤ k_) ∧ some k_ ≠ (v104 : Value).ownBlock ∧ some k_ ≠ (v10 : Value).ownBlock ∧ k_ ≠ gb102) u7 x7_1) ∧ Aside0 (Kd.R (Kd.int .i64) 2 w' w.heap.size (fun k_ => (w.heap.size ≤ k_)) v104 t100) ∧ Aside0 (Kd.N (Kd.slice 2 (Kd.int .i64)) 25 w' w.heap.size (fun k_ => (P1_ k_ ∨ w.heap.size ≤ k_) ∧ some k_ ≠ (v104 : Value).ownBlock ∧ k_ ≠ gb102) v10 x10_2) ∧ Aside0 (w'.heap[gb102]? = some (.cells #[(.slice A0_0 l0_0.length c0_0)] 27 (0, 0))) ∧ Aside0 (Below w.heap.size w w'))
          case atStart => exact ⟨(y103), (0), z16, H', ⟨Nat.le_refl _⟩, ⟨z122⟩, ⟨z118⟩, ⟨z141⟩, ⟨z30⟩, ⟨z11⟩⟩
          case round =>
            clear H'
            try clear c1
            try clear p1
            try clear q1
            try clear hx1
            try clear c2
            try clear p2
            try clear c5
            try clear c5b0
            try clear c6
            try clear c6b0
            try clear hx186_0
            try clear p186
            try clear p2
            try clear q186
            obtain ⟨x10_2, x11_2, rfl, HA, HK2, HO_7, HO_9, HO_10, BK102, HB⟩ := hrel
            cases gk with
            | zero => exact absurd HA.out (by simp [spec_l10Missing.l1])
            | succ k2 =>
              have H := HA.out
              clear HA
              simp only [spec_l10Missing.l1] at H
              by_cases c13 : x11_2 < (x7_1.length : Int)
              · rw [if_pos c13] at H
                have c13b0 : decide (x11_2 < (x7_1.length : Int)) = true := decide_eq_true c13
                clear c13
                by_cases c14 : 0 ≤ x11_2
                · rw [if_pos c14] at H
                  have c14b0 : decide (0 ≤ x11_2) = true := decide_eq_true c14
                  clear c14
                  replace H := zi H
                  obtain ⟨t101, A150, H⟩ := H
                  (try dsimp -simprocs only at H)
                  have A15 := zA A150
                  clear A150
                  by_cases c16 : t101 = true
                  · subst c16
                    have H1 : (spec_l10Missing.l1 k2 l2 x7_1 x8_1 t100 x10_2 (wrap64 (x11_2 + 1)) l0_0) = some r := by rw [if_pos rfl] at H; exact H
                    clear H
                    have H := H1
                    clear H1
                    have H' := zA H
                    clear H
                    obtain ⟨Ao17, co17, eo17⟩ := Kd.V_slice HO_7.out
                    subst eo17
                    have p193 : 0 ≤ (x11_2 : Int) := of_decide_eq_true z14
                    have q193 : x11_2 < (x7_1.length : Int) := of_decide_eq_true z14
                    obtain ⟨ad193, A193_0, c193_0, e193, hx193_0, hl193_0, hi193_0⟩ := at_L2 (Kd.V_reads' HO_7.out).2.2 x11_2 p193 q193
                    cases e193
                    obtain ⟨ce193, hce193, hMe193, hcc193⟩ := Kd.V_get HO_7.out [] x11_2 p193 z201
                    obtain ⟨ua193_0, uc193_0, rfl, ul193_0, ge193_0⟩ := Kd.FK_slice_open hMe193
                    have hv193_0 := hcc193 0 _ rfl
                    rw [Nat.add_zero, show ((Kd.slice 2 (Kd.int .i64))).sz = 1 from rfl, Nat.mul_one] at hv193_0
                    replace hv193_0 := Option.some.inj (hv193_0.symm.trans hx193_0)
                    injection hv193_0 with hva_ hvn_ hvc_
                    rw [hva_] at ge193_0
                    rw [hvc_] at ul193_0
                    have HL193_0 := zA (show Kd.V (Kd.int .i64) 2 _ w.heap.size _ _ (rd_L2 x7_1 x11_2) from Kd.V_mk ul193_0 ge193_0)
                    clear hva_ hvn_ hvc_ ge193_0 ul193_0
                    clear hcc193 hce193
                    have HR193_0 := zA hi193_0
                    have HC193_0 := zA hl193_0
                    clear hi193_0 hl193_0
                    replace p193 := eq_true p193
                    replace q193 := eq_true q193
                    obtain ⟨Ao18, co18, eo18⟩ := Kd.R_slice HO_9.out
                    subst eo18
                    go_wp2_with (first | ((with_reducible refine gate_callee (f := 68) rfl ?_); refine goesL_ (some 37) rfl rfl Try.func68 (by kernel_rfl) rfl #[.slice Ao18 t100.length co18, .slice A193_0 (rd_L2 x7_1 x11_2).length c193_0] rfl z3 ?_; (with_reducible refine (spec_l10Has.calls k2 _ _ t100 _ _ (rd_L2 x7_1 x11_2) true _ ?side1 ?side2 ?side3 ?side4 A15.out).mono ?_); (case side1 => exact z132); (case side2 => exact (Kd.R_reads' HO_9.out).2.1); (case side3 => exact z91); (case side4 => exact HC193_0.out); rintro e w' ⟨rfl, ⟨nd, rfl⟩⟩; refine ⟨_, rfl, ?_⟩))
                    go_roundg k2
                    case measure => have := HK1.out; have := HK2.out; omega
                    case rel => exact ⟨(x10_2), (wrap64 (x11_2 + 1)), z16, H', ⟨z97⟩, ⟨z122⟩, ⟨z123⟩, ⟨z142⟩, ⟨z30⟩, ⟨z11⟩⟩
                  · replace c16 := Bool.eq_false_iff.mpr c16
                    subst c16
                    have H1 : (if x10_2.length < 5864062014805 then (spec_l10Missing.l1 k2 l2 x7_1 x8_1 t100 (x10_2 ++ [rd_L2 x7_1 x11_2]) (wrap64 (x11_2 + 1)) l0_0) else (none)) = some r := by rw [if_neg (show ¬ (false = true) by decide)] at H; exact H
                    clear H
                    have H := H1
                    clear H1
                    by_cases c19 : x10_2.length < 5864062014805
                    · rw [if_pos c19] at H
                      have LMc19 := zA c19
                      clear c19
                      obtain ⟨y108, hy108⟩ : ∃ y_ : List (List Int), y_ = (x10_2 ++ [rd_L2 x7_1 x11_2]) := ⟨_, rfl⟩
                      replace H : (spec_l10Missing.l1 k2 l2 x7_1 x8_1 t100 y108 (wrap64 (x11_2 + 1)) l0_0) = some r := by first | (rw [hy108]; with_reducible exact H) | (have H2_ := (Option.bind_some _ _).symm.trans H; rw [hy108]; with_reducible exact H2_) | (have H2_ := (Option.bind_some _ _).symm.trans H; with_reducible exact H2_) | with_reducible exact H | (rw [hy108]; exact H) | exact H
                      have Ny108 := zA hy108
                      clear hy108
                      have H' := zA H
                      clear H
                      obtain ⟨Ao20, co20, eo20⟩ := Kd.V_slice HO_7.out
                      subst eo20
                      have p193 : 0 ≤ (x11_2 : Int) := of_decide_eq_true z14
                      have q193 : x11_2 < (x7_1.length : Int) := of_decide_eq_true z14
                      obtain ⟨ad193, A193_0, c193_0, e193, hx193_0, hl193_0, hi193_0⟩ := at_L2 (Kd.V_reads' HO_7.out).2.2 x11_2 p193 q193
                      cases e193
                      obtain ⟨ce193, hce193, hMe193, hcc193⟩ := Kd.V_get HO_7.out [] x11_2 p193 z201
                      obtain ⟨ua193_0, uc193_0, rfl, ul193_0, ge193_0⟩ := Kd.FK_slice_open hMe193
                      have hv193_0 := hcc193 0 _ rfl
                      rw [Nat.add_zero, show ((Kd.slice 2 (Kd.int .i64))).sz = 1 from rfl, Nat.mul_one] at hv193_0
                      replace hv193_0 := Option.some.inj (hv193_0.symm.trans hx193_0)
                      injection hv193_0 with hva_ hvn_ hvc_
                      rw [hva_] at ge193_0
                      rw [hvc_] at ul193_0
                      have HL193_0 := zA (show Kd.V (Kd.int .i64) 2 _ w.heap.size _ _ (rd_L2 x7_1 x11_2) from Kd.V_mk ul193_0 ge193_0)
                      clear hva_ hvn_ hvc_ ge193_0 ul193_0
                      clear hcc193 hce193
                      have HR193_0 := zA hi193_0
                      have HC193_0 := zA hl193_0
                      clear hi193_0 hl193_0
                      replace p193 := eq_true p193
                      replace q193 := eq_true q193
                      obtain ⟨Ao21, co21, eo21⟩ := Kd.R_slice HO_9.out
                      subst eo21
                      go_wp2_with (first | ((with_reducible refine gate_callee (f := 68) rfl ?_); refine goesL_ (some 37) rfl rfl Try.func68 (by kernel_rfl) rfl #[.slice Ao21 t100.length co21, .slice A193_0 (rd_L2 x7_1 x11_2).length c193_0] rfl z3 ?_; (with_reducible refine (spec_l10Has.calls k2 _ _ t100 _ _ (rd_L2 x7_1 x11_2) false _ ?side1 ?side2 ?side3 ?side4 A15.out).mono ?_); (case side1 => exact z132); (case side2 => exact (Kd.R_reads' HO_9.out).2.1); (case side3 => exact z91); (case side4 => exact HC193_0.out); rintro e w' ⟨rfl, ⟨nd, rfl⟩⟩; refine ⟨_, rfl, ?_⟩; have p195 : 0 ≤ (x11_2 : Int) := of_decide_eq_true z14; have q195 : x11_2 < (x7_1.length : Int) := of_decide_eq_true z14; obtain ⟨ad195, A195_0, c195_0, e195, hx195_0, hl195_0, hi195_0⟩ := at_L2 (Kd.V_reads' HO_7.out).2.2 x11_2 p195 q195; obtain rfl : ad193 = ad195 := (by injection e195); obtain ⟨ce195, hce195, hMe195, hcc195⟩ := Kd.V_get HO_7.out [] x11_2 p195 (by first | exact q195 | exact of_decide_eq_true z14 | (have e_ := (Kd.V_reads' HO_7.out).1; omega)); obtain ⟨ua195_0, uc195_0, rfl, ul195_0, ge195_0⟩ := Kd.FK_slice_open hMe195; have hv195_0 := hcc195 0 _ rfl; rw [Nat.add_zero, show ((Kd.slice 2 (Kd.int .i64))).sz = 1 from rfl, Nat.mul_one] at hv195_0; replace hv195_0 := Option.some.inj (hv195_0.symm.trans hx195_0); injection hv195_0 with hva_ hvn_ hvc_; rw [hva_] at ge195_0; rw [hvc_] at ul195_0; have HL195_0 := zA (show Kd.V (Kd.int .i64) 2 _ w.heap.size _ _ (rd_L2 x7_1 x11_2) from Kd.V_mk ul195_0 ge195_0); clear hva_ hvn_ hvc_ ge195_0 ul195_0; clear hcc195 hce195; have HR195_0 := zA hi195_0; have HC195_0 := zA hl195_0; clear hi195_0 hl195_0; replace p195 := eq_true p195; replace q195 := eq_true q195; have ea_ := Option.some.inj (hx193_0.symm.trans hx195_0); injection ea_ with ea_ en_ ec_; subst ea_; subst ec_; clear en_) | ((with_reducible refine gate_builtin (b := .append) (xs := #[.tmp 39, .tmp 44]) rfl ?_); at_builtin; refine Kd.N_append (Kd.slice 2 (Kd.int .i64)) (w0 := w) w.heap.size rfl (.tmp 39) (.tmp 44) 42 25 (.slice none 0 0) 24 rfl Try.underlying42 info25 rfl (by decide) (by omega) u10 x10_2 (rd_L2 x7_1 x11_2) [.slice A193_0 (rd_L2 x7_1 x11_2).length c193_0] (fun k_ => (P1_ k_ ∨ w.heap.size ≤ k_) ∧ some k_ ≠ (.slice Ao21 t100.length co21 : Value).ownBlock ∧ k_ ≠ gb102) (fun k_ => ((fun k_ => (P1_ k_ ∨ w.heap.size ≤ k_) ∧ some k_ ≠ (.slice Ao21 t100.length co21 : Value).ownBlock ∧ k_ ≠ gb102)) k_ ∧ some k_ ≠ (u10 : Value).ownBlock) rfl rfl ?aP (fun _ hk => hk) ?aF ?aO ?aB ?aS ?aL ?_; (case aP => exact (Kd.FK_slice_mk (Kd.V_reads' (Kd.V_mono (ok' := (fun k_ => ((fun k_ => (P1_ k_ ∨ w.heap.size ≤ k_) ∧ some k_ ≠ (.slice Ao21 t100.length co21 : Value).ownBlock ∧ k_ ≠ gb102)) k_ ∧ some k_ ≠ (u10 : Value).ownBlock)) (Kd.V_drewN HL195_0.out nd) (fun k_ hk => ⟨⟨hk.1, ⟨hk.2.1, hk.2.2.2⟩⟩, hk.2.2.1⟩))).2.1 (Kd.V_F (Kd.V_mono (ok' := (fun k_ => ((fun k_ => (P1_ k_ ∨ w.heap.size ≤ k_) ∧ some k_ ≠ (.slice Ao21 t100.length co21 : Value).ownBlock ∧ k_ ≠ gb102)) k_ ∧ some k_ ≠ (u10 : Value).ownBlock)) (Kd.V_drewN HL195_0.out nd) (fun k_ hk => ⟨⟨hk.1, ⟨hk.2.1, hk.2.2.2⟩⟩, hk.2.2.1⟩))))); (case aB => exact z11); (case aF => exact (fun k_ hk => ⟨(.inr (Nat.le_trans (below_size z11) hk)), Kd.fresh' (Kd.R_lt z123) k_ hk, Kd.freshB (g := gb102) (o := .cells #[.slice A0_0 l0_0.length c0_0] 27 (0, 0)) z30 k_ hk⟩)); (case aO => exact z142); (case aS => exact (below_size z11)); (case aL => have := LMc19.out; omega); intro v109 w22 ho hb hg hat; rw [← Ny108.out] at ho; have n0_ := zA (Kd.V_afterv (ok := (fun k_ => (P1_ k_ ∨ w.heap.size ≤ k_) ∧ some k_ ≠ (.slice Ao21 t100.length co21 : Value).ownBlock ∧ k_ ≠ gb102)) (by (with_reducible repeat (first | apply Kd.V_alloc | apply Kd.V_drewN | apply Kd.V_drew)); exact Kd.V_mono HO_7.out (fun _ hk => by first | exact ⟨⟨hk.1, ⟨hk.2.1, hk.2.2.2⟩⟩, hk.2.2.1⟩ | simp only [hk, ne_eq, not_false_eq_true, and_self])) hg hat); have n1_ := zA (Kd.R_over' z123 (Kd.N_typed z142) (by decide) hg); have n2_ := zA (blk_grown (g := gb102) (o := .cells #[.slice A0_0 l0_0.length c0_0] 27 (0, 0)) z30 hg (Kd.N_ne HO_10.out BK102.out (by decide))); have n3_ := zA (Kd.V_afterv (ok := (fun k_ => (P1_ k_ ∨ w.heap.size ≤ k_) ∧ some k_ ≠ (.slice Ao21 t100.length co21 : Value).ownBlock ∧ k_ ≠ gb102)) (by (with_reducible repeat (first | apply Kd.V_alloc | apply Kd.V_drewN | apply Kd.V_drew)); exact Kd.V_mono HL193_0.out (fun _ hk => by first | exact ⟨⟨hk.1, ⟨hk.2.1, hk.2.2.2⟩⟩, hk.2.2.1⟩ | simp only [hk, ne_eq, not_false_eq_true, and_self])) hg hat); have n4_ := zA (Kd.V_afterv (ok := (fun k_ => (P1_ k_ ∨ w.heap.size ≤ k_) ∧ some k_ ≠ (.slice Ao21 t100.length co21 : Value).ownBlock ∧ k_ ≠ gb102)) (by (with_reducible repeat (first | apply Kd.V_alloc | apply Kd.V_drewN | apply Kd.V_drew)); exact Kd.V_mono HL195_0.out (fun _ hk => by first | exact ⟨⟨hk.1, ⟨hk.2.1, hk.2.2.2⟩⟩, hk.2.2.1⟩ | simp only [hk, ne_eq, not_false_eq_true, and_self])) hg hat); have n5_ := zA (hb); have n6_ := zA (ho); clear HO_7 HO_9 BK102 HL193_0 HL195_0 HB HO_10; have HO_7 := n0_; have HO_9 := n1_; have BK102 := n2_; have HL193_0 := n3_; have HL195_0 := n4_; have HB := n5_; have HO110 := n6_; clear n0_ n1_ n2_ n3_ n4_ n5_ n6_; clear ho hb hg hat))
                      go_roundg k2
                      case measure => have := HK1.out; have := HK2.out; omega
                      case rel => exact ⟨(y108), (wrap64 (x11_2 + 1)), z16, H', ⟨z97⟩, ⟨(by (with_reducible repeat (first | apply Kd.V_alloc | apply Kd.V_drewN | apply Kd.V_drew)); exact Kd.V_mono HO_7.out (fun _ hk => by first | exact ⟨hk.1.1, ⟨hk.1.2.1, ⟨hk.2, hk.1.2.2⟩⟩⟩ | simp only [hk, ne_eq, not_false_eq_true, and_self]))⟩, ⟨z123⟩, ⟨z143⟩, ⟨z30⟩, ⟨z11⟩⟩
                    · rw [if_neg c19] at H
                      exact absurd H (by simp)
                · rw [if_neg c14] at H
                  exact absurd H (by simp)
              · rw [if_neg c13] at H
                have c13b0 : decide (x11_2 < (x7_1.length : Int)) = false := decide_eq_false c13
                clear c13
                have H' := zA H
                clear H
                obtain ⟨Ao23, co23, eo23⟩ := Kd.V_slice HO_7.out
                subst eo23
                go_wp2
                go_roundg k2
                case measure => have := HK1.out; have := HK2.out; omega
                case rel => exact ⟨(x10_2), (wrap64 (x8_1 + 1)), z16, H', ⟨z97⟩, ⟨Kd.N_V (by (with_reducible repeat (first | apply Kd.N_alloc | apply Kd.N_drewN | apply Kd.N_drew)); exact Kd.N_mono HO_10.out (fun _ hk => by first | exact ⟨hk.1, hk.2.2⟩ | simp only [hk, ne_eq, not_false_eq_true, and_self]))⟩, ⟨z30⟩, ⟨z11⟩⟩
        · rw [if_neg c6] at H
          exact absurd H (by simp)
      · rw [if_neg c5] at H
        have c5b0 : decide (x8_1 < (l2.length : Int)) = false := decide_eq_false c5
        clear c5
        obtain rfl := Option.some.inj H
        go_wp2
        go_ret
        exact ⟨_, z15, (by (with_reducible repeat (first | apply Kd.V_alloc | apply Kd.V_drewN | apply Kd.V_drew)); exact Kd.V_mono HO_7.out (fun _ hk => hk.1)), z11⟩

/-! ### spec_l01Own: function 65 -/
def spec_l01Own.f (l0 : List Int) : Option (List Int) := (some (([] : List Int) : List Int)).bind fun y100 => (if y100.length + l0.length < 17592186044416 then (some (y100 ++ l0)) else (none))
set_option maxHeartbeats 8000000 in
set_option maxRecDepth 100000 in
theorem spec_l01Own.calls (A0 : Option Addr) (c0 : Nat) (l0 : List Int) (r : List Int) (w : World) (hr0 : Kd.C (Kd.int .i64) w A0 l0.length l0) (hc0 : l0.length ≤ c0) (h : spec_l01Own.f l0 = some r) :
    Calls Try.prog 65 #[.slice A0 l0.length c0] w fun e w' => ∃ v0_ : Value, e = .returned (v0_) ∧ Kd.R (Kd.int .i64) 2 w' w.heap.size (fun _ => True) v0_ r ∧ Below w.heap.size w w' := by
  have HR0 := zA hr0
  have HC0 := zA hc0
  clear hr0 hc0
  have HB := zA (Below.refl w.heap.size w)
  have H : ((some (([] : List Int) : List Int)).bind fun y100 => (if y100.length + l0.length < 17592186044416 then (some (y100 ++ l0)) else (none))) = some r := h
  clear h
  obtain ⟨y100, hy100⟩ : ∃ y_ : List Int, y_ = (([] : List Int)) := ⟨_, rfl⟩
  replace H : (if y100.length + l0.length < 17592186044416 then (some (y100 ++ l0)) else (none)) = some r := by first | (rw [hy100]; with_reducible exact H) | (have H2_ := (Option.bind_some _ _).symm.trans H; rw [hy100]; with_reducible exact H2_) | (have H2_ := (Option.bind_some _ _).symm.trans H; with_reducible exact H2_) | with_reducible exact H | (rw [hy100]; exact H) | exact H
  have Ny100 := zA hy100
  clear hy100
  by_cases c2 : y100.length + l0.length < 17592186044416
  · rw [if_pos c2] at H
    have LMc2 := zA c2
    clear c2
    obtain ⟨y101, hy101⟩ : ∃ y_ : List Int, y_ = (y100 ++ l0) := ⟨_, rfl⟩
    replace H : (some y101) = some r := by first | (rw [hy101]; with_reducible exact H) | (have H2_ := (Option.bind_some _ _).symm.trans H; rw [hy101]; with_reducible exact H2_) | (have H2_ := (Option.bind_some _ _).symm.trans H; with_reducible exact H2_) | with_reducible exact H | (rw [hy101]; exact H) | exact H
    have Ny101 := zA hy101
    clear hy101
    obtain rfl := Option.some.inj H
    go_enter Try.func65, Try.ntmps65
    go_wp2_with (first | ((with_reducible refine gate_dst (N := 3) rfl ?_); refine Kd.R_lit (Kd.int .i64) _ 2 ?hg (N := 3) ?hd (xs := ([] : List Int)) (inner := []) (ok := fun _ => True) (okp := fun _ => True) ?hr ?hp (fun _ hk => hk) trivial (Below.refl _ _) (Nat.le_refl _) (by simp) ?_; (case hd => rfl); (case hg => rfl); (case hr => first | (go_simp; done) | (go_simp; rfl)); (case hp => exact (Reps.none _ _)); intro v102 w3 ho4 hb hg_ hnew_; clear hg_ hnew_; (first | rw [← Ny100.out] at ho4 | (simp only [Int.reduceToNat] at ho4; rw [← Ny100.out] at ho4)); have n0_ := zA (Kd.R_lower ho4 (below_size z1)); have n1_ := zA (below_step z1 hb); clear HB; have HO103 := n0_; have HB := n1_; clear n0_ n1_; clear hb ho4) | ((with_reducible refine gate_builtin (b := .append) (xs := #[.tmp 3, .tmp 4]) rfl ?_); at_builtin; refine Kd.R_append_rows (Kd.int .i64) (w0 := w) w.heap.size rfl (.tmp 3) (.tmp 4) 25 2 (.int .i64 0) 8 rfl Try.underlying25 info2 rfl (by decide) (by omega) v102 y100 l0 _ _ _ (fun _ => True) (fun _ => False) rfl rfl ?aO ?aR (fun _ _ h => h) (fun _ h => h.elim) ?aF ?aB ?aS ?aL ?_; (case aR => repeat (first | exact (Kd.C_below HR0.out HB.out) | (with_reducible refine Kd.C_alloc ?_ _) | (with_reducible refine Kd.C_drewN ?_ _) | (with_reducible refine Kd.C_drew ?_))); (case aB => exact z1); (case aF => exact (fun _ _ => trivial)); (case aO => exact z140); (case aS => exact (below_size z1)); (case aL => have := LMc2.out; omega); intro v104 w5 ho hb hg hat; rw [← Ny101.out] at ho; have n0_ := zA (hb); have n1_ := zA (ho); clear HB HO103; have HB := n0_; have HO105 := n1_; clear n0_ n1_; clear ho hb hg hat))
    go_ret
    exact ⟨_, z15, (by (with_reducible repeat (first | apply Kd.R_alloc | apply Kd.R_drewN | apply Kd.R_drew)); exact HO105.out), z1⟩
  · rw [if_neg c2] at H
    exact absurd H (by simp)

end Go.Proofs.Ytbfhhjekonafdaa.PFnPairRows
