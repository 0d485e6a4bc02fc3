-- WALKS, by a program and by hand
import Derived.Test.YtbfhhjekonafdaaPFnPairRowsx0
import Derived.Test.YtbfhhjekonafdaaPFnPairRowsx2
namespace Go.Proofs.Ytbfhhjekonafdaa.PFnPairRows
open Go.RowKit Go.Proofs.Ytbfhhjekonafdaa.DG Go.Proofs.YtbfhhjekonafdaaW.PrintWords Go.Proofs.YtbfhhjekonafdaaW.PrintLast Go.Proofs.YtbfhhjekonafdaaW.PrintMore
attribute [local go_sem] max2_int min2_int max_two min_two max_three min_three max_four min_four   -- for this text's walks alone
set_option linter.unusedVariables false
set_option linter.unusedSimpArgs false

/-! ### spec_l08OfRank: function 45 -/
mutual
def spec_l08OfRank.l0 : Nat → Int → Int → Int → Option (Int)
  | 0, _, _, _ => none
  | k + 1, x0, x1, x5 => if x0 > 0 then (spec_l08OfRank.l1 k x0 x1 x5 (wrap64 (x0 - 1))) else (some x5)
def spec_l08OfRank.l1 : Nat → Int → Int → Int → Int → Option (Int)
  | 0, _, _, _, _ => none
  | k + 1, x0, x1, x5, x6 => (spec_l08Choose.f k (wrap64 (x6 + 1)) x0).bind fun t100 => (if t100 ≤ x1 then (spec_l08OfRank.l1 k x0 x1 x5 (wrap64 (x6 + 1))) else ((spec_l08Choose.f k x6 x0).bind fun t101 => (if 0 ≤ (IntKind.u64.wrap (x6)) then (spec_l08OfRank.l0 k (wrap64 (x0 - 1)) (wrap64 (x1 - t101)) (Go.bits .or .i64 x5 (shl .i64 1 (IntKind.u64.wrap (x6))))) else (none))))
end
def spec_l08OfRank.f (k : Nat) (a0 : Int) (a1 : Int) : Option (Int) := spec_l08OfRank.l0 k a0 a1 0
theorem spec_l08OfRank.mono_l : ∀ k, (∀ y0 y1 y2, LeO (spec_l08OfRank.l0 k y0 y1 y2) (spec_l08OfRank.l0 (k + 1) y0 y1 y2)) ∧ (∀ y0 y1 y2 y3, LeO (spec_l08OfRank.l1 k y0 y1 y2 y3) (spec_l08OfRank.l1 (k + 1) y0 y1 y2 y3))
  | 0 => ⟨fun _ _ _ r h => by simp [spec_l08OfRank.l0] at h, fun _ _ _ _ r h => by simp [spec_l08OfRank.l1] at h⟩
  | k + 1 => by
    obtain ⟨ih0, ih1⟩ := spec_l08OfRank.mono_l k
    refine ⟨?_, ?_⟩
    · intro y0 y1 y2
      unfold spec_l08OfRank.l0
      repeat' first
      | (with_reducible exact ih0 _ _ _)
      | (with_reducible exact ih1 _ _ _ _)
      | (with_reducible exact spec_l08Choose.mono _ _ _)
      | (with_reducible exact LeO.refl _)
      | (with_reducible exact LeO.none _)
      | (with_reducible refine LeO.ite ?_ ?_)
      | (with_reducible refine LeO.bind ?_ (fun _ => ?_))
    · intro y0 y1 y2 y3
      unfold spec_l08OfRank.l1
      repeat' first
      | (with_reducible exact ih0 _ _ _)
      | (with_reducible exact ih1 _ _ _ _)
      | (with_reducible exact spec_l08Choose.mono _ _ _)
      | (with_reducible exact LeO.refl _)
      | (with_reducible exact LeO.none _)
      | (with_reducible refine LeO.ite ?_ ?_)
      | (with_reducible refine LeO.bind ?_ (fun _ => ?_))
theorem spec_l08OfRank.mono : ∀ a0 a1 k, LeO (spec_l08OfRank.f k a0 a1) (spec_l08OfRank.f (k + 1) a0 a1) := by
  intro a0 a1 k
  obtain ⟨ih0, ih1⟩ := spec_l08OfRank.mono_l k
  unfold spec_l08OfRank.f
  repeat' first
      | (with_reducible exact ih0 _ _ _)
      | (with_reducible exact ih1 _ _ _ _)
      | (with_reducible exact spec_l08Choose.mono _ _ _)
      | (with_reducible exact LeO.refl _)
      | (with_reducible exact LeO.none _)
      | (with_reducible refine LeO.ite ?_ ?_)
      | (with_reducible refine LeO.bind ?_ (fun _ => ?_))
set_option maxHeartbeats 8000000 in
set_option maxRecDepth 100000 in
theorem spec_l08OfRank.calls (k : Nat) (a0 : Int) (a1 : Int) (r : Int) (w : World) (h : spec_l08OfRank.f k a0 a1 = some r) :
    Calls Try.prog 45 #[.int .i64 a0, .int .i64 a1] w fun e w' => e = .returned (.int .i64 r) ∧ Drawn0 w w' := by
  have H : (spec_l08OfRank.l0 k a0 a1 0) = some r := h
  clear h
  have H' := zA H
  clear H
  go_enter Try.func45, Try.ntmps45
  go_wp2
  go_loopg [0, 1, 5] k (fun kq v0 v1 v5 w' => ∃ (x0_1 : Int) (x1_1 : Int) (x5_1 : Int), v0 = .int .i64 x0_1 ∧ v1 = .int .i64 x1_1 ∧ v5 = .int .i64 x5_1 ∧ Aside0 (spec_l08OfRank.l0 kq x0_1 x1_1 x5_1 = some r) ∧ Aside0 (kq ≤ k) ∧ Drawn0 w w')
  case atStart => exact ⟨(a0), (a1), (0), z16, z16, z16, H', ⟨Nat.le_refl _⟩, z46⟩
  case round =>
    clear H'
    try clear p2
    obtain ⟨x0_1, x1_1, x5_1, rfl, rfl, rfl, HA, HK1, ⟨m1, rfl⟩⟩ := hrel
    cases gk with
    | zero => exact absurd HA.out (by simp [spec_l08OfRank.l0])
    | succ k1 =>
      have H := HA.out
      clear HA
      simp only [spec_l08OfRank.l0] at H
      by_cases c3 : x0_1 > 0
      · rw [if_pos c3] at H
        have c3b0 : decide (0 < x0_1) = true := decide_eq_true c3
        clear c3
        have H' := zA H
        clear H
        go_wp2
        go_loopg [6] k1 (fun kq v6 w' => ∃ (x6_2 : Int), v6 = .int .i64 x6_2 ∧ Aside0 (spec_l08OfRank.l1 kq x0_1 x1_1 x5_1 x6_2 = some r) ∧ Aside0 (kq ≤ k1) ∧ Drawn0 w w')
        case atStart => exact ⟨(wrap64 (x0_1 - 1)), z16, H', ⟨Nat.le_refl _⟩, z46⟩
        case round =>
          clear H'
          try clear p2
          try clear c3
          try clear c3b0
          try clear p2
          obtain ⟨x6_2, rfl, HA, HK2, ⟨m2, rfl⟩⟩ := hrel
          cases gk with
          | zero => exact absurd HA.out (by simp [spec_l08OfRank.l1])
          | succ k2 =>
            have H := HA.out
            clear HA
            simp only [spec_l08OfRank.l1] at H
            replace H := zi H
            obtain ⟨t100, A40, H⟩ := H
            (try dsimp -simprocs only at H)
            have A4 := zA A40
            clear A40
            by_cases c5 : t100 ≤ x1_1
            · rw [if_pos c5] at H
              have c5b0 : decide (t100 ≤ x1_1) = true := decide_eq_true c5
              clear c5
              have H' := zA H
              clear H
              go_wp2_with (first | ((with_reducible refine gate_callee (f := 76) rfl ?_); refine goesL_ (some 16) rfl rfl Try.func76 (by kernel_rfl) rfl #[.int .i64 (wrap64 (x6_2 + 1)), .int .i64 x0_1] rfl z3 ?_; (with_reducible refine (spec_l08Choose.calls k2 (wrap64 (x6_2 + 1)) x0_1 t100 _ A4.out).mono ?_); rintro e w' ⟨rfl, ⟨nd, rfl⟩⟩; refine ⟨_, rfl, ?_⟩))
              go_roundg k2
              case measure => have := HK1.out; have := HK2.out; omega
              case rel => exact ⟨(wrap64 (x6_2 + 1)), z16, H', ⟨z97⟩, z46⟩
            · rw [if_neg c5] at H
              have c5b0 : decide (t100 ≤ x1_1) = false := decide_eq_false c5
              clear c5
              replace H := zi H
              obtain ⟨t101, A60, H⟩ := H
              (try dsimp -simprocs only at H)
              have A6 := zA A60
              clear A60
              obtain ⟨ji7, hji7⟩ : ∃ j_ : Int, (IntKind.u64.wrap (x6_2)) = j_ := ⟨_, rfl⟩
              replace H : (if 0 ≤ (ji7) then (spec_l08OfRank.l0 k2 (wrap64 (x0_1 - 1)) (wrap64 (x1_1 - t101)) (Go.bits .or .i64 x5_1 (shl .i64 1 (ji7)))) else (none)) = some r := by first | (rw [hji7] at H; exact H) | (simp only [hji7] at H ⊢; exact H)
              (try rw [hji7] at A4)
              (try rw [hji7] at A6)
              by_cases c8 : 0 ≤ (ji7)
              · rw [if_pos c8] at H
                have c8b0 := eq_true c8
                have c8b1 : decide (0 ≤ (ji7)) = true := decide_eq_true c8
                clear c8
                obtain ⟨ji9, hji9⟩ : ∃ j_ : Int, (shl .i64 1 (ji7)) = j_ := ⟨_, rfl⟩
                replace H : (spec_l08OfRank.l0 k2 (wrap64 (x0_1 - 1)) (wrap64 (x1_1 - t101)) (Go.bits .or .i64 x5_1 (ji9))) = some r := by first | (rw [hji9] at H; exact H) | (simp only [hji9] at H ⊢; exact H)
                (try rw [hji9] at A4)
                (try rw [hji9] at A6)
                have hji9_ : (IntKind.i64.wrap (1 * 2 ^ min (ji7).toNat 64)) = ji9 := hji9
                have hji9z : (ji7) ≤ 64 → (IntKind.i64.wrap (1 * 2 ^ (ji7).toNat)) = ji9 := shl_small hji9
                have hji9u : (IntKind.i64.wrap (2 ^ min (ji7).toNat 64)) = ji9 := by have h_ := hji9_; rw [Int.one_mul] at h_; exact h_
                have hji9v : (ji7) ≤ 64 → (IntKind.i64.wrap (2 ^ (ji7).toNat)) = ji9 := fun hle_ => by have h_ := hji9z hle_; rw [Int.one_mul] at h_; exact h_
                have hji9y : (wrap64 (1 * 2 ^ min (ji7).toNat 64)) = ji9 := (i64_w _).symm.trans hji9_
                have hji9x : (ji7) ≤ 64 → (wrap64 (1 * 2 ^ (ji7).toNat)) = ji9 := fun h_ => (i64_w _).symm.trans (hji9z h_)
                have H' := zA H
                clear H
                go_wp2_with (first | ((with_reducible refine gate_callee (f := 76) rfl ?_); refine goesL_ (some 16) rfl rfl Try.func76 (by kernel_rfl) rfl #[.int .i64 (wrap64 (x6_2 + 1)), .int .i64 x0_1] rfl z3 ?_; (with_reducible refine (spec_l08Choose.calls k2 (wrap64 (x6_2 + 1)) x0_1 t100 _ A4.out).mono ?_); rintro e w' ⟨rfl, ⟨nd, rfl⟩⟩; refine ⟨_, rfl, ?_⟩) | ((with_reducible refine gate_callee (f := 76) rfl ?_); refine goesL_ (some 24) rfl rfl Try.func76 (by kernel_rfl) rfl #[.int .i64 x6_2, .int .i64 x0_1] rfl z3 ?_; (with_reducible refine (spec_l08Choose.calls k2 x6_2 x0_1 t101 _ A6.out).mono ?_); rintro e w' ⟨rfl, ⟨nd, rfl⟩⟩; refine ⟨_, rfl, ?_⟩))
                go_roundg k2
                case measure => have := HK1.out; have := HK2.out; omega
                case rel => exact ⟨(wrap64 (x0_1 - 1)), (wrap64 (x1_1 - t101)), (Go.bits .or .i64 x5_1 (ji9)), z16, z16, (by first | rfl | (simp; done) | (simp only [← hji9] <;> (first | rfl | simp)) | (simp [*]; done)), H', ⟨z97⟩, z46⟩
              · rw [if_neg c8] at H
                exact absurd H (by simp)
      · rw [if_neg c3] at H
        have c3b0 : decide (0 < x0_1) = false := decide_eq_false c3
        clear c3
        obtain rfl := Option.some.inj H
        go_wp2
        go_ret
        exact ⟨z16, z46⟩

/-! ### spec_l01Word: function 46 -/
def spec_l01Word.l0 : Nat → List Int → Int → Int → List Int → Option (Int)
  | 0, _, _, _, _ => none
  | k + 1, x1, x5, x6, x144000 => if x6 < (x1.length : Int) then (if 0 ≤ x6 then (if x6 < (x144000.length : Int) then (spec_l01Word.l0 k x1 (wrap64 ((wrap64 (x5 * (rd x144000 x6))) + (rd x1 x6))) (wrap64 (x6 + 1)) x144000) else (none)) else (none)) else (some x5)
def spec_l01Word.f (k : Nat) (l0_0 : List Int) (l1 : List Int) : Option (Int) := spec_l01Word.l0 k l1 0 0 l0_0
theorem spec_l01Word.mono_l : ∀ k, (∀ y0 y1 y2 y3, LeO (spec_l01Word.l0 k y0 y1 y2 y3) (spec_l01Word.l0 (k + 1) y0 y1 y2 y3))
  | 0 => fun _ _ _ _ r h => by simp [spec_l01Word.l0] at h
  | k + 1 => by
    have ih0 := spec_l01Word.mono_l k
    · intro y0 y1 y2 y3
      unfold spec_l01Word.l0
      repeat' first
      | (with_reducible exact ih0 _ _ _ _)
      | (with_reducible exact LeO.refl _)
      | (with_reducible exact LeO.none _)
      | (with_reducible refine LeO.ite ?_ ?_)
      | (with_reducible refine LeO.bind ?_ (fun _ => ?_))
theorem spec_l01Word.mono : ∀ a0 a1 k, LeO (spec_l01Word.f k a0 a1) (spec_l01Word.f (k + 1) a0 a1) := by
  intro a0 a1 k
  have ih0 := spec_l01Word.mono_l k
  unfold spec_l01Word.f
  repeat' first
      | (with_reducible exact ih0 _ _ _ _)
      | (with_reducible exact LeO.refl _)
      | (with_reducible exact LeO.none _)
      | (with_reducible refine LeO.ite ?_ ?_)
      | (with_reducible refine LeO.bind ?_ (fun _ => ?_))
set_option maxHeartbeats 8000000 in
set_option maxRecDepth 100000 in
theorem spec_l01Word.calls (k : Nat) (A0_0 : Option Addr) (c0_0 : Nat) (l0_0 : List Int) (A1 : Option Addr) (c1 : Nat) (l1 : List Int) (r : Int) (w : World) (hr0_0 : Kd.C (Kd.int .i64) w A0_0 l0_0.length l0_0) (hc0_0 : l0_0.length ≤ c0_0) (hr1 : Kd.C (Kd.int .i64) w A1 l1.length l1) (hc1 : l1.length ≤ c1) (h : spec_l01Word.f k l0_0 l1 = some r) :
    Calls Try.prog 46 #[.agg #[.slice A0_0 l0_0.length c0_0], .slice A1 l1.length c1] w fun e w' => e = .returned (.int .i64 r) ∧ Below w.heap.size w w' := by
  have hu27 := Try.underlying27
  have HR0_0 := zA hr0_0
  have HC0_0 := zA hc0_0
  clear hr0_0 hc0_0
  have HR1 := zA hr1
  have HC1 := zA hc1
  clear hr1 hc1
  have HB := zA (Below.refl w.heap.size w)
  have H : (spec_l01Word.l0 k l1 0 0 l0_0) = some r := h
  clear h
  have H' := zA H
  clear H
  go_enter Try.func46, Try.ntmps46
  go_wp2_with (first | ((with_reducible refine gate_dst (N := 2) rfl ?_); refine box_event ?hg (N := 2) ?hd (cs := #[.slice A0_0 l0_0.length c0_0]) (t := 27) ?hr ?_; (case hd => rfl); (case hg => rfl); (case hr => first | (go_simp; done) | (go_simp; rfl)); intro gb100 hg w3 hbox hb; have n0_ := zA (below_step z1 hb); have n1_ := zA (hbox); have n2_ := zA ((z178 : w.heap.size ≤ gb100)); have n3_ := zA ((z178 : w.heap.size ≤ gb100)); clear HB; have HB := n0_; have BK100 := n1_; have GW100 := n2_; have GE100 := n3_; clear n0_ n1_ n2_ n3_; clear hb hbox hg))
  repeat (go_quiet (first | ((with_reducible refine gate_dst (N := 2) rfl ?_); refine box_event ?hg (N := 2) ?hd (cs := #[.slice A0_0 l0_0.length c0_0]) (t := 27) ?hr ?_; (case hd => rfl); (case hg => rfl); (case hr => first | (go_simp; done) | (go_simp; rfl)); intro gb100 hg w3 hbox hb; have n0_ := zA (below_step z1 hb); have n1_ := zA (hbox); have n2_ := zA ((z178 : w.heap.size ≤ gb100)); have n3_ := zA ((z178 : w.heap.size ≤ gb100)); clear HB; have HB := n0_; have BK100 := n1_; have GW100 := n2_; have GE100 := n3_; clear n0_ n1_ n2_ n3_; clear hb hbox hg)); try go_wp2_with (first | ((with_reducible refine gate_dst (N := 2) rfl ?_); refine box_event ?hg (N := 2) ?hd (cs := #[.slice A0_0 l0_0.length c0_0]) (t := 27) ?hr ?_; (case hd => rfl); (case hg => rfl); (case hr => first | (go_simp; done) | (go_simp; rfl)); intro gb100 hg w3 hbox hb; have n0_ := zA (below_step z1 hb); have n1_ := zA (hbox); have n2_ := zA ((z178 : w.heap.size ≤ gb100)); have n3_ := zA ((z178 : w.heap.size ≤ gb100)); clear HB; have HB := n0_; have BK100 := n1_; have GW100 := n2_; have GE100 := n3_; clear n0_ n1_ n2_ n3_; clear hb hbox hg)))
  go_loopg [5, 6] k (fun kq v5 v6 w' => ∃ (x5_1 : Int) (x6_1 : Int), v5 = .int .i64 x5_1 ∧ v6 = .int .i64 x6_1 ∧ Aside0 (spec_l01Word.l0 kq l1 x5_1 x6_1 l0_0 = some r) ∧ Aside0 (kq ≤ k) ∧ Aside0 (w'.heap[gb100]? = some (.cells #[(.slice A0_0 l0_0.length c0_0)] 27 (0, 0))) ∧ Aside0 (Below w.heap.size w w'))
  case atStart => exact ⟨(0), (0), z16, z16, H', ⟨Nat.le_refl _⟩, ⟨z53⟩, ⟨z28⟩⟩
  case round =>
    clear H'
    try clear c1
    try clear p2
    obtain ⟨x5_1, x6_1, rfl, rfl, HA, HK1, BK100, HB⟩ := hrel
    cases gk with
    | zero => exact absurd HA.out (by simp [spec_l01Word.l0])
    | succ k1 =>
      have H := HA.out
      clear HA
      simp only [spec_l01Word.l0] at H
      by_cases c4 : x6_1 < (l1.length : Int)
      · rw [if_pos c4] at H
        have c4b0 : decide (x6_1 < (l1.length : Int)) = true := decide_eq_true c4
        clear c4
        by_cases c5 : 0 ≤ x6_1
        · rw [if_pos c5] at H
          have c5b0 : decide (0 ≤ x6_1) = true := decide_eq_true c5
          clear c5
          by_cases c6 : x6_1 < (l0_0.length : Int)
          · rw [if_pos c6] at H
            have c6b0 : decide (x6_1 < (l0_0.length : Int)) = true := decide_eq_true c6
            clear c6
            have H' := zA H
            clear H
            obtain ⟨hcz7_0, hfz7_0⟩ := zC1 BK100.out
            have p144 : 0 ≤ (x6_1 : Int) := of_decide_eq_true z14
            have q144 : x6_1 < (l0_0.length : Int) := of_decide_eq_true z14
            obtain ⟨ad144, e144, hx144_0⟩ := Kd.at_int HR0_0.out x6_1 p144 q144
            cases e144
            try replace hx144_0 := (HB.out.cell (World.block_lt_of_cell? w _ hx144_0)).trans hx144_0
            replace p144 := eq_true p144
            replace q144 := eq_true q144
            have p145 : 0 ≤ (x6_1 : Int) := of_decide_eq_true z14
            have q145 : x6_1 < (l1.length : Int) := of_decide_eq_true z14
            obtain ⟨ad145, e145, hx145_0⟩ := Kd.at_int HR1.out x6_1 p145 q145
            cases e145
            try replace hx145_0 := (HB.out.cell (World.block_lt_of_cell? w _ hx145_0)).trans hx145_0
            replace p145 := eq_true p145
            replace q145 := eq_true q145
            go_wp2
            repeat (go_quiet (fail); try go_wp2)
            go_roundg k1
            case measure => have := HK1.out; omega
            case rel => exact ⟨(wrap64 ((wrap64 (x5_1 * (rd l0_0 x6_1))) + (rd l1 x6_1))), (wrap64 (x6_1 + 1)), z16, z16, H', ⟨z99⟩, ⟨z53⟩, ⟨z28⟩⟩
          · rw [if_neg c6] at H
            exact absurd H (by simp)
        · rw [if_neg c5] at H
          exact absurd H (by simp)
      · rw [if_neg c4] at H
        have c4b0 : decide (x6_1 < (l1.length : Int)) = false := decide_eq_false c4
        clear c4
        obtain rfl := Option.some.inj H
        go_wp2
        repeat (go_quiet (fail); try go_wp2)
        go_ret
        exact ⟨z15, z28⟩

/-! ### spec_PairRows: function 8 -/
mutual
def spec_PairRows.l0 : Nat → Int → Int → Int → List Int → Option (List Int × List Int × Int)
  | 0, _, _, _, _ => none
  | k + 1, x0, x6, x7, x153000 => if x7 < x0 then (if x153000.length < 17592186044416 then (spec_PairRows.l0 k x0 x6 (wrap64 (x7 + 1)) (x153000 ++ [2])) else (none)) else (spec_PairRows.l1 k x0 x6 (([0] : List Int)) 0 x153000)
def spec_PairRows.l1 : Nat → Int → Int → List Int → Int → List Int → Option (List Int × List Int × Int)
  | 0, _, _, _, _, _ => none
  | k + 1, x0, x6, x8, x9, x153000 => if x9 < (wrap64 (x6 - 1)) then (spec_PairRows.l2 k x0 x6 x8 x9 (([] : List Int)) 0 x153000) else (some (x153000, x8, 0))
def spec_PairRows.l2 : Nat → Int → Int → List Int → Int → List Int → Int → List Int → Option (List Int × List Int × Int)
  | 0, _, _, _, _, _, _, _ => none
  | k + 1, x0, x6, x8, x9, x10, x11, x153000 => if x11 < x0 then ((spec_l08OfRank.f k (wrap64 (Int.tdiv (wrap64 (x6 + 1)) 2)) x11).bind fun t100 => (if 0 ≤ (IntKind.u64.wrap (x9)) then (if x10.length < 17592186044416 then (spec_PairRows.l2 k x0 x6 x8 x9 (x10 ++ [Go.bits .and .i64 (shr .i64 t100 (IntKind.u64.wrap (x9))) 1]) (wrap64 (x11 + 1)) x153000) else (none)) else (none))) else ((spec_l01Word.f k x153000 x10).bind fun t101 => (if x8.length < 17592186044416 then (spec_PairRows.l1 k x0 x6 (x8 ++ [t101]) (wrap64 (x9 + 1)) x153000) else (none)))
end
def spec_PairRows.f (k : Nat) (a0 : Int) : Option (List Int × List Int × Int) := (spec_l01In.f a0 1 8).bind fun t102 => (if t102 = true then ((spec_l10Pairs.f k a0).bind fun t103 => (spec_PairRows.l0 k a0 t103 0 (([] : List Int)))) else (some (([] : List Int), ([] : List Int), 2)))
theorem spec_PairRows.mono_l : ∀ k, (∀ y0 y1 y2 y3, LeO (spec_PairRows.l0 k y0 y1 y2 y3) (spec_PairRows.l0 (k + 1) y0 y1 y2 y3)) ∧ (∀ y0 y1 y2 y3 y4, LeO (spec_PairRows.l1 k y0 y1 y2 y3 y4) (spec_PairRows.l1 (k + 1) y0 y1 y2 y3 y4)) ∧ (∀ y0 y1 y2 y3 y4 y5 y6, LeO (spec_PairRows.l2 k y0 y1 y2 y3 y4 y5 y6) (spec_PairRows.l2 (k + 1) y0 y1 y2 y3 y4 y5 y6))
  | 0 => ⟨fun _ _ _ _ r h => by simp [spec_PairRows.l0] at h, fun _ _ _ _ _ r h => by simp [spec_PairRows.l1] at h, fun _ _ _ _ _ _ _ r h => by simp [spec_PairRows.l2] at h⟩
  | k + 1 => by
    obtain ⟨ih0, ih1, ih2⟩ := spec_PairRows.mono_l k
    refine ⟨?_, ?_, ?_⟩
    · intro y0 y1 y2 y3
      unfold spec_PairRows.l0
      repeat' first
      | (with_reducible exact ih0 _ _ _ _)
      | (with_reducible exact ih1 _ _ _ _ _)
      | (with_reducible exact ih2 _ _ _ _ _ _ _)
      | (with_reducible exact spec_l01Word.mono _ _ _)
      | (with_reducible exact spec_l08OfRank.mono _ _ _)
      | (with_reducible exact spec_l10Pairs.mono _ _)
      | (with_reducible exact LeO.refl _)
      | (with_reducible exact LeO.none _)
      | (with_reducible refine LeO.ite ?_ ?_)
      | (with_reducible refine LeO.bind ?_ (fun _ => ?_))
    · intro y0 y1 y2 y3 y4
      unfold spec_PairRows.l1
      repeat' first
      | (with_reducible exact ih0 _ _ _ _)
      | (with_reducible exact ih1 _ _ _ _ _)
      | (with_reducible exact ih2 _ _ _ _ _ _ _)
      | (with_reducible exact spec_l01Word.mono _ _ _)
      | (with_reducible exact spec_l08OfRank.mono _ _ _)
      | (with_reducible exact spec_l10Pairs.mono _ _)
      | (with_reducible exact LeO.refl _)
      | (with_reducible exact LeO.none _)
      | (with_reducible refine LeO.ite ?_ ?_)
      | (with_reducible refine LeO.bind ?_ (fun _ => ?_))
    · intro y0 y1 y2 y3 y4 y5 y6
      unfold spec_PairRows.l2
      repeat' first
      | (with_reducible exact ih0 _ _ _ _)
      | (with_reducible exact ih1 _ _ _ _ _)
      | (with_reducible exact ih2 _ _ _ _ _ _ _)
      | (with_reducible exact spec_l01Word.mono _ _ _)
      | (with_reducible exact spec_l08OfRank.mono _ _ _)
      | (with_reducible exact spec_l10Pairs.mono _ _)
      | (with_reducible exact LeO.refl _)
      | (with_reducible exact LeO.none _)
      | (with_reducible refine LeO.ite ?_ ?_)
      | (with_reducible refine LeO.bind ?_ (fun _ => ?_))
theorem spec_PairRows.mono : ∀ a0 k, LeO (spec_PairRows.f k a0) (spec_PairRows.f (k + 1) a0) := by
  intro a0 k
  obtain ⟨ih0, ih1, ih2⟩ := spec_PairRows.mono_l k
  unfold spec_PairRows.f
  repeat' first
      | (with_reducible exact ih0 _ _ _ _)
      | (with_reducible exact ih1 _ _ _ _ _)
      | (with_reducible exact ih2 _ _ _ _ _ _ _)
      | (with_reducible exact spec_l01Word.mono _ _ _)
      | (with_reducible exact spec_l08OfRank.mono _ _ _)
      | (with_reducible exact spec_l10Pairs.mono _ _)
      | (with_reducible exact LeO.refl _)
      | (with_reducible exact LeO.none _)
      | (with_reducible refine LeO.ite ?_ ?_)
      | (with_reducible refine LeO.bind ?_ (fun _ => ?_))
set_option maxHeartbeats 8000000 in
set_option maxRecDepth 100000 in
theorem spec_PairRows.calls (k : Nat) (a0 : Int) (r1 : List Int) (r2 : List Int) (r3 : Int) (w : World) (h : spec_PairRows.f k a0 = some (r1, r2, r3)) :
    Calls Try.prog 8 #[.int .i64 a0] w fun e w' => ∃ v0_ v1_ : Value, e = .returned (.tuple #[.agg #[v0_], v1_, .int .i64 r3]) ∧ Kd.R (Kd.int .i64) 2 w' w.heap.size (fun k_ => some k_ ≠ (v1_ : Value).ownBlock) v0_ r1 ∧ Kd.R (Kd.int .i64) 2 w' w.heap.size (fun k_ => some k_ ≠ (v0_ : Value).ownBlock) v1_ r2 ∧ Below w.heap.size w w' := by
  have hu27 := Try.underlying27
  have HB := zA (Below.refl w.heap.size w)
  have H := h
  unfold spec_PairRows.f at H
  (try dsimp -simprocs only at H)
  clear h
  replace H := zi H
  obtain ⟨t102, A20, H⟩ := H
  (try dsimp -simprocs only at H)
  have A2 := zA A20
  clear A20
  by_cases c3 : t102 = true
  · subst c3
    have H1 : ((spec_l10Pairs.f k a0).bind fun t103 => (spec_PairRows.l0 k a0 t103 0 (([] : List Int)))) = some (r1, r2, r3) := by rw [if_pos rfl] at H; exact H
    clear H
    have H := H1
    clear H1
    obtain ⟨y104, hy104⟩ : ∃ y_ : List Int, y_ = (([] : List Int)) := ⟨_, rfl⟩
    replace H : ((spec_l10Pairs.f k a0).bind fun t103 => (spec_PairRows.l0 k a0 t103 0 y104)) = some (r1, r2, r3) := by first | (rw [hy104]; with_reducible exact H) | (have H2_ := (Option.bind_some _ _).symm.trans H; rw [hy104]; with_reducible exact H2_) | (have H2_ := (Option.bind_some _ _).symm.trans H; with_reducible exact H2_) | with_reducible exact H | (rw [hy104]; exact H) | exact H
    have Ny104 := zA hy104
    clear hy104
    replace H := zi H
    obtain ⟨t103, A40, H⟩ := H
    replace H : (spec_PairRows.l0 k a0 t103 0 y104) = some (r1, r2, r3) := H
    have A4 := zA A40
    clear A40
    have H' := zA H
    clear H
    go_enter Try.func8, Try.ntmps8
    go_wp2_with (first | ((with_reducible refine gate_dst (N := 2) rfl ?_); refine box_event ?hg (N := 2) ?hd (cs := #[.slice none 0 0]) (t := 27) ?hr ?_; (case hd => rfl); (case hg => rfl); (case hr => first | (go_simp; done) | (go_simp; rfl)); intro gb105 hg w5 hbox hb; have n0_ := zA (below_step z1 hb); have n1_ := zA (hbox); have n2_ := zA ((z178 : w.heap.size ≤ gb105)); have n3_ := zA ((z178 : w.heap.size ≤ gb105)); clear HB; have HB := n0_; have BK105 := n1_; have GW105 := n2_; have GE105 := n3_; clear n0_ n1_ n2_ n3_; clear hb hbox hg) | ((with_reducible refine gate_callee (f := 43) rfl ?_); refine goesL_ (some 13) rfl rfl Try.func43 (by kernel_rfl) rfl #[.int .i64 a0, .int .i64 1, .int .i64 8] rfl z3 ?_; (with_reducible refine (spec_l01In.calls a0 1 8 true _ A2.out).mono ?_); rintro e w' ⟨rfl, ⟨nd, rfl⟩⟩; refine ⟨_, rfl, ?_⟩; (try (rw [drewN_self w5]; generalize hq_ : World.drewN w5 _ = w5; have n0_ : Aside0 (w5.heap[gb105]? = some (.cells #[.slice none 0 0] 27 (0, 0))) := ⟨(by rw [← hq_]; exact z57)⟩; have n1_ : Aside0 (Below w.heap.size w w5) := ⟨(by rw [← hq_]; exact z55)⟩; clear BK105 HB hq_; have BK105 := n0_; have HB := n1_; clear n0_ n1_))) | ((with_reducible refine gate_dst (N := 16) rfl ?_); refine Kd.R_lit (Kd.int .i64) _ 2 ?hg (N := 16) ?hd (xs := ([] : List Int)) (inner := []) (ok := fun _ => True) (okp := fun _ => True) ?hr ?hp (fun _ hk => hk) trivial (Below.refl _ _) (Nat.le_refl _) (by simp) ?_; (case hd => rfl); (case hg => rfl); (case hr => first | (go_simp; done) | (go_simp; rfl)); (case hp => exact (Reps.none _ _)); intro v106 w6 ho7 hb hg_ hnew_; clear hg_ hnew_; (first | rw [← Ny104.out] at ho7 | (simp only [Int.reduceToNat] at ho7; rw [← Ny104.out] at ho7)); have n0_ := zA (Kd.R_lower ho7 (below_size z55)); have n1_ := zBB BK105 hb; have n2_ := zA (below_step z55 hb); clear BK105 HB; have HO107 := n0_; have BK105 := n1_; have HB := n2_; clear n0_ n1_ n2_; clear hb ho7; obtain ⟨Ao8, co8, eo8⟩ := Kd.R_slice HO107.out; subst eo8) | ((with_reducible refine gate_callee (f := 44) rfl ?_); refine goesL_ (some 19) rfl rfl Try.func44 (by kernel_rfl) rfl #[.int .i64 a0] rfl z3 ?_; (with_reducible refine (spec_l10Pairs.calls k a0 t103 _ A4.out).mono ?_); rintro e w' ⟨rfl, ⟨nd, rfl⟩⟩; refine ⟨_, rfl, ?_⟩; (try (rw [drewN_self w6]; generalize hq_ : World.drewN w6 _ = w6; have n0_ : Aside0 (Kd.R (Kd.int .i64) 2 w6 w.heap.size (fun _ => True) (.slice Ao8 y104.length co8) y104) := ⟨(by rw [← hq_]; exact z119)⟩; have n1_ : Aside0 (w6.heap[gb105]? = some (.cells #[.slice none 0 0] 27 (0, 0))) := ⟨(by rw [← hq_]; exact z57)⟩; have n2_ : Aside0 (Below w.heap.size w w6) := ⟨(by rw [← hq_]; exact z55)⟩; clear HO107 BK105 HB hq_; have HO107 := n0_; have BK105 := n1_; have HB := n2_; clear n0_ n1_ n2_))) | ((with_reducible refine gate_dst (N := 5) rfl ?_); refine box_event ?hg (N := 5) ?hd (cs := #[.slice none 0 0]) (t := 27) ?hr ?_; (case hd => rfl); (case hg => rfl); (case hr => first | (go_simp; done) | (go_simp; rfl)); intro gb108 hg w9 hbox hb; have n0_ := zA (Kd.R_below z119 hb); have n1_ := zBB BK105 hb; have n2_ := zA (below_step z55 hb); have n3_ := zA (hbox); have n4_ := zA (((by rw [hg]; exact (below_size z55)) : w.heap.size ≤ gb108)); have n5_ := zA (((by rw [hg]; exact (below_size z55)) : w.heap.size ≤ gb108)); have n6_ := zA (((by rw [hg]; exact Nat.ne_of_lt (blk_lt (g := gb105) (o := .cells #[.slice none 0 0] 27 (0, 0)) z57)) : gb105 ≠ gb108)); have n7_ := zA (((by rw [hg]; exact Nat.ne_of_gt (blk_lt (g := gb105) (o := .cells #[.slice none 0 0] 27 (0, 0)) z57)) : gb108 ≠ gb105)); clear HO107 BK105 HB; have HO107 := n0_; have BK105 := n1_; have HB := n2_; have BK108 := n3_; have GW108 := n4_; have GE108 := n5_; have NB105_108 := n6_; have NB108_105 := n7_; clear n0_ n1_ n2_ n3_ n4_ n5_ n6_ n7_; clear hb hbox hg; have hnb10 := NB108_105.out; have hnc10 := NB105_108.out; obtain ⟨hcz11_0, hfz11_0⟩ := zC1 BK108.out))
    go_loopg [7] k (fun kq v7 w' => ∃ (x7_1 : Int) (x153000_1 : List Int) (u153000 : Value), v7 = .int .i64 x7_1 ∧ Aside0 (spec_PairRows.l0 kq a0 t103 x7_1 x153000_1 = some (r1, r2, r3)) ∧ Aside0 (kq ≤ k) ∧ Aside0 (Kd.R (Kd.int .i64) 2 w' w.heap.size (fun _ => True) u153000 x153000_1) ∧ Aside0 (w'.heap[gb105]? = some (.cells #[(.slice none 0 0)] 27 (0, 0))) ∧ Aside0 (w'.heap[gb108]? = some (.cells #[u153000] 27 (0, 0))) ∧ Aside0 (Below w.heap.size w w'))
    case atStart => exact ⟨(0), (y104), (.slice Ao8 y104.length co8), z16, H', ⟨Nat.le_refl _⟩, ⟨(by (with_reducible repeat (first | apply Kd.R_alloc | apply Kd.R_drewN | apply Kd.R_drew)); exact Kd.R_mono (Kd.R_far (p := ⟨gb108, 0, none⟩) (Kd.R_types HO107.out BK108.out (by decide)) (fun _ hk => hk.2) (.slice Ao8 y104.length co8)) (fun _ hk => trivial))⟩, ⟨z113⟩, ⟨(by (with_reducible repeat (first | refine blk_drewN ?_ _ | refine blk_drew ?_ | refine blk_alloc ?_ _)); refine blk_put (cs := #[.slice none 0 0]) ?_ 0 _ rfl; (with_reducible repeat (first | refine blk_drewN ?_ _ | refine blk_drew ?_ | refine blk_alloc ?_ _)); exact BK108.out)⟩, ⟨z29⟩⟩
    case round =>
      clear H'
      try clear c1
      try clear p2
      try clear c3
      try clear c4
      try clear c8
      try clear c10
      try clear hcz11_0
      try clear hfz11_0
      obtain ⟨x7_1, x153000_1, u153000, rfl, HA, HK1, HO_153000, BK105, BK108, HB⟩ := hrel
      cases gk with
      | zero => exact absurd HA.out (by simp [spec_PairRows.l0])
      | succ k1 =>
        have H := HA.out
        clear HA
        simp only [spec_PairRows.l0] at H
        by_cases c12 : x7_1 < a0
        · rw [if_pos c12] at H
          have c12b0 : decide (x7_1 < a0) = true := decide_eq_true c12
          clear c12
          by_cases c13 : x153000_1.length < 17592186044416
          · rw [if_pos c13] at H
            have LMc13 := zA c13
            clear c13
            obtain ⟨y109, hy109⟩ : ∃ y_ : List Int, y_ = (x153000_1 ++ [2]) := ⟨_, rfl⟩
            replace H : (spec_PairRows.l0 k1 a0 t103 (wrap64 (x7_1 + 1)) y109) = some (r1, r2, r3) := by first | (rw [hy109]; with_reducible exact H) | (have H2_ := (Option.bind_some _ _).symm.trans H; rw [hy109]; with_reducible exact H2_) | (have H2_ := (Option.bind_some _ _).symm.trans H; with_reducible exact H2_) | with_reducible exact H | (rw [hy109]; exact H) | exact H
            have Ny109 := zA hy109
            clear hy109
            have H' := zA H
            clear H
            have hnb14 := NB108_105.out
            have hnc14 := NB105_108.out
            obtain ⟨hcz15_0, hfz15_0⟩ := zC1 BK108.out
            go_wp2_with (first | ((with_reducible refine gate_builtin (b := .append) (xs := #[.tmp 26, .tmp 27]) rfl ?_); at_builtin; refine Kd.R_append (Kd.int .i64) (w0 := w) w.heap.size rfl (.tmp 26) (.tmp 27) 25 2 (.int .i64 0) 8 rfl Try.underlying25 info2 rfl (by decide) (by omega) u153000 x153000_1 2 [.int .i64 2] (fun _ => True) (fun _ => False) rfl rfl ?aP (fun _ hk => hk.elim) ?aF ?aO ?aB ?aS ?aL ?_; (case aP => exact rfl); (case aB => exact z29); (case aF => exact (fun _ _ => trivial)); (case aO => exact z69); (case aS => exact (below_size z29)); (case aL => have := LMc13.out; omega); intro v110 w16 ho hb hg hat; rw [← Ny109.out] at ho; have n0_ := zA (blk_grown (g := gb105) (o := .cells #[.slice none 0 0] 27 (0, 0)) z57 hg (Kd.R_ne HO_153000.out BK105.out (by decide))); have n1_ := zA (blk_grown (g := gb108) (o := .cells #[u153000] 27 (0, 0)) z82 hg (Kd.R_ne HO_153000.out BK108.out (by decide))); have n2_ := zA (hb); have n3_ := zA (ho); clear BK105 BK108 HB HO_153000; have BK105 := n0_; have BK108 := n1_; have HB := n2_; have HO111 := n3_; clear n0_ n1_ n2_ n3_; clear ho hb hg hat; obtain ⟨Ao17, co17, eo17⟩ := Kd.R_slice HO111.out; subst eo17; obtain ⟨hcz18_0, hfz18_0⟩ := zC1 BK108.out))
            go_roundg k1
            case measure => have := HK1.out; omega
            case rel => exact ⟨(wrap64 (x7_1 + 1)), (y109), (.slice Ao17 y109.length co17), z16, H', ⟨z99⟩, ⟨(by (with_reducible repeat (first | apply Kd.R_alloc | apply Kd.R_drewN | apply Kd.R_drew)); exact Kd.R_mono (Kd.R_far (p := ⟨gb108, 0, none⟩) (Kd.R_types HO111.out BK108.out (by decide)) (fun _ hk => hk.2) (.slice Ao17 y109.length co17)) (fun _ hk => trivial))⟩, ⟨z113⟩, ⟨(by (with_reducible repeat (first | refine blk_drewN ?_ _ | refine blk_drew ?_ | refine blk_alloc ?_ _)); refine blk_put (cs := #[u153000]) ?_ 0 _ rfl; (with_reducible repeat (first | refine blk_drewN ?_ _ | refine blk_drew ?_ | refine blk_alloc ?_ _)); exact BK108.out)⟩, ⟨z29⟩⟩
          · rw [if_neg c13] at H
            exact absurd H (by simp)
        · rw [if_neg c12] at H
          have c12b0 : decide (x7_1 < a0) = false := decide_eq_false c12
          clear c12
          obtain ⟨y112, hy112⟩ : ∃ y_ : List Int, y_ = (([0] : List Int)) := ⟨_, rfl⟩
          replace H : (spec_PairRows.l1 k1 a0 t103 y112 0 x153000_1) = some (r1, r2, r3) := by first | (rw [hy112]; with_reducible exact H) | (have H2_ := (Option.bind_some _ _).symm.trans H; rw [hy112]; with_reducible exact H2_) | (have H2_ := (Option.bind_some _ _).symm.trans H; with_reducible exact H2_) | with_reducible exact H | (rw [hy112]; exact H) | exact H
          have Ny112 := zA hy112
          clear hy112
          have H' := zA H
          clear H
          go_wp2_with (first | ((with_reducible refine gate_dst (N := 30) rfl ?_); refine Kd.R_lit (Kd.int .i64) _ 2 ?hg (N := 30) ?hd (xs := ([0] : List Int)) (inner := [.int .i64 0]) (ok := fun _ => True) (okp := fun _ => True) ?hr ?hp (fun _ hk => hk) trivial (Below.refl _ _) (Nat.le_refl _) (by simp) ?_; (case hd => rfl); (case hg => rfl); (case hr => first | (go_simp; done) | (go_simp; rfl)); (case hp => exact (Reps.one (show Kd.M (Kd.int .i64) _ _ _ 0 [.int .i64 0] from rfl) (Reps.none _ _))); intro v113 w19 ho20 hb hg_ hnew_; clear hg_ hnew_; (first | rw [← Ny112.out] at ho20 | (simp only [Int.reduceToNat] at ho20; rw [← Ny112.out] at ho20)); have n0_ := zA (Kd.R_elder' z69 (Kd.R_base ho20) hb); have n1_ := zA (Kd.R_lower (Kd.R_new' ho20 (Kd.R_lt z69)) (below_size z29)); have n2_ := zBB BK105 hb; have n3_ := zBB BK108 hb; have n4_ := zA (below_step z29 hb); clear HO_153000 BK105 BK108 HB; have HO_153000 := n0_; have HO114 := n1_; have BK105 := n2_; have BK108 := n3_; have HB := n4_; clear n0_ n1_ n2_ n3_ n4_; clear hb ho20))
          go_loopg [8, 9] k1 (fun kq v8 v9 w' => ∃ (x8_2 : List Int) (x9_2 : Int), v9 = .int .i64 x9_2 ∧ Aside0 (spec_PairRows.l1 kq a0 t103 x8_2 x9_2 x153000_1 = some (r1, r2, r3)) ∧ Aside0 (kq ≤ k1) ∧ Aside0 (Kd.R (Kd.int .i64) 2 w' w.heap.size (fun k_ => some k_ ≠ (u153000 : Value).ownBlock) v8 x8_2) ∧ Aside0 (Kd.R (Kd.int .i64) 2 w' w.heap.size (fun k_ => some k_ ≠ (v8 : Value).ownBlock) u153000 x153000_1) ∧ Aside0 (w'.heap[gb105]? = some (.cells #[(.slice none 0 0)] 27 (0, 0))) ∧ Aside0 (w'.heap[gb108]? = some (.cells #[u153000] 27 (0, 0))) ∧ Aside0 (Below w.heap.size w w'))
          case atStart => exact ⟨(y112), (0), z16, H', ⟨Nat.le_refl _⟩, ⟨(by (with_reducible repeat (first | apply Kd.R_alloc | apply Kd.R_drewN | apply Kd.R_drew)); exact Kd.R_mono HO114.out (fun _ hk => hk.2))⟩, ⟨z152⟩, ⟨z57⟩, ⟨z82⟩, ⟨z29⟩⟩
          case round =>
            clear H'
            try clear c1
            try clear p2
            try clear c3
            try clear c4
            try clear p6
            try clear c8
            try clear c10
            try clear c12
            try clear c12b0
            try clear c13
            try clear c14
            try clear hcz11_0
            try clear hcz15_0
            try clear hcz18_0
            try clear hfz11_0
            try clear hfz15_0
            try clear hfz18_0
            try clear p2
            obtain ⟨x8_2, x9_2, rfl, HA, HK2, HO_8, HO_153000, BK105, BK108, HB⟩ := hrel
            cases gk with
            | zero => exact absurd HA.out (by simp [spec_PairRows.l1])
            | succ k2 =>
              have H := HA.out
              clear HA
              simp only [spec_PairRows.l1] at H
              by_cases c21 : x9_2 < (wrap64 (t103 - 1))
              · rw [if_pos c21] at H
                have c21b0 : decide (x9_2 < (wrap64 (t103 - 1))) = true := decide_eq_true c21
                clear c21
                obtain ⟨y115, hy115⟩ : ∃ y_ : List Int, y_ = (([] : List Int)) := ⟨_, rfl⟩
                replace H : (spec_PairRows.l2 k2 a0 t103 x8_2 x9_2 y115 0 x153000_1) = some (r1, r2, r3) := by first | (rw [hy115]; with_reducible exact H) | (have H2_ := (Option.bind_some _ _).symm.trans H; rw [hy115]; with_reducible exact H2_) | (have H2_ := (Option.bind_some _ _).symm.trans H; with_reducible exact H2_) | with_reducible exact H | (rw [hy115]; exact H) | exact H
                have Ny115 := zA hy115
                clear hy115
                have H' := zA H
                clear H
                go_wp2_with (first | ((with_reducible refine gate_dst (N := 37) rfl ?_); refine Kd.R_lit (Kd.int .i64) _ 2 ?hg (N := 37) ?hd (xs := ([] : List Int)) (inner := []) (ok := fun _ => True) (okp := fun _ => True) ?hr ?hp (fun _ hk => hk) trivial (Below.refl _ _) (Nat.le_refl _) (by simp) ?_; (case hd => rfl); (case hg => rfl); (case hr => first | (go_simp; done) | (go_simp; rfl)); (case hp => exact (Reps.none _ _)); intro v116 w22 ho23 hb hg_ hnew_; clear hg_ hnew_; (first | rw [← Ny115.out] at ho23 | (simp only [Int.reduceToNat] at ho23; rw [← Ny115.out] at ho23)); have n0_ := zA (Kd.R_elder' z37 (Kd.R_base ho23) hb); have n1_ := zA (Kd.R_elder' z69 (Kd.R_base ho23) hb); have n2_ := zA (Kd.R_lower (Kd.R_new' (Kd.R_new' ho23 (Kd.R_lt z37)) (Kd.R_lt z69)) (below_size z29)); have n3_ := zBB BK105 hb; have n4_ := zBB BK108 hb; have n5_ := zA (below_step z29 hb); clear HO_8 HO_153000 BK105 BK108 HB; have HO_8 := n0_; have HO_153000 := n1_; have HO117 := n2_; have BK105 := n3_; have BK108 := n4_; have HB := n5_; clear n0_ n1_ n2_ n3_ n4_ n5_; clear hb ho23))
                go_loopg [10, 11] k2 (fun kq v10 v11 w' => ∃ (x10_3 : List Int) (x11_3 : Int), v11 = .int .i64 x11_3 ∧ Aside0 (spec_PairRows.l2 kq a0 t103 x8_2 x9_2 x10_3 x11_3 x153000_1 = some (r1, r2, r3)) ∧ Aside0 (kq ≤ k2) ∧ Aside0 (Kd.R (Kd.int .i64) 2 w' w.heap.size (fun k_ => some k_ ≠ (v10 : Value).ownBlock ∧ some k_ ≠ (u153000 : Value).ownBlock) u8 x8_2) ∧ Aside0 (Kd.R (Kd.int .i64) 2 w' w.heap.size (fun k_ => some k_ ≠ (u8 : Value).ownBlock ∧ some k_ ≠ (u153000 : Value).ownBlock) v10 x10_3) ∧ Aside0 (Kd.R (Kd.int .i64) 2 w' w.heap.size (fun k_ => some k_ ≠ (u8 : Value).ownBlock ∧ some k_ ≠ (v10 : Value).ownBlock) u153000 x153000_1) ∧ Aside0 (w'.heap[gb105]? = some (.cells #[(.slice none 0 0)] 27 (0, 0))) ∧ Aside0 (w'.heap[gb108]? = some (.cells #[u153000] 27 (0, 0))) ∧ Aside0 (Below w.heap.size w w'))
                case atStart => exact ⟨(y115), (0), z16, H', ⟨Nat.le_refl _⟩, ⟨z77⟩, ⟨(by (with_reducible repeat (first | apply Kd.R_alloc | apply Kd.R_drewN | apply Kd.R_drew)); exact Kd.R_mono HO117.out (fun _ hk => ⟨hk.1.2, hk.2⟩))⟩, ⟨z69⟩, ⟨z57⟩, ⟨z82⟩, ⟨z29⟩⟩
                case round =>
                  clear H'
                  try clear c1
                  try clear c2
                  try clear p2
                  try clear c3
                  try clear c4
                  try clear p6
                  try clear c8
                  try clear c10
                  try clear c12
                  try clear c12b0
                  try clear c13
                  try clear c14
                  try clear c21
                  try clear c21b0
                  try clear hcz11_0
                  try clear hcz15_0
                  try clear hcz18_0
                  try clear hfz11_0
                  try clear hfz15_0
                  try clear hfz18_0
                  try clear p2
                  try clear p6
                  obtain ⟨x10_3, x11_3, rfl, HA, HK3, HO_8, HO_10, HO_153000, BK105, BK108, HB⟩ := hrel
                  cases gk with
                  | zero => exact absurd HA.out (by simp [spec_PairRows.l2])
                  | succ k3 =>
                    have H := HA.out
                    clear HA
                    simp only [spec_PairRows.l2] at H
                    by_cases c24 : x11_3 < a0
                    · rw [if_pos c24] at H
                      have c24b0 : decide (x11_3 < a0) = true := decide_eq_true c24
                      clear c24
                      replace H := zi H
                      obtain ⟨t100, A250, H⟩ := H
                      (try dsimp -simprocs only at H)
                      have A25 := zA A250
                      clear A250
                      obtain ⟨ji26, hji26⟩ : ∃ j_ : Int, (IntKind.u64.wrap (x9_2)) = j_ := ⟨_, rfl⟩
                      replace H : (if 0 ≤ (ji26) then (if x10_3.length < 17592186044416 then (spec_PairRows.l2 k3 a0 t103 x8_2 x9_2 (x10_3 ++ [Go.bits .and .i64 (shr .i64 t100 (ji26)) 1]) (wrap64 (x11_3 + 1)) x153000_1) else (none)) else (none)) = some (r1, r2, r3) := by first | (rw [hji26] at H; exact H) | (simp only [hji26] at H ⊢; exact H)
                      (try rw [hji26] at A25)
                      by_cases c27 : 0 ≤ (ji26)
                      · rw [if_pos c27] at H
                        have c27b0 := eq_true c27
                        have c27b1 : decide (0 ≤ (ji26)) = true := decide_eq_true c27
                        clear c27
                        obtain ⟨ji28, hji28⟩ : ∃ j_ : Int, (shr .i64 t100 (ji26)) = j_ := ⟨_, rfl⟩
                        replace H : (if x10_3.length < 17592186044416 then (spec_PairRows.l2 k3 a0 t103 x8_2 x9_2 (x10_3 ++ [Go.bits .and .i64 (ji28) 1]) (wrap64 (x11_3 + 1)) x153000_1) else (none)) = some (r1, r2, r3) := by first | (rw [hji28] at H; exact H) | (simp only [hji28] at H ⊢; exact H)
                        (try rw [hji28] at A25)
                        have hji28_ : (t100 / 2 ^ min (ji26).toNat 64) = ji28 := hji28
                        have hji28z : (ji26) ≤ 64 → (t100 / 2 ^ (ji26).toNat) = ji28 := shr_small hji28
                        by_cases c29 : x10_3.length < 17592186044416
                        · rw [if_pos c29] at H
                          have LMc29 := zA c29
                          clear c29
                          obtain ⟨y118, hy118⟩ : ∃ y_ : List Int, y_ = (x10_3 ++ [Go.bits .and .i64 (ji28) 1]) := ⟨_, rfl⟩
                          replace H : (spec_PairRows.l2 k3 a0 t103 x8_2 x9_2 y118 (wrap64 (x11_3 + 1)) x153000_1) = some (r1, r2, r3) := by first | (rw [hy118]; with_reducible exact H) | (have H2_ := (Option.bind_some _ _).symm.trans H; rw [hy118]; with_reducible exact H2_) | (have H2_ := (Option.bind_some _ _).symm.trans H; with_reducible exact H2_) | with_reducible exact H | (rw [hy118]; exact H) | exact H
                          have Ny118 := zA hy118
                          clear hy118
                          have H' := zA H
                          clear H
                          go_wp2_with (first | ((with_reducible refine gate_callee (f := 45) rfl ?_); refine goesL_ (some 48) rfl rfl Try.func45 (by kernel_rfl) rfl #[.int .i64 (wrap64 (Int.tdiv (wrap64 (t103 + 1)) 2)), .int .i64 x11_3] rfl z3 ?_; (with_reducible refine (spec_l08OfRank.calls k3 (wrap64 (Int.tdiv (wrap64 (t103 + 1)) 2)) x11_3 t100 _ A25.out).mono ?_); rintro e w' ⟨rfl, ⟨nd, rfl⟩⟩; refine ⟨_, rfl, ?_⟩) | ((with_reducible refine gate_builtin (b := .append) (xs := #[.tmp 43, .tmp 53]) rfl ?_); at_builtin; refine Kd.R_append (Kd.int .i64) (w0 := w) w.heap.size rfl (.tmp 43) (.tmp 53) 25 2 (.int .i64 0) 8 rfl Try.underlying25 info2 rfl (by decide) (by omega) u10 x10_3 (Go.bits .and .i64 (ji28) 1) [.int .i64 (Go.bits .and .i64 (ji28) 1)] (fun k_ => some k_ ≠ (u8 : Value).ownBlock ∧ some k_ ≠ (u153000 : Value).ownBlock) (fun _ => False) rfl rfl ?aP (fun _ hk => hk.elim) ?aF ?aO ?aB ?aS ?aL ?_; (case aP => exact rfl); (case aB => exact z29); (case aF => exact (fun k_ hk => ⟨Kd.fresh' (Kd.R_lt z37) k_ hk, Kd.fresh' (Kd.R_lt z69) k_ hk⟩)); (case aO => exact z58); (case aS => exact (below_size z29)); (case aL => have := LMc29.out; omega); intro v119 w30 ho hb hg hat; rw [← Ny118.out] at ho; have n0_ := zA (Kd.R_after (ok := (fun k_ => some k_ ≠ (u153000 : Value).ownBlock)) z77 hg hat); have n1_ := zA (Kd.R_after (ok := (fun k_ => some k_ ≠ (u8 : Value).ownBlock)) z69 hg hat); have n2_ := zA (blk_grown (g := gb105) (o := .cells #[.slice none 0 0] 27 (0, 0)) z57 hg (Kd.R_ne HO_10.out BK105.out (by decide))); have n3_ := zA (blk_grown (g := gb108) (o := .cells #[u153000] 27 (0, 0)) z82 hg (Kd.R_ne HO_10.out BK108.out (by decide))); have n4_ := zA (hb); have n5_ := zA (ho); clear HO_8 HO_153000 BK105 BK108 HB HO_10; have HO_8 := n0_; have HO_153000 := n1_; have BK105 := n2_; have BK108 := n3_; have HB := n4_; have HO120 := n5_; clear n0_ n1_ n2_ n3_ n4_ n5_; clear ho hb hg hat))
                          go_roundg k3
                          case measure => have := HK1.out; have := HK2.out; have := HK3.out; omega
                          case rel => exact ⟨(y118), (wrap64 (x11_3 + 1)), z16, H', ⟨z149⟩, ⟨z77⟩, ⟨(by (with_reducible repeat (first | apply Kd.R_alloc | apply Kd.R_drewN | apply Kd.R_drew)); exact HO120.out)⟩, ⟨z69⟩, ⟨z57⟩, ⟨z82⟩, ⟨z29⟩⟩
                        · rw [if_neg c29] at H
                          exact absurd H (by simp)
                      · rw [if_neg c27] at H
                        exact absurd H (by simp)
                    · rw [if_neg c24] at H
                      have c24b0 : decide (x11_3 < a0) = false := decide_eq_false c24
                      clear c24
                      replace H := zi H
                      obtain ⟨t101, A310, H⟩ := H
                      (try dsimp -simprocs only at H)
                      have A31 := zA A310
                      clear A310
                      by_cases c32 : x8_2.length < 17592186044416
                      · rw [if_pos c32] at H
                        have LMc32 := zA c32
                        clear c32
                        obtain ⟨y121, hy121⟩ : ∃ y_ : List Int, y_ = (x8_2 ++ [t101]) := ⟨_, rfl⟩
                        replace H : (spec_PairRows.l1 k3 a0 t103 y121 (wrap64 (x9_2 + 1)) x153000_1) = some (r1, r2, r3) := by first | (rw [hy121]; with_reducible exact H) | (have H2_ := (Option.bind_some _ _).symm.trans H; rw [hy121]; with_reducible exact H2_) | (have H2_ := (Option.bind_some _ _).symm.trans H; with_reducible exact H2_) | with_reducible exact H | (rw [hy121]; exact H) | exact H
                        have Ny121 := zA hy121
                        clear hy121
                        have H' := zA H
                        clear H
                        have hnb33 := NB108_105.out
                        have hnc33 := NB105_108.out
                        obtain ⟨hcz34_0, hfz34_0⟩ := zC1 BK108.out
                        obtain ⟨Ao35, co35, eo35⟩ := Kd.R_slice HO_153000.out
                        subst eo35
                        obtain ⟨Ao36, co36, eo36⟩ := Kd.R_slice HO_10.out
                        subst eo36
                        go_wp2_with (first | ((with_reducible refine gate_callee (f := 46) rfl ?_); refine goesL_ (some 58) rfl rfl Try.func46 (by kernel_rfl) rfl #[.agg #[.slice Ao35 x153000_1.length co35], .slice Ao36 x10_3.length co36] rfl z3 ?_; (with_reducible refine (spec_l01Word.calls k3 _ _ x153000_1 _ _ x10_3 t101 _ ?side1 ?side2 ?side3 ?side4 A31.out).mono ?_); (case side1 => exact (by repeat (first | exact (Kd.R_reads' HO_153000.out).2.2 | (with_reducible refine Kd.C_alloc ?_ _) | (with_reducible refine Kd.C_drewN ?_ _) | (with_reducible refine Kd.C_drew ?_)))); (case side2 => exact (Kd.R_reads' HO_153000.out).2.1); (case side3 => exact (by repeat (first | exact (Kd.R_reads' HO_10.out).2.2 | (with_reducible refine Kd.C_alloc ?_ _) | (with_reducible refine Kd.C_drewN ?_ _) | (with_reducible refine Kd.C_drew ?_)))); (case side4 => exact (Kd.R_reads' HO_10.out).2.1); rintro e w37 ⟨rfl, hb⟩; refine ⟨_, rfl, ?_⟩; have n0_ := zA (Kd.R_below z37 hb); have n1_ := zA (Kd.R_below z58 hb); have n2_ := zA (Kd.R_below z69 hb); have n3_ := zBB BK105 hb; have n4_ := zBB BK108 hb; have n5_ := zA (below_step z29 hb); clear HO_8 HO_10 HO_153000 BK105 BK108 HB; have HO_8 := n0_; have HO_10 := n1_; have HO_153000 := n2_; have BK105 := n3_; have BK108 := n4_; have HB := n5_; clear n0_ n1_ n2_ n3_ n4_ n5_; (try clear hb); (try clear hb2); (try clear hk); (try clear hi)) | ((with_reducible refine gate_builtin (b := .append) (xs := #[.tmp 55, .tmp 59]) rfl ?_); at_builtin; refine Kd.R_append (Kd.int .i64) (w0 := w) w.heap.size rfl (.tmp 55) (.tmp 59) 25 2 (.int .i64 0) 8 rfl Try.underlying25 info2 rfl (by decide) (by omega) u8 x8_2 t101 [.int .i64 t101] (fun k_ => some k_ ≠ (.slice Ao36 x10_3.length co36 : Value).ownBlock ∧ some k_ ≠ (.slice Ao35 x153000_1.length co35 : Value).ownBlock) (fun _ => False) rfl rfl ?aP (fun _ hk => hk.elim) ?aF ?aO ?aB ?aS ?aL ?_; (case aP => exact rfl); (case aB => exact z29); (case aF => exact (fun k_ hk => ⟨Kd.fresh' (Kd.R_lt z58) k_ hk, Kd.fresh' (Kd.R_lt z69) k_ hk⟩)); (case aO => exact z37); (case aS => exact (below_size z29)); (case aL => have := LMc32.out; omega); intro v122 w38 ho hb hg hat; rw [← Ny121.out] at ho; have n0_ := zA (Kd.R_after (ok := (fun k_ => some k_ ≠ (.slice Ao35 x153000_1.length co35 : Value).ownBlock)) (by (with_reducible repeat (first | apply Kd.R_alloc | apply Kd.R_drewN | apply Kd.R_drew)); exact Kd.R_mono HO_10.out (fun _ hk => ⟨hk.2, hk.1⟩)) hg hat); have n1_ := zA (Kd.R_after (ok := (fun k_ => some k_ ≠ (.slice Ao36 x10_3.length co36 : Value).ownBlock)) (by (with_reducible repeat (first | apply Kd.R_alloc | apply Kd.R_drewN | apply Kd.R_drew)); exact Kd.R_mono HO_153000.out (fun _ hk => ⟨hk.2, hk.1⟩)) hg hat); have n2_ := zA (blk_grown (g := gb105) (o := .cells #[.slice none 0 0] 27 (0, 0)) z57 hg (Kd.R_ne HO_8.out BK105.out (by decide))); have n3_ := zA (blk_grown (g := gb108) (o := .cells #[.slice Ao35 x153000_1.length co35] 27 (0, 0)) z82 hg (Kd.R_ne HO_8.out BK108.out (by decide))); have n4_ := zA (hb); have n5_ := zA (ho); clear HO_10 HO_153000 BK105 BK108 HB HO_8; have HO_10 := n0_; have HO_153000 := n1_; have BK105 := n2_; have BK108 := n3_; have HB := n4_; have HO123 := n5_; clear n0_ n1_ n2_ n3_ n4_ n5_; clear ho hb hg hat))
                        go_roundg k3
                        case measure => have := HK1.out; have := HK2.out; have := HK3.out; omega
                        case rel => exact ⟨(y121), (wrap64 (x9_2 + 1)), z16, H', ⟨z149⟩, ⟨(by (with_reducible repeat (first | apply Kd.R_alloc | apply Kd.R_drewN | apply Kd.R_drew)); exact Kd.R_mono HO123.out (fun _ hk => hk.2))⟩, ⟨z152⟩, ⟨z57⟩, ⟨z82⟩, ⟨z29⟩⟩
                      · rw [if_neg c32] at H
                        exact absurd H (by simp)
              · rw [if_neg c21] at H
                have c21b0 : decide (x9_2 < (wrap64 (t103 - 1))) = false := decide_eq_false c21
                clear c21
                simp only [Option.some.injEq, Prod.mk.injEq] at H
                obtain ⟨rfl, rfl, rfl⟩ := H
                have hnb39 := NB108_105.out
                have hnc39 := NB105_108.out
                obtain ⟨hcz40_0, hfz40_0⟩ := zC1 BK108.out
                obtain ⟨Ao41, co41, eo41⟩ := Kd.R_slice HO_153000.out
                subst eo41
                obtain ⟨hcz42_0, hfz42_0⟩ := zC1 BK105.out
                go_wp2
                refine bodyPost_ret (results_ctt rfl _ _ gb105 27 #[.slice Ao41 x153000_1.length co41] (0, 0) _ rfl z100 Try.underlying27 rfl (by kernel_rfl)) rfl ?_
                exact ⟨_, _, z15, (by (with_reducible repeat (first | apply Kd.R_alloc | apply Kd.R_drewN | apply Kd.R_drew)); exact Kd.R_mono (Kd.R_far (p := ⟨gb105, 0, none⟩) (Kd.R_types HO_153000.out BK105.out (by decide)) (fun _ hk => hk.2) (.slice Ao41 x153000_1.length co41)) (fun _ hk => hk.1)), (by (with_reducible repeat (first | apply Kd.R_alloc | apply Kd.R_drewN | apply Kd.R_drew)); exact Kd.R_mono (Kd.R_far (p := ⟨gb105, 0, none⟩) (Kd.R_types HO_8.out BK105.out (by decide)) (fun _ hk => hk.2) (.slice Ao41 x153000_1.length co41)) (fun _ hk => hk.1)), z29⟩
  · replace c3 := Bool.eq_false_iff.mpr c3
    subst c3
    have H1 : (some (([] : List Int), ([] : List Int), 2)) = some (r1, r2, r3) := by rw [if_neg (show ¬ (false = true) by decide)] at H; exact H
    clear H
    have H := H1
    clear H1
    simp only [Option.some.injEq, Prod.mk.injEq] at H
    obtain ⟨rfl, rfl, rfl⟩ := H
    go_enter Try.func8, Try.ntmps8
    go_wp2_with (first | ((with_reducible refine gate_dst (N := 2) rfl ?_); refine box_event ?hg (N := 2) ?hd (cs := #[.slice none 0 0]) (t := 27) ?hr ?_; (case hd => rfl); (case hg => rfl); (case hr => first | (go_simp; done) | (go_simp; rfl)); intro gb105 hg w43 hbox hb; have n0_ := zA (below_step z1 hb); have n1_ := zA (hbox); have n2_ := zA ((z178 : w.heap.size ≤ gb105)); have n3_ := zA ((z178 : w.heap.size ≤ gb105)); clear HB; have HB := n0_; have BK105 := n1_; have GW105 := n2_; have GE105 := n3_; clear n0_ n1_ n2_ n3_; clear hb hbox hg) | ((with_reducible refine gate_callee (f := 43) rfl ?_); refine goesL_ (some 13) rfl rfl Try.func43 (by kernel_rfl) rfl #[.int .i64 a0, .int .i64 1, .int .i64 8] rfl z3 ?_; (with_reducible refine (spec_l01In.calls a0 1 8 false _ A2.out).mono ?_); rintro e w' ⟨rfl, ⟨nd, rfl⟩⟩; refine ⟨_, rfl, ?_⟩; (try (rw [drewN_self w43]; generalize hq_ : World.drewN w43 _ = w43; have n0_ : Aside0 (w43.heap[gb105]? = some (.cells #[.slice none 0 0] 27 (0, 0))) := ⟨(by rw [← hq_]; exact z57)⟩; have n1_ : Aside0 (Below w.heap.size w w43) := ⟨(by rw [← hq_]; exact z55)⟩; clear BK105 HB hq_; have BK105 := n0_; have HB := n1_; clear n0_ n1_)); obtain ⟨hcz44_0, hfz44_0⟩ := zC1 BK105.out))
    refine bodyPost_ret (results_ctt rfl _ _ gb105 27 #[.slice none 0 0] (0, 0) _ rfl z100 Try.underlying27 rfl (by kernel_rfl)) rfl ?_
    exact ⟨_, _, z15, z89, z89, z55⟩

/-! ### laws_likeInts: function 9 -/
def laws_likeInts.l0 : Nat → List Int → List Int → Int → Option (Bool)
  | 0, _, _, _ => none
  | k + 1, x0, x1, x5 => if x5 < (x0.length : Int) then (if 0 ≤ x5 then (if x5 < (x1.length : Int) then (if (rd x0 x5) = (rd x1 x5) then (laws_likeInts.l0 k x0 x1 (wrap64 (x5 + 1))) else (some false)) else (none)) else (none)) else (some true)
def laws_likeInts.f (k : Nat) (l0 : List Int) (l1 : List Int) : Option (Bool) := if (l0.length : Int) = (l1.length : Int) then (laws_likeInts.l0 k l0 l1 0) else (some false)
set_option maxHeartbeats 8000000 in
set_option maxRecDepth 100000 in
theorem laws_likeInts.calls (k : Nat) (A0 : Option Addr) (c0 : Nat) (l0 : List Int) (A1 : Option Addr) (c1 : Nat) (l1 : List Int) (r : Bool) (w : World) (hr0 : Kd.C (Kd.int .i64) w A0 l0.length l0) (hc0 : l0.length ≤ c0) (hr1 : Kd.C (Kd.int .i64) w A1 l1.length l1) (hc1 : l1.length ≤ c1) (h : laws_likeInts.f k l0 l1 = some r) :
    Calls Try.prog 9 #[.slice A0 l0.length c0, .slice A1 l1.length c1] w fun e w' => e = .returned (.bool r) ∧ Drawn0 w w' := by
  have HR0 := zA hr0
  have HC0 := zA hc0
  clear hr0 hc0
  have HR1 := zA hr1
  have HC1 := zA hc1
  clear hr1 hc1
  have H : (if (l0.length : Int) = (l1.length : Int) then (laws_likeInts.l0 k l0 l1 0) else (some false)) = some r := h
  clear h
  by_cases c3 : (l0.length : Int) = (l1.length : Int)
  · rw [if_pos c3] at H
    have c3b0 : ((l0.length : Int) == (l1.length : Int)) = true := beq_iff_eq.mpr c3
    have c3b1 : ((l0.length : Int) != (l1.length : Int)) = false := bne_eq_false_iff_eq.mpr c3
    have c3b2 : (l0.length == l1.length) = true := by first | simpa using c3 | (simp at c3 ⊢; omega)
    clear c3
    have H' := zA H
    clear H
    go_enter Try.func9, Try.ntmps9
    go_wp2
    repeat (go_quiet (fail); try go_wp2)
    go_loopg [5] k (fun kq v5 w' => ∃ (x5_1 : Int), v5 = .int .i64 x5_1 ∧ Aside0 (laws_likeInts.l0 kq l0 l1 x5_1 = some r) ∧ Aside0 (kq ≤ k) ∧ Drawn0 w w')
    case atStart => exact ⟨(0), z16, H', ⟨Nat.le_refl _⟩, z46⟩
    case round =>
      clear H'
      try clear c1
      try clear p2
      try clear c3
      try clear c3b0
      try clear c3b1
      try clear c3b2
      obtain ⟨x5_1, rfl, HA, HK1, ⟨m1, rfl⟩⟩ := hrel
      cases gk with
      | zero => exact absurd HA.out (by simp [laws_likeInts.l0])
      | succ k1 =>
        have H := HA.out
        clear HA
        simp only [laws_likeInts.l0] at H
        by_cases c4 : x5_1 < (l0.length : Int)
        · rw [if_pos c4] at H
          have c4b0 : decide (x5_1 < (l0.length : Int)) = true := decide_eq_true c4
          clear c4
          by_cases c5 : 0 ≤ x5_1
          · rw [if_pos c5] at H
            have c5b0 : decide (0 ≤ x5_1) = true := decide_eq_true c5
            clear c5
            by_cases c6 : x5_1 < (l1.length : Int)
            · rw [if_pos c6] at H
              have c6b0 : decide (x5_1 < (l1.length : Int)) = true := decide_eq_true c6
              clear c6
              by_cases c7 : (rd l0 x5_1) = (rd l1 x5_1)
              · rw [if_pos c7] at H
                have c7b0 : ((rd l0 x5_1) == (rd l1 x5_1)) = true := beq_iff_eq.mpr c7
                have c7b1 : ((rd l0 x5_1) != (rd l1 x5_1)) = false := bne_eq_false_iff_eq.mpr c7
                clear c7
                have H' := zA H
                clear H
                have p170 : 0 ≤ (x5_1 : Int) := of_decide_eq_true z14
                have q170 : x5_1 < (l0.length : Int) := of_decide_eq_true z14
                obtain ⟨ad170, e170, hx170_0⟩ := Kd.at_int HR0.out x5_1 p170 q170
                cases e170
                replace p170 := eq_true p170
                replace q170 := eq_true q170
                have p171 : 0 ≤ (x5_1 : Int) := of_decide_eq_true z14
                have q171 : x5_1 < (l1.length : Int) := of_decide_eq_true z14
                obtain ⟨ad171, e171, hx171_0⟩ := Kd.at_int HR1.out x5_1 p171 q171
                cases e171
                replace p171 := eq_true p171
                replace q171 := eq_true q171
                go_wp2
                repeat (go_quiet (fail); try go_wp2)
                go_roundg k1
                case measure => have := HK1.out; omega
                case rel => exact ⟨(wrap64 (x5_1 + 1)), z16, H', ⟨z99⟩, z46⟩
              · rw [if_neg c7] at H
                have c7b0 : ((rd l0 x5_1) == (rd l1 x5_1)) = false := beq_eq_false_iff_ne.mpr c7
                have c7b1 : ((rd l0 x5_1) != (rd l1 x5_1)) = true := bne_iff_ne.mpr c7
                obtain rfl := Option.some.inj H
                have p170 : 0 ≤ (x5_1 : Int) := of_decide_eq_true z14
                have q170 : x5_1 < (l0.length : Int) := of_decide_eq_true z14
                obtain ⟨ad170, e170, hx170_0⟩ := Kd.at_int HR0.out x5_1 p170 q170
                cases e170
                replace p170 := eq_true p170
                replace q170 := eq_true q170
                have p171 : 0 ≤ (x5_1 : Int) := of_decide_eq_true z14
                have q171 : x5_1 < (l1.length : Int) := of_decide_eq_true z14
                obtain ⟨ad171, e171, hx171_0⟩ := Kd.at_int HR1.out x5_1 p171 q171
                cases e171
                replace p171 := eq_true p171
                replace q171 := eq_true q171
                go_wp2
                repeat (go_quiet (fail); try go_wp2)
                go_ret
                exact ⟨z16, z46⟩
            · rw [if_neg c6] at H
              exact absurd H (by simp)
          · rw [if_neg c5] at H
            exact absurd H (by simp)
        · rw [if_neg c4] at H
          have c4b0 : decide (x5_1 < (l0.length : Int)) = false := decide_eq_false c4
          clear c4
          obtain rfl := Option.some.inj H
          go_wp2
          repeat (go_quiet (fail); try go_wp2)
          go_ret
          exact ⟨z16, z46⟩
  · rw [if_neg c3] at H
    have c3b0 : ((l0.length : Int) == (l1.length : Int)) = false := beq_eq_false_iff_ne.mpr c3
    have c3b1 : ((l0.length : Int) != (l1.length : Int)) = true := bne_iff_ne.mpr c3
    have c3b2 : (l0.length == l1.length) = false := by first | simpa using c3 | (simp at c3 ⊢; omega)
    obtain rfl := Option.some.inj H
    go_enter Try.func9, Try.ntmps9
    go_wp2
    repeat (go_quiet (fail); try go_wp2)
    go_ret
    exact ⟨z16, z46⟩

/-! ### impl_PairNumber: function 10 -/
def impl_PairNumber.f (k : Nat) (a0 : Int) : Option (Int × Int) := if a0 < 1 then (some (0, 2)) else (if a0 > 8 then (some (0, 2)) else ((impl_pairNumber.f k a0).bind fun t100 => (some (t100, 0))))
theorem impl_PairNumber.mono : ∀ a0 k, LeO (impl_PairNumber.f k a0) (impl_PairNumber.f (k + 1) a0) := by
  intro a0 k
  unfold impl_PairNumber.f
  repeat' first
      | (with_reducible exact impl_pairNumber.mono _ _)
      | (with_reducible exact LeO.refl _)
      | (with_reducible exact LeO.none _)
      | (with_reducible refine LeO.ite ?_ ?_)
      | (with_reducible refine LeO.bind ?_ (fun _ => ?_))
set_option maxHeartbeats 8000000 in
set_option maxRecDepth 100000 in
theorem impl_PairNumber.calls (k : Nat) (a0 : Int) (r1 : Int) (r2 : Int) (w : World) (h : impl_PairNumber.f k a0 = some (r1, r2)) :
    Calls Try.prog 10 #[.int .i64 a0] w fun e w' => e = .returned (.tuple #[.int .i64 r1, .int .i64 r2]) ∧ Below w.heap.size w w' := by
  have HB := zA (Below.refl w.heap.size w)
  have H : (if a0 < 1 then (some (0, 2)) else (if a0 > 8 then (some (0, 2)) else ((impl_pairNumber.f k a0).bind fun t100 => (some (t100, 0))))) = some (r1, r2) := h
  clear h
  by_cases c2 : a0 < 1
  · rw [if_pos c2] at H
    have c2b0 : decide (a0 < 1) = true := decide_eq_true c2
    clear c2
    simp only [Option.some.injEq, Prod.mk.injEq] at H
    obtain ⟨rfl, rfl⟩ := H
    go_enter Try.func10, Try.ntmps10
    go_wp2
    go_ret2
    exact ⟨z15, z1⟩
  · rw [if_neg c2] at H
    have c2b0 : decide (a0 < 1) = false := decide_eq_false c2
    clear c2
    by_cases c3 : a0 > 8
    · rw [if_pos c3] at H
      have c3b0 : decide (8 < a0) = true := decide_eq_true c3
      clear c3
      simp only [Option.some.injEq, Prod.mk.injEq] at H
      obtain ⟨rfl, rfl⟩ := H
      go_enter Try.func10, Try.ntmps10
      go_wp2
      go_ret2
      exact ⟨z15, z1⟩
    · rw [if_neg c3] at H
      have c3b0 : decide (8 < a0) = false := decide_eq_false c3
      clear c3
      replace H := zi H
      obtain ⟨t100, A40, H⟩ := H
      replace H : (some (t100, 0)) = some (r1, r2) := H
      have A4 := zA A40
      clear A40
      simp only [Option.some.injEq, Prod.mk.injEq] at H
      obtain ⟨rfl, rfl⟩ := H
      go_enter Try.func10, Try.ntmps10
      go_wp2_with (first | ((with_reducible refine gate_callee (f := 40) rfl ?_); refine goesL_ (some 11) rfl rfl Try.func40 (by kernel_rfl) rfl #[.int .i64 a0] rfl z3 ?_; (with_reducible refine (impl_pairNumber.calls k a0 t100 _ A4.out).mono ?_); rintro e w5 ⟨rfl, hb⟩; refine ⟨_, rfl, ?_⟩; have n0_ := zA (below_step z1 hb); clear HB; have HB := n0_; clear n0_; (try clear hb); (try clear hb2); (try clear hk); (try clear hi)))
      go_ret2
      exact ⟨z15, z1⟩

end Go.Proofs.Ytbfhhjekonafdaa.PFnPairRows
