-- WALKS, by a program and by hand
import Derived.Test.YtbfhhjekonafdaaPFnPairRowsx0
import Derived.Test.YtbfhhjekonafdaaPFnPairRowsx1
namespace Go.Proofs.Ytbfhhjekonafdaa.PFnPairRows
open Go.RowKit Go.Proofs.Ytbfhhjekonafdaa.DG Go.Proofs.YtbfhhjekonafdaaW.PrintWords Go.Proofs.YtbfhhjekonafdaaW.PrintLast Go.Proofs.YtbfhhjekonafdaaW.PrintMore
attribute [local go_sem] max2_int min2_int max_two min_two max_three min_three max_four min_four   -- for this text's walks alone
set_option linter.unusedVariables false
set_option linter.unusedSimpArgs false

/-! ### impl_sets: function 41 -/
def impl_sets.l0 : Nat → Int → List Int → Int → Int → Option (List Int)
  | 0, _, _, _, _ => none
  | k + 1, x1, x5, x9, x10 => if x10 < x9 then ((impl_size.f x10).bind fun t100 => (if t100 = x1 then (if x5.length < 17592186044416 then (impl_sets.l0 k x1 (x5 ++ [x10]) x9 (wrap64 (x10 + 1))) else (none)) else (impl_sets.l0 k x1 x5 x9 (wrap64 (x10 + 1))))) else (some x5)
def impl_sets.f (k : Nat) (a0 : Int) (a1 : Int) : Option (List Int) := if 0 ≤ a0 then (impl_sets.l0 k a1 (([] : List Int)) (shl .i64 1 a0) 0) else (none)
theorem impl_sets.mono_l : ∀ k, (∀ y0 y1 y2 y3, LeO (impl_sets.l0 k y0 y1 y2 y3) (impl_sets.l0 (k + 1) y0 y1 y2 y3))
  | 0 => fun _ _ _ _ r h => by simp [impl_sets.l0] at h
  | k + 1 => by
    have ih0 := impl_sets.mono_l k
    · intro y0 y1 y2 y3
      unfold impl_sets.l0
      repeat' first
      | (with_reducible exact ih0 _ _ _ _)
      | (with_reducible exact LeO.refl _)
      | (with_reducible exact LeO.none _)
      | (with_reducible refine LeO.ite ?_ ?_)
      | (with_reducible refine LeO.bind ?_ (fun _ => ?_))
theorem impl_sets.mono : ∀ a0 a1 k, LeO (impl_sets.f k a0 a1) (impl_sets.f (k + 1) a0 a1) := by
  intro a0 a1 k
  have ih0 := impl_sets.mono_l k
  unfold impl_sets.f
  repeat' first
      | (with_reducible exact ih0 _ _ _ _)
      | (with_reducible exact LeO.refl _)
      | (with_reducible exact LeO.none _)
      | (with_reducible refine LeO.ite ?_ ?_)
      | (with_reducible refine LeO.bind ?_ (fun _ => ?_))
set_option maxHeartbeats 8000000 in
set_option maxRecDepth 100000 in
theorem impl_sets.calls (k : Nat) (a0 : Int) (a1 : Int) (r : List Int) (w : World) (h : impl_sets.f k a0 a1 = some r) :
    Calls Try.prog 41 #[.int .i64 a0, .int .i64 a1] w fun e w' => ∃ v0_ : Value, e = .returned (v0_) ∧ Kd.R (Kd.int .i64) 2 w' w.heap.size (fun _ => True) v0_ r ∧ Below w.heap.size w w' := by
  have HB := zA (Below.refl w.heap.size w)
  have H : (if 0 ≤ a0 then (impl_sets.l0 k a1 (([] : List Int)) (shl .i64 1 a0) 0) else (none)) = some r := h
  clear h
  obtain ⟨y101, hy101⟩ : ∃ y_ : List Int, y_ = (([] : List Int)) := ⟨_, rfl⟩
  replace H : (if 0 ≤ a0 then (impl_sets.l0 k a1 y101 (shl .i64 1 a0) 0) else (none)) = some r := by first | (rw [hy101]; with_reducible exact H) | (have H2_ := (Option.bind_some _ _).symm.trans H; rw [hy101]; with_reducible exact H2_) | (have H2_ := (Option.bind_some _ _).symm.trans H; with_reducible exact H2_) | with_reducible exact H | (rw [hy101]; exact H) | exact H
  have Ny101 := zA hy101
  clear hy101
  by_cases c3 : 0 ≤ a0
  · rw [if_pos c3] at H
    have c3b0 := eq_true c3
    have c3b1 : decide (0 ≤ a0) = true := decide_eq_true c3
    clear c3
    obtain ⟨ji4, hji4⟩ : ∃ j_ : Int, (shl .i64 1 a0) = j_ := ⟨_, rfl⟩
    replace H : (impl_sets.l0 k a1 y101 ji4 0) = some r := by first | (rw [hji4] at H; exact H) | (simp only [hji4] at H ⊢; exact H)
    have hji4_ : (IntKind.i64.wrap (1 * 2 ^ min a0.toNat 64)) = ji4 := hji4
    have hji4z : a0 ≤ 64 → (IntKind.i64.wrap (1 * 2 ^ a0.toNat)) = ji4 := shl_small hji4
    have hji4u : (IntKind.i64.wrap (2 ^ min a0.toNat 64)) = ji4 := by have h_ := hji4_; rw [Int.one_mul] at h_; exact h_
    have hji4v : a0 ≤ 64 → (IntKind.i64.wrap (2 ^ a0.toNat)) = ji4 := fun hle_ => by have h_ := hji4z hle_; rw [Int.one_mul] at h_; exact h_
    have hji4y : (wrap64 (1 * 2 ^ min a0.toNat 64)) = ji4 := (i64_w _).symm.trans hji4_
    have hji4x : a0 ≤ 64 → (wrap64 (1 * 2 ^ a0.toNat)) = ji4 := fun h_ => (i64_w _).symm.trans (hji4z h_)
    have H' := zA H
    clear H
    go_enter Try.func41, Try.ntmps41
    go_wp2_with (first | ((with_reducible refine gate_dst (N := 7) rfl ?_); refine Kd.R_lit (Kd.int .i64) _ 2 ?hg (N := 7) ?hd (xs := ([] : List Int)) (inner := []) (ok := fun _ => True) (okp := fun _ => True) ?hr ?hp (fun _ hk => hk) trivial (Below.refl _ _) (Nat.le_refl _) (by simp) ?_; (case hd => rfl); (case hg => rfl); (case hr => first | (go_simp; done) | (go_simp; rfl)); (case hp => exact (Reps.none _ _)); intro v102 w5 ho6 hb hg_ hnew_; clear hg_ hnew_; (first | rw [← Ny101.out] at ho6 | (simp only [Int.reduceToNat] at ho6; rw [← Ny101.out] at ho6)); have n0_ := zA (Kd.R_lower ho6 (below_size z1)); have n1_ := zA (below_step z1 hb); clear HB; have HO103 := n0_; have HB := n1_; clear n0_ n1_; clear hb ho6))
    go_loopg [5, 10] k (fun kq v5 v10 w' => ∃ (x5_1 : List Int) (x10_1 : Int), v10 = .int .i64 x10_1 ∧ Aside0 (impl_sets.l0 kq a1 x5_1 ji4 x10_1 = some r) ∧ Aside0 (kq ≤ k) ∧ Aside0 (Kd.R (Kd.int .i64) 2 w' w.heap.size (fun _ => True) v5 x5_1) ∧ Aside0 (Below w.heap.size w w'))
    case atStart => exact ⟨(y101), (0), z16, H', ⟨Nat.le_refl _⟩, ⟨z140⟩, ⟨z1⟩⟩
    case round =>
      clear H'
      try clear p2
      try clear c3
      try clear c3b0
      try clear c3b1
      try clear c4
      try clear p6
      obtain ⟨x5_1, x10_1, rfl, HA, HK1, HO_5, HB⟩ := hrel
      cases gk with
      | zero => exact absurd HA.out (by simp [impl_sets.l0])
      | succ k1 =>
        have H := HA.out
        clear HA
        simp only [impl_sets.l0] at H
        by_cases c7 : x10_1 < ji4
        · rw [if_pos c7] at H
          have c7b0 : decide (x10_1 < ji4) = true := decide_eq_true c7
          clear c7
          replace H := zi H
          obtain ⟨t100, A80, H⟩ := H
          (try dsimp -simprocs only at H)
          have A8 := zA A80
          clear A80
          by_cases c9 : t100 = a1
          · rw [if_pos c9] at H
            have c9b0 : (t100 == a1) = true := beq_iff_eq.mpr c9
            have c9b1 : (t100 != a1) = false := bne_eq_false_iff_eq.mpr c9
            clear c9
            by_cases c10 : x5_1.length < 17592186044416
            · rw [if_pos c10] at H
              have LMc10 := zA c10
              clear c10
              obtain ⟨y104, hy104⟩ : ∃ y_ : List Int, y_ = (x5_1 ++ [x10_1]) := ⟨_, rfl⟩
              replace H : (impl_sets.l0 k1 a1 y104 ji4 (wrap64 (x10_1 + 1))) = some r := by first | (rw [hy104]; with_reducible exact H) | (have H2_ := (Option.bind_some _ _).symm.trans H; rw [hy104]; with_reducible exact H2_) | (have H2_ := (Option.bind_some _ _).symm.trans H; with_reducible exact H2_) | with_reducible exact H | (rw [hy104]; exact H) | exact H
              have Ny104 := zA hy104
              clear hy104
              have H' := zA H
              clear H
              go_wp2_with (first | ((with_reducible refine gate_callee (f := 75) rfl ?_); refine goesL_ (some 14) rfl rfl Try.func75 (by kernel_rfl) rfl #[.int .i64 x10_1] rfl z3 ?_; (with_reducible refine (impl_size.calls x10_1 t100 _ A8.out).mono ?_); rintro e w' ⟨rfl, ⟨nd, rfl⟩⟩; refine ⟨_, rfl, ?_⟩) | ((with_reducible refine gate_builtin (b := .append) (xs := #[.tmp 17, .tmp 19]) rfl ?_); at_builtin; refine Kd.R_append (Kd.int .i64) (w0 := w) w.heap.size rfl (.tmp 17) (.tmp 19) 25 2 (.int .i64 0) 8 rfl Try.underlying25 info2 rfl (by decide) (by omega) u5 x5_1 x10_1 [.int .i64 x10_1] (fun _ => True) (fun _ => False) rfl rfl ?aP (fun _ hk => hk.elim) ?aF ?aO ?aB ?aS ?aL ?_; (case aP => exact rfl); (case aB => exact z1); (case aF => exact (fun _ _ => trivial)); (case aO => exact z74); (case aS => exact (below_size z1)); (case aL => have := LMc10.out; omega); intro v105 w11 ho hb hg hat; rw [← Ny104.out] at ho; have n0_ := zA (hb); have n1_ := zA (ho); clear HB HO_5; have HB := n0_; have HO106 := n1_; clear n0_ n1_; clear ho hb hg hat))
              go_roundg k1
              case measure => have := HK1.out; omega
              case rel => exact ⟨(y104), (wrap64 (x10_1 + 1)), z16, H', ⟨z99⟩, ⟨z118⟩, ⟨z1⟩⟩
            · rw [if_neg c10] at H
              exact absurd H (by simp)
          · rw [if_neg c9] at H
            have c9b0 : (t100 == a1) = false := beq_eq_false_iff_ne.mpr c9
            have c9b1 : (t100 != a1) = true := bne_iff_ne.mpr c9
            have H' := zA H
            clear H
            go_wp2_with (first | ((with_reducible refine gate_callee (f := 75) rfl ?_); refine goesL_ (some 14) rfl rfl Try.func75 (by kernel_rfl) rfl #[.int .i64 x10_1] rfl z3 ?_; (with_reducible refine (impl_size.calls x10_1 t100 _ A8.out).mono ?_); rintro e w' ⟨rfl, ⟨nd, rfl⟩⟩; refine ⟨_, rfl, ?_⟩))
            go_roundg k1
            case measure => have := HK1.out; omega
            case rel => exact ⟨(x5_1), (wrap64 (x10_1 + 1)), z16, H', ⟨z99⟩, ⟨z74⟩, ⟨z1⟩⟩
        · rw [if_neg c7] at H
          have c7b0 : decide (x10_1 < ji4) = false := decide_eq_false c7
          clear c7
          obtain rfl := Option.some.inj H
          go_wp2
          go_ret
          exact ⟨_, (by first | rfl | (simp [errW_none, errW_some] <;> rfl) | (simp only [← hji4]; first | rfl | (simp [errW_none, errW_some] <;> rfl)) | (simp [*, errW_none, errW_some] <;> rfl)), z74, z1⟩
  · rw [if_neg c3] at H
    exact absurd H (by simp)

/-! ### impl_pairNumber: function 40 -/
def impl_pairNumber.l0 : Nat → Int → Int → Option (Int)
  | 0, _, _ => none
  | k + 1, x0, x3 => (impl_sets.f k (wrap64 (x3 - 1)) (wrap64 (Int.tdiv (wrap64 (x3 + 1)) 2))).bind fun t100 => (if (t100.length : Int) ≥ x0 then (some x3) else (impl_pairNumber.l0 k x0 (wrap64 (x3 + 1))))
def impl_pairNumber.f (k : Nat) (a0 : Int) : Option (Int) := impl_pairNumber.l0 k a0 1
theorem impl_pairNumber.mono_l : ∀ k, (∀ y0 y1, LeO (impl_pairNumber.l0 k y0 y1) (impl_pairNumber.l0 (k + 1) y0 y1))
  | 0 => fun _ _ r h => by simp [impl_pairNumber.l0] at h
  | k + 1 => by
    have ih0 := impl_pairNumber.mono_l k
    · intro y0 y1
      unfold impl_pairNumber.l0
      repeat' first
      | (with_reducible exact ih0 _ _)
      | (with_reducible exact impl_sets.mono _ _ _)
      | (with_reducible exact LeO.refl _)
      | (with_reducible exact LeO.none _)
      | (with_reducible refine LeO.ite ?_ ?_)
      | (with_reducible refine LeO.bind ?_ (fun _ => ?_))
theorem impl_pairNumber.mono : ∀ a0 k, LeO (impl_pairNumber.f k a0) (impl_pairNumber.f (k + 1) a0) := by
  intro a0 k
  have ih0 := impl_pairNumber.mono_l k
  unfold impl_pairNumber.f
  repeat' first
      | (with_reducible exact ih0 _ _)
      | (with_reducible exact impl_sets.mono _ _ _)
      | (with_reducible exact LeO.refl _)
      | (with_reducible exact LeO.none _)
      | (with_reducible refine LeO.ite ?_ ?_)
      | (with_reducible refine LeO.bind ?_ (fun _ => ?_))
set_option maxHeartbeats 8000000 in
set_option maxRecDepth 100000 in
theorem impl_pairNumber.calls (k : Nat) (a0 : Int) (r : Int) (w : World) (h : impl_pairNumber.f k a0 = some r) :
    Calls Try.prog 40 #[.int .i64 a0] w fun e w' => e = .returned (.int .i64 r) ∧ Below w.heap.size w w' := by
  have HB := zA (Below.refl w.heap.size w)
  have H : (impl_pairNumber.l0 k a0 1) = some r := h
  clear h
  have H' := zA H
  clear H
  go_enter Try.func40, Try.ntmps40
  go_wp2
  go_loopg [3] k (fun kq v3 w' => ∃ (x3_1 : Int), v3 = .int .i64 x3_1 ∧ Aside0 (impl_pairNumber.l0 kq a0 x3_1 = some r) ∧ Aside0 (kq ≤ k) ∧ Aside0 (Below w.heap.size w w'))
  case atStart => exact ⟨(1), z16, H', ⟨Nat.le_refl _⟩, ⟨z1⟩⟩
  case round =>
    clear H'
    obtain ⟨x3_1, rfl, HA, HK1, HB⟩ := hrel
    cases gk with
    | zero => exact absurd HA.out (by simp [impl_pairNumber.l0])
    | succ k1 =>
      have H := HA.out
      clear HA
      simp only [impl_pairNumber.l0] at H
      replace H := zi H
      obtain ⟨t100, A20, H⟩ := H
      (try dsimp -simprocs only at H)
      have A2 := zA A20
      clear A20
      by_cases c3 : (t100.length : Int) ≥ a0
      · rw [if_pos c3] at H
        have c3b0 : decide (a0 ≤ (t100.length : Int)) = true := decide_eq_true c3
        clear c3
        obtain rfl := Option.some.inj H
        go_wp2_with (first | ((with_reducible refine gate_callee (f := 41) rfl ?_); refine goesL_ (some 11) rfl rfl Try.func41 (by kernel_rfl) rfl #[.int .i64 (wrap64 (x3_1 - 1)), .int .i64 (wrap64 (Int.tdiv (wrap64 (x3_1 + 1)) 2))] rfl z3 ?_; (with_reducible refine (impl_sets.calls k1 (wrap64 (x3_1 - 1)) (wrap64 (Int.tdiv (wrap64 (x3_1 + 1)) 2)) t100 _ A2.out).mono ?_); rintro e w4 ⟨v101, rfl, ho0, hb⟩; refine ⟨_, rfl, ?_⟩; have n0_ := zA (Kd.R_lower ho0 (below_size z1)); have n1_ := zA (below_step z1 hb); clear HB; have HO102 := n0_; have HB := n1_; clear n0_ n1_; (try clear hb); (try clear hb2); (try clear hk); (try clear hi); (try clear ho0); obtain ⟨Ao5, co5, eo5⟩ := Kd.R_slice HO102.out; subst eo5))
        go_ret
        exact ⟨z15, z1⟩
      · rw [if_neg c3] at H
        have c3b0 : decide (a0 ≤ (t100.length : Int)) = false := decide_eq_false c3
        clear c3
        have H' := zA H
        clear H
        go_wp2_with (first | ((with_reducible refine gate_callee (f := 41) rfl ?_); refine goesL_ (some 11) rfl rfl Try.func41 (by kernel_rfl) rfl #[.int .i64 (wrap64 (x3_1 - 1)), .int .i64 (wrap64 (Int.tdiv (wrap64 (x3_1 + 1)) 2))] rfl z3 ?_; (with_reducible refine (impl_sets.calls k1 (wrap64 (x3_1 - 1)) (wrap64 (Int.tdiv (wrap64 (x3_1 + 1)) 2)) t100 _ A2.out).mono ?_); rintro e w6 ⟨v101, rfl, ho0, hb⟩; refine ⟨_, rfl, ?_⟩; have n0_ := zA (Kd.R_lower ho0 (below_size z1)); have n1_ := zA (below_step z1 hb); clear HB; have HO102 := n0_; have HB := n1_; clear n0_ n1_; (try clear hb); (try clear hb2); (try clear hk); (try clear hi); (try clear ho0); obtain ⟨Ao7, co7, eo7⟩ := Kd.R_slice HO102.out; subst eo7))
        go_roundg k1
        case measure => have := HK1.out; omega
        case rel => exact ⟨(wrap64 (x3_1 + 1)), z16, H', ⟨z99⟩, ⟨z1⟩⟩

/-! ### impl_PairRows: function 7 -/
def pg (dd : Nat → Int) (t j : Nat) : Int := if j < t then dd j else 0
def pgA (dd : Nat → Int) (t : Nat) : Array Value := ag8 (pg dd t 0) (pg dd t 1) (pg dd t 2) (pg dd t 3) (pg dd t 4) (pg dd t 5) (pg dd t 6) (pg dd t 7)
def pgL (dd : Nat → Int) (t : Nat) : List Int := [pg dd t 0, pg dd t 1, pg dd t 2, pg dd t 3, pg dd t 4, pg dd t 5, pg dd t 6, pg dd t 7]
theorem pg_set (dd : Nat → Int) (t : Nat) (h : t < 8) : (pgA dd t).setIfInBounds t (.int .u8 (dd t)) = pgA dd (t + 1) := by
  match t, h with
  | 0, _ => rfl
  | 1, _ => rfl
  | 2, _ => rfl
  | 3, _ => rfl
  | 4, _ => rfl
  | 5, _ => rfl
  | 6, _ => rfl
  | 7, _ => rfl
/-- A row's digit at a place. -/
def dgP (T : List Int) (row j : Nat) : Int := IntKind.u8.wrap (Go.bits .and .i64 (shr .i64 (rd T (j : Int)) (row : Int)) 1)
def rowsP (S T : List Int) (an m : Nat) : List Int := 0 :: (List.range m).map fun row => wordI 0 S (pgL (dgP T row) an)
def okPR (an : Int) (S T : List Int) (n : Int) : Bool := decide (1 ≤ n) && decide (n ≤ 64) && decide (an ≤ (T.length : Int)) && decide (1 ≤ S.length) && okS S && (List.range (n - 1).toNat).all fun row => okB (pgL (dgP T row) an.toNat)
def impl_PairRows.f (k : Nat) (a0 : Int) : Option (List Int × List Int × Int) := if a0 < 1 then some ([], [], 2) else (if a0 > 8 then some ([], [], 2) else ((slices_Repeat_int64_int64.f k [2] a0).bind fun S => (impl_pairNumber.f k a0).bind fun n => (impl_sets.f k (wrap64 (n - 1)) (wrap64 (Int.tdiv (wrap64 (n + 1)) 2))).bind fun T => if okPR a0 S T n = true then some (S, rowsP S T a0.toNat (n - 1).toNat, 0) else none))
theorem impl_PairRows.mono : ∀ a0 k, LeO (impl_PairRows.f k a0) (impl_PairRows.f (k + 1) a0) := by
  intro a0 k
  unfold impl_PairRows.f
  exact LeO.ite (LeO.refl _) (LeO.ite (LeO.refl _) (LeO.bind (slices_Repeat_int64_int64.mono _ _ k) (fun _ => LeO.bind (impl_pairNumber.mono _ k) (fun _ => LeO.bind (impl_sets.mono _ _ k) (fun _ => LeO.refl _)))))
structure PR (w w3 : World) (g : Nat) (ok : Nat → Prop) (v : Value) (outs : List Int) (W : World) : Prop where
  keep : KeepBut w3 W g none
  bel : Below w.heap.size w W
  out : Kd.R (Kd.int .i64) 2 W w.heap.size ok v outs
theorem PR.below {w w3 : World} {g : Nat} {ok : Nat → Prop} {v : Value} {outs : List Int} {W W' : World} (h : PR w w3 g ok v outs W) (hb : Below W.heap.size W W') : PR w w3 g ok v outs W' :=
  ⟨h.keep.trans (KeepBut.of_below hb g none) (.inl rfl), below_step h.bel hb, Kd.R_below h.out hb⟩
theorem PR.set {w w3 : World} {g : Nat} {ok : Nat → Prop} {v : Value} {outs : List Int} {W : World} (h : PR w w3 g ok v outs W) (gr j : Nat) (u : Value) (h1 : w3.heap.size ≤ gr) (h2 : w.heap.size ≤ gr) (h3 : ∀ k, ok k → k ≠ gr) : PR w w3 g ok v outs (W.setCell ⟨gr, j, none⟩ u) :=
  ⟨keep_far h.keep (p := ⟨gr, j, none⟩) h1 u, below_set h.bel h2, Kd.R_far (p := ⟨gr, j, none⟩) h.out h3 u⟩
theorem one_row (W : World) (x : Int) : Kd.C (Kd.int .i64) (W.alloc (.cells #[.int .i64 x] 2)) (some ⟨W.heap.size, 0, none⟩) ([x] : List Int).length [x] := by
  refine Kd.C_of_reads (d := (0 : Int)) (h1 := fun _ => rfl) ⟨rfl, (by simp), fun _ => ⟨_, rfl, fun j hj => ?_⟩⟩
  have hj0 : j = 0 := by simpa using hj
  subst hj0
  rw [add_plain, blk_cell (blk_new W _) 0]
  rfl
theorem keep_append {w3 W w1 : World} {g : Nat} {v : Value} (h : KeepBut w3 W g none) (hg : W.grownBy w1 v.ownBlock) (hv : ∀ k, v.ownBlock = some k → k = g ∨ w3.heap.size ≤ k) : KeepBut w3 w1 g none := by
  refine ⟨Nat.le_trans h.1 hg.size, fun i hi hne _ => ?_⟩
  rw [← h.2 i hi hne (by simp)]
  refine hg.block i (Nat.lt_of_lt_of_le hi h.1) (fun he => ?_)
  rcases hv i he.symm with h1 | h1
  · exact hne h1
  · omega
theorem pr_info2 : (Try.prog.info? 2).map (fun i => (i.zero, i.size, i.bytes)) = some (some (.int .i64 0), 1, 8) := by kernel_rfl
theorem lit_one (W : World) (base : Nat) (hb : base ≤ W.heap.size) (x : Int) : Kd.R (Kd.int .i64) 2 (W.alloc (.cells #[.int .i64 x] 2)) base (fun k => k = W.heap.size) (.slice (some ⟨W.heap.size, 0, none⟩) 1 1) [x] := by
  refine ⟨fun k hk => by simpa [Value.ownBlock] using hk.symm, [.int .i64 x], ?_, Reps.one (show Kd.M (Kd.int .i64) _ _ _ x [.int .i64 x] from rfl) (Reps.none _ _)⟩
  have h2 := World.ownsRow_lit (base := base) (e := 2) (size := 1) W #[.int .i64 x] 1 hb (by simp [maxLen]) (by simp)
  exact h2
theorem wr_dg (T : List Int) (row j : Nat) : dgP T row j = IntKind.u8.wrap (Go.bits .and .i64 (shr .i64 (rd T (j : Int)) (row : Int)) 1) := rfl
set_option maxHeartbeats 4000000 in
set_option maxRecDepth 100000 in
theorem pairRows_walk (k an : Nat) (S T : List Int) (n : Int) (nn : Nat) (hn : n = nn) (w : World) (h1 : 1 ≤ an) (h8 : an ≤ 8) (hS : slices_Repeat_int64_int64.f k [2] (an : Int) = some S) (hN : impl_pairNumber.f k (an : Int) = some n) (hT : impl_sets.f k (wrap64 (n - 1)) (wrap64 (Int.tdiv (wrap64 (n + 1)) 2)) = some T)
    (hn1 : 1 ≤ nn) (hn2 : nn ≤ 64) (hTl : an ≤ T.length) (hS1 : 1 ≤ S.length) (hSl : S.length ≤ 8) (hSq : ∀ q ∈ S, 2 ≤ q ∧ q ≤ 4) (hd : ∀ row, row < nn - 1 → ∀ x ∈ pgL (dgP T row) an, 0 ≤ x ∧ x ≤ 255) :
    Calls Try.prog 7 #[.int .i64 (an : Int)] w fun e w' => ∃ v0_ v1_ : Value, e = .returned (.tuple #[.agg #[v0_], v1_, .int .i64 0]) ∧ Kd.R (Kd.int .i64) 2 w' w.heap.size (fun k_ => some k_ ≠ (v1_ : Value).ownBlock) v0_ S ∧ Kd.R (Kd.int .i64) 2 w' w.heap.size (fun k_ => some k_ ≠ (v0_ : Value).ownBlock) v1_ (rowsP S T an (nn - 1)) ∧ Below w.heap.size w w' := by
  have d1 : decide ((an : Int) < 1) = false := decide_eq_false (by omega)
  have d2 : decide ((an : Int) > 8) = false := decide_eq_false (by omega)
  rw [hn, show wrap64 ((nn : Int) - 1) = (nn : Int) - 1 by unfold wrap64; omega, show wrap64 ((nn : Int) + 1) = (nn : Int) + 1 by unfold wrap64; omega, Int.tdiv_eq_ediv_of_nonneg (by omega), show wrap64 (((nn : Int) + 1) / 2) = ((nn : Int) + 1) / 2 by unfold wrap64; omega] at hT
  have HSE := zA hS
  have HNE := zA hN
  have HTE := zA hT
  have HSQ := zA hSq
  have HD := zA hd
  clear hS hN hT hSq hd
  go_enter Try.func7, Try.ntmps7
  go_wp2_with fail
  have hb1 : Below w.heap.size w ((w.alloc (.cells #[.slice none 0 0] 27)).alloc (.cells #[.int .i64 2] 2)) := below_alloc (below_alloc (Below.refl _ _) _) _
  have hk1 := blk_alloc (blk_new w (.cells #[.slice none 0 0] 27)) (.cells #[.int .i64 2] 2)
  have hc1 := one_row (w.alloc (.cells #[.slice none 0 0] 27)) 2
  rw [World.size_alloc] at hc1
  generalize (w.alloc (.cells #[.slice none 0 0] 27)).alloc (.cells #[.int .i64 2] 2) = W1 at hb1 hk1 hc1 ⊢
  refine (slices_Repeat_int64_int64.calls k _ 1 [2] (an : Int) S W1 hc1 (Nat.le_refl _) HSE.out).mono ?_
  rintro e w2 ⟨vS, rfl, hRS, hb2⟩
  obtain ⟨gS, cS, rfl, hgS, hgS2, _⟩ := Kd.R_form hRS (by omega)
  have HB2 := zA (below_step hb1 hb2)
  have HK2 := zA (blk_below hk1 hb2)
  have HGS := zA (Nat.le_trans hb1.size hgS)
  have hlt1 := blk_lt hk1
  have HRS2 := zA (Kd.R_mono (Kd.R_lower (Kd.R_bound hRS) hb1.size) (ok' := fun k => k ≠ w.heap.size) (fun k hk => by have := hk.2.1; omega))
  clear hb1 hk1 hc1 hRS hb2 hgS hgS2 hlt1
  go_wp2_with fail
  refine (impl_pairNumber.calls k (an : Int) n _ HNE.out).mono ?_
  rintro e w3 ⟨rfl, hb3⟩
  have HB3 := zA (below_alloc (below_step HB2.out hb3) (.cells #[.slice (some ⟨gS, 0, none⟩) S.length cS] 27))
  have HK3 := zA (blk_alloc (blk_below HK2.out hb3) (.cells #[.slice (some ⟨gS, 0, none⟩) S.length cS] 27))
  have HRS3 := zA (Kd.R_alloc (Kd.R_below HRS2.out hb3) (.cells #[.slice (some ⟨gS, 0, none⟩) S.length cS] 27))
  have HF3 := zA (blk_new w3 (.cells #[.slice (some ⟨gS, 0, none⟩) S.length cS] 27))
  have HZ3 := zA (below_step HB2.out hb3).size
  clear hb3 HB2 HK2 HRS2
  go_wp2_with fail
  refine (impl_sets.calls k _ _ T _ HTE.out).mono ?_
  rintro e w4 ⟨vT, rfl, hRT, hb4⟩
  obtain ⟨gT, cT, rfl, hgT, hgT2, _⟩ := Kd.R_form hRT (by omega)
  have HB4 := zA (below_step HB3.out hb4)
  have HK4 := zA (blk_below HK3.out hb4)
  have HF4 := zA (blk_below HF3.out hb4)
  have HRS4 := zA (Kd.R_below HRS3.out hb4)
  have hz4 := hb4.size
  rw [World.size_alloc] at hz4
  have HZ4 := zA hz4
  have HW0 := zA (show w.heap.size < w4.heap.size from blk_lt HK4.out)
  -- the rows' world
  have hbl := below_alloc (Below.refl w4.heap.size w4) (.cells #[.int .i64 0] 2)
  have PR5 := zA (show PR w (w4.alloc (.cells #[.int .i64 0] 2)) w4.heap.size (fun k => k = w4.heap.size ∨ (w4.alloc (.cells #[.int .i64 0] 2)).heap.size ≤ k) (.slice (some ⟨w4.heap.size, 0, none⟩) 1 1) [0] (w4.alloc (.cells #[.int .i64 0] 2)) from ⟨KeepBut.refl _ _ _, below_alloc HB4.out _, Kd.R_mono (lit_one w4 w.heap.size HB4.out.size 0) (fun k hk => .inl hk)⟩)
  have HK5 := zA (blk_alloc HK4.out (.cells #[.int .i64 0] 2))
  have HF5 := zA (blk_alloc HF4.out (.cells #[.int .i64 0] 2))
  have HRS5 := zA (Kd.R_mono (Kd.R_below (Kd.R_bound HRS4.out) hbl) (ok' := fun k => k ≠ w4.heap.size ∧ k ≠ w.heap.size ∧ k < w4.heap.size) (fun k hk => by have := hk.2.2.1; have := hk.1; omega))
  have HRT5 := zA (Kd.R_mono (Kd.R_below (Kd.R_bound hRT) hbl) (ok' := fun k => k ≠ w4.heap.size) (fun k hk => by have := hk.2.2.1; omega))
  have HGE5 := zA (show w3.heap.size ≠ w4.heap.size by omega)
  have HN0 := zA (show w.heap.size ≠ w4.heap.size by have := HW0.out; omega)
  have HSZ5 := zA (show w.heap.size ≤ (w4.alloc (.cells #[.int .i64 0] 2)).heap.size by rw [World.size_alloc]; have := HW0.out; omega)
  have H54 := zA (show w4.heap.size < (w4.alloc (.cells #[.int .i64 0] 2)).heap.size by rw [World.size_alloc]; omega)
  clear hbl hz4 hRT hgT hgT2 hb4 HB3 HK3 HF3 HRS3 HB4 HK4 HF4 HRS4
  go_wp2
  generalize w4.alloc (.cells #[.int .i64 0] 2) = w5 at PR5 HK5 HF5 HRS5 HRT5 HSZ5 H54 ⊢
  go_loopg [8, 34] nn (fun gg s8 s34 wr => ∃ (row : Nat), s34 = .int .i64 row ∧ row ≤ nn - 1 ∧ nn - 1 - row ≤ gg ∧ Aside0 (PR w w5 w4.heap.size (fun k => k = w4.heap.size ∨ w5.heap.size ≤ k) s8 (rowsP S T an row) wr))
  case atStart => exact ⟨0, rfl, (by omega), (by omega), PR5⟩
  case round =>
    obtain ⟨row, rfl, hrow, hgg, PRr⟩ := hrel
    have hr0 : (0 : Int) ≤ (row : Int) := by omega
    by_cases hlt : row < nn - 1
    · have hlt1 : (row : Int) < (nn : Int) - 1 := by omega
      go_wp2
      have hsr := PRr.out.keep.1
      have PR6 := zA (show PR w w5 w4.heap.size (fun k => (k = w4.heap.size ∨ w5.heap.size ≤ k) ∧ k ≠ wr.heap.size) u8 (rowsP S T an row) (wr.alloc (.cells (ag8 0 0 0 0 0 0 0 0) 60)) from
        PR.below ⟨PRr.out.keep, PRr.out.bel, Kd.R_elderB PRr.out.out wr.heap.size (Nat.le_refl _)⟩ (below_alloc (Below.refl _ _) _))
      have BD6 := zA (show (wr.alloc (.cells (ag8 0 0 0 0 0 0 0 0) 60)).heap[wr.heap.size]? = some (.cells (pgA (dgP T row) 0) 60 (0, 0)) from blk_new wr (.cells (ag8 0 0 0 0 0 0 0 0) 60))
      have HBD := zA hsr
      clear hsr PRr
      generalize wr.heap.size = bd at PR6 BD6 HBD ⊢
      go_loopg [39] an (fun gg s39 wq => ∃ (t : Nat), s39 = .int .i64 t ∧ t ≤ an ∧ an - t ≤ gg ∧ Aside0 (PR w w5 w4.heap.size (fun k => (k = w4.heap.size ∨ w5.heap.size ≤ k) ∧ k ≠ bd) u8 (rowsP S T an row) wq) ∧ Aside0 (wq.heap[bd]? = some (.cells (pgA (dgP T row) t) 60 (0, 0))))
      case atStart => exact ⟨0, rfl, (by omega), (by omega), PR6, BD6⟩
      case round =>
        obtain ⟨t, rfl, ht, hgg2, PRq, BDq⟩ := hrel
        by_cases htl : t < an
        · have ht1 : (t : Int) < (an : Int) := by omega
          have ht8 : (t : Int) < 8 := by omega
          have ht0 : (0 : Int) ≤ (t : Int) := by omega
          have htT : (t : Int) < (T.length : Int) := by omega
          obtain ⟨ad, e, hx⟩ := Kd.at_int (Kd.R_reads' (Kd.R_keep HRT5.out PRq.out.keep (fun _ h => h))).2.2 (t : Int) ht0 htT
          cases e
          rw [Int.toNat_natCast, add_plain] at hx
          have hcell := ag8_cell _ _ _ _ _ _ _ _ BDq.out t (by omega)
          have hfz := blk_frozen BDq.out t
          go_wp2
          go_roundg (an - (t + 1))
          case measure => omega
          case rel =>
            refine ⟨t + 1, (by go_num), (by omega), (by omega), ⟨PRq.out.set bd t _ HBD.out (Nat.le_trans HSZ5.out HBD.out) (fun k hk => hk.2)⟩, ⟨?_⟩⟩
            have h := blk_set BDq.out t (.int .u8 (dgP T row t))
            rw [pg_set _ _ (by omega)] at h
            have e : dgP T row t = Go.bits .and .i64 (rd T (t : Int) / 2 ^ row) 1 % 256 := by
              unfold dgP shr
              have e2 : ∀ x : Int, IntKind.u8.wrap x = x % 256 := fun x => by simp [IntKind.wrap, IntKind.bits, IntKind.signed]
              rw [e2, Int.toNat_natCast, show min row IntKind.i64.bits = row from Nat.min_eq_left (by show row ≤ 64; omega)]
            rw [← e]
            exact h
        · obtain rfl : t = an := by omega
          have ht1 : ¬ (t : Int) < (t : Int) := by omega
          have hbx : wr.cell? ⟨w3.heap.size, 0, none⟩ = some (.slice (some ⟨gS, 0, none⟩) S.length cS) := (blk_cell (PRq.out.keep.blk HF5.out HGE5.out (by simp)) 0).trans rfl
          have hc0 : wr.cell? ⟨bd, 0, none⟩ = some (.int .u8 (pg (dgP T row) t 0)) := (blk_cell BDq.out 0).trans rfl
          have hc1 : wr.cell? ⟨bd, 1, none⟩ = some (.int .u8 (pg (dgP T row) t 1)) := (blk_cell BDq.out 1).trans rfl
          have hc2 : wr.cell? ⟨bd, 2, none⟩ = some (.int .u8 (pg (dgP T row) t 2)) := (blk_cell BDq.out 2).trans rfl
          have hc3 : wr.cell? ⟨bd, 3, none⟩ = some (.int .u8 (pg (dgP T row) t 3)) := (blk_cell BDq.out 3).trans rfl
          have hc4 : wr.cell? ⟨bd, 4, none⟩ = some (.int .u8 (pg (dgP T row) t 4)) := (blk_cell BDq.out 4).trans rfl
          have hc5 : wr.cell? ⟨bd, 5, none⟩ = some (.int .u8 (pg (dgP T row) t 5)) := (blk_cell BDq.out 5).trans rfl
          have hc6 : wr.cell? ⟨bd, 6, none⟩ = some (.int .u8 (pg (dgP T row) t 6)) := (blk_cell BDq.out 6).trans rfl
          have hc7 : wr.cell? ⟨bd, 7, none⟩ = some (.int .u8 (pg (dgP T row) t 7)) := (blk_cell BDq.out 7).trans rfl
          go_wp2_with fail
          refine (wordOf_walk (some ⟨gS, 0, none⟩) cS S (pg (dgP T row) t 0) (pg (dgP T row) t 1) (pg (dgP T row) t 2) (pg (dgP T row) t 3) (pg (dgP T row) t 4) (pg (dgP T row) t 5) (pg (dgP T row) t 6) (pg (dgP T row) t 7) wr (Kd.R_reads' (Kd.R_keep HRS5.out PRq.out.keep (fun _ h => h.1))).2.2 hSl HSQ.out (HD.out row hlt)).mono ?_
          rintro e w8 ⟨rfl, hb8⟩
          have PR8 := zA (PRq.out.below hb8)
          clear hbx hc0 hc1 hc2 hc3 hc4 hc5 hc6 hc7 hb8
          have hrl : (rowsP S T t row).length = row + 1 := by simp [rowsP]
          go_wp2_with (at_builtin; refine Kd.R_append (Kd.int .i64) (w0 := w) w.heap.size rfl (.tmp 53) (.tmp 57) 25 2 (.int .i64 0) 8 rfl Try.underlying25 pr_info2 rfl (by decide) (by omega) u8 _ (wordI 0 S (pgL (dgP T row) t)) [.int .i64 (wordI 0 S (pgL (dgP T row) t))] (fun k => k = w4.heap.size ∨ w5.heap.size ≤ k) (fun _ => False) rfl rfl rfl (fun _ h => h.elim) ?aF (Kd.R_mono PR8.out.out (fun k hk => hk.1)) PR8.out.bel ?aS ?aL ?_; (case aF => exact fun k hk => .inr (Nat.le_trans PR8.out.keep.1 hk)); (case aS => exact PR8.out.bel.size); (case aL => omega); intro v1 w9 ho hb hg hat)
          have KEEP9 := keep_append PR8.out.keep hg (fun k hk => (PR8.out.out.1 k hk).1)
          go_roundg (nn - 1 - (row + 1))
          case measure => omega
          case rel =>
            refine ⟨row + 1, (by go_num), (by omega), (by omega), ⟨⟨KEEP9, hb, ?_⟩⟩⟩
            have e1 : rowsP S T t (row + 1) = rowsP S T t row ++ [wordI 0 S (pgL (dgP T row) t)] := by
              simp [rowsP, List.range_succ]
            rw [e1]
            exact ho
    · obtain rfl : row = nn - 1 := by omega
      have hlt1 : ¬ ((nn - 1 : Nat) : Int) < (nn : Int) - 1 := by omega
      have hbx : wr.cell? ⟨w3.heap.size, 0, none⟩ = some (.slice (some ⟨gS, 0, none⟩) S.length cS) := (blk_cell (PRr.out.keep.blk HF5.out HGE5.out (by simp)) 0).trans rfl
      have hk0 := PRr.out.keep.blk HK5.out HN0.out (by simp)
      have hbz : wr.cell? ⟨w.heap.size, 0, none⟩ = some (.slice none 0 0) := (blk_cell hk0 0).trans rfl
      have hfz := blk_frozen hk0 0
      have HK0 := zA hk0
      clear hk0
      have HSg : gS < w4.heap.size := (HRS5.out.1 gS rfl).2.2
      have HSn : gS ≠ w4.heap.size := (HRS5.out.1 gS rfl).1
      have HU := zA PRr.out.out.1
      go_wp2
      refine bodyPost_ret (results_ctt rfl _ _ w.heap.size 27 #[.slice (some ⟨gS, 0, none⟩) S.length cS] (0, 0) _ rfl (blk_set HK0.out 0 (.slice (some ⟨gS, 0, none⟩) S.length cS)) Try.underlying27 rfl (by kernel_rfl)) rfl ?_
      have hw0 := HW0.out
      have h54 := H54.out
      refine ⟨_, _, rfl, ?_, ?_, below_set PRr.out.bel (Nat.le_refl _)⟩
      · refine Kd.R_mono (Kd.R_far (p := ⟨w.heap.size, 0, none⟩) (Kd.R_keep HRS5.out PRr.out.keep (fun _ h => h.1)) (fun k hk => hk.2.1) _) (fun k hk he => ?_)
        rcases HU.out k he.symm with h | h <;> omega
      · refine Kd.R_mono (Kd.R_far (p := ⟨w.heap.size, 0, none⟩) PRr.out.out (fun k hk => by show k ≠ w.heap.size; omega) _) (fun k hk he => ?_)
        have : k = gS := by simpa [Value.ownBlock] using he
        omega
set_option maxHeartbeats 1000000 in
set_option maxRecDepth 100000 in
theorem pairRows_bad (a : Int) (w : World) (h : a < 1 ∨ 8 < a) :
    Calls Try.prog 7 #[.int .i64 a] w fun e w' => ∃ v0_ v1_ : Value, e = .returned (.tuple #[.agg #[v0_], v1_, .int .i64 2]) ∧ Kd.R (Kd.int .i64) 2 w' w.heap.size (fun k_ => some k_ ≠ (v1_ : Value).ownBlock) v0_ [] ∧ Kd.R (Kd.int .i64) 2 w' w.heap.size (fun k_ => some k_ ≠ (v0_ : Value).ownBlock) v1_ [] ∧ Below w.heap.size w w' := by
  rcases h with h | h
  · have d1 : decide (a < 1) = true := decide_eq_true h
    clear h
    go_enter Try.func7, Try.ntmps7
    go_wp2
    refine bodyPost_ret (results_ctt rfl _ _ w.heap.size 27 #[.slice none 0 0] (0, 0) _ rfl (blk_new w (.cells #[.slice none 0 0] 27)) Try.underlying27 rfl (by kernel_rfl)) rfl ?_
    exact ⟨_, _, rfl, Kd.R_nil _ _ _ _ _, Kd.R_nil _ _ _ _ _, below_alloc (Below.refl _ _) _⟩
  · have d1 : decide (a < 1) = false := decide_eq_false (by omega)
    have d2 : decide (a > 8) = true := decide_eq_true (by omega)
    clear h
    go_enter Try.func7, Try.ntmps7
    go_wp2
    refine bodyPost_ret (results_ctt rfl _ _ w.heap.size 27 #[.slice none 0 0] (0, 0) _ rfl (blk_new w (.cells #[.slice none 0 0] 27)) Try.underlying27 rfl (by kernel_rfl)) rfl ?_
    exact ⟨_, _, rfl, Kd.R_nil _ _ _ _ _, Kd.R_nil _ _ _ _ _, below_alloc (Below.refl _ _) _⟩
theorem impl_PairRows.calls (k : Nat) (a0 : Int) (r1 : List Int) (r2 : List Int) (r3 : Int) (w : World) (h : impl_PairRows.f k a0 = some (r1, r2, r3)) :
    Calls Try.prog 7 #[.int .i64 a0] w fun e w' => ∃ v0_ v1_ : Value, e = .returned (.tuple #[.agg #[v0_], v1_, .int .i64 r3]) ∧ Kd.R (Kd.int .i64) 2 w' w.heap.size (fun k_ => some k_ ≠ (v1_ : Value).ownBlock) v0_ r1 ∧ Kd.R (Kd.int .i64) 2 w' w.heap.size (fun k_ => some k_ ≠ (v0_ : Value).ownBlock) v1_ r2 ∧ Below w.heap.size w w' := by
  unfold impl_PairRows.f at h
  by_cases h1 : a0 < 1
  · rw [if_pos h1] at h
    cases h
    exact pairRows_bad a0 w (.inl h1)
  rw [if_neg h1] at h
  by_cases h2 : a0 > 8
  · rw [if_pos h2] at h
    cases h
    exact pairRows_bad a0 w (.inr h2)
  rw [if_neg h2] at h
  obtain ⟨S, hS, h⟩ := Option.bind_eq_some_iff.1 h
  obtain ⟨n, hn, h⟩ := Option.bind_eq_some_iff.1 h
  obtain ⟨T, hT, h⟩ := Option.bind_eq_some_iff.1 h
  by_cases hok : okPR a0 S T n = true
  · rw [if_pos hok] at h
    cases h
    simp only [okPR, Bool.and_eq_true, decide_eq_true_eq, List.all_eq_true, List.mem_range] at hok
    obtain ⟨⟨⟨⟨⟨o1, o2⟩, o3⟩, o4⟩, o5⟩, o6⟩ := hok
    obtain ⟨an, rfl⟩ : ∃ i : Nat, a0 = i := ⟨a0.toNat, (by omega)⟩
    obtain ⟨nn, rfl⟩ : ∃ i : Nat, n = i := ⟨n.toNat, (by omega)⟩
    obtain ⟨h8, hq⟩ := (okS_iff _).1 o5
    have e : ((nn : Int) - 1).toNat = nn - 1 := by omega
    rw [e] at o6 ⊢
    rw [Int.toNat_natCast] at o6 ⊢
    exact pairRows_walk k an _ T (nn : Int) nn rfl w (by omega) (by omega) hS hn hT (by omega) (by omega) (by omega) o4 h8 hq (fun row hr x hx => by
      have := o6 row hr
      simp only [okB, List.all_eq_true, Bool.and_eq_true, decide_eq_true_eq] at this
      exact this x hx)
  · rw [if_neg hok] at h; cases h

/-! ### spec_l01In: function 43 -/
def spec_l01In.f (a0 : Int) (a1 : Int) (a2 : Int) : Option (Bool) := if a0 ≥ a1 then (some (decide (a0 ≤ a2))) else (some false)
set_option maxHeartbeats 8000000 in
set_option maxRecDepth 100000 in
theorem spec_l01In.calls (a0 : Int) (a1 : Int) (a2 : Int) (r : Bool) (w : World) (h : spec_l01In.f a0 a1 a2 = some r) :
    Calls Try.prog 43 #[.int .i64 a0, .int .i64 a1, .int .i64 a2] w fun e w' => e = .returned (.bool r) ∧ Drawn0 w w' := by
  have H : (if a0 ≥ a1 then (some (decide (a0 ≤ a2))) else (some false)) = some r := h
  clear h
  by_cases c4 : a0 ≥ a1
  · rw [if_pos c4] at H
    have c4b0 : decide (a1 ≤ a0) = true := decide_eq_true c4
    clear c4
    obtain rfl := Option.some.inj H
    go_enter Try.func43, Try.ntmps43
    go_wp2
    go_ret
    exact ⟨z16, z46⟩
  · rw [if_neg c4] at H
    have c4b0 : decide (a1 ≤ a0) = false := decide_eq_false c4
    clear c4
    obtain rfl := Option.some.inj H
    go_enter Try.func43, Try.ntmps43
    go_wp2
    go_ret
    exact ⟨z16, z46⟩

/-! ### spec_l08Choose: function 76 -/
mutual
def spec_l08Choose.j0 : Nat → Int → Int → Bool → Option (Int)
  | 0, _, _, _ => none
  | k + 1, x0, x1, x13 => if x13 = true then (some 0) else (spec_l08Choose.l0 k x0 x1 1 1)
def spec_l08Choose.l0 : Nat → Int → Int → Int → Int → Option (Int)
  | 0, _, _, _, _ => none
  | k + 1, x0, x1, x5, x6 => if x6 ≤ x1 then (if x6 = 0 then (none) else (spec_l08Choose.l0 k x0 x1 (wrap64 (Int.tdiv (wrap64 (x5 * (wrap64 ((wrap64 (x0 - x6)) + 1)))) x6)) (wrap64 (x6 + 1)))) else (some x5)
end
def spec_l08Choose.f (k : Nat) (a0 : Int) (a1 : Int) : Option (Int) := if a1 < 0 then (spec_l08Choose.j0 k a0 a1 true) else (spec_l08Choose.j0 k a0 a1 (decide (a1 > a0)))
theorem spec_l08Choose.mono_l : ∀ k, (∀ y0 y1 y2, LeO (spec_l08Choose.j0 k y0 y1 y2) (spec_l08Choose.j0 (k + 1) y0 y1 y2)) ∧ (∀ y0 y1 y2 y3, LeO (spec_l08Choose.l0 k y0 y1 y2 y3) (spec_l08Choose.l0 (k + 1) y0 y1 y2 y3))
  | 0 => ⟨fun _ _ _ r h => by simp [spec_l08Choose.j0] at h, fun _ _ _ _ r h => by simp [spec_l08Choose.l0] at h⟩
  | k + 1 => by
    obtain ⟨ih0, ih1⟩ := spec_l08Choose.mono_l k
    refine ⟨?_, ?_⟩
    · intro y0 y1 y2
      unfold spec_l08Choose.j0
      repeat' first
      | (with_reducible exact ih0 _ _ _)
      | (with_reducible exact ih1 _ _ _ _)
      | (with_reducible exact LeO.refl _)
      | (with_reducible exact LeO.none _)
      | (with_reducible refine LeO.ite ?_ ?_)
      | (with_reducible refine LeO.bind ?_ (fun _ => ?_))
    · intro y0 y1 y2 y3
      unfold spec_l08Choose.l0
      repeat' first
      | (with_reducible exact ih0 _ _ _)
      | (with_reducible exact ih1 _ _ _ _)
      | (with_reducible exact LeO.refl _)
      | (with_reducible exact LeO.none _)
      | (with_reducible refine LeO.ite ?_ ?_)
      | (with_reducible refine LeO.bind ?_ (fun _ => ?_))
theorem spec_l08Choose.mono : ∀ a0 a1 k, LeO (spec_l08Choose.f k a0 a1) (spec_l08Choose.f (k + 1) a0 a1) := by
  intro a0 a1 k
  obtain ⟨ih0, ih1⟩ := spec_l08Choose.mono_l k
  unfold spec_l08Choose.f
  repeat' first
      | (with_reducible exact ih0 _ _ _)
      | (with_reducible exact ih1 _ _ _ _)
      | (with_reducible exact LeO.refl _)
      | (with_reducible exact LeO.none _)
      | (with_reducible refine LeO.ite ?_ ?_)
      | (with_reducible refine LeO.bind ?_ (fun _ => ?_))
set_option maxHeartbeats 8000000 in
set_option maxRecDepth 100000 in
theorem spec_l08Choose.calls (k : Nat) (a0 : Int) (a1 : Int) (r : Int) (w : World) (h : spec_l08Choose.f k a0 a1 = some r) :
    Calls Try.prog 76 #[.int .i64 a0, .int .i64 a1] w fun e w' => e = .returned (.int .i64 r) ∧ Drawn0 w w' := by
  have H : (if a1 < 0 then (spec_l08Choose.j0 k a0 a1 true) else (spec_l08Choose.j0 k a0 a1 (decide (a1 > a0)))) = some r := h
  clear h
  have HC3 := zA H
  clear H
  go_enter Try.func76, Try.ntmps76
  go_upto_region 1 with (fail)
  go_cut [13] (fun v13 wc => ∃ (kq : Nat) (x13_2 : Bool), v13 = .bool x13_2 ∧ Aside0 (spec_l08Choose.j0 kq a0 a1 x13_2 = some r) ∧ Aside0 (kq ≤ k) ∧ Drawn0 w wc)
  case first =>
    have H := HC3.out
    clear HC3
    by_cases c4 : a1 < 0
    · rw [if_pos c4] at H
      have c4b0 : decide (a1 < 0) = true := decide_eq_true c4
      clear c4
      (first | rw [c4b0] | (simp only [i64_w, i32_w]; rw [c4b0]) | skip)
      have H' := zA H
      clear H
      go_wp2
      go_meet
      case rel => exact ⟨_, (true), z16, H', ⟨z156⟩, z46⟩
    · rw [if_neg c4] at H
      have c4b0 : decide (a1 < 0) = false := decide_eq_false c4
      clear c4
      (first | rw [c4b0] | (simp only [i64_w, i32_w]; rw [c4b0]) | skip)
      have H' := zA H
      clear H
      go_wp2
      go_meet
      case rel => exact ⟨_, (decide (a1 > a0)), z16, H', ⟨z156⟩, z46⟩
  case rest =>
    clear HC3
    try clear p2
    try clear c4
    try clear c4b0
    obtain ⟨kq, x13_2, rfl, HA, HJ2, ⟨mc2, rfl⟩⟩ := hcut
    cases kq with
    | zero => exact absurd HA.out (by simp [spec_l08Choose.j0])
    | succ kj2 =>
      have H := HA.out
      clear HA
      simp only [spec_l08Choose.j0] at H
      by_cases c5 : x13_2 = true
      · subst c5
        have H1 : (some 0) = some r := by rw [if_pos rfl] at H; exact H
        clear H
        have H := H1
        clear H1
        obtain rfl := Option.some.inj H
        go_wp2
        go_ret
        exact ⟨z16, z46⟩
      · replace c5 := Bool.eq_false_iff.mpr c5
        subst c5
        have H1 : (spec_l08Choose.l0 kj2 a0 a1 1 1) = some r := by rw [if_neg (show ¬ (false = true) by decide)] at H; exact H
        clear H
        have H := H1
        clear H1
        have H' := zA H
        clear H
        go_wp2
        go_loopg [5, 6] kj2 (fun kq v5 v6 w' => ∃ (x5_2 : Int) (x6_2 : Int), v5 = .int .i64 x5_2 ∧ v6 = .int .i64 x6_2 ∧ Aside0 (spec_l08Choose.l0 kq a0 a1 x5_2 x6_2 = some r) ∧ Aside0 (kq ≤ kj2) ∧ Drawn0 w w')
        case atStart => exact ⟨(1), (1), z16, z16, H', ⟨Nat.le_refl _⟩, z46⟩
        case round =>
          clear H'
          try clear c2
          try clear p2
          try clear c4
          try clear c4b0
          try clear c5
          try clear p2
          obtain ⟨x5_2, x6_2, rfl, rfl, HA, HK2, ⟨m2, rfl⟩⟩ := hrel
          cases gk with
          | zero => exact absurd HA.out (by simp [spec_l08Choose.l0])
          | succ k2 =>
            have H := HA.out
            clear HA
            simp only [spec_l08Choose.l0] at H
            by_cases c6 : x6_2 ≤ a1
            · rw [if_pos c6] at H
              have c6b0 : decide (x6_2 ≤ a1) = true := decide_eq_true c6
              clear c6
              by_cases c7 : x6_2 = 0
              · rw [if_pos c7] at H
                exact absurd H (by simp)
              · rw [if_neg c7] at H
                have c7b0 : (x6_2 == 0) = false := beq_eq_false_iff_ne.mpr c7
                have c7b1 : (x6_2 != 0) = true := bne_iff_ne.mpr c7
                have H' := zA H
                clear H
                go_wp2
                go_roundg k2
                case measure => have := HJ2.out; have := HK2.out; omega
                case rel => exact ⟨(wrap64 (Int.tdiv (wrap64 (x5_2 * (wrap64 ((wrap64 (a0 - x6_2)) + 1)))) x6_2)), (wrap64 (x6_2 + 1)), z16, z16, H', ⟨(by have := HJ2.out; have := HK2.out; omega)⟩, z46⟩
            · rw [if_neg c6] at H
              have c6b0 : decide (x6_2 ≤ a1) = false := decide_eq_false c6
              clear c6
              obtain rfl := Option.some.inj H
              go_wp2
              go_ret
              exact ⟨z16, z46⟩

/-! ### spec_l10Pairs: function 44 -/
def spec_l10Pairs.l0 : Nat → Int → Int → Option (Int)
  | 0, _, _ => none
  | k + 1, x0, x3 => (spec_l08Choose.f k (wrap64 (x3 - 1)) (wrap64 (Int.tdiv (wrap64 (x3 + 1)) 2))).bind fun t100 => (if t100 < x0 then (spec_l10Pairs.l0 k x0 (wrap64 (x3 + 1))) else (some x3))
def spec_l10Pairs.f (k : Nat) (a0 : Int) : Option (Int) := spec_l10Pairs.l0 k a0 1
theorem spec_l10Pairs.mono_l : ∀ k, (∀ y0 y1, LeO (spec_l10Pairs.l0 k y0 y1) (spec_l10Pairs.l0 (k + 1) y0 y1))
  | 0 => fun _ _ r h => by simp [spec_l10Pairs.l0] at h
  | k + 1 => by
    have ih0 := spec_l10Pairs.mono_l k
    · intro y0 y1
      unfold spec_l10Pairs.l0
      repeat' first
      | (with_reducible exact ih0 _ _)
      | (with_reducible exact spec_l08Choose.mono _ _ _)
      | (with_reducible exact LeO.refl _)
      | (with_reducible exact LeO.none _)
      | (with_reducible refine LeO.ite ?_ ?_)
      | (with_reducible refine LeO.bind ?_ (fun _ => ?_))
theorem spec_l10Pairs.mono : ∀ a0 k, LeO (spec_l10Pairs.f k a0) (spec_l10Pairs.f (k + 1) a0) := by
  intro a0 k
  have ih0 := spec_l10Pairs.mono_l k
  unfold spec_l10Pairs.f
  repeat' first
      | (with_reducible exact ih0 _ _)
      | (with_reducible exact spec_l08Choose.mono _ _ _)
      | (with_reducible exact LeO.refl _)
      | (with_reducible exact LeO.none _)
      | (with_reducible refine LeO.ite ?_ ?_)
      | (with_reducible refine LeO.bind ?_ (fun _ => ?_))
set_option maxHeartbeats 8000000 in
set_option maxRecDepth 100000 in
theorem spec_l10Pairs.calls (k : Nat) (a0 : Int) (r : Int) (w : World) (h : spec_l10Pairs.f k a0 = some r) :
    Calls Try.prog 44 #[.int .i64 a0] w fun e w' => e = .returned (.int .i64 r) ∧ Drawn0 w w' := by
  have H : (spec_l10Pairs.l0 k a0 1) = some r := h
  clear h
  have H' := zA H
  clear H
  go_enter Try.func44, Try.ntmps44
  go_wp2
  go_loopg [3] k (fun kq v3 w' => ∃ (x3_1 : Int), v3 = .int .i64 x3_1 ∧ Aside0 (spec_l10Pairs.l0 kq a0 x3_1 = some r) ∧ Aside0 (kq ≤ k) ∧ Drawn0 w w')
  case atStart => exact ⟨(1), z16, H', ⟨Nat.le_refl _⟩, z46⟩
  case round =>
    clear H'
    obtain ⟨x3_1, rfl, HA, HK1, ⟨m1, rfl⟩⟩ := hrel
    cases gk with
    | zero => exact absurd HA.out (by simp [spec_l10Pairs.l0])
    | succ k1 =>
      have H := HA.out
      clear HA
      simp only [spec_l10Pairs.l0] at H
      replace H := zi H
      obtain ⟨t100, A20, H⟩ := H
      (try dsimp -simprocs only at H)
      have A2 := zA A20
      clear A20
      by_cases c3 : t100 < a0
      · rw [if_pos c3] at H
        have c3b0 : decide (t100 < a0) = true := decide_eq_true c3
        clear c3
        have H' := zA H
        clear H
        go_wp2_with (first | ((with_reducible refine gate_callee (f := 76) rfl ?_); refine goesL_ (some 9) rfl rfl Try.func76 (by kernel_rfl) rfl #[.int .i64 (wrap64 (x3_1 - 1)), .int .i64 (wrap64 (Int.tdiv (wrap64 (x3_1 + 1)) 2))] rfl z3 ?_; (with_reducible refine (spec_l08Choose.calls k1 (wrap64 (x3_1 - 1)) (wrap64 (Int.tdiv (wrap64 (x3_1 + 1)) 2)) t100 _ A2.out).mono ?_); rintro e w' ⟨rfl, ⟨nd, rfl⟩⟩; refine ⟨_, rfl, ?_⟩))
        go_roundg k1
        case measure => have := HK1.out; omega
        case rel => exact ⟨(wrap64 (x3_1 + 1)), z16, H', ⟨z99⟩, z46⟩
      · rw [if_neg c3] at H
        have c3b0 : decide (t100 < a0) = false := decide_eq_false c3
        clear c3
        obtain rfl := Option.some.inj H
        go_wp2_with (first | ((with_reducible refine gate_callee (f := 76) rfl ?_); refine goesL_ (some 9) rfl rfl Try.func76 (by kernel_rfl) rfl #[.int .i64 (wrap64 (x3_1 - 1)), .int .i64 (wrap64 (Int.tdiv (wrap64 (x3_1 + 1)) 2))] rfl z3 ?_; (with_reducible refine (spec_l08Choose.calls k1 (wrap64 (x3_1 - 1)) (wrap64 (Int.tdiv (wrap64 (x3_1 + 1)) 2)) t100 _ A2.out).mono ?_); rintro e w' ⟨rfl, ⟨nd, rfl⟩⟩; refine ⟨_, rfl, ?_⟩))
        go_ret
        exact ⟨z16, z46⟩

end Go.Proofs.Ytbfhhjekonafdaa.PFnPairRows
