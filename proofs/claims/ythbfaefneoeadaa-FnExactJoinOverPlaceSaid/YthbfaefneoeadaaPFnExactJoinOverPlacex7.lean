-- WALKS, by a program and by hand
import Derived.Test.YthbfaefneoeadaaPFnExactJoinOverPlacex0
import Derived.Test.YthbfaefneoeadaaPFnExactJoinOverPlacex5
import Derived.Test.YthbfaefneoeadaaPFnExactJoinOverPlacex6
namespace Go.Proofs.Ythbfaefneoeadaa.PFnExactJoinOverPlace
open Go.RowKit Go.Proofs.Ythbfaefneoeadaa.DG Go.Proofs.YthbfaefneoeadaaW.PrintWords Go.Proofs.YthbfaefneoeadaaW.PrintLast Go.Proofs.YthbfaefneoeadaaW.PrintMore
attribute [local go_sem] max2_int min2_int max_two min_two max_three min_three max_four min_four   -- for this text's walks alone
set_option linter.unusedVariables false
set_option linter.unusedSimpArgs false

/-! ### impl_JoinOverPlace: function 18 -/
theorem zs_impl {k : IntKind} {e base : Nat} {w : World} {P P' Q : Nat → Prop} {u v : Value} {l m : List Int} (h : (Kd.int k).R e w base P v l) (g : (Kd.int k).R e w base Q u m) (hok : ∀ j, P j → some j ≠ u.ownBlock → P' j := by intro j h1 h2; first | exact h2 | exact ⟨h1, h2⟩) (hq : ∀ j, Q j → some j ≠ v.ownBlock := by intro j h1; first | exact h1 | exact h1.2 | exact h1.1) : (Kd.int k).R e w base P' v l :=
  ⟨fun j hj => hok j (h.1 j hj) (fun e => hq j (g.1 j e.symm) hj.symm), h.2.imp_ (fun _ _ hp => hp)⟩
mutual
def impl_JoinOverPlace.l0 : Nat → List Int → Int → List Int → Int → List Int → Int → Int → List Int → Option (List Int × List Int × Int)
  | 0, _, _, _, _, _, _, _, _ => none
  | k + 1, x3, x12, x15, x16, x64, x65, x66, x212000 => if x66 < x65 then (if 0 ≤ x66 then (if x66 < (x64.length : Int) then (impl_JoinOverPlace.l1 k x3 x12 x15 x16 (rd x64 x66) x64 x65 x66 x3 (x3.length : Int) 0 x212000) else (none)) else (none)) else (some (x212000, x15, 0))
def impl_JoinOverPlace.l1 : Nat → List Int → Int → List Int → Int → Int → List Int → Int → Int → List Int → Int → Int → List Int → Option (List Int × List Int × Int)
  | 0, _, _, _, _, _, _, _, _, _, _, _, _ => none
  | k + 1, x3, x12, x15, x16, x18, x64, x65, x66, x70, x71, x72, x212000 => if x72 < x71 then (if 0 ≤ x72 then (if x72 < (x70.length : Int) then (if x12 = 0 then (none) else (if x16 = 0 then (none) else (if (Int.tmod x18 x12) = (wrap64 (Int.tdiv (rd x70 x72) x16)) then (if x15.length < 17592186044416 then (impl_JoinOverPlace.l1 k x3 x12 (x15 ++ [wrap64 ((wrap64 (x18 * x16)) + (Int.tmod (rd x70 x72) x16))]) x16 x18 x64 x65 x66 x70 x71 (wrap64 (x72 + 1)) x212000) else (none)) else (impl_JoinOverPlace.l1 k x3 x12 x15 x16 x18 x64 x65 x66 x70 x71 (wrap64 (x72 + 1)) x212000)))) else (none)) else (none)) else (impl_JoinOverPlace.l0 k x3 x12 x15 x16 x64 x65 (wrap64 (x66 + 1)) x212000)
end
def impl_JoinOverPlace.f (k : Nat) (l0_0 : List Int) (l1 : List Int) (l2_0 : List Int) (l3 : List Int) : Option (List Int × List Int × Int) := (impl_twoCode.f k l0_0 l1 l2_0 l3).bind fun t100 => (if t100 = 0 then (if 0 < (l2_0.length : Int) then (if 0 ≤ (wrap64 ((l0_0.length : Int) - 1)) then (if (wrap64 ((l0_0.length : Int) - 1)) < (l0_0.length : Int) then (if (rd l0_0 (wrap64 ((l0_0.length : Int) - 1))) = (rd l2_0 0) then (if 1 ≤ (l2_0.length : Int) then ((slices_Concat_int64_int64.f k (([l0_0, (l2_0.drop 1)] : List (List Int)))).bind fun t101 => ((impl_limitedSpace.f k t101).bind fun bt102 => (if bt102.2 = true then ((impl_count.f k l2_0).bind fun t103 => (if (rd l2_0 0) = 0 then (none) else (impl_JoinOverPlace.l0 k l3 (rd l2_0 0) (([] : List Int)) (wrap64 (Int.tdiv t103 (rd l2_0 0))) l1 (l1.length : Int) 0 bt102.1))) else (some (([] : List Int), ([] : List Int), 3))))) else (none)) else (some (([] : List Int), ([] : List Int), 5))) else (none)) else (none)) else (none)) else (some (([] : List Int), ([] : List Int), t100)))
theorem impl_JoinOverPlace.mono_l : ∀ k, (∀ y0 y1 y2 y3 y4 y5 y6 y7, LeO (impl_JoinOverPlace.l0 k y0 y1 y2 y3 y4 y5 y6 y7) (impl_JoinOverPlace.l0 (k + 1) y0 y1 y2 y3 y4 y5 y6 y7)) ∧ (∀ y0 y1 y2 y3 y4 y5 y6 y7 y8 y9 y10 y11, LeO (impl_JoinOverPlace.l1 k y0 y1 y2 y3 y4 y5 y6 y7 y8 y9 y10 y11) (impl_JoinOverPlace.l1 (k + 1) y0 y1 y2 y3 y4 y5 y6 y7 y8 y9 y10 y11))
  | 0 => ⟨fun _ _ _ _ _ _ _ _ r h => by simp [impl_JoinOverPlace.l0] at h, fun _ _ _ _ _ _ _ _ _ _ _ _ r h => by simp [impl_JoinOverPlace.l1] at h⟩
  | k + 1 => by
    obtain ⟨ih0, ih1⟩ := impl_JoinOverPlace.mono_l k
    refine ⟨?_, ?_⟩
    · intro y0 y1 y2 y3 y4 y5 y6 y7
      unfold impl_JoinOverPlace.l0
      repeat' first
      | (with_reducible exact ih0 _ _ _ _ _ _ _ _)
      | (with_reducible exact ih1 _ _ _ _ _ _ _ _ _ _ _ _)
      | (with_reducible exact impl_count.mono _ _)
      | (with_reducible exact impl_limitedSpace.mono _ _)
      | (with_reducible exact impl_twoCode.mono _ _ _ _ _)
      | (with_reducible exact slices_Concat_int64_int64.mono _ _)
      | (with_reducible exact LeO.refl _)
      | (with_reducible exact LeO.none _)
      | (with_reducible refine LeO.ite ?_ ?_)
      | (with_reducible refine LeO.bind ?_ (fun _ => ?_))
    · intro y0 y1 y2 y3 y4 y5 y6 y7 y8 y9 y10 y11
      unfold impl_JoinOverPlace.l1
      repeat' first
      | (with_reducible exact ih0 _ _ _ _ _ _ _ _)
      | (with_reducible exact ih1 _ _ _ _ _ _ _ _ _ _ _ _)
      | (with_reducible exact impl_count.mono _ _)
      | (with_reducible exact impl_limitedSpace.mono _ _)
      | (with_reducible exact impl_twoCode.mono _ _ _ _ _)
      | (with_reducible exact slices_Concat_int64_int64.mono _ _)
      | (with_reducible exact LeO.refl _)
      | (with_reducible exact LeO.none _)
      | (with_reducible refine LeO.ite ?_ ?_)
      | (with_reducible refine LeO.bind ?_ (fun _ => ?_))
theorem impl_JoinOverPlace.mono : ∀ a0 a1 a2 a3 k, LeO (impl_JoinOverPlace.f k a0 a1 a2 a3) (impl_JoinOverPlace.f (k + 1) a0 a1 a2 a3) := by
  intro a0 a1 a2 a3 k
  obtain ⟨ih0, ih1⟩ := impl_JoinOverPlace.mono_l k
  unfold impl_JoinOverPlace.f
  repeat' first
      | (with_reducible exact ih0 _ _ _ _ _ _ _ _)
      | (with_reducible exact ih1 _ _ _ _ _ _ _ _ _ _ _ _)
      | (with_reducible exact impl_count.mono _ _)
      | (with_reducible exact impl_limitedSpace.mono _ _)
      | (with_reducible exact impl_twoCode.mono _ _ _ _ _)
      | (with_reducible exact slices_Concat_int64_int64.mono _ _)
      | (with_reducible exact LeO.refl _)
      | (with_reducible exact LeO.none _)
      | (with_reducible refine LeO.ite ?_ ?_)
      | (with_reducible refine LeO.bind ?_ (fun _ => ?_))
def impl_JoinOverPlace.T7 : Bool × List (List Nat × List Nat) := (true, [([], []), ([0], [0]), ([], []), ([2], [2]), ([3], [3]), ([1, 4], [1, 4]), ([5], [5]), ([6, 6], [6]), ([7], [7]), ([8], [8]), ([8], [8]), ([], []), ([11, 9, 7, 0, 1, 2, 3, 4, 5, 6, 7, 8, 9, 11], [9, 11]), ([10, 12, 0, 1, 2, 3, 4, 5, 6, 7, 8, 9, 10, 11, 12], [10])])
def impl_JoinOverPlace.B7 : List Nat := [0, 1, 0, 4, 12, 31, 63, 127, 255, 511, 511, 0, 3071, 8191]
theorem impl_JoinOverPlace.tab7 : rtab .any (opsOf Try.f18 7) = impl_JoinOverPlace.T7 := by kernel_rfl
theorem impl_JoinOverPlace.bits7 : waitsOk impl_JoinOverPlace.T7.2 impl_JoinOverPlace.B7 = true := by kernel_rfl
def impl_JoinOverPlace.T10 : Bool × List (List Nat × List Nat) := (true, [([], []), ([], []), ([1], [1]), ([], []), ([2, 3], [2, 3]), ([0, 2, 0], [0]), ([4, 5, 0, 1, 2, 3, 4, 5], [4])])
def impl_JoinOverPlace.B10 : List Nat := [0, 0, 2, 0, 14, 7, 63]
theorem impl_JoinOverPlace.tab10 : rtab .any (opsOf Try.f18 10) = impl_JoinOverPlace.T10 := by kernel_rfl
theorem impl_JoinOverPlace.bits10 : waitsOk impl_JoinOverPlace.T10.2 impl_JoinOverPlace.B10 = true := by kernel_rfl
set_option maxHeartbeats 8000000 in
set_option maxRecDepth 100000 in
theorem impl_JoinOverPlace.calls (k : Nat) (P0_0_ : Nat → Prop) (A0_0 : Option Addr) (c0_0 : Nat) (l0_0 : List Int) (A1 : Option Addr) (c1 : Nat) (l1 : List Int) (P2_0_ : Nat → Prop) (A2_0 : Option Addr) (c2_0 : Nat) (l2_0 : List Int) (A3 : Option Addr) (c3 : Nat) (l3 : List Int) (r1 : List Int) (r2 : List Int) (r3 : Int) (w : World) (hs0_0 : Kd.V (Kd.int .i64) 2 w w.heap.size (fun k_ => P0_0_ k_) (.slice A0_0 l0_0.length c0_0) l0_0) (hr1 : Kd.C (Kd.int .i64) w A1 l1.length l1) (hc1 : l1.length ≤ c1) (hs2_0 : Kd.V (Kd.int .i64) 2 w w.heap.size (fun k_ => P2_0_ k_) (.slice A2_0 l2_0.length c2_0) l2_0) (hr3 : Kd.C (Kd.int .i64) w A3 l3.length l3) (hc3 : l3.length ≤ c3) (h : impl_JoinOverPlace.f k l0_0 l1 l2_0 l3 = some (r1, r2, r3)) :
    Calls Try.prog 18 #[.agg #[.slice A0_0 l0_0.length c0_0], .slice A1 l1.length c1, .agg #[.slice A2_0 l2_0.length c2_0], .slice A3 l3.length c3] w fun e w' => ∃ v0_ v1_ : Value, e = .returned (.tuple #[.agg #[v0_], v1_, .int .i64 r3]) ∧ Kd.R (Kd.int .i64) 2 w' w.heap.size (fun k_ => (w.heap.size ≤ k_) ∧ some k_ ≠ (v1_ : Value).ownBlock) v0_ r1 ∧ Kd.R (Kd.int .i64) 2 w' w.heap.size (fun k_ => (w.heap.size ≤ k_) ∧ some k_ ≠ (v0_ : Value).ownBlock) v1_ r2 ∧ Below w.heap.size w w' := by
  have hu30 := Try.underlying30
  have HO0_0 := Aside0.mk (show Kd.V (Kd.int .i64) 2 w w.heap.size (fun k_ => ((P0_0_ k_ ∨ P2_0_ k_) ∨ w.heap.size ≤ k_)) (.slice A0_0 l0_0.length c0_0) l0_0 from Kd.V_mono hs0_0 (fun k_ hk => .inl (.inl hk)))
  have HR1 := Aside0.mk hr1
  have HC1 := Aside0.mk hc1
  clear hr1 hc1
  have HO2_0 := Aside0.mk (show Kd.V (Kd.int .i64) 2 w w.heap.size (fun k_ => ((P0_0_ k_ ∨ P2_0_ k_) ∨ w.heap.size ≤ k_)) (.slice A2_0 l2_0.length c2_0) l2_0 from Kd.V_mono hs2_0 (fun k_ hk => .inl (.inr hk)))
  have HR3 := Aside0.mk hr3
  have HC3 := Aside0.mk hc3
  clear hr3 hc3
  have HB := Aside0.mk (Below.refl w.heap.size w)
  have H := h
  unfold impl_JoinOverPlace.f at H
  (try dsimp -simprocs only at H)
  clear h
  replace H := Option.bind_eq_some_iff.mp H
  obtain ⟨t100, A50, H⟩ := H
  (try dsimp -simprocs only at H)
  have A5 := Aside0.mk A50
  clear A50
  by_cases c6 : t100 = 0
  · rw [if_pos c6] at H
    have c6b0 : (t100 == 0) = true := beq_iff_eq.mpr c6
    have c6b1 : (t100 != 0) = false := bne_eq_false_iff_eq.mpr c6
    clear c6
    by_cases c7 : 0 < (l2_0.length : Int)
    · rw [if_pos c7] at H
      have c7b0 : decide (0 < (l2_0.length : Int)) = true := decide_eq_true c7
      have c7b1 : decide (0 < l2_0.length) = true := decide_eq_true (by omega)
      clear c7
      obtain ⟨ji8, hji8⟩ : ∃ j_ : Int, (wrap64 ((l0_0.length : Int) - 1)) = j_ := ⟨_, rfl⟩
      replace H : (if 0 ≤ (ji8) then (if (ji8) < (l0_0.length : Int) then (if (rd l0_0 (ji8)) = (rd l2_0 0) then (if 1 ≤ (l2_0.length : Int) then ((slices_Concat_int64_int64.f k (([l0_0, (l2_0.drop 1)] : List (List Int)))).bind fun t101 => ((impl_limitedSpace.f k t101).bind fun bt102 => (if bt102.2 = true then ((impl_count.f k l2_0).bind fun t103 => (if (rd l2_0 0) = 0 then (none) else (impl_JoinOverPlace.l0 k l3 (rd l2_0 0) (([] : List Int)) (wrap64 (Int.tdiv t103 (rd l2_0 0))) l1 (l1.length : Int) 0 bt102.1))) else (some (([] : List Int), ([] : List Int), 3))))) else (none)) else (some (([] : List Int), ([] : List Int), 5))) else (none)) else (none)) = some (r1, r2, r3) := by first | (rw [hji8] at H; exact H) | (simp only [hji8] at H ⊢; exact H)
      (try rw [hji8] at A5)
      have hji8w : (IntKind.i64.wrap ((l0_0.length : Int) - 1)) = ji8 := (i64_w _).trans hji8
      by_cases c9 : 0 ≤ (ji8)
      · rw [if_pos c9] at H
        have c9b0 : decide (0 ≤ (ji8)) = true := decide_eq_true c9
        clear c9
        by_cases c10 : (ji8) < (l0_0.length : Int)
        · rw [if_pos c10] at H
          have c10b0 : decide ((ji8) < (l0_0.length : Int)) = true := decide_eq_true c10
          clear c10
          by_cases c11 : (rd l0_0 (ji8)) = (rd l2_0 0)
          · rw [if_pos c11] at H
            have c11b0 : ((rd l0_0 (ji8)) == (rd l2_0 0)) = true := beq_iff_eq.mpr c11
            have c11b1 : ((rd l0_0 (ji8)) != (rd l2_0 0)) = false := bne_eq_false_iff_eq.mpr c11
            clear c11
            by_cases c12 : 1 ≤ (l2_0.length : Int)
            · rw [if_pos c12] at H
              have c12b0 := eq_true c12
              have c12b1 : decide (1 ≤ (l2_0.length : Int)) = true := decide_eq_true c12
              clear c12
              obtain ⟨y104, hy104⟩ : ∃ y_ : List Int, y_ = (l2_0.drop 1) := ⟨_, rfl⟩
              replace H : ((slices_Concat_int64_int64.f k (([l0_0, y104] : List (List Int)))).bind fun t101 => ((impl_limitedSpace.f k t101).bind fun bt102 => (if bt102.2 = true then ((impl_count.f k l2_0).bind fun t103 => (if (rd l2_0 0) = 0 then (none) else (impl_JoinOverPlace.l0 k l3 (rd l2_0 0) (([] : List Int)) (wrap64 (Int.tdiv t103 (rd l2_0 0))) l1 (l1.length : Int) 0 bt102.1))) else (some (([] : List Int), ([] : List Int), 3))))) = some (r1, r2, r3) := by first | (rw [hy104]; with_reducible exact H) | (have H2_ := (Option.bind_some _ _).symm.trans H; rw [hy104]; with_reducible exact H2_) | (have H2_ := (Option.bind_some _ _).symm.trans H; with_reducible exact H2_) | with_reducible exact H | (rw [hy104]; exact H) | exact H
              have Ny104 := Aside0.mk hy104
              clear hy104
              obtain ⟨y105, hy105⟩ : ∃ y_ : List (List Int), y_ = (([l0_0, y104] : List (List Int))) := ⟨_, rfl⟩
              replace H : ((slices_Concat_int64_int64.f k y105).bind fun t101 => ((impl_limitedSpace.f k t101).bind fun bt102 => (if bt102.2 = true then ((impl_count.f k l2_0).bind fun t103 => (if (rd l2_0 0) = 0 then (none) else (impl_JoinOverPlace.l0 k l3 (rd l2_0 0) (([] : List Int)) (wrap64 (Int.tdiv t103 (rd l2_0 0))) l1 (l1.length : Int) 0 bt102.1))) else (some (([] : List Int), ([] : List Int), 3))))) = some (r1, r2, r3) := by first | (rw [hy105]; with_reducible exact H) | (have H2_ := (Option.bind_some _ _).symm.trans H; rw [hy105]; with_reducible exact H2_) | (have H2_ := (Option.bind_some _ _).symm.trans H; with_reducible exact H2_) | with_reducible exact H | (rw [hy105]; exact H) | exact H
              have Ny105 := Aside0.mk hy105
              clear hy105
              replace H := Option.bind_eq_some_iff.mp H
              obtain ⟨t101, A130, H⟩ := H
              (try dsimp -simprocs only at H)
              have A13 := Aside0.mk A130
              clear A130
              replace H := Option.bind_eq_some_iff.mp H
              obtain ⟨⟨t102, t106⟩, A140, H⟩ := H
              (try dsimp -simprocs only at H)
              have A14 := Aside0.mk A140
              clear A140
              by_cases c15 : t106 = true
              · subst c15
                have H1 : ((impl_count.f k l2_0).bind fun t103 => (if (rd l2_0 0) = 0 then (none) else (impl_JoinOverPlace.l0 k l3 (rd l2_0 0) (([] : List Int)) (wrap64 (Int.tdiv t103 (rd l2_0 0))) l1 (l1.length : Int) 0 t102))) = some (r1, r2, r3) := by rw [if_pos rfl] at H; exact H
                clear H
                have H := H1
                clear H1
                obtain ⟨y107, hy107⟩ : ∃ y_ : List Int, y_ = (([] : List Int)) := ⟨_, rfl⟩
                replace H : ((impl_count.f k l2_0).bind fun t103 => (if (rd l2_0 0) = 0 then (none) else (impl_JoinOverPlace.l0 k l3 (rd l2_0 0) y107 (wrap64 (Int.tdiv t103 (rd l2_0 0))) l1 (l1.length : Int) 0 t102))) = some (r1, r2, r3) := by first | (rw [hy107]; with_reducible exact H) | (have H2_ := (Option.bind_some _ _).symm.trans H; rw [hy107]; with_reducible exact H2_) | (have H2_ := (Option.bind_some _ _).symm.trans H; with_reducible exact H2_) | with_reducible exact H | (rw [hy107]; exact H) | exact H
                have Ny107 := Aside0.mk hy107
                clear hy107
                replace H := Option.bind_eq_some_iff.mp H
                obtain ⟨t103, A160, H⟩ := H
                (try dsimp -simprocs only at H)
                have A16 := Aside0.mk A160
                clear A160
                by_cases c17 : (rd l2_0 0) = 0
                · rw [if_pos c17] at H
                  exact absurd H (by simp)
                · rw [if_neg c17] at H
                  have c17b0 : ((rd l2_0 0) == 0) = false := beq_eq_false_iff_ne.mpr c17
                  have c17b1 : ((rd l2_0 0) != 0) = true := bne_iff_ne.mpr c17
                  have H' := Aside0.mk H
                  clear H
                  go_enter Try.func18, Try.ntmps18
                  try go_wp2_with (first | ((with_reducible refine gate_dst (N := 4) rfl ?_); refine box_event ?hg (N := 4) ?hd (cs := #[.slice A0_0 l0_0.length c0_0]) (t := 30) ?hr ?_; (case hd => rfl); (case hg => rfl); (case hr => first | (go_simp; done) | (go_simp; rfl)); intro gb108 hg w18 hbox hb; have n0_ := Aside0.mk (Kd.V_below (Kd.V_elderB z14 gb108 (Nat.le_of_eq hg.symm)) hb); have n1_ := Aside0.mk (Kd.V_below (Kd.V_elderB z15 gb108 (Nat.le_of_eq hg.symm)) hb); have n2_ := Aside0.mk (below_step z5 hb); have n3_ := Aside0.mk (hbox); have n4_ := Aside0.mk ((z86 : w.heap.size ≤ gb108)); have n5_ := Aside0.mk ((z86 : w.heap.size ≤ gb108)); clear HO0_0 HO2_0 HB; have HO0_0 := n0_; have HO2_0 := n1_; have HB := n2_; have BK108 := n3_; have GW108 := n4_; have GE108 := n5_; clear n0_ n1_ n2_ n3_ n4_ n5_; clear hb hbox hg) | ((with_reducible refine gate_dst (N := 6) rfl ?_); refine box_event ?hg (N := 6) ?hd (cs := #[.slice A2_0 l2_0.length c2_0]) (t := 30) ?hr ?_; (case hd => rfl); (case hg => rfl); (case hr => first | (go_simp; done) | (go_simp; rfl)); intro gb109 hg w19 hbox hb; have n0_ := Aside0.mk (Kd.V_below (Kd.V_elderB z14 gb109 (Nat.le_of_eq hg.symm)) hb); have n1_ := Aside0.mk (Kd.V_below (Kd.V_elderB z15 gb109 (Nat.le_of_eq hg.symm)) hb); have n2_ := zBB BK108 hb; have n3_ := Aside0.mk (below_step z22 hb); have n4_ := Aside0.mk (hbox); have n5_ := Aside0.mk ((z102 : w.heap.size ≤ gb109)); have n6_ := Aside0.mk ((z102 : w.heap.size ≤ gb109)); have n7_ := Aside0.mk ((z89 : gb108 ≠ gb109)); have n8_ := Aside0.mk ((z90 : gb109 ≠ gb108)); clear HO0_0 HO2_0 BK108 HB; have HO0_0 := n0_; have HO2_0 := n1_; have BK108 := n2_; have HB := n3_; have BK109 := n4_; have GW109 := n5_; have GE109 := n6_; have NB108_109 := n7_; have NB109_108 := n8_; clear n0_ n1_ n2_ n3_ n4_ n5_ n6_ n7_ n8_; clear hb hbox hg) | ((with_reducible refine gate_dst (N := 8) rfl ?_); refine box_event ?hg (N := 8) ?hd (cs := #[.slice none 0 0]) (t := 30) ?hr ?_; (case hd => rfl); (case hg => rfl); (case hr => first | (go_simp; done) | (go_simp; rfl)); intro gb110 hg w20 hbox hb; have n0_ := Aside0.mk (Kd.V_below (Kd.V_elderB z14 gb110 (Nat.le_of_eq hg.symm)) hb); have n1_ := Aside0.mk (Kd.V_below (Kd.V_elderB z15 gb110 (Nat.le_of_eq hg.symm)) hb); have n2_ := zBB BK108 hb; have n3_ := zBB BK109 hb; have n4_ := Aside0.mk (below_step z19 hb); have n5_ := Aside0.mk (hbox); have n6_ := Aside0.mk ((z103 : w.heap.size ≤ gb110)); have n7_ := Aside0.mk ((z103 : w.heap.size ≤ gb110)); have n8_ := Aside0.mk ((z89 : gb108 ≠ gb110)); have n9_ := Aside0.mk ((z90 : gb110 ≠ gb108)); have n10_ := Aside0.mk ((z100 : gb109 ≠ gb110)); have n11_ := Aside0.mk ((z101 : gb110 ≠ gb109)); clear HO0_0 HO2_0 BK108 BK109 HB; have HO0_0 := n0_; have HO2_0 := n1_; have BK108 := n2_; have BK109 := n3_; have HB := n4_; have BK110 := n5_; have GW110 := n6_; have GE110 := n7_; have NB108_110 := n8_; have NB110_108 := n9_; have NB109_110 := n10_; have NB110_109 := n11_; clear n0_ n1_ n2_ n3_ n4_ n5_ n6_ n7_ n8_ n9_ n10_ n11_; clear hb hbox hg; have hnb21 := NB108_109.out; have hnc21 := NB109_108.out; have hnb22 := NB108_110.out; have hnc22 := NB110_108.out; obtain ⟨hcz23_0, hfz23_0⟩ := zC1 BK108.out; have hnb24 := NB109_110.out; have hnc24 := NB110_109.out; obtain ⟨hcz25_0, hfz25_0⟩ := zC1 BK109.out) | ((with_reducible refine gate_callee (f := 43) rfl ?_); refine goesL_ (some 25) rfl rfl Try.func43 (by kernel_rfl) rfl #[.agg #[.slice A0_0 l0_0.length c0_0], .slice A1 l1.length c1, .agg #[.slice A2_0 l2_0.length c2_0], .slice A3 l3.length c3] rfl z9 ?_; (with_reducible refine (impl_twoCode.calls k _ _ l0_0 _ _ l1 _ _ l2_0 _ _ l3 t100 _ ?side1 ?side2 ?side3 ?side4 ?side5 ?side6 ?side7 ?side8 A5.out).mono ?_); (case side1 => exact z49); (case side2 => exact (Kd.V_reads' HO0_0.out).2.1); (case side3 => exact z27); (case side4 => exact HC1.out); (case side5 => exact z46); (case side6 => exact (Kd.V_reads' HO2_0.out).2.1); (case side7 => exact z39); (case side8 => exact HC3.out); rintro e w26 ⟨rfl, hb⟩; refine ⟨_, rfl, ?_⟩; have n0_ := Aside0.mk (Kd.V_below z14 hb); have n1_ := Aside0.mk (Kd.V_below z15 hb); have n2_ := zBB BK108 hb; have n3_ := zBB BK109 hb; have n4_ := zBB BK110 hb; have n5_ := Aside0.mk (below_step z2 hb); clear HO0_0 HO2_0 BK108 BK109 BK110 HB; have HO0_0 := n0_; have HO2_0 := n1_; have BK108 := n2_; have BK109 := n3_; have BK110 := n4_; have HB := n5_; clear n0_ n1_ n2_ n3_ n4_ n5_; (try clear hb); (try clear hb2); (try clear hk); (try clear hi); obtain ⟨hcz27_0, hfz27_0⟩ := zC1 BK109.out; have p194 : 0 ≤ (0 : Int) := (by omega); have q194 : 0 < (l2_0.length : Int) := of_decide_eq_true z12; obtain ⟨ad194, e194, hx194_0⟩ := Kd.at_int (Kd.V_reads' HO2_0.out).2.2 0 p194 q194; cases e194; have qi194 : (0 < l2_0.length) = True := eq_true (by omega); (try rw [show ((0 : Int)).toNat = 0 from rfl] at hx194_0); (try rw [Addr.add_zero'] at hx194_0); replace p194 := eq_true p194; replace q194 := eq_true q194; obtain ⟨hcz28_0, hfz28_0⟩ := zC1 BK108.out; have p195 : 0 ≤ ((ji8) : Int) := of_decide_eq_true z12; have q195 : (ji8) < (l0_0.length : Int) := of_decide_eq_true z12; obtain ⟨ad195, e195, hx195_0⟩ := Kd.at_int (Kd.V_reads' HO0_0.out).2.2 (ji8) p195 q195; cases e195; replace p195 := eq_true p195; replace q195 := eq_true q195))
                  have n0_ := Aside0.mk (Kd.V_drew HO0_0.out)
                  have n1_ := Aside0.mk (Kd.V_drew HO2_0.out)
                  have n2_ := Aside0.mk (blk_drew BK108.out)
                  have n3_ := Aside0.mk (blk_drew BK109.out)
                  have n4_ := Aside0.mk (blk_drew BK110.out)
                  have n5_ := Aside0.mk (below_drew1 HB.out)
                  clear HO0_0 HO2_0 BK108 BK109 BK110 HB
                  have HO0_0 := n0_
                  have HO2_0 := n1_
                  have BK108 := n2_
                  have BK109 := n3_
                  have BK110 := n4_
                  have HB := n5_
                  clear n0_ n1_ n2_ n3_ n4_ n5_
                  have q30 : (1 : Int) ≤ ((l2_0.length : Int) : Int) := of_decide_eq_true z12
                  obtain ⟨i030, hi030, _, hsz30, _⟩ := info_parts info2
                  have hroom30 : l2_0.length ≤ c2_0 := (Kd.V_reads' HO2_0.out).2.1
                  have hC30 : Kd.F (Kd.int .i64) _ _ (some ad194) l2_0.length l2_0 := (Kd.V_at (base := w.heap.size) HO2_0.out).2.2
                  have hcut30 := cut_from (P := Try.prog) 22 2 .i64 Try.underlying22 hi030 1 hsz30 (some ad194) l2_0.length c2_0 1 (by omega) q30
                  have hr30 := Kd.F_cut (m := (1 : Int).toNat) (c := c2_0) hC30 (by omega) hroom30
                  obtain ⟨A30, hA30⟩ : ∃ A1, A1 = (if c2_0 = (1 : Int).toNat then (some ad194) else ((some ad194) : Option Addr).map (·.add ((1 : Int).toNat * 1))) := ⟨_, rfl⟩
                  obtain ⟨c30, hc30⟩ : ∃ c1, c1 = c2_0 - (1 : Int).toNat := ⟨_, rfl⟩
                  have hy30 : y104.length = l2_0.length - (1 : Int).toNat := (by rw [Ny104.out, List.length_drop] <;> omega)
                  rw [show (l2_0).drop (1 : Int).toNat = y104 from Ny104.out.symm] at hr30
                  replace hr30 : Kd.F (Kd.int .i64) _ _ A30 y104.length y104 := (by rw [hA30]; exact hr30)
                  rw [← hy30, ← hA30, ← hc30] at hcut30
                  have HO111 := Aside0.mk (show Kd.V (Kd.int .i64) 2 _ w.heap.size _ (.slice A30 y104.length c30) y104 from Kd.V_mk (by rw [hy30, hc30]; exact Nat.sub_le_sub_right hroom30 _) hr30)
                  have HC200 := Aside0.mk (show y104.length ≤ c30 from by rw [hy30, hc30]; exact Nat.sub_le_sub_right hroom30 _)
                  clear hr30 hC30 hroom30 hi030 hsz30 hc30
                  have KY30 := Aside0.mk hy30
                  have KA30 := Aside0.mk hA30
                  clear hy30 hA30
                  replace q30 := eq_true q30
                  refine start_ (n := 14) (S := fun w' => w'.cell? ⟨gb108, 0, none⟩ = some (.slice (some ad195) l0_0.length c0_0) ∧ w'.cell? ⟨gb109, 0, none⟩ = some (.slice (some ad194) l2_0.length c2_0)) (ds := []) #[false, false, false, false, false, false, false, false, false, false, false, false, false, false] (by kernel_rfl) rfl rfl ⟨(blk_cell BK108.out 0).trans rfl, (blk_cell BK109.out 0).trans rfl⟩ (fun hHeld => ?_); refine with_tabW impl_JoinOverPlace.tab7 impl_JoinOverPlace.bits7 (fun HT_ HW_ => ?_)
                  generalize w26.drew = w29 at HO0_0 HO2_0 BK108 BK109 BK110 HB HO111 hHeld ⊢
                  refine pure_ (i := 0) (N := some 46) (v := ?_) (a' := ?_) #[true, false, false, false, false, false, false, false, false, false, false, false, false, false] rfl rfl (any_of HT_.out (by kernel_rfl)) (fun _ _ _ h => h) (Or.inl ⟨(by rfl), ?_⟩) ?_ ?_
                  rotate_left
                  · exact z10
                  rotate_left
                  · exact z1
                  refine pure_ (i := 2) (N := some 48) (v := ?_) (a' := ?_) #[true, false, true, false, false, false, false, false, false, false, false, false, false, false] rfl rfl (any_of HT_.out (by kernel_rfl)) (fun _ _ _ h => h) (Or.inl ⟨(by rfl), ?_⟩) ?_ ?_
                  rotate_left
                  · exact z10
                  rotate_left
                  · exact z1
                  refine take_ (i := 1) (N := some 47) (v := ?_) (a' := ?_) #[true, true, true, false, false, false, false, false, false, false, false, false, false, false] rfl rfl (take_ofW HT_.out HW_.out (by kernel_rfl)) (fun _ _ _ h => h) (Or.inl ⟨(by rfl), ?_⟩) hHeld ?_ ?_
                  rotate_left
                  · rintro w' ⟨s0, s1⟩
                    go_simp
                    with_reducible rfl
                  rotate_left
                  · exact z1
                  refine take_ (i := 3) (N := some 49) (v := ?_) (a' := ?_) #[true, true, true, true, false, false, false, false, false, false, false, false, false, false] rfl rfl (take_ofW HT_.out HW_.out (by kernel_rfl)) (fun _ _ _ h => h) (Or.inl ⟨(by rfl), ?_⟩) hHeld ?_ ?_
                  rotate_left
                  · rintro w' ⟨s0, s1⟩
                    go_simp
                    with_reducible rfl
                  rotate_left
                  · exact z1
                  refine pure_ (i := 4) (N := some 50) (v := ?_) (a' := ?_) #[true, true, true, true, true, false, false, false, false, false, false, false, false, false] rfl rfl (any_of HT_.out (by kernel_rfl)) (fun _ _ _ h => h) (Or.inl ⟨(by rfl), ?_⟩) ?_ ?_
                  rotate_left
                  · exact z10
                  rotate_left
                  · exact z1
                  refine join_ (σ := Value × Value × Value × Nat) 2 #[true, true, true, true, true, true, true, true, true, true, true, true, false, false] (fun s_ => [(51, s_.1), (52, s_.2.1), (53, .tuple #[.agg #[s_.2.2.1], .bool true]), (13, .pointer (some ⟨s_.2.2.2, 0, none⟩)), (45, .tuple #[.agg #[s_.2.2.1], .bool true]), (54, .agg #[s_.2.2.1]), (55, .bool true)]) (fun s_ w' => (w'.cell? ⟨gb108, 0, none⟩ = some (.slice (some ad195) l0_0.length c0_0) ∧ w'.cell? ⟨gb109, 0, none⟩ = some (.slice (some ad194) l2_0.length c2_0)) ∧ (Kd.V (Kd.int .i64) 2 w' w.heap.size (fun k_ => ((P0_0_ k_ ∨ P2_0_ k_) ∨ w.heap.size ≤ k_) ∧ some k_ ≠ (s_.1 : Value).ownBlock ∧ some k_ ≠ (s_.2.2.1 : Value).ownBlock ∧ k_ ≠ gb108 ∧ k_ ≠ gb109 ∧ k_ ≠ gb110 ∧ k_ ≠ s_.2.2.2) (.slice (some ad195) l0_0.length c0_0) l0_0) ∧ (Kd.V (Kd.int .i64) 2 w' w.heap.size (fun k_ => ((P0_0_ k_ ∨ P2_0_ k_) ∨ w.heap.size ≤ k_) ∧ some k_ ≠ (s_.1 : Value).ownBlock ∧ some k_ ≠ (s_.2.2.1 : Value).ownBlock ∧ k_ ≠ gb108 ∧ k_ ≠ gb109 ∧ k_ ≠ gb110 ∧ k_ ≠ s_.2.2.2) (.slice A30 y104.length c30) y104) ∧ (Kd.N (Kd.slice 2 (Kd.int .i64)) 22 w' w.heap.size (fun k_ => ((P0_0_ k_ ∨ P2_0_ k_) ∨ w.heap.size ≤ k_) ∧ some k_ ≠ (s_.2.2.1 : Value).ownBlock ∧ k_ ≠ gb108 ∧ k_ ≠ gb109 ∧ k_ ≠ gb110 ∧ k_ ≠ s_.2.2.2) s_.1 y105) ∧ (Kd.R (Kd.int .i64) 2 w' w.heap.size (fun k_ => (w.heap.size ≤ k_)) s_.2.2.1 t102) ∧ (Kd.V (Kd.int .i64) 2 w' w.heap.size (fun k_ => ((P0_0_ k_ ∨ P2_0_ k_) ∨ w.heap.size ≤ k_) ∧ some k_ ≠ (s_.1 : Value).ownBlock ∧ some k_ ≠ (s_.2.2.1 : Value).ownBlock ∧ k_ ≠ gb108 ∧ k_ ≠ gb109 ∧ k_ ≠ gb110 ∧ k_ ≠ s_.2.2.2) (.slice (some ad194) l2_0.length c2_0) l2_0) ∧ (w'.heap[gb108]? = some (.cells #[.slice (some ad195) l0_0.length c0_0] 30 (0, 0))) ∧ (w'.heap[gb109]? = some (.cells #[.slice (some ad194) l2_0.length c2_0] 30 (0, 0))) ∧ (w'.heap[gb110]? = some (.cells #[.slice none 0 0] 30 (0, 0))) ∧ (w'.heap[s_.2.2.2]? = some (.cells #[.slice none 0 0] 30 (0, 0))) ∧ (w.heap.size ≤ s_.2.2.2) ∧ (w.heap.size ≤ s_.2.2.2) ∧ (gb108 ≠ s_.2.2.2) ∧ (s_.2.2.2 ≠ gb108) ∧ (gb109 ≠ s_.2.2.2) ∧ (s_.2.2.2 ≠ gb109) ∧ (gb110 ≠ s_.2.2.2) ∧ (s_.2.2.2 ≠ gb110) ∧ (Below w.heap.size w w')) ?_ ?_
                  rotate_left
                  · intro hCont
                    refine two_ (i := 5) (j := 11) (Ni := some 51) (Nj := some 13) #[true, true, true, true, true, true, false, false, false, false, false, false, false, false] #[true, true, true, true, true, false, false, false, false, false, false, true, false, false] rfl rfl rfl rfl (two_of HT_.out (by kernel_rfl)) (by decide) (by decide) (fun K hK => ?_) (fun K hK => ?_)
                    · skip
                      refine Kd.N_lit_step (Kd.slice 2 (Kd.int .i64)) _ 22 ?hg (N' := 51) ?hd (xs := ([l0_0, y104] : List (List Int))) (inner := [.slice (some ad195) l0_0.length c0_0, .slice A30 y104.length c30]) (ok := (fun k_ => ((P0_0_ k_ ∨ P2_0_ k_) ∨ w.heap.size ≤ k_) ∧ k_ ≠ gb108 ∧ k_ ≠ gb109 ∧ k_ ≠ gb110)) (okp := (fun k_ => ((P0_0_ k_ ∨ P2_0_ k_) ∨ w.heap.size ≤ k_) ∧ k_ ≠ gb108 ∧ k_ ≠ gb109 ∧ k_ ≠ gb110)) ?hr ?hp (fun _ hk => hk) ((show ∀ k_, w29.heap.size ≤ k_ → (fun k_ => ((P0_0_ k_ ∨ P2_0_ k_) ∨ w.heap.size ≤ k_) ∧ k_ ≠ gb108 ∧ k_ ≠ gb109 ∧ k_ ≠ gb110) k_ from fun k_ hk => ⟨(.inr (Nat.le_trans (below_size z2) hk)), Kd.freshB (g := gb108) (o := .cells #[.slice (some ad195) l0_0.length c0_0] 30 (0, 0)) z4 k_ hk, Kd.freshB (g := gb109) (o := .cells #[.slice (some ad194) l2_0.length c2_0] 30 (0, 0)) z6 k_ hk, Kd.freshB (g := gb110) (o := .cells #[.slice none 0 0] 30 (0, 0)) z7 k_ hk⟩) _ (Nat.le_refl _)) (Below.refl _ _) (Nat.le_refl _) (by simp) ?_; (case hd => rfl); (case hg => rfl); (case hr => first | (go_simp; done) | (go_simp; rfl)); (case hp => exact (Reps.one (show Kd.FK (Kd.slice 2 (Kd.int .i64)) _ _ l0_0 [.slice (some ad195) l0_0.length c0_0] from (Kd.FK_slice_mk (Kd.V_reads' (Kd.V_mono (ok' := (fun k_ => ((P0_0_ k_ ∨ P2_0_ k_) ∨ w.heap.size ≤ k_) ∧ k_ ≠ gb108 ∧ k_ ≠ gb109 ∧ k_ ≠ gb110)) (HO0_0.out) (fun k_ hk => ⟨hk.1.1.1, ⟨hk.1.1.2, ⟨hk.1.2, hk.2⟩⟩⟩))).2.1 (Kd.V_F (Kd.V_mono (ok' := (fun k_ => ((P0_0_ k_ ∨ P2_0_ k_) ∨ w.heap.size ≤ k_) ∧ k_ ≠ gb108 ∧ k_ ≠ gb109 ∧ k_ ≠ gb110)) (HO0_0.out) (fun k_ hk => ⟨hk.1.1.1, ⟨hk.1.1.2, ⟨hk.1.2, hk.2⟩⟩⟩))))) (Reps.one (show Kd.FK (Kd.slice 2 (Kd.int .i64)) _ _ y104 [.slice A30 y104.length c30] from (Kd.FK_slice_mk (Kd.V_reads' (Kd.V_mono (ok' := (fun k_ => ((P0_0_ k_ ∨ P2_0_ k_) ∨ w.heap.size ≤ k_) ∧ k_ ≠ gb108 ∧ k_ ≠ gb109 ∧ k_ ≠ gb110)) (HO111.out) (fun k_ hk => ⟨hk.1.1.1, ⟨hk.1.1.2, ⟨hk.1.2, hk.2⟩⟩⟩))).2.1 (Kd.V_F (Kd.V_mono (ok' := (fun k_ => ((P0_0_ k_ ∨ P2_0_ k_) ∨ w.heap.size ≤ k_) ∧ k_ ≠ gb108 ∧ k_ ≠ gb109 ∧ k_ ≠ gb110)) (HO111.out) (fun k_ hk => ⟨hk.1.1.1, ⟨hk.1.1.2, ⟨hk.1.2, hk.2⟩⟩⟩))))) (Reps.none _ _))))
                      intro v112 w31 ho32 hb hg_ hnew_
                      clear hg_ hnew_
                      (first | rw [← Ny105.out] at ho32 | (simp only [Int.reduceToNat] at ho32; rw [← Ny105.out] at ho32))
                      have n0_ := Aside0.mk (Kd.V_elder' z14 (Kd.N_base ho32) hb)
                      have n1_ := Aside0.mk (Kd.V_elder' z15 (Kd.N_base ho32) hb)
                      have n2_ := Aside0.mk (Kd.V_elder' z24 (Kd.N_base ho32) hb)
                      have n3_ := Aside0.mk (Kd.N_lower ho32 (below_size z2))
                      have n4_ := zBB BK108 hb
                      have n5_ := zBB BK109 hb
                      have n6_ := zBB BK110 hb
                      have n7_ := Aside0.mk (below_step z2 hb)
                      clear HO0_0 HO2_0 HO111 BK108 BK109 BK110 HB
                      have HO0_0 := n0_
                      have HO2_0 := n1_
                      have HO111 := n2_
                      have HO113 := n3_
                      have BK108 := n4_
                      have BK109 := n5_
                      have BK110 := n6_
                      have HB := n7_
                      clear n0_ n1_ n2_ n3_ n4_ n5_ n6_ n7_
                      clear hb ho32
                      obtain ⟨Ao33, co33, eo33⟩ := Kd.N_slice HO113.out
                      (first | subst eo33 | (injection eo33 with f1_ f2_ f3_; have f4_ := f1_.symm; have f5_ := f3_.symm; clear f1_ f2_ f3_; subst f4_; subst f5_))
                      refine hK.out _ _ ⟨(blk_cell BK108.out 0).trans rfl, (blk_cell BK109.out 0).trans rfl⟩ (fun hHeld => ?_)
                      clear hK K
                      refine norm_ (a' := ?_) ?_ ?_
                      rotate_left
                      · show Act.put _ (some 51) _ = _
                        simp only [Act.put, List.setIfInBounds_toArray, List.set_cons_zero, List.set_cons_succ, i64_w, i32_w]
                        rfl
                      refine two_ (i := 6) (j := 11) (Ni := some 52) (Nj := some 13) #[true, true, true, true, true, true, true, false, false, false, false, false, false, false] #[true, true, true, true, true, true, false, false, false, false, false, true, false, false] rfl rfl rfl rfl (two_of HT_.out (by kernel_rfl)) (by decide) (by decide) (fun K hK => ?_) (fun K hK => ?_)
                      · skip
                        refine goes_ Try.func45 (by kernel_rfl) rfl #[.slice Ao33 y105.length co33] (by rfl) rfl rfl z9 ?_
                        with_reducible refine (slices_Concat_int64_int64.calls k _ _ y105 t101 _ ?side1 ?side2 A13.out).mono ?_
                        (case side1 => exact z42)
                        (case side2 => exact (Kd.N_reads' HO113.out).2.1)
                        rintro e w34 ⟨v114, rfl, ho0, hb⟩
                        refine ⟨_, rfl, ?_⟩
                        have n0_ := Aside0.mk (Kd.V_elder' z14 (Kd.R_base ho0) hb)
                        have n1_ := Aside0.mk (Kd.V_elder' z15 (Kd.R_base ho0) hb)
                        have n2_ := Aside0.mk (Kd.V_elder' z24 (Kd.R_base ho0) hb)
                        have n3_ := Aside0.mk (Kd.N_elder' z33 (Kd.R_base ho0) hb)
                        have n4_ := Aside0.mk (Kd.R_lower (Kd.R_newM (M := fun k_ => (w.heap.size ≤ k_)) ho0 (below_size z2) (fun k_ h_ => h_)) (below_size z2))
                        have n5_ := zBB BK108 hb
                        have n6_ := zBB BK109 hb
                        have n7_ := zBB BK110 hb
                        have n8_ := Aside0.mk (below_step z2 hb)
                        clear HO0_0 HO2_0 HO111 HO113 BK108 BK109 BK110 HB
                        have HO0_0 := n0_
                        have HO2_0 := n1_
                        have HO111 := n2_
                        have HO113 := n3_
                        have HO115 := n4_
                        have BK108 := n5_
                        have BK109 := n6_
                        have BK110 := n7_
                        have HB := n8_
                        clear n0_ n1_ n2_ n3_ n4_ n5_ n6_ n7_ n8_
                        (try clear hb)
                        (try clear hb2)
                        (try clear hk)
                        (try clear hi)
                        (try clear ho0)
                        obtain ⟨Ao35, co35, eo35⟩ := Kd.R_slice HO115.out
                        (first | subst eo35 | (injection eo35 with f1_ f2_ f3_; have f4_ := f1_.symm; have f5_ := f3_.symm; clear f1_ f2_ f3_; subst f4_; subst f5_))
                        refine hK.out _ _ ⟨(blk_cell BK108.out 0).trans rfl, (blk_cell BK109.out 0).trans rfl⟩ (fun hHeld => ?_)
                        clear hK K
                        refine norm_ (a' := ?_) ?_ ?_
                        rotate_left
                        · show Act.put _ (some 52) _ = _
                          simp only [Act.put, List.setIfInBounds_toArray, List.set_cons_zero, List.set_cons_succ, i64_w, i32_w]
                          rfl
                        refine two_ (i := 7) (j := 11) (Ni := some 53) (Nj := some 13) #[true, true, true, true, true, true, true, true, false, false, false, false, false, false] #[true, true, true, true, true, true, true, false, false, false, false, true, false, false] rfl rfl rfl rfl (two_of HT_.out (by kernel_rfl)) (by decide) (by decide) (fun K hK => ?_) (fun K hK => ?_)
                        · skip
                          refine goes_ Try.func44 (by kernel_rfl) rfl #[.slice Ao35 t101.length co35] (by rfl) rfl rfl z9 ?_
                          with_reducible refine (impl_limitedSpace.calls k (fun k_ => some k_ = (.slice Ao35 t101.length co35 : Value).ownBlock) (.slice Ao35 t101.length co35) t101 t102 true w _ ?side1 ?side2 A14.out).mono ?_
                          (case side1 => exact z2)
                          (case side2 => exact Kd.R_tight rfl HO115.out)
                          rintro e w36 ⟨v116, rfl, ho0, hb, hkp⟩
                          refine ⟨_, rfl, ?_⟩
                          have n0_ := Aside0.mk (Kd.V_mono (ok' := fun k_ => ((P0_0_ k_ ∨ P2_0_ k_) ∨ w.heap.size ≤ k_) ∧ some k_ ≠ (.slice Ao33 y105.length co33 : Value).ownBlock ∧ k_ ≠ gb108 ∧ k_ ≠ gb109 ∧ k_ ≠ gb110 ∧ some k_ ≠ (v116 : Value).ownBlock) (Kd.V_keptB (HO0_0.out) hkp (fun k_ hk_ hs_ => (hk_.2) hs_)) (fun k_ hk_ => ⟨hk_.1.1.1.1.1.1, hk_.1.1.2, hk_.1.1.1.1.1.2, hk_.1.1.1.1.2, hk_.1.1.1.2, fun e_ => Or.elim (ho0.1 k_ e_.symm) (fun hs_ => hk_.2.1 hs_) (fun hn_ => Nat.not_le.2 hk_.2.2 hn_)⟩))
                          have n1_ := Aside0.mk (Kd.V_mono (ok' := fun k_ => ((P0_0_ k_ ∨ P2_0_ k_) ∨ w.heap.size ≤ k_) ∧ some k_ ≠ (.slice Ao33 y105.length co33 : Value).ownBlock ∧ k_ ≠ gb108 ∧ k_ ≠ gb109 ∧ k_ ≠ gb110 ∧ some k_ ≠ (v116 : Value).ownBlock) (Kd.V_keptB (HO2_0.out) hkp (fun k_ hk_ hs_ => (hk_.2) hs_)) (fun k_ hk_ => ⟨hk_.1.1.1.1.1.1, hk_.1.1.2, hk_.1.1.1.1.1.2, hk_.1.1.1.1.2, hk_.1.1.1.2, fun e_ => Or.elim (ho0.1 k_ e_.symm) (fun hs_ => hk_.2.1 hs_) (fun hn_ => Nat.not_le.2 hk_.2.2 hn_)⟩))
                          have n2_ := Aside0.mk (blk_kept z4 hkp (fun hs_ => (fun e_ => (Kd.R_ne HO115.out BK108.out (by decide)) e_) hs_))
                          have n3_ := Aside0.mk (blk_kept z6 hkp (fun hs_ => (fun e_ => (Kd.R_ne HO115.out BK109.out (by decide)) e_) hs_))
                          have n4_ := Aside0.mk (blk_kept z7 hkp (fun hs_ => (fun e_ => (Kd.R_ne HO115.out BK110.out (by decide)) e_) hs_))
                          have n5_ := Aside0.mk (Kd.V_mono (ok' := fun k_ => ((P0_0_ k_ ∨ P2_0_ k_) ∨ w.heap.size ≤ k_) ∧ some k_ ≠ (.slice Ao33 y105.length co33 : Value).ownBlock ∧ k_ ≠ gb108 ∧ k_ ≠ gb109 ∧ k_ ≠ gb110 ∧ some k_ ≠ (v116 : Value).ownBlock) (Kd.V_keptB (HO111.out) hkp (fun k_ hk_ hs_ => (hk_.2) hs_)) (fun k_ hk_ => ⟨hk_.1.1.1.1.1.1, hk_.1.1.2, hk_.1.1.1.1.1.2, hk_.1.1.1.1.2, hk_.1.1.1.2, fun e_ => Or.elim (ho0.1 k_ e_.symm) (fun hs_ => hk_.2.1 hs_) (fun hn_ => Nat.not_le.2 hk_.2.2 hn_)⟩))
                          have n6_ := Aside0.mk (Kd.N_mono (ok' := fun k_ => ((P0_0_ k_ ∨ P2_0_ k_) ∨ w.heap.size ≤ k_) ∧ k_ ≠ gb108 ∧ k_ ≠ gb109 ∧ k_ ≠ gb110 ∧ some k_ ≠ (v116 : Value).ownBlock) (Kd.N_keptB (HO113.out) hkp (fun k_ hk_ hs_ => (hk_.2) hs_)) (fun k_ hk_ => ⟨hk_.1.1.1, hk_.1.1.2.1, hk_.1.1.2.2.1, hk_.1.1.2.2.2, fun e_ => Or.elim (ho0.1 k_ e_.symm) (fun hs_ => hk_.2.1 hs_) (fun hn_ => Nat.not_le.2 hk_.2.2 hn_)⟩))
                          have n7_ := Aside0.mk (Kd.R_mono (ok' := fun k_ => (w.heap.size ≤ k_)) ho0 (fun k_ hk_ => Or.elim hk_ (fun hs_ => (HO115.out.1 k_ (hs_).symm).1) (fun hn_ => (Nat.le_trans (below_size z2) hn_))))
                          have n8_ := Aside0.mk (hb)
                          clear HO0_0 HO2_0 BK108 BK109 BK110 HO111 HO113 HB HO115
                          have HO0_0 := n0_
                          have HO2_0 := n1_
                          have BK108 := n2_
                          have BK109 := n3_
                          have BK110 := n4_
                          have HO111 := n5_
                          have HO113 := n6_
                          have HO117 := n7_
                          have HB := n8_
                          clear n0_ n1_ n2_ n3_ n4_ n5_ n6_ n7_ n8_
                          (try clear hb)
                          (try clear hkp)
                          (try clear ho0)
                          refine hK.out _ _ ⟨(blk_cell BK108.out 0).trans rfl, (blk_cell BK109.out 0).trans rfl⟩ (fun hHeld => ?_)
                          clear hK K
                          refine norm_ (a' := ?_) ?_ ?_
                          rotate_left
                          · show Act.put _ (some 53) _ = _
                            simp only [Act.put, List.setIfInBounds_toArray, List.set_cons_zero, List.set_cons_succ, i64_w, i32_w]
                            rfl
                          refine pure_ (i := 8) (N := some 45) (v := ?_) (a' := ?_) #[true, true, true, true, true, true, true, true, true, false, false, false, false, false] rfl rfl (any_of HT_.out (by kernel_rfl)) (fun _ _ _ h => h) (Or.inl ⟨(by rfl), ?_⟩) ?_ ?_
                          rotate_left
                          · exact z10
                          rotate_left
                          · exact z1
                          refine pure_ (i := 9) (N := some 54) (v := ?_) (a' := ?_) #[true, true, true, true, true, true, true, true, true, true, false, false, false, false] rfl rfl (any_of HT_.out (by kernel_rfl)) (fun _ _ _ h => h) (Or.inl ⟨(by rfl), ?_⟩) ?_ ?_
                          rotate_left
                          · exact z10
                          rotate_left
                          · exact z1
                          refine pure_ (i := 10) (N := some 55) (v := ?_) (a' := ?_) #[true, true, true, true, true, true, true, true, true, true, true, false, false, false] rfl rfl (any_of HT_.out (by kernel_rfl)) (fun _ _ _ h => h) (Or.inl ⟨(by rfl), ?_⟩) ?_ ?_
                          rotate_left
                          · exact z10
                          rotate_left
                          · exact z1
                          refine one_ (i := 11) (N := some 13) #[true, true, true, true, true, true, true, true, true, true, true, true, false, false] rfl rfl (one_of HT_.out (by kernel_rfl)) (by decide) (fun K hK => ?_)
                          refine box_step ?hg (N := 13) ?hd (cs := #[.slice none 0 0]) (t := 30) ?hr ?_; (case hd => rfl); (case hg => rfl); (case hr => first | (go_simp; done) | (go_simp; rfl))
                          intro gb118 hg w37 hbox hb
                          have n0_ := Aside0.mk (Kd.V_below (Kd.V_elderB z14 gb118 (Nat.le_of_eq hg.symm)) hb)
                          have n1_ := Aside0.mk (Kd.V_below (Kd.V_elderB z15 gb118 (Nat.le_of_eq hg.symm)) hb)
                          have n2_ := Aside0.mk (Kd.V_below (Kd.V_elderB z24 gb118 (Nat.le_of_eq hg.symm)) hb)
                          have n3_ := Aside0.mk (Kd.N_below (Kd.N_elderB z33 gb118 (Nat.le_of_eq hg.symm)) hb)
                          have n4_ := Aside0.mk (Kd.R_below z37 hb)
                          have n5_ := zBB BK108 hb
                          have n6_ := zBB BK109 hb
                          have n7_ := zBB BK110 hb
                          have n8_ := Aside0.mk (below_step z2 hb)
                          have n9_ := Aside0.mk (hbox)
                          have n10_ := Aside0.mk ((z91 : w.heap.size ≤ gb118))
                          have n11_ := Aside0.mk ((z91 : w.heap.size ≤ gb118))
                          have n12_ := Aside0.mk ((z92 : gb108 ≠ gb118))
                          have n13_ := Aside0.mk ((z93 : gb118 ≠ gb108))
                          have n14_ := Aside0.mk ((z94 : gb109 ≠ gb118))
                          have n15_ := Aside0.mk ((z95 : gb118 ≠ gb109))
                          have n16_ := Aside0.mk ((z87 : gb110 ≠ gb118))
                          have n17_ := Aside0.mk ((z88 : gb118 ≠ gb110))
                          clear HO0_0 HO2_0 HO111 HO113 HO117 BK108 BK109 BK110 HB
                          have HO0_0 := n0_
                          have HO2_0 := n1_
                          have HO111 := n2_
                          have HO113 := n3_
                          have HO117 := n4_
                          have BK108 := n5_
                          have BK109 := n6_
                          have BK110 := n7_
                          have HB := n8_
                          have BK118 := n9_
                          have GW118 := n10_
                          have GE118 := n11_
                          have NB108_118 := n12_
                          have NB118_108 := n13_
                          have NB109_118 := n14_
                          have NB118_109 := n15_
                          have NB110_118 := n16_
                          have NB118_110 := n17_
                          clear n0_ n1_ n2_ n3_ n4_ n5_ n6_ n7_ n8_ n9_ n10_ n11_ n12_ n13_ n14_ n15_ n16_ n17_
                          clear hb hbox hg
                          refine hK.out _ _ ⟨(blk_cell BK108.out 0).trans rfl, (blk_cell BK109.out 0).trans rfl⟩ (fun hHeld => ?_)
                          clear hK K
                          refine norm_ (a' := ?_) ?_ ?_
                          rotate_left
                          · show Act.put _ (some 13) _ = _
                            simp only [Act.put, List.setIfInBounds_toArray, List.set_cons_zero, List.set_cons_succ, i64_w, i32_w]
                            rfl
                          exact norm_ z38 (hCont (.slice Ao33 y105.length co33, .slice Ao35 t101.length co35, v116, gb118) _ ⟨hHeld, z53, z54, z56, z37, z55, z4, z6, z7, z20, GW118.out, GE118.out, NB108_118.out, NB118_108.out, NB109_118.out, NB118_109.out, NB110_118.out, NB118_110.out, z3⟩)
                        · skip
                          refine box_step ?hg (N := 13) ?hd (cs := #[.slice none 0 0]) (t := 30) ?hr ?_; (case hd => rfl); (case hg => rfl); (case hr => first | (go_simp; done) | (go_simp; rfl))
                          intro gb118 hg w35 hbox hb
                          have n0_ := Aside0.mk (Kd.V_below (Kd.V_elderB z14 gb118 (Nat.le_of_eq hg.symm)) hb)
                          have n1_ := Aside0.mk (Kd.V_below (Kd.V_elderB z15 gb118 (Nat.le_of_eq hg.symm)) hb)
                          have n2_ := Aside0.mk (Kd.V_below (Kd.V_elderB z24 gb118 (Nat.le_of_eq hg.symm)) hb)
                          have n3_ := Aside0.mk (Kd.N_below (Kd.N_elderB z33 gb118 (Nat.le_of_eq hg.symm)) hb)
                          have n4_ := Aside0.mk (Kd.R_below z35 hb)
                          have n5_ := zBB BK108 hb
                          have n6_ := zBB BK109 hb
                          have n7_ := zBB BK110 hb
                          have n8_ := Aside0.mk (below_step z2 hb)
                          have n9_ := Aside0.mk (hbox)
                          have n10_ := Aside0.mk ((z91 : w.heap.size ≤ gb118))
                          have n11_ := Aside0.mk ((z91 : w.heap.size ≤ gb118))
                          have n12_ := Aside0.mk ((z92 : gb108 ≠ gb118))
                          have n13_ := Aside0.mk ((z93 : gb118 ≠ gb108))
                          have n14_ := Aside0.mk ((z94 : gb109 ≠ gb118))
                          have n15_ := Aside0.mk ((z95 : gb118 ≠ gb109))
                          have n16_ := Aside0.mk ((z87 : gb110 ≠ gb118))
                          have n17_ := Aside0.mk ((z88 : gb118 ≠ gb110))
                          clear HO0_0 HO2_0 HO111 HO113 HO115 BK108 BK109 BK110 HB
                          have HO0_0 := n0_
                          have HO2_0 := n1_
                          have HO111 := n2_
                          have HO113 := n3_
                          have HO115 := n4_
                          have BK108 := n5_
                          have BK109 := n6_
                          have BK110 := n7_
                          have HB := n8_
                          have BK118 := n9_
                          have GW118 := n10_
                          have GE118 := n11_
                          have NB108_118 := n12_
                          have NB118_108 := n13_
                          have NB109_118 := n14_
                          have NB118_109 := n15_
                          have NB110_118 := n16_
                          have NB118_110 := n17_
                          clear n0_ n1_ n2_ n3_ n4_ n5_ n6_ n7_ n8_ n9_ n10_ n11_ n12_ n13_ n14_ n15_ n16_ n17_
                          clear hb hbox hg
                          obtain ⟨Ao36, co36, eo36⟩ := Kd.R_slice HO115.out
                          (first | subst eo36 | (injection eo36 with f1_ f2_ f3_; have f4_ := f1_.symm; have f5_ := f3_.symm; clear f1_ f2_ f3_; subst f4_; subst f5_))
                          refine hK.out _ _ ⟨(blk_cell BK108.out 0).trans rfl, (blk_cell BK109.out 0).trans rfl⟩ (fun hHeld => ?_)
                          clear hK K
                          refine norm_ (a' := ?_) ?_ ?_
                          rotate_left
                          · show Act.put _ (some 13) _ = _
                            simp only [Act.put, List.setIfInBounds_toArray, List.set_cons_zero, List.set_cons_succ, i64_w, i32_w]
                            rfl
                          refine one_ (i := 7) (N := some 53) #[true, true, true, true, true, true, true, true, false, false, false, true, false, false] rfl rfl (one_of HT_.out (by kernel_rfl)) (by decide) (fun K hK => ?_)
                          refine goes_ Try.func44 (by kernel_rfl) rfl #[.slice Ao36 t101.length co36] (by rfl) rfl rfl z9 ?_
                          with_reducible refine (impl_limitedSpace.calls k (fun k_ => some k_ = (.slice Ao36 t101.length co36 : Value).ownBlock) (.slice Ao36 t101.length co36) t101 t102 true w _ ?side1 ?side2 A14.out).mono ?_
                          (case side1 => exact z3)
                          (case side2 => exact Kd.R_tight rfl HO115.out)
                          rintro e w37 ⟨v116, rfl, ho0, hb, hkp⟩
                          refine ⟨_, rfl, ?_⟩
                          have n0_ := Aside0.mk (Kd.V_mono (ok' := fun k_ => ((P0_0_ k_ ∨ P2_0_ k_) ∨ w.heap.size ≤ k_) ∧ some k_ ≠ (.slice Ao33 y105.length co33 : Value).ownBlock ∧ k_ ≠ gb108 ∧ k_ ≠ gb109 ∧ k_ ≠ gb110 ∧ k_ ≠ gb118 ∧ some k_ ≠ (v116 : Value).ownBlock) (Kd.V_keptB (HO0_0.out) hkp (fun k_ hk_ hs_ => (hk_.1.2) hs_)) (fun k_ hk_ => ⟨hk_.1.1.1.1.1.1.1, hk_.1.1.1.2, hk_.1.1.1.1.1.1.2, hk_.1.1.1.1.1.2, hk_.1.1.1.1.2, hk_.1.2, fun e_ => Or.elim (ho0.1 k_ e_.symm) (fun hs_ => hk_.2.1 hs_) (fun hn_ => Nat.not_le.2 hk_.2.2 hn_)⟩))
                          have n1_ := Aside0.mk (Kd.V_mono (ok' := fun k_ => ((P0_0_ k_ ∨ P2_0_ k_) ∨ w.heap.size ≤ k_) ∧ some k_ ≠ (.slice Ao33 y105.length co33 : Value).ownBlock ∧ k_ ≠ gb108 ∧ k_ ≠ gb109 ∧ k_ ≠ gb110 ∧ k_ ≠ gb118 ∧ some k_ ≠ (v116 : Value).ownBlock) (Kd.V_keptB (HO2_0.out) hkp (fun k_ hk_ hs_ => (hk_.1.2) hs_)) (fun k_ hk_ => ⟨hk_.1.1.1.1.1.1.1, hk_.1.1.1.2, hk_.1.1.1.1.1.1.2, hk_.1.1.1.1.1.2, hk_.1.1.1.1.2, hk_.1.2, fun e_ => Or.elim (ho0.1 k_ e_.symm) (fun hs_ => hk_.2.1 hs_) (fun hn_ => Nat.not_le.2 hk_.2.2 hn_)⟩))
                          have n2_ := Aside0.mk (blk_kept z4 hkp (fun hs_ => (fun e_ => (Kd.R_ne HO115.out BK108.out (by decide)) e_) hs_))
                          have n3_ := Aside0.mk (blk_kept z6 hkp (fun hs_ => (fun e_ => (Kd.R_ne HO115.out BK109.out (by decide)) e_) hs_))
                          have n4_ := Aside0.mk (blk_kept z7 hkp (fun hs_ => (fun e_ => (Kd.R_ne HO115.out BK110.out (by decide)) e_) hs_))
                          have n5_ := Aside0.mk (Kd.V_mono (ok' := fun k_ => ((P0_0_ k_ ∨ P2_0_ k_) ∨ w.heap.size ≤ k_) ∧ some k_ ≠ (.slice Ao33 y105.length co33 : Value).ownBlock ∧ k_ ≠ gb108 ∧ k_ ≠ gb109 ∧ k_ ≠ gb110 ∧ k_ ≠ gb118 ∧ some k_ ≠ (v116 : Value).ownBlock) (Kd.V_keptB (HO111.out) hkp (fun k_ hk_ hs_ => (hk_.1.2) hs_)) (fun k_ hk_ => ⟨hk_.1.1.1.1.1.1.1, hk_.1.1.1.2, hk_.1.1.1.1.1.1.2, hk_.1.1.1.1.1.2, hk_.1.1.1.1.2, hk_.1.2, fun e_ => Or.elim (ho0.1 k_ e_.symm) (fun hs_ => hk_.2.1 hs_) (fun hn_ => Nat.not_le.2 hk_.2.2 hn_)⟩))
                          have n6_ := Aside0.mk (Kd.N_mono (ok' := fun k_ => ((P0_0_ k_ ∨ P2_0_ k_) ∨ w.heap.size ≤ k_) ∧ k_ ≠ gb108 ∧ k_ ≠ gb109 ∧ k_ ≠ gb110 ∧ k_ ≠ gb118 ∧ some k_ ≠ (v116 : Value).ownBlock) (Kd.N_keptB (HO113.out) hkp (fun k_ hk_ hs_ => (hk_.1.2) hs_)) (fun k_ hk_ => ⟨hk_.1.1.1.1, hk_.1.1.1.2.1, hk_.1.1.1.2.2.1, hk_.1.1.1.2.2.2, hk_.1.2, fun e_ => Or.elim (ho0.1 k_ e_.symm) (fun hs_ => hk_.2.1 hs_) (fun hn_ => Nat.not_le.2 hk_.2.2 hn_)⟩))
                          have n7_ := Aside0.mk (blk_kept z20 hkp (fun hs_ => (fun e_ => (Kd.R_ne HO115.out BK118.out (by decide)) e_) hs_))
                          have n8_ := Aside0.mk (Kd.R_mono (ok' := fun k_ => (w.heap.size ≤ k_)) ho0 (fun k_ hk_ => Or.elim hk_ (fun hs_ => (HO115.out.1 k_ (hs_).symm).1) (fun hn_ => (Nat.le_trans (below_size z3) hn_))))
                          have n9_ := Aside0.mk (hb)
                          clear HO0_0 HO2_0 BK108 BK109 BK110 HO111 HO113 BK118 HB HO115
                          have HO0_0 := n0_
                          have HO2_0 := n1_
                          have BK108 := n2_
                          have BK109 := n3_
                          have BK110 := n4_
                          have HO111 := n5_
                          have HO113 := n6_
                          have BK118 := n7_
                          have HO117 := n8_
                          have HB := n9_
                          clear n0_ n1_ n2_ n3_ n4_ n5_ n6_ n7_ n8_ n9_
                          (try clear hb)
                          (try clear hkp)
                          (try clear ho0)
                          refine hK.out _ _ ⟨(blk_cell BK108.out 0).trans rfl, (blk_cell BK109.out 0).trans rfl⟩ (fun hHeld => ?_)
                          clear hK K
                          refine norm_ (a' := ?_) ?_ ?_
                          rotate_left
                          · show Act.put _ (some 53) _ = _
                            simp only [Act.put, List.setIfInBounds_toArray, List.set_cons_zero, List.set_cons_succ, i64_w, i32_w]
                            rfl
                          refine pure_ (i := 8) (N := some 45) (v := ?_) (a' := ?_) #[true, true, true, true, true, true, true, true, true, false, false, true, false, false] rfl rfl (any_of HT_.out (by kernel_rfl)) (fun _ _ _ h => h) (Or.inl ⟨(by rfl), ?_⟩) ?_ ?_
                          rotate_left
                          · exact z10
                          rotate_left
                          · exact z1
                          refine pure_ (i := 9) (N := some 54) (v := ?_) (a' := ?_) #[true, true, true, true, true, true, true, true, true, true, false, true, false, false] rfl rfl (any_of HT_.out (by kernel_rfl)) (fun _ _ _ h => h) (Or.inl ⟨(by rfl), ?_⟩) ?_ ?_
                          rotate_left
                          · exact z10
                          rotate_left
                          · exact z1
                          refine pure_ (i := 10) (N := some 55) (v := ?_) (a' := ?_) #[true, true, true, true, true, true, true, true, true, true, true, true, false, false] rfl rfl (any_of HT_.out (by kernel_rfl)) (fun _ _ _ h => h) (Or.inl ⟨(by rfl), ?_⟩) ?_ ?_
                          rotate_left
                          · exact z10
                          rotate_left
                          · exact z1
                          exact norm_ z38 (hCont (.slice Ao33 y105.length co33, .slice Ao36 t101.length co36, v116, gb118) _ ⟨hHeld, z29, z30, z32, z37, z31, z4, z6, z7, z20, GW118.out, GE118.out, NB108_118.out, NB118_108.out, NB109_118.out, NB118_109.out, NB110_118.out, NB118_110.out, z3⟩)
                      · skip
                        refine box_step ?hg (N := 13) ?hd (cs := #[.slice none 0 0]) (t := 30) ?hr ?_; (case hd => rfl); (case hg => rfl); (case hr => first | (go_simp; done) | (go_simp; rfl))
                        intro gb118 hg w33 hbox hb
                        have n0_ := Aside0.mk (Kd.V_below (Kd.V_elderB z14 gb118 (Nat.le_of_eq hg.symm)) hb)
                        have n1_ := Aside0.mk (Kd.V_below (Kd.V_elderB z15 gb118 (Nat.le_of_eq hg.symm)) hb)
                        have n2_ := Aside0.mk (Kd.V_below (Kd.V_elderB z24 gb118 (Nat.le_of_eq hg.symm)) hb)
                        have n3_ := Aside0.mk (Kd.N_below (Kd.N_elderB z33 gb118 (Nat.le_of_eq hg.symm)) hb)
                        have n4_ := zBB BK108 hb
                        have n5_ := zBB BK109 hb
                        have n6_ := zBB BK110 hb
                        have n7_ := Aside0.mk (below_step z2 hb)
                        have n8_ := Aside0.mk (hbox)
                        have n9_ := Aside0.mk ((z91 : w.heap.size ≤ gb118))
                        have n10_ := Aside0.mk ((z91 : w.heap.size ≤ gb118))
                        have n11_ := Aside0.mk ((z92 : gb108 ≠ gb118))
                        have n12_ := Aside0.mk ((z93 : gb118 ≠ gb108))
                        have n13_ := Aside0.mk ((z94 : gb109 ≠ gb118))
                        have n14_ := Aside0.mk ((z95 : gb118 ≠ gb109))
                        have n15_ := Aside0.mk ((z87 : gb110 ≠ gb118))
                        have n16_ := Aside0.mk ((z88 : gb118 ≠ gb110))
                        clear HO0_0 HO2_0 HO111 HO113 BK108 BK109 BK110 HB
                        have HO0_0 := n0_
                        have HO2_0 := n1_
                        have HO111 := n2_
                        have HO113 := n3_
                        have BK108 := n4_
                        have BK109 := n5_
                        have BK110 := n6_
                        have HB := n7_
                        have BK118 := n8_
                        have GW118 := n9_
                        have GE118 := n10_
                        have NB108_118 := n11_
                        have NB118_108 := n12_
                        have NB109_118 := n13_
                        have NB118_109 := n14_
                        have NB110_118 := n15_
                        have NB118_110 := n16_
                        clear n0_ n1_ n2_ n3_ n4_ n5_ n6_ n7_ n8_ n9_ n10_ n11_ n12_ n13_ n14_ n15_ n16_
                        clear hb hbox hg
                        obtain ⟨Ao34, co34, eo34⟩ := Kd.N_slice HO113.out
                        (first | subst eo34 | (injection eo34 with f1_ f2_ f3_; have f4_ := f1_.symm; have f5_ := f3_.symm; clear f1_ f2_ f3_; subst f4_; subst f5_))
                        refine hK.out _ _ ⟨(blk_cell BK108.out 0).trans rfl, (blk_cell BK109.out 0).trans rfl⟩ (fun hHeld => ?_)
                        clear hK K
                        refine norm_ (a' := ?_) ?_ ?_
                        rotate_left
                        · show Act.put _ (some 13) _ = _
                          simp only [Act.put, List.setIfInBounds_toArray, List.set_cons_zero, List.set_cons_succ, i64_w, i32_w]
                          rfl
                        refine one_ (i := 6) (N := some 52) #[true, true, true, true, true, true, true, false, false, false, false, true, false, false] rfl rfl (one_of HT_.out (by kernel_rfl)) (by decide) (fun K hK => ?_)
                        refine goes_ Try.func45 (by kernel_rfl) rfl #[.slice Ao34 y105.length co34] (by rfl) rfl rfl z9 ?_
                        with_reducible refine (slices_Concat_int64_int64.calls k _ _ y105 t101 _ ?side1 ?side2 A13.out).mono ?_
                        (case side1 => exact z42)
                        (case side2 => exact (Kd.N_reads' HO113.out).2.1)
                        rintro e w35 ⟨v114, rfl, ho0, hb⟩
                        refine ⟨_, rfl, ?_⟩
                        have n0_ := Aside0.mk (Kd.V_elder' z14 (Kd.R_base ho0) hb)
                        have n1_ := Aside0.mk (Kd.V_elder' z15 (Kd.R_base ho0) hb)
                        have n2_ := Aside0.mk (Kd.V_elder' z24 (Kd.R_base ho0) hb)
                        have n3_ := Aside0.mk (Kd.N_elder' z33 (Kd.R_base ho0) hb)
                        have n4_ := Aside0.mk (Kd.R_lower (Kd.R_newM (M := fun k_ => (w.heap.size ≤ k_)) ho0 (below_size z3) (fun k_ h_ => h_)) (below_size z3))
                        have n5_ := zBB BK108 hb
                        have n6_ := zBB BK109 hb
                        have n7_ := zBB BK110 hb
                        have n8_ := zBB BK118 hb
                        have n9_ := Aside0.mk (below_step z3 hb)
                        clear HO0_0 HO2_0 HO111 HO113 BK108 BK109 BK110 BK118 HB
                        have HO0_0 := n0_
                        have HO2_0 := n1_
                        have HO111 := n2_
                        have HO113 := n3_
                        have HO115 := n4_
                        have BK108 := n5_
                        have BK109 := n6_
                        have BK110 := n7_
                        have BK118 := n8_
                        have HB := n9_
                        clear n0_ n1_ n2_ n3_ n4_ n5_ n6_ n7_ n8_ n9_
                        (try clear hb)
                        (try clear hb2)
                        (try clear hk)
                        (try clear hi)
                        (try clear ho0)
                        obtain ⟨Ao36, co36, eo36⟩ := Kd.R_slice HO115.out
                        (first | subst eo36 | (injection eo36 with f1_ f2_ f3_; have f4_ := f1_.symm; have f5_ := f3_.symm; clear f1_ f2_ f3_; subst f4_; subst f5_))
                        refine hK.out _ _ ⟨(blk_cell BK108.out 0).trans rfl, (blk_cell BK109.out 0).trans rfl⟩ (fun hHeld => ?_)
                        clear hK K
                        refine norm_ (a' := ?_) ?_ ?_
                        rotate_left
                        · show Act.put _ (some 52) _ = _
                          simp only [Act.put, List.setIfInBounds_toArray, List.set_cons_zero, List.set_cons_succ, i64_w, i32_w]
                          rfl
                        refine one_ (i := 7) (N := some 53) #[true, true, true, true, true, true, true, true, false, false, false, true, false, false] rfl rfl (one_of HT_.out (by kernel_rfl)) (by decide) (fun K hK => ?_)
                        refine goes_ Try.func44 (by kernel_rfl) rfl #[.slice Ao36 t101.length co36] (by rfl) rfl rfl z9 ?_
                        with_reducible refine (impl_limitedSpace.calls k (fun k_ => some k_ = (.slice Ao36 t101.length co36 : Value).ownBlock) (.slice Ao36 t101.length co36) t101 t102 true w _ ?side1 ?side2 A14.out).mono ?_
                        (case side1 => exact z3)
                        (case side2 => exact Kd.R_tight rfl HO115.out)
                        rintro e w37 ⟨v116, rfl, ho0, hb, hkp⟩
                        refine ⟨_, rfl, ?_⟩
                        have n0_ := Aside0.mk (Kd.V_mono (ok' := fun k_ => ((P0_0_ k_ ∨ P2_0_ k_) ∨ w.heap.size ≤ k_) ∧ some k_ ≠ (.slice Ao34 y105.length co34 : Value).ownBlock ∧ k_ ≠ gb108 ∧ k_ ≠ gb109 ∧ k_ ≠ gb110 ∧ k_ ≠ gb118 ∧ some k_ ≠ (v116 : Value).ownBlock) (Kd.V_keptB (HO0_0.out) hkp (fun k_ hk_ hs_ => (hk_.2) hs_)) (fun k_ hk_ => ⟨hk_.1.1.1.1.1.1.1, hk_.1.1.1.2, hk_.1.1.1.1.1.1.2, hk_.1.1.1.1.1.2, hk_.1.1.1.1.2, hk_.1.1.2, fun e_ => Or.elim (ho0.1 k_ e_.symm) (fun hs_ => hk_.2.1 hs_) (fun hn_ => Nat.not_le.2 hk_.2.2 hn_)⟩))
                        have n1_ := Aside0.mk (Kd.V_mono (ok' := fun k_ => ((P0_0_ k_ ∨ P2_0_ k_) ∨ w.heap.size ≤ k_) ∧ some k_ ≠ (.slice Ao34 y105.length co34 : Value).ownBlock ∧ k_ ≠ gb108 ∧ k_ ≠ gb109 ∧ k_ ≠ gb110 ∧ k_ ≠ gb118 ∧ some k_ ≠ (v116 : Value).ownBlock) (Kd.V_keptB (HO2_0.out) hkp (fun k_ hk_ hs_ => (hk_.2) hs_)) (fun k_ hk_ => ⟨hk_.1.1.1.1.1.1.1, hk_.1.1.1.2, hk_.1.1.1.1.1.1.2, hk_.1.1.1.1.1.2, hk_.1.1.1.1.2, hk_.1.1.2, fun e_ => Or.elim (ho0.1 k_ e_.symm) (fun hs_ => hk_.2.1 hs_) (fun hn_ => Nat.not_le.2 hk_.2.2 hn_)⟩))
                        have n2_ := Aside0.mk (blk_kept z4 hkp (fun hs_ => (fun e_ => (Kd.R_ne HO115.out BK108.out (by decide)) e_) hs_))
                        have n3_ := Aside0.mk (blk_kept z6 hkp (fun hs_ => (fun e_ => (Kd.R_ne HO115.out BK109.out (by decide)) e_) hs_))
                        have n4_ := Aside0.mk (blk_kept z7 hkp (fun hs_ => (fun e_ => (Kd.R_ne HO115.out BK110.out (by decide)) e_) hs_))
                        have n5_ := Aside0.mk (Kd.V_mono (ok' := fun k_ => ((P0_0_ k_ ∨ P2_0_ k_) ∨ w.heap.size ≤ k_) ∧ some k_ ≠ (.slice Ao34 y105.length co34 : Value).ownBlock ∧ k_ ≠ gb108 ∧ k_ ≠ gb109 ∧ k_ ≠ gb110 ∧ k_ ≠ gb118 ∧ some k_ ≠ (v116 : Value).ownBlock) (Kd.V_keptB (HO111.out) hkp (fun k_ hk_ hs_ => (hk_.2) hs_)) (fun k_ hk_ => ⟨hk_.1.1.1.1.1.1.1, hk_.1.1.1.2, hk_.1.1.1.1.1.1.2, hk_.1.1.1.1.1.2, hk_.1.1.1.1.2, hk_.1.1.2, fun e_ => Or.elim (ho0.1 k_ e_.symm) (fun hs_ => hk_.2.1 hs_) (fun hn_ => Nat.not_le.2 hk_.2.2 hn_)⟩))
                        have n6_ := Aside0.mk (Kd.N_mono (ok' := fun k_ => ((P0_0_ k_ ∨ P2_0_ k_) ∨ w.heap.size ≤ k_) ∧ k_ ≠ gb108 ∧ k_ ≠ gb109 ∧ k_ ≠ gb110 ∧ k_ ≠ gb118 ∧ some k_ ≠ (v116 : Value).ownBlock) (Kd.N_keptB (HO113.out) hkp (fun k_ hk_ hs_ => (hk_.2) hs_)) (fun k_ hk_ => ⟨hk_.1.1.1.1, hk_.1.1.1.2.1, hk_.1.1.1.2.2.1, hk_.1.1.1.2.2.2, hk_.1.1.2, fun e_ => Or.elim (ho0.1 k_ e_.symm) (fun hs_ => hk_.2.1 hs_) (fun hn_ => Nat.not_le.2 hk_.2.2 hn_)⟩))
                        have n7_ := Aside0.mk (blk_kept z20 hkp (fun hs_ => (fun e_ => (Kd.R_ne HO115.out BK118.out (by decide)) e_) hs_))
                        have n8_ := Aside0.mk (Kd.R_mono (ok' := fun k_ => (w.heap.size ≤ k_)) ho0 (fun k_ hk_ => Or.elim hk_ (fun hs_ => (HO115.out.1 k_ (hs_).symm).1) (fun hn_ => (Nat.le_trans (below_size z3) hn_))))
                        have n9_ := Aside0.mk (hb)
                        clear HO0_0 HO2_0 BK108 BK109 BK110 HO111 HO113 BK118 HB HO115
                        have HO0_0 := n0_
                        have HO2_0 := n1_
                        have BK108 := n2_
                        have BK109 := n3_
                        have BK110 := n4_
                        have HO111 := n5_
                        have HO113 := n6_
                        have BK118 := n7_
                        have HO117 := n8_
                        have HB := n9_
                        clear n0_ n1_ n2_ n3_ n4_ n5_ n6_ n7_ n8_ n9_
                        (try clear hb)
                        (try clear hkp)
                        (try clear ho0)
                        refine hK.out _ _ ⟨(blk_cell BK108.out 0).trans rfl, (blk_cell BK109.out 0).trans rfl⟩ (fun hHeld => ?_)
                        clear hK K
                        refine norm_ (a' := ?_) ?_ ?_
                        rotate_left
                        · show Act.put _ (some 53) _ = _
                          simp only [Act.put, List.setIfInBounds_toArray, List.set_cons_zero, List.set_cons_succ, i64_w, i32_w]
                          rfl
                        refine pure_ (i := 8) (N := some 45) (v := ?_) (a' := ?_) #[true, true, true, true, true, true, true, true, true, false, false, true, false, false] rfl rfl (any_of HT_.out (by kernel_rfl)) (fun _ _ _ h => h) (Or.inl ⟨(by rfl), ?_⟩) ?_ ?_
                        rotate_left
                        · exact z10
                        rotate_left
                        · exact z1
                        refine pure_ (i := 9) (N := some 54) (v := ?_) (a' := ?_) #[true, true, true, true, true, true, true, true, true, true, false, true, false, false] rfl rfl (any_of HT_.out (by kernel_rfl)) (fun _ _ _ h => h) (Or.inl ⟨(by rfl), ?_⟩) ?_ ?_
                        rotate_left
                        · exact z10
                        rotate_left
                        · exact z1
                        refine pure_ (i := 10) (N := some 55) (v := ?_) (a' := ?_) #[true, true, true, true, true, true, true, true, true, true, true, true, false, false] rfl rfl (any_of HT_.out (by kernel_rfl)) (fun _ _ _ h => h) (Or.inl ⟨(by rfl), ?_⟩) ?_ ?_
                        rotate_left
                        · exact z10
                        rotate_left
                        · exact z1
                        exact norm_ z38 (hCont (.slice Ao34 y105.length co34, .slice Ao36 t101.length co36, v116, gb118) _ ⟨hHeld, z29, z30, z32, z37, z31, z4, z6, z7, z20, GW118.out, GE118.out, NB108_118.out, NB118_108.out, NB109_118.out, NB118_109.out, NB110_118.out, NB118_110.out, z3⟩)
                    · skip
                      refine box_step ?hg (N := 13) ?hd (cs := #[.slice none 0 0]) (t := 30) ?hr ?_; (case hd => rfl); (case hg => rfl); (case hr => first | (go_simp; done) | (go_simp; rfl))
                      intro gb118 hg w31 hbox hb
                      have n0_ := Aside0.mk (Kd.V_below (Kd.V_elderB z14 gb118 (Nat.le_of_eq hg.symm)) hb)
                      have n1_ := Aside0.mk (Kd.V_below (Kd.V_elderB z15 gb118 (Nat.le_of_eq hg.symm)) hb)
                      have n2_ := Aside0.mk (Kd.V_below (Kd.V_elderB z24 gb118 (Nat.le_of_eq hg.symm)) hb)
                      have n3_ := zBB BK108 hb
                      have n4_ := zBB BK109 hb
                      have n5_ := zBB BK110 hb
                      have n6_ := Aside0.mk (below_step z2 hb)
                      have n7_ := Aside0.mk (hbox)
                      have n8_ := Aside0.mk ((z91 : w.heap.size ≤ gb118))
                      have n9_ := Aside0.mk ((z91 : w.heap.size ≤ gb118))
                      have n10_ := Aside0.mk ((z92 : gb108 ≠ gb118))
                      have n11_ := Aside0.mk ((z93 : gb118 ≠ gb108))
                      have n12_ := Aside0.mk ((z94 : gb109 ≠ gb118))
                      have n13_ := Aside0.mk ((z95 : gb118 ≠ gb109))
                      have n14_ := Aside0.mk ((z87 : gb110 ≠ gb118))
                      have n15_ := Aside0.mk ((z88 : gb118 ≠ gb110))
                      clear HO0_0 HO2_0 HO111 BK108 BK109 BK110 HB
                      have HO0_0 := n0_
                      have HO2_0 := n1_
                      have HO111 := n2_
                      have BK108 := n3_
                      have BK109 := n4_
                      have BK110 := n5_
                      have HB := n6_
                      have BK118 := n7_
                      have GW118 := n8_
                      have GE118 := n9_
                      have NB108_118 := n10_
                      have NB118_108 := n11_
                      have NB109_118 := n12_
                      have NB118_109 := n13_
                      have NB110_118 := n14_
                      have NB118_110 := n15_
                      clear n0_ n1_ n2_ n3_ n4_ n5_ n6_ n7_ n8_ n9_ n10_ n11_ n12_ n13_ n14_ n15_
                      clear hb hbox hg
                      refine hK.out _ _ ⟨(blk_cell BK108.out 0).trans rfl, (blk_cell BK109.out 0).trans rfl⟩ (fun hHeld => ?_)
                      clear hK K
                      refine norm_ (a' := ?_) ?_ ?_
                      rotate_left
                      · show Act.put _ (some 13) _ = _
                        simp only [Act.put, List.setIfInBounds_toArray, List.set_cons_zero, List.set_cons_succ, i64_w, i32_w]
                        rfl
                      refine one_ (i := 5) (N := some 51) #[true, true, true, true, true, true, false, false, false, false, false, true, false, false] rfl rfl (one_of HT_.out (by kernel_rfl)) (by decide) (fun K hK => ?_)
                      refine Kd.N_lit_step (Kd.slice 2 (Kd.int .i64)) _ 22 ?hg (N' := 51) ?hd (xs := ([l0_0, y104] : List (List Int))) (inner := [.slice (some ad195) l0_0.length c0_0, .slice A30 y104.length c30]) (ok := (fun k_ => ((P0_0_ k_ ∨ P2_0_ k_) ∨ w.heap.size ≤ k_) ∧ k_ ≠ gb108 ∧ k_ ≠ gb109 ∧ k_ ≠ gb110 ∧ k_ ≠ gb118)) (okp := (fun k_ => ((P0_0_ k_ ∨ P2_0_ k_) ∨ w.heap.size ≤ k_) ∧ k_ ≠ gb108 ∧ k_ ≠ gb109 ∧ k_ ≠ gb110 ∧ k_ ≠ gb118)) ?hr ?hp (fun _ hk => hk) ((show ∀ k_, w31.heap.size ≤ k_ → (fun k_ => ((P0_0_ k_ ∨ P2_0_ k_) ∨ w.heap.size ≤ k_) ∧ k_ ≠ gb108 ∧ k_ ≠ gb109 ∧ k_ ≠ gb110 ∧ k_ ≠ gb118) k_ from fun k_ hk => ⟨(.inr (Nat.le_trans (below_size z3) hk)), Kd.freshB (g := gb108) (o := .cells #[.slice (some ad195) l0_0.length c0_0] 30 (0, 0)) z4 k_ hk, Kd.freshB (g := gb109) (o := .cells #[.slice (some ad194) l2_0.length c2_0] 30 (0, 0)) z6 k_ hk, Kd.freshB (g := gb110) (o := .cells #[.slice none 0 0] 30 (0, 0)) z7 k_ hk, Kd.freshB (g := gb118) (o := .cells #[.slice none 0 0] 30 (0, 0)) z20 k_ hk⟩) _ (Nat.le_refl _)) (Below.refl _ _) (Nat.le_refl _) (by simp) ?_; (case hd => rfl); (case hg => rfl); (case hr => first | (go_simp; done) | (go_simp; rfl)); (case hp => exact (Reps.one (show Kd.FK (Kd.slice 2 (Kd.int .i64)) _ _ l0_0 [.slice (some ad195) l0_0.length c0_0] from (Kd.FK_slice_mk (Kd.V_reads' (Kd.V_mono (ok' := (fun k_ => ((P0_0_ k_ ∨ P2_0_ k_) ∨ w.heap.size ≤ k_) ∧ k_ ≠ gb108 ∧ k_ ≠ gb109 ∧ k_ ≠ gb110 ∧ k_ ≠ gb118)) (HO0_0.out) (fun k_ hk => ⟨hk.1.1.1.1, ⟨hk.1.1.1.2, ⟨hk.1.1.2, ⟨hk.1.2, hk.2⟩⟩⟩⟩))).2.1 (Kd.V_F (Kd.V_mono (ok' := (fun k_ => ((P0_0_ k_ ∨ P2_0_ k_) ∨ w.heap.size ≤ k_) ∧ k_ ≠ gb108 ∧ k_ ≠ gb109 ∧ k_ ≠ gb110 ∧ k_ ≠ gb118)) (HO0_0.out) (fun k_ hk => ⟨hk.1.1.1.1, ⟨hk.1.1.1.2, ⟨hk.1.1.2, ⟨hk.1.2, hk.2⟩⟩⟩⟩))))) (Reps.one (show Kd.FK (Kd.slice 2 (Kd.int .i64)) _ _ y104 [.slice A30 y104.length c30] from (Kd.FK_slice_mk (Kd.V_reads' (Kd.V_mono (ok' := (fun k_ => ((P0_0_ k_ ∨ P2_0_ k_) ∨ w.heap.size ≤ k_) ∧ k_ ≠ gb108 ∧ k_ ≠ gb109 ∧ k_ ≠ gb110 ∧ k_ ≠ gb118)) (HO111.out) (fun k_ hk => ⟨hk.1.1.1.1, ⟨hk.1.1.1.2, ⟨hk.1.1.2, ⟨hk.1.2, hk.2⟩⟩⟩⟩))).2.1 (Kd.V_F (Kd.V_mono (ok' := (fun k_ => ((P0_0_ k_ ∨ P2_0_ k_) ∨ w.heap.size ≤ k_) ∧ k_ ≠ gb108 ∧ k_ ≠ gb109 ∧ k_ ≠ gb110 ∧ k_ ≠ gb118)) (HO111.out) (fun k_ hk => ⟨hk.1.1.1.1, ⟨hk.1.1.1.2, ⟨hk.1.1.2, ⟨hk.1.2, hk.2⟩⟩⟩⟩))))) (Reps.none _ _))))
                      intro v112 w32 ho33 hb hg_ hnew_
                      clear hg_ hnew_
                      (first | rw [← Ny105.out] at ho33 | (simp only [Int.reduceToNat] at ho33; rw [← Ny105.out] at ho33))
                      have n0_ := Aside0.mk (Kd.V_elder' z14 (Kd.N_base ho33) hb)
                      have n1_ := Aside0.mk (Kd.V_elder' z15 (Kd.N_base ho33) hb)
                      have n2_ := Aside0.mk (Kd.V_elder' z24 (Kd.N_base ho33) hb)
                      have n3_ := Aside0.mk (Kd.N_lower ho33 (below_size z3))
                      have n4_ := zBB BK108 hb
                      have n5_ := zBB BK109 hb
                      have n6_ := zBB BK110 hb
                      have n7_ := zBB BK118 hb
                      have n8_ := Aside0.mk (below_step z3 hb)
                      clear HO0_0 HO2_0 HO111 BK108 BK109 BK110 BK118 HB
                      have HO0_0 := n0_
                      have HO2_0 := n1_
                      have HO111 := n2_
                      have HO113 := n3_
                      have BK108 := n4_
                      have BK109 := n5_
                      have BK110 := n6_
                      have BK118 := n7_
                      have HB := n8_
                      clear n0_ n1_ n2_ n3_ n4_ n5_ n6_ n7_ n8_
                      clear hb ho33
                      obtain ⟨Ao34, co34, eo34⟩ := Kd.N_slice HO113.out
                      (first | subst eo34 | (injection eo34 with f1_ f2_ f3_; have f4_ := f1_.symm; have f5_ := f3_.symm; clear f1_ f2_ f3_; subst f4_; subst f5_))
                      refine hK.out _ _ ⟨(blk_cell BK108.out 0).trans rfl, (blk_cell BK109.out 0).trans rfl⟩ (fun hHeld => ?_)
                      clear hK K
                      refine norm_ (a' := ?_) ?_ ?_
                      rotate_left
                      · show Act.put _ (some 51) _ = _
                        simp only [Act.put, List.setIfInBounds_toArray, List.set_cons_zero, List.set_cons_succ, i64_w, i32_w]
                        rfl
                      refine one_ (i := 6) (N := some 52) #[true, true, true, true, true, true, true, false, false, false, false, true, false, false] rfl rfl (one_of HT_.out (by kernel_rfl)) (by decide) (fun K hK => ?_)
                      refine goes_ Try.func45 (by kernel_rfl) rfl #[.slice Ao34 y105.length co34] (by rfl) rfl rfl z9 ?_
                      with_reducible refine (slices_Concat_int64_int64.calls k _ _ y105 t101 _ ?side1 ?side2 A13.out).mono ?_
                      (case side1 => exact z42)
                      (case side2 => exact (Kd.N_reads' HO113.out).2.1)
                      rintro e w35 ⟨v114, rfl, ho0, hb⟩
                      refine ⟨_, rfl, ?_⟩
                      have n0_ := Aside0.mk (Kd.V_elder' z14 (Kd.R_base ho0) hb)
                      have n1_ := Aside0.mk (Kd.V_elder' z15 (Kd.R_base ho0) hb)
                      have n2_ := Aside0.mk (Kd.V_elder' z24 (Kd.R_base ho0) hb)
                      have n3_ := Aside0.mk (Kd.N_elder' z33 (Kd.R_base ho0) hb)
                      have n4_ := Aside0.mk (Kd.R_lower (Kd.R_newM (M := fun k_ => (w.heap.size ≤ k_)) ho0 (below_size z3) (fun k_ h_ => h_)) (below_size z3))
                      have n5_ := zBB BK108 hb
                      have n6_ := zBB BK109 hb
                      have n7_ := zBB BK110 hb
                      have n8_ := zBB BK118 hb
                      have n9_ := Aside0.mk (below_step z3 hb)
                      clear HO0_0 HO2_0 HO111 HO113 BK108 BK109 BK110 BK118 HB
                      have HO0_0 := n0_
                      have HO2_0 := n1_
                      have HO111 := n2_
                      have HO113 := n3_
                      have HO115 := n4_
                      have BK108 := n5_
                      have BK109 := n6_
                      have BK110 := n7_
                      have BK118 := n8_
                      have HB := n9_
                      clear n0_ n1_ n2_ n3_ n4_ n5_ n6_ n7_ n8_ n9_
                      (try clear hb)
                      (try clear hb2)
                      (try clear hk)
                      (try clear hi)
                      (try clear ho0)
                      obtain ⟨Ao36, co36, eo36⟩ := Kd.R_slice HO115.out
                      (first | subst eo36 | (injection eo36 with f1_ f2_ f3_; have f4_ := f1_.symm; have f5_ := f3_.symm; clear f1_ f2_ f3_; subst f4_; subst f5_))
                      refine hK.out _ _ ⟨(blk_cell BK108.out 0).trans rfl, (blk_cell BK109.out 0).trans rfl⟩ (fun hHeld => ?_)
                      clear hK K
                      refine norm_ (a' := ?_) ?_ ?_
                      rotate_left
                      · show Act.put _ (some 52) _ = _
                        simp only [Act.put, List.setIfInBounds_toArray, List.set_cons_zero, List.set_cons_succ, i64_w, i32_w]
                        rfl
                      refine one_ (i := 7) (N := some 53) #[true, true, true, true, true, true, true, true, false, false, false, true, false, false] rfl rfl (one_of HT_.out (by kernel_rfl)) (by decide) (fun K hK => ?_)
                      refine goes_ Try.func44 (by kernel_rfl) rfl #[.slice Ao36 t101.length co36] (by rfl) rfl rfl z9 ?_
                      with_reducible refine (impl_limitedSpace.calls k (fun k_ => some k_ = (.slice Ao36 t101.length co36 : Value).ownBlock) (.slice Ao36 t101.length co36) t101 t102 true w _ ?side1 ?side2 A14.out).mono ?_
                      (case side1 => exact z3)
                      (case side2 => exact Kd.R_tight rfl HO115.out)
                      rintro e w37 ⟨v116, rfl, ho0, hb, hkp⟩
                      refine ⟨_, rfl, ?_⟩
                      have n0_ := Aside0.mk (Kd.V_mono (ok' := fun k_ => ((P0_0_ k_ ∨ P2_0_ k_) ∨ w.heap.size ≤ k_) ∧ some k_ ≠ (.slice Ao34 y105.length co34 : Value).ownBlock ∧ k_ ≠ gb108 ∧ k_ ≠ gb109 ∧ k_ ≠ gb110 ∧ k_ ≠ gb118 ∧ some k_ ≠ (v116 : Value).ownBlock) (Kd.V_keptB (HO0_0.out) hkp (fun k_ hk_ hs_ => (hk_.2) hs_)) (fun k_ hk_ => ⟨hk_.1.1.1.1.1.1.1, hk_.1.1.2, hk_.1.1.1.1.1.1.2, hk_.1.1.1.1.1.2, hk_.1.1.1.1.2, hk_.1.1.1.2, fun e_ => Or.elim (ho0.1 k_ e_.symm) (fun hs_ => hk_.2.1 hs_) (fun hn_ => Nat.not_le.2 hk_.2.2 hn_)⟩))
                      have n1_ := Aside0.mk (Kd.V_mono (ok' := fun k_ => ((P0_0_ k_ ∨ P2_0_ k_) ∨ w.heap.size ≤ k_) ∧ some k_ ≠ (.slice Ao34 y105.length co34 : Value).ownBlock ∧ k_ ≠ gb108 ∧ k_ ≠ gb109 ∧ k_ ≠ gb110 ∧ k_ ≠ gb118 ∧ some k_ ≠ (v116 : Value).ownBlock) (Kd.V_keptB (HO2_0.out) hkp (fun k_ hk_ hs_ => (hk_.2) hs_)) (fun k_ hk_ => ⟨hk_.1.1.1.1.1.1.1, hk_.1.1.2, hk_.1.1.1.1.1.1.2, hk_.1.1.1.1.1.2, hk_.1.1.1.1.2, hk_.1.1.1.2, fun e_ => Or.elim (ho0.1 k_ e_.symm) (fun hs_ => hk_.2.1 hs_) (fun hn_ => Nat.not_le.2 hk_.2.2 hn_)⟩))
                      have n2_ := Aside0.mk (blk_kept z4 hkp (fun hs_ => (fun e_ => (Kd.R_ne HO115.out BK108.out (by decide)) e_) hs_))
                      have n3_ := Aside0.mk (blk_kept z6 hkp (fun hs_ => (fun e_ => (Kd.R_ne HO115.out BK109.out (by decide)) e_) hs_))
                      have n4_ := Aside0.mk (blk_kept z7 hkp (fun hs_ => (fun e_ => (Kd.R_ne HO115.out BK110.out (by decide)) e_) hs_))
                      have n5_ := Aside0.mk (Kd.V_mono (ok' := fun k_ => ((P0_0_ k_ ∨ P2_0_ k_) ∨ w.heap.size ≤ k_) ∧ some k_ ≠ (.slice Ao34 y105.length co34 : Value).ownBlock ∧ k_ ≠ gb108 ∧ k_ ≠ gb109 ∧ k_ ≠ gb110 ∧ k_ ≠ gb118 ∧ some k_ ≠ (v116 : Value).ownBlock) (Kd.V_keptB (HO111.out) hkp (fun k_ hk_ hs_ => (hk_.2) hs_)) (fun k_ hk_ => ⟨hk_.1.1.1.1.1.1.1, hk_.1.1.2, hk_.1.1.1.1.1.1.2, hk_.1.1.1.1.1.2, hk_.1.1.1.1.2, hk_.1.1.1.2, fun e_ => Or.elim (ho0.1 k_ e_.symm) (fun hs_ => hk_.2.1 hs_) (fun hn_ => Nat.not_le.2 hk_.2.2 hn_)⟩))
                      have n6_ := Aside0.mk (blk_kept z20 hkp (fun hs_ => (fun e_ => (Kd.R_ne HO115.out BK118.out (by decide)) e_) hs_))
                      have n7_ := Aside0.mk (Kd.N_mono (ok' := fun k_ => ((P0_0_ k_ ∨ P2_0_ k_) ∨ w.heap.size ≤ k_) ∧ k_ ≠ gb108 ∧ k_ ≠ gb109 ∧ k_ ≠ gb110 ∧ k_ ≠ gb118 ∧ some k_ ≠ (v116 : Value).ownBlock) (Kd.N_keptB (HO113.out) hkp (fun k_ hk_ hs_ => (hk_.2) hs_)) (fun k_ hk_ => ⟨hk_.1.1.1, hk_.1.1.2.1, hk_.1.1.2.2.1, hk_.1.1.2.2.2.1, hk_.1.1.2.2.2.2, fun e_ => Or.elim (ho0.1 k_ e_.symm) (fun hs_ => hk_.2.1 hs_) (fun hn_ => Nat.not_le.2 hk_.2.2 hn_)⟩))
                      have n8_ := Aside0.mk (Kd.R_mono (ok' := fun k_ => (w.heap.size ≤ k_)) ho0 (fun k_ hk_ => Or.elim hk_ (fun hs_ => (HO115.out.1 k_ (hs_).symm).1) (fun hn_ => (Nat.le_trans (below_size z3) hn_))))
                      have n9_ := Aside0.mk (hb)
                      clear HO0_0 HO2_0 BK108 BK109 BK110 HO111 BK118 HO113 HB HO115
                      have HO0_0 := n0_
                      have HO2_0 := n1_
                      have BK108 := n2_
                      have BK109 := n3_
                      have BK110 := n4_
                      have HO111 := n5_
                      have BK118 := n6_
                      have HO113 := n7_
                      have HO117 := n8_
                      have HB := n9_
                      clear n0_ n1_ n2_ n3_ n4_ n5_ n6_ n7_ n8_ n9_
                      (try clear hb)
                      (try clear hkp)
                      (try clear ho0)
                      refine hK.out _ _ ⟨(blk_cell BK108.out 0).trans rfl, (blk_cell BK109.out 0).trans rfl⟩ (fun hHeld => ?_)
                      clear hK K
                      refine norm_ (a' := ?_) ?_ ?_
                      rotate_left
                      · show Act.put _ (some 53) _ = _
                        simp only [Act.put, List.setIfInBounds_toArray, List.set_cons_zero, List.set_cons_succ, i64_w, i32_w]
                        rfl
                      refine pure_ (i := 8) (N := some 45) (v := ?_) (a' := ?_) #[true, true, true, true, true, true, true, true, true, false, false, true, false, false] rfl rfl (any_of HT_.out (by kernel_rfl)) (fun _ _ _ h => h) (Or.inl ⟨(by rfl), ?_⟩) ?_ ?_
                      rotate_left
                      · exact z10
                      rotate_left
                      · exact z1
                      refine pure_ (i := 9) (N := some 54) (v := ?_) (a' := ?_) #[true, true, true, true, true, true, true, true, true, true, false, true, false, false] rfl rfl (any_of HT_.out (by kernel_rfl)) (fun _ _ _ h => h) (Or.inl ⟨(by rfl), ?_⟩) ?_ ?_
                      rotate_left
                      · exact z10
                      rotate_left
                      · exact z1
                      refine pure_ (i := 10) (N := some 55) (v := ?_) (a' := ?_) #[true, true, true, true, true, true, true, true, true, true, true, true, false, false] rfl rfl (any_of HT_.out (by kernel_rfl)) (fun _ _ _ h => h) (Or.inl ⟨(by rfl), ?_⟩) ?_ ?_
                      rotate_left
                      · exact z10
                      rotate_left
                      · exact z1
                      exact norm_ z38 (hCont (.slice Ao34 y105.length co34, .slice Ao36 t101.length co36, v116, gb118) _ ⟨hHeld, z29, z30, z32, z37, z31, z4, z6, z7, z20, GW118.out, GE118.out, NB108_118.out, NB118_108.out, NB109_118.out, NB118_109.out, NB110_118.out, NB118_110.out, z3⟩)
                  rintro ⟨v112, v114, v116, gb118⟩ w38 ⟨hS_, h0_, h1_, h2_, h3_, h4_, h5_, h6_, h7_, h8_, h9_, h10_, h11_, h12_, h13_, h14_, h15_, h16_, h17_⟩
                  have n0_ : Aside0 (Kd.V (Kd.int .i64) 2 w38 w.heap.size (fun k_ => ((P0_0_ k_ ∨ P2_0_ k_) ∨ w.heap.size ≤ k_) ∧ some k_ ≠ (v112 : Value).ownBlock ∧ some k_ ≠ (v116 : Value).ownBlock ∧ k_ ≠ gb108 ∧ k_ ≠ gb109 ∧ k_ ≠ gb110 ∧ k_ ≠ gb118) (.slice (some ad195) l0_0.length c0_0) l0_0) := ⟨h0_⟩
                  have n1_ : Aside0 (Kd.V (Kd.int .i64) 2 w38 w.heap.size (fun k_ => ((P0_0_ k_ ∨ P2_0_ k_) ∨ w.heap.size ≤ k_) ∧ some k_ ≠ (v112 : Value).ownBlock ∧ some k_ ≠ (v116 : Value).ownBlock ∧ k_ ≠ gb108 ∧ k_ ≠ gb109 ∧ k_ ≠ gb110 ∧ k_ ≠ gb118) (.slice A30 y104.length c30) y104) := ⟨h1_⟩
                  have n2_ : Aside0 (Kd.N (Kd.slice 2 (Kd.int .i64)) 22 w38 w.heap.size (fun k_ => ((P0_0_ k_ ∨ P2_0_ k_) ∨ w.heap.size ≤ k_) ∧ some k_ ≠ (v116 : Value).ownBlock ∧ k_ ≠ gb108 ∧ k_ ≠ gb109 ∧ k_ ≠ gb110 ∧ k_ ≠ gb118) v112 y105) := ⟨h2_⟩
                  have n3_ : Aside0 (Kd.R (Kd.int .i64) 2 w38 w.heap.size (fun k_ => (w.heap.size ≤ k_)) v116 t102) := ⟨h3_⟩
                  have n4_ : Aside0 (Kd.V (Kd.int .i64) 2 w38 w.heap.size (fun k_ => ((P0_0_ k_ ∨ P2_0_ k_) ∨ w.heap.size ≤ k_) ∧ some k_ ≠ (v112 : Value).ownBlock ∧ some k_ ≠ (v116 : Value).ownBlock ∧ k_ ≠ gb108 ∧ k_ ≠ gb109 ∧ k_ ≠ gb110 ∧ k_ ≠ gb118) (.slice (some ad194) l2_0.length c2_0) l2_0) := ⟨h4_⟩
                  have n5_ : Aside0 (w38.heap[gb108]? = some (.cells #[.slice (some ad195) l0_0.length c0_0] 30 (0, 0))) := ⟨h5_⟩
                  have n6_ : Aside0 (w38.heap[gb109]? = some (.cells #[.slice (some ad194) l2_0.length c2_0] 30 (0, 0))) := ⟨h6_⟩
                  have n7_ : Aside0 (w38.heap[gb110]? = some (.cells #[.slice none 0 0] 30 (0, 0))) := ⟨h7_⟩
                  have n8_ : Aside0 (w38.heap[gb118]? = some (.cells #[.slice none 0 0] 30 (0, 0))) := ⟨h8_⟩
                  have n9_ : Aside0 (w.heap.size ≤ gb118) := ⟨h9_⟩
                  have n10_ : Aside0 (w.heap.size ≤ gb118) := ⟨h10_⟩
                  have n11_ : Aside0 (gb108 ≠ gb118) := ⟨h11_⟩
                  have n12_ : Aside0 (gb118 ≠ gb108) := ⟨h12_⟩
                  have n13_ : Aside0 (gb109 ≠ gb118) := ⟨h13_⟩
                  have n14_ : Aside0 (gb118 ≠ gb109) := ⟨h14_⟩
                  have n15_ : Aside0 (gb110 ≠ gb118) := ⟨h15_⟩
                  have n16_ : Aside0 (gb118 ≠ gb110) := ⟨h16_⟩
                  have n17_ : Aside0 (Below w.heap.size w w38) := ⟨h17_⟩
                  clear HO0_0 HO2_0 BK108 BK109 BK110 HB
                  clear h0_ h1_ h2_ h3_ h4_ h5_ h6_ h7_ h8_ h9_ h10_ h11_ h12_ h13_ h14_ h15_ h16_ h17_
                  have HO0_0 := n0_
                  have HO111 := n1_
                  have HO113 := n2_
                  have HO117 := n3_
                  have HO2_0 := n4_
                  have BK108 := n5_
                  have BK109 := n6_
                  have BK110 := n7_
                  have BK118 := n8_
                  have GW118 := n9_
                  have GE118 := n10_
                  have NB108_118 := n11_
                  have NB118_108 := n12_
                  have NB109_118 := n13_
                  have NB118_109 := n14_
                  have NB110_118 := n15_
                  have NB118_110 := n16_
                  have HB := n17_
                  clear n0_ n1_ n2_ n3_ n4_ n5_ n6_ n7_ n8_ n9_ n10_ n11_ n12_ n13_ n14_ n15_ n16_ n17_
                  have hHeld : w38.cell? ⟨gb108, 0, none⟩ = some (.slice (some ad195) l0_0.length c0_0) ∧ w38.cell? ⟨gb109, 0, none⟩ = some (.slice (some ad194) l2_0.length c2_0) := hS_
                  obtain ⟨Ao39, co39, eo39⟩ := Kd.R_slice HO117.out
                  (first | subst eo39 | (injection eo39 with f1_ f2_ f3_; have f4_ := f1_.symm; have f5_ := f3_.symm; clear f1_ f2_ f3_; subst f4_; subst f5_))
                  refine norm_ (a' := ?_) ?_ ?_
                  rotate_left
                  · simp only [putAll, Act.put, List.setIfInBounds_toArray, List.set_cons_zero, List.set_cons_succ]
                    rfl
                  refine one_ (i := 12) (N := none) #[true, true, true, true, true, true, true, true, true, true, true, true, true, false] rfl rfl (one_of HT_.out (by kernel_rfl)) (by decide) (fun K hK => ?_)
                  have hs40 : w38.cell? ⟨gb118, 0, none⟩ = some (.slice none 0 0) := (blk_cell BK118.out 0).trans rfl
                  have hfs40 := blk_frozen BK118.out 0
                  have hns40_0 := NB108_118.out
                  have hns40_1 := NB109_118.out
                  have hns40_2 := NB110_118.out
                  have hms40_0 := NB118_108.out
                  have hms40_1 := NB118_109.out
                  have hms40_2 := NB118_110.out
                  refine skip_ (w1 := ?_) (by rfl) rfl ?_ ?_
                  rotate_left
                  · go_simp
                    rfl
                  refine hK.out _ _ ⟨((cell_far (p := ⟨gb118, _, none⟩) NB108_118.out _).trans (hHeld.1)), ((cell_far (p := ⟨gb118, _, none⟩) NB109_118.out _).trans (hHeld.2))⟩ (fun hHeld => ?_)
                  clear hK K
                  refine pure_ (i := 13) (N := some 14) (v := ?_) (a' := ?_) #[true, true, true, true, true, true, true, true, true, true, true, true, true, true] rfl rfl (any_of HT_.out (by kernel_rfl)) (fun _ _ _ h => h) (Or.inl ⟨(by rfl), ?_⟩) ?_ ?_
                  rotate_left
                  · exact z10
                  rotate_left
                  · exact z1
                  refine done_ (done_of HT_.out (by kernel_rfl)) ?_
                  try go_wp2
                  have n0_ : Aside0 (Kd.V (Kd.int .i64) 2 (w38.setCell ⟨gb118, 0, none⟩ (.slice Ao39 t102.length co39)) w.heap.size (fun k_ => ((P0_0_ k_ ∨ P2_0_ k_) ∨ w.heap.size ≤ k_) ∧ some k_ ≠ (v112 : Value).ownBlock ∧ some k_ ≠ (.slice Ao39 t102.length co39 : Value).ownBlock ∧ k_ ≠ gb108 ∧ k_ ≠ gb109 ∧ k_ ≠ gb110 ∧ k_ ≠ gb118) (.slice (some ad195) l0_0.length c0_0) l0_0) := ⟨(by (with_reducible repeat (first | apply Kd.V_alloc | apply Kd.V_drewN | apply Kd.V_drew)); exact Kd.V_mono (Kd.V_far (p := ⟨gb118, 0, none⟩) (Kd.V_mono HO0_0.out (fun k_ hk => (⟨hk, hk.2.2.2.2.2.2⟩ : _ ∧ k_ ≠ gb118))) (fun _ hk => by first | exact hk.2 | simp only [hk, ne_eq, not_false_eq_true, and_self]) (.slice Ao39 t102.length co39)) (fun _ hk => by first | exact ⟨hk.1.1, ⟨hk.1.2.1, ⟨hk.1.2.2.1, ⟨hk.1.2.2.2.1, ⟨hk.1.2.2.2.2.1, ⟨hk.1.2.2.2.2.2.1, hk.1.2.2.2.2.2.2⟩⟩⟩⟩⟩⟩ | simp only [hk, ne_eq, not_false_eq_true, and_self]))⟩
                  have n1_ : Aside0 (Kd.V (Kd.int .i64) 2 (w38.setCell ⟨gb118, 0, none⟩ (.slice Ao39 t102.length co39)) w.heap.size (fun k_ => ((P0_0_ k_ ∨ P2_0_ k_) ∨ w.heap.size ≤ k_) ∧ some k_ ≠ (v112 : Value).ownBlock ∧ some k_ ≠ (.slice Ao39 t102.length co39 : Value).ownBlock ∧ k_ ≠ gb108 ∧ k_ ≠ gb109 ∧ k_ ≠ gb110 ∧ k_ ≠ gb118) (.slice (some ad194) l2_0.length c2_0) l2_0) := ⟨(by (with_reducible repeat (first | apply Kd.V_alloc | apply Kd.V_drewN | apply Kd.V_drew)); exact Kd.V_mono (Kd.V_far (p := ⟨gb118, 0, none⟩) (Kd.V_mono HO2_0.out (fun k_ hk => (⟨hk, hk.2.2.2.2.2.2⟩ : _ ∧ k_ ≠ gb118))) (fun _ hk => by first | exact hk.2 | simp only [hk, ne_eq, not_false_eq_true, and_self]) (.slice Ao39 t102.length co39)) (fun _ hk => by first | exact ⟨hk.1.1, ⟨hk.1.2.1, ⟨hk.1.2.2.1, ⟨hk.1.2.2.2.1, ⟨hk.1.2.2.2.2.1, ⟨hk.1.2.2.2.2.2.1, hk.1.2.2.2.2.2.2⟩⟩⟩⟩⟩⟩ | simp only [hk, ne_eq, not_false_eq_true, and_self]))⟩
                  have n2_ : Aside0 (Kd.V (Kd.int .i64) 2 (w38.setCell ⟨gb118, 0, none⟩ (.slice Ao39 t102.length co39)) w.heap.size (fun k_ => ((P0_0_ k_ ∨ P2_0_ k_) ∨ w.heap.size ≤ k_) ∧ some k_ ≠ (v112 : Value).ownBlock ∧ some k_ ≠ (.slice Ao39 t102.length co39 : Value).ownBlock ∧ k_ ≠ gb108 ∧ k_ ≠ gb109 ∧ k_ ≠ gb110 ∧ k_ ≠ gb118) (.slice A30 y104.length c30) y104) := ⟨(by (with_reducible repeat (first | apply Kd.V_alloc | apply Kd.V_drewN | apply Kd.V_drew)); exact Kd.V_mono (Kd.V_far (p := ⟨gb118, 0, none⟩) (Kd.V_mono HO111.out (fun k_ hk => (⟨hk, hk.2.2.2.2.2.2⟩ : _ ∧ k_ ≠ gb118))) (fun _ hk => by first | exact hk.2 | simp only [hk, ne_eq, not_false_eq_true, and_self]) (.slice Ao39 t102.length co39)) (fun _ hk => by first | exact ⟨hk.1.1, ⟨hk.1.2.1, ⟨hk.1.2.2.1, ⟨hk.1.2.2.2.1, ⟨hk.1.2.2.2.2.1, ⟨hk.1.2.2.2.2.2.1, hk.1.2.2.2.2.2.2⟩⟩⟩⟩⟩⟩ | simp only [hk, ne_eq, not_false_eq_true, and_self]))⟩
                  have n3_ : Aside0 (Kd.N (Kd.slice 2 (Kd.int .i64)) 22 (w38.setCell ⟨gb118, 0, none⟩ (.slice Ao39 t102.length co39)) w.heap.size (fun k_ => ((P0_0_ k_ ∨ P2_0_ k_) ∨ w.heap.size ≤ k_) ∧ some k_ ≠ (.slice Ao39 t102.length co39 : Value).ownBlock ∧ k_ ≠ gb108 ∧ k_ ≠ gb109 ∧ k_ ≠ gb110 ∧ k_ ≠ gb118) v112 y105) := ⟨(by (with_reducible repeat (first | apply Kd.N_alloc | apply Kd.N_drewN | apply Kd.N_drew)); exact Kd.N_mono (Kd.N_far (p := ⟨gb118, 0, none⟩) (Kd.N_mono HO113.out (fun k_ hk => (⟨hk, hk.2.2.2.2.2⟩ : _ ∧ k_ ≠ gb118))) (fun _ hk => by first | exact hk.2 | simp only [hk, ne_eq, not_false_eq_true, and_self]) (.slice Ao39 t102.length co39)) (fun _ hk => by first | exact ⟨hk.1.1, ⟨hk.1.2.1, ⟨hk.1.2.2.1, ⟨hk.1.2.2.2.1, ⟨hk.1.2.2.2.2.1, hk.1.2.2.2.2.2⟩⟩⟩⟩⟩ | simp only [hk, ne_eq, not_false_eq_true, and_self]))⟩
                  have n4_ : Aside0 (Kd.R (Kd.int .i64) 2 (w38.setCell ⟨gb118, 0, none⟩ (.slice Ao39 t102.length co39)) w.heap.size (fun k_ => (w.heap.size ≤ k_)) (.slice Ao39 t102.length co39) t102) := ⟨(by (with_reducible repeat (first | apply Kd.R_alloc | apply Kd.R_drewN | apply Kd.R_drew)); exact Kd.R_mono (Kd.R_far (p := ⟨gb118, 0, none⟩) (Kd.R_types HO117.out BK118.out (by decide)) (fun _ hk => by first | exact hk.2 | simp only [hk, ne_eq, not_false_eq_true, and_self]) (.slice Ao39 t102.length co39)) (fun _ hk => by first | exact hk.1 | simp only [hk, ne_eq, not_false_eq_true, and_self]))⟩
                  have n5_ : Aside0 ((w38.setCell ⟨gb118, 0, none⟩ (.slice Ao39 t102.length co39)).heap[gb108]? = some (.cells #[.slice (some ad195) l0_0.length c0_0] 30 (0, 0))) := ⟨(by (with_reducible repeat (first | refine blk_drewN ?_ _ | refine blk_drew ?_ | refine blk_alloc ?_ _)); refine blk_far ?_ NB108_118.out _; (with_reducible repeat (first | refine blk_drewN ?_ _ | refine blk_drew ?_ | refine blk_alloc ?_ _)); exact BK108.out)⟩
                  have n6_ : Aside0 ((w38.setCell ⟨gb118, 0, none⟩ (.slice Ao39 t102.length co39)).heap[gb109]? = some (.cells #[.slice (some ad194) l2_0.length c2_0] 30 (0, 0))) := ⟨(by (with_reducible repeat (first | refine blk_drewN ?_ _ | refine blk_drew ?_ | refine blk_alloc ?_ _)); refine blk_far ?_ NB109_118.out _; (with_reducible repeat (first | refine blk_drewN ?_ _ | refine blk_drew ?_ | refine blk_alloc ?_ _)); exact BK109.out)⟩
                  have n7_ : Aside0 ((w38.setCell ⟨gb118, 0, none⟩ (.slice Ao39 t102.length co39)).heap[gb110]? = some (.cells #[.slice none 0 0] 30 (0, 0))) := ⟨(by (with_reducible repeat (first | refine blk_drewN ?_ _ | refine blk_drew ?_ | refine blk_alloc ?_ _)); refine blk_far ?_ NB110_118.out _; (with_reducible repeat (first | refine blk_drewN ?_ _ | refine blk_drew ?_ | refine blk_alloc ?_ _)); exact BK110.out)⟩
                  have n8_ : Aside0 ((w38.setCell ⟨gb118, 0, none⟩ (.slice Ao39 t102.length co39)).heap[gb118]? = some (.cells #[.slice Ao39 t102.length co39] 30 (0, 0))) := ⟨(by (with_reducible repeat (first | refine blk_drewN ?_ _ | refine blk_drew ?_ | refine blk_alloc ?_ _)); refine blk_put (cs := #[.slice none 0 0]) ?_ 0 _ rfl; (with_reducible repeat (first | refine blk_drewN ?_ _ | refine blk_drew ?_ | refine blk_alloc ?_ _)); exact BK118.out)⟩
                  have n9_ : Aside0 (Below w.heap.size w (w38.setCell ⟨gb118, 0, none⟩ (.slice Ao39 t102.length co39))) := ⟨z3⟩
                  (try clear HO0_0)
                  (try clear HO2_0)
                  (try clear HO111)
                  (try clear HO113)
                  (try clear HO117)
                  (try clear BK108)
                  (try clear BK109)
                  (try clear BK110)
                  (try clear BK118)
                  (try clear HB)
                  generalize (w38.setCell ⟨gb118, 0, none⟩ (.slice Ao39 t102.length co39)) = w41 at n0_ n1_ n2_ n3_ n4_ n5_ n6_ n7_ n8_ n9_ ⊢
                  have HO0_0 := n0_
                  have HO2_0 := n1_
                  have HO111 := n2_
                  have HO113 := n3_
                  have HO117 := n4_
                  have BK108 := n5_
                  have BK109 := n6_
                  have BK110 := n7_
                  have BK118 := n8_
                  have HB := n9_
                  clear n0_ n1_ n2_ n3_ n4_ n5_ n6_ n7_ n8_ n9_
                  have n0_ := Aside0.mk (Kd.V_drew HO0_0.out)
                  have n1_ := Aside0.mk (Kd.V_drew HO2_0.out)
                  have n2_ := Aside0.mk (Kd.V_drew HO111.out)
                  have n3_ := Aside0.mk (Kd.N_drew HO113.out)
                  have n4_ := Aside0.mk (Kd.R_drew HO117.out)
                  have n5_ := Aside0.mk (blk_drew BK108.out)
                  have n6_ := Aside0.mk (blk_drew BK109.out)
                  have n7_ := Aside0.mk (blk_drew BK110.out)
                  have n8_ := Aside0.mk (blk_drew BK118.out)
                  have n9_ := Aside0.mk (below_drew1 HB.out)
                  clear HO0_0 HO2_0 HO111 HO113 HO117 BK108 BK109 BK110 BK118 HB
                  have HO0_0 := n0_
                  have HO2_0 := n1_
                  have HO111 := n2_
                  have HO113 := n3_
                  have HO117 := n4_
                  have BK108 := n5_
                  have BK109 := n6_
                  have BK110 := n7_
                  have BK118 := n8_
                  have HB := n9_
                  clear n0_ n1_ n2_ n3_ n4_ n5_ n6_ n7_ n8_ n9_
                  refine start_ (n := 7) (S := fun w' => True) (ds := []) #[false, false, false, false, false, false, false] (by kernel_rfl) rfl rfl trivial (fun hHeld => ?_); refine with_tabW impl_JoinOverPlace.tab10 impl_JoinOverPlace.bits10 (fun HT_ HW_ => ?_)
                  generalize w41.drew = w42 at HO0_0 HO2_0 HO111 HO113 HO117 BK108 BK109 BK110 BK118 HB hHeld ⊢
                  refine pure_ (i := 3) (N := some 62) (v := ?_) (a' := ?_) #[false, false, false, true, false, false, false] rfl rfl (any_of HT_.out (by kernel_rfl)) (fun _ _ _ h => h) (Or.inl ⟨(by rfl), ?_⟩) ?_ ?_
                  rotate_left
                  · exact z10
                  rotate_left
                  · exact z1
                  refine inv_at [0, 1, 2, 4, 5, 6] (fun a0_ b a w' => ∃ (v119 : Value) (m5_ : Value), a = putSel a0_ b [(0, 59, v119), (1, 60, .agg #[.slice (some ad194) l2_0.length c2_0]), (2, 61, .int .i64 t103), (4, 63, .int .i64 (wrap64 (Int.tdiv t103 (rd l2_0 0)))), (5, 15, m5_), (6, 16, .int .i64 (wrap64 (Int.tdiv t103 (rd l2_0 0))))] ∧ (Kd.V (Kd.int .i64) 2 w' w.heap.size (fun k_ => ((P0_0_ k_ ∨ P2_0_ k_) ∨ w.heap.size ≤ k_) ∧ some k_ ≠ (v112 : Value).ownBlock ∧ some k_ ≠ (.slice Ao39 t102.length co39 : Value).ownBlock ∧ k_ ≠ gb108 ∧ k_ ≠ gb109 ∧ k_ ≠ gb110 ∧ k_ ≠ gb118) (.slice (some ad195) l0_0.length c0_0) l0_0) ∧ (Kd.V (Kd.int .i64) 2 w' w.heap.size (fun k_ => ((P0_0_ k_ ∨ P2_0_ k_) ∨ w.heap.size ≤ k_) ∧ some k_ ≠ (v112 : Value).ownBlock ∧ some k_ ≠ (.slice Ao39 t102.length co39 : Value).ownBlock ∧ k_ ≠ gb108 ∧ k_ ≠ gb109 ∧ k_ ≠ gb110 ∧ k_ ≠ gb118) (.slice A30 y104.length c30) y104) ∧ (Kd.N (Kd.slice 2 (Kd.int .i64)) 22 w' w.heap.size (fun k_ => ((P0_0_ k_ ∨ P2_0_ k_) ∨ w.heap.size ≤ k_) ∧ some k_ ≠ (.slice Ao39 t102.length co39 : Value).ownBlock ∧ k_ ≠ gb108 ∧ k_ ≠ gb109 ∧ k_ ≠ gb110 ∧ k_ ≠ gb118) v112 y105) ∧ (Kd.R (Kd.int .i64) 2 w' w.heap.size (fun k_ => (w.heap.size ≤ k_)) (.slice Ao39 t102.length co39) t102) ∧ (Kd.V (Kd.int .i64) 2 w' w.heap.size (fun k_ => ((P0_0_ k_ ∨ P2_0_ k_) ∨ w.heap.size ≤ k_) ∧ some k_ ≠ (v112 : Value).ownBlock ∧ some k_ ≠ (.slice Ao39 t102.length co39 : Value).ownBlock ∧ k_ ≠ gb108 ∧ k_ ≠ gb109 ∧ k_ ≠ gb110 ∧ k_ ≠ gb118) (.slice (some ad194) l2_0.length c2_0) l2_0) ∧ (w'.heap[gb108]? = some (.cells #[.slice (some ad195) l0_0.length c0_0] 30 (0, 0))) ∧ (w'.heap[gb109]? = some (.cells #[.slice (some ad194) l2_0.length c2_0] 30 (0, 0))) ∧ (w'.heap[gb110]? = some (.cells #[.slice none 0 0] 30 (0, 0))) ∧ (w'.heap[gb118]? = some (.cells #[.slice Ao39 t102.length co39] 30 (0, 0))) ∧ (Below w.heap.size w w') ∧ (b 0 = true → Kd.R (Kd.int .i64) 2 w' w.heap.size (fun k_ => (w.heap.size ≤ k_) ∧ some k_ ≠ (.slice Ao39 t102.length co39 : Value).ownBlock) v119 y107) ∧ (b 5 = true → (m5_ : Value) = v119)) HT_.out HW_.out (by kernel_rfl) (by kernel_rfl) ?_ ?_ ?_
                  · exact ⟨.bool false, .bool false, (by simp only [putSel, Bool.false_eq_true, if_false]), HO0_0.out, HO111.out, HO113.out, HO117.out, HO2_0.out, BK108.out, BK109.out, BK110.out, BK118.out, HB.out, fun h_ => absurd h_ (by decide), fun h_ => absurd h_ (by decide)⟩
                  · skip
                    clear BK108 BK109 BK110 BK118 HB HO0_0 HO111 HO113 HO117 HO2_0
                    refine steps_cons ?_ ?_
                    · rintro b a w' ⟨v119, m5_, ha, Q_HO0_0, Q_HO200, Q_HO203, Q_HO209, Q_HO2_0, Q_BK190, Q_BK191, Q_BK192, Q_BK211, Q_HB, Q_HO214, Q_X5_⟩ hb_ hon hoff
                      refine ⟨_, rfl, fun K hK => ?_⟩
                      replace ha := Aside0.mk ha
                      have HO0_0 := Aside0.mk Q_HO0_0
                      have HO111 := Aside0.mk Q_HO200
                      have HO113 := Aside0.mk Q_HO203
                      have HO117 := Aside0.mk Q_HO209
                      have HO2_0 := Aside0.mk Q_HO2_0
                      have BK108 := Aside0.mk Q_BK190
                      have BK109 := Aside0.mk Q_BK191
                      have BK110 := Aside0.mk Q_BK192
                      have BK118 := Aside0.mk Q_BK211
                      have HB := Aside0.mk Q_HB
                      refine Kd.R_lit_step (Kd.int .i64) _ 2 ?hg (N := 59) ?hd (xs := ([] : List Int)) (inner := []) (ok := fun _ => True) (okp := fun _ => True) ?hr ?hp (fun _ hk => hk) trivial (Below.refl _ _) (Nat.le_refl _) (by simp) ?_; (case hd => rfl); (case hg => rfl); (case hr => first | (go_simp; done) | (go_simp; rfl)); (case hp => exact (Reps.none _ _))
                      intro v119 w43 ho44 hb hg_ hnew_
                      clear hg_ hnew_
                      (first | rw [← Ny107.out] at ho44 | (simp only [Int.reduceToNat] at ho44; rw [← Ny107.out] at ho44))
                      have n0_ := Aside0.mk (Kd.V_elder' z14 (Kd.R_base ho44) hb)
                      have n1_ := Aside0.mk (Kd.V_elder' z15 (Kd.R_base ho44) hb)
                      have n2_ := Aside0.mk (Kd.V_elder' z24 (Kd.R_base ho44) hb)
                      have n3_ := Aside0.mk (Kd.N_elder' z33 (Kd.R_base ho44) hb)
                      have n4_ := Aside0.mk (Kd.R_elder' z37 (Kd.R_base ho44) hb)
                      have n5_ := Aside0.mk (Kd.R_lower (Kd.R_new' (Kd.R_newM (M := fun k_ => (w.heap.size ≤ k_)) ho44 (below_size z3) (fun k_ h_ => h_)) (Kd.R_lt z37)) (below_size z3))
                      have n6_ := zBB BK108 hb
                      have n7_ := zBB BK109 hb
                      have n8_ := zBB BK110 hb
                      have n9_ := zBB BK118 hb
                      have n10_ := Aside0.mk (below_step z3 hb)
                      clear HO0_0 HO2_0 HO111 HO113 HO117 BK108 BK109 BK110 BK118 HB
                      have HO0_0 := n0_
                      have HO2_0 := n1_
                      have HO111 := n2_
                      have HO113 := n3_
                      have HO117 := n4_
                      have HO120 := n5_
                      have BK108 := n6_
                      have BK109 := n7_
                      have BK110 := n8_
                      have BK118 := n9_
                      have HB := n10_
                      clear n0_ n1_ n2_ n3_ n4_ n5_ n6_ n7_ n8_ n9_ n10_
                      clear hb ho44
                      refine hK.out _ _ ⟨v119, m5_, (by rw [ha.out]; exact putSel_upk 0 hb_ rfl rfl rfl), (by (with_reducible repeat (first | apply Kd.V_alloc | apply Kd.V_drewN | apply Kd.V_drew)); exact Kd.V_mono HO0_0.out (fun _ hk => by first | exact ⟨hk.1.1, ⟨hk.1.2.1, ⟨hk.1.2.2.1, ⟨hk.2, ⟨hk.1.2.2.2.1, ⟨hk.1.2.2.2.2.1, ⟨hk.1.2.2.2.2.2.1, hk.1.2.2.2.2.2.2⟩⟩⟩⟩⟩⟩⟩ | simp only [hk, ne_eq, not_false_eq_true, and_self])), (by (with_reducible repeat (first | apply Kd.V_alloc | apply Kd.V_drewN | apply Kd.V_drew)); exact Kd.V_mono HO111.out (fun _ hk => by first | exact ⟨hk.1.1, ⟨hk.1.2.1, ⟨hk.1.2.2.1, ⟨hk.2, ⟨hk.1.2.2.2.1, ⟨hk.1.2.2.2.2.1, ⟨hk.1.2.2.2.2.2.1, hk.1.2.2.2.2.2.2⟩⟩⟩⟩⟩⟩⟩ | simp only [hk, ne_eq, not_false_eq_true, and_self])), (by (with_reducible repeat (first | apply Kd.N_alloc | apply Kd.N_drewN | apply Kd.N_drew)); exact Kd.N_mono HO113.out (fun _ hk => by first | exact ⟨hk.1.1, ⟨hk.1.2.1, ⟨hk.2, ⟨hk.1.2.2.1, ⟨hk.1.2.2.2.1, ⟨hk.1.2.2.2.2.1, hk.1.2.2.2.2.2⟩⟩⟩⟩⟩⟩ | simp only [hk, ne_eq, not_false_eq_true, and_self])), z74, (by (with_reducible repeat (first | apply Kd.V_alloc | apply Kd.V_drewN | apply Kd.V_drew)); exact Kd.V_mono HO2_0.out (fun _ hk => by first | exact ⟨hk.1.1, ⟨hk.1.2.1, ⟨hk.1.2.2.1, ⟨hk.2, ⟨hk.1.2.2.2.1, ⟨hk.1.2.2.2.2.1, ⟨hk.1.2.2.2.2.2.1, hk.1.2.2.2.2.2.2⟩⟩⟩⟩⟩⟩⟩ | simp only [hk, ne_eq, not_false_eq_true, and_self])), z4, z6, z7, z20, z3, fun _ => (by (with_reducible repeat (first | apply Kd.R_alloc | apply Kd.R_drewN | apply Kd.R_drew)); exact Kd.R_mono HO120.out (fun _ hk => by first | exact ⟨hk.1.1, hk.2⟩ | simp only [hk, ne_eq, not_false_eq_true, and_self])), fun h0_ => absurd ((hoff 5 (by kernel_rfl)).symm.trans h0_) (by decide)⟩
                    refine steps_cons ?_ ?_
                    · rintro b a w' ⟨v119, m5_, ha, Q_HO0_0, Q_HO200, Q_HO203, Q_HO209, Q_HO2_0, Q_BK190, Q_BK191, Q_BK192, Q_BK211, Q_HB, Q_HO214, Q_X5_⟩ hb_ hon hoff
                      refine ⟨_, rfl, fun K hK => ?_⟩
                      have e6 : a.tmps[6]? = some (.pointer (some ⟨gb109, 0, none⟩)) := by rw [ha]; exact (putSel_off rfl).trans rfl
                      replace ha := Aside0.mk ha
                      have HO0_0 := Aside0.mk Q_HO0_0
                      have HO111 := Aside0.mk Q_HO200
                      have HO113 := Aside0.mk Q_HO203
                      have HO117 := Aside0.mk Q_HO209
                      have HO2_0 := Aside0.mk Q_HO2_0
                      have BK108 := Aside0.mk Q_BK190
                      have BK109 := Aside0.mk Q_BK191
                      have BK110 := Aside0.mk Q_BK192
                      have BK118 := Aside0.mk Q_BK211
                      have HB := Aside0.mk Q_HB
                      have hc0_ : w'.cell? ⟨gb109, 0, none⟩ = some (.slice (some ad194) l2_0.length c2_0) := (blk_cell BK109.out 0).trans rfl
                      refine value_ (w1 := w') (v := .agg #[.slice (some ad194) l2_0.length c2_0]) (by rfl) rfl ?_ ?_
                      · go_simp
                        (try simp only [i64_w])
                        try rfl
                      refine hK.out _ _ ⟨v119, m5_, (by rw [ha.out]; exact putSel_upk 1 hb_ rfl rfl rfl), Q_HO0_0, Q_HO200, Q_HO203, Q_HO209, Q_HO2_0, Q_BK190, Q_BK191, Q_BK192, Q_BK211, Q_HB, Q_HO214, fun h0_ => absurd ((hoff 5 (by kernel_rfl)).symm.trans h0_) (by decide)⟩
                    refine steps_cons ?_ ?_
                    · rintro b a w' ⟨v119, m5_, ha, Q_HO0_0, Q_HO200, Q_HO203, Q_HO209, Q_HO2_0, Q_BK190, Q_BK191, Q_BK192, Q_BK211, Q_HB, Q_HO214, Q_X5_⟩ hb_ hon hoff
                      refine ⟨_, rfl, fun K hK => ?_⟩
                      have e60 : a.tmps[60]? = some (.agg #[.slice (some ad194) l2_0.length c2_0]) := by rw [ha]; exact putSel_on (e := (1, 60, .agg #[.slice (some ad194) l2_0.length c2_0])) 1 rfl rfl (hon 1 (by kernel_rfl)) rfl
                      replace ha := Aside0.mk ha
                      have HO0_0 := Aside0.mk Q_HO0_0
                      have HO111 := Aside0.mk Q_HO200
                      have HO113 := Aside0.mk Q_HO203
                      have HO117 := Aside0.mk Q_HO209
                      have HO2_0 := Aside0.mk Q_HO2_0
                      have BK108 := Aside0.mk Q_BK190
                      have BK109 := Aside0.mk Q_BK191
                      have BK110 := Aside0.mk Q_BK192
                      have BK118 := Aside0.mk Q_BK211
                      have HB := Aside0.mk Q_HB
                      refine goes_ Try.func46 (by kernel_rfl) rfl #[.agg #[.slice (some ad194) l2_0.length c2_0]] (by rfl) rfl rfl (by first | (simp only [List.map_toArray, List.map_cons, List.map_nil, Act.eval, Array.getD_eq_getD_getElem?, Option.getD_some, e60]; done) | (simp only [List.map_toArray, List.map_cons, List.map_nil, Act.eval, Array.getD_eq_getD_getElem?, Option.getD_some, e60]; rfl)) ?_
                      with_reducible refine (impl_count.calls k _ _ l2_0 t103 _ ?side1 ?side2 A16.out).mono ?_
                      (case side1 => exact z46)
                      (case side2 => exact (Kd.V_reads' HO2_0.out).2.1)
                      rintro e w43 ⟨rfl, hb⟩
                      refine ⟨_, rfl, ?_⟩
                      have n0_ := Aside0.mk (Kd.V_below z14 hb)
                      have n1_ := Aside0.mk (Kd.V_below z15 hb)
                      have n2_ := Aside0.mk (Kd.V_below z24 hb)
                      have n3_ := Aside0.mk (Kd.N_below z33 hb)
                      have n4_ := Aside0.mk (Kd.R_below z37 hb)
                      have n5_ := zBB BK108 hb
                      have n6_ := zBB BK109 hb
                      have n7_ := zBB BK110 hb
                      have n8_ := zBB BK118 hb
                      have n9_ := Aside0.mk (below_step z3 hb)
                      have z_HO214 := fun (h0_ : b 0 = true) => (show Kd.R (Kd.int .i64) 2 w43 w.heap.size (fun k_ => (w.heap.size ≤ k_) ∧ some k_ ≠ (.slice Ao39 t102.length co39 : Value).ownBlock) v119 y107 from by first | exact (Kd.R_below z81 hb) | exact Kd.R_mono (Kd.R_below z81 hb) (fun _ h_ => by first | trivial | exact h_ | exact h_.1))
                      clear HO0_0 HO2_0 HO111 HO113 HO117 BK108 BK109 BK110 BK118 HB
                      have HO0_0 := n0_
                      have HO2_0 := n1_
                      have HO111 := n2_
                      have HO113 := n3_
                      have HO117 := n4_
                      have BK108 := n5_
                      have BK109 := n6_
                      have BK110 := n7_
                      have BK118 := n8_
                      have HB := n9_
                      clear n0_ n1_ n2_ n3_ n4_ n5_ n6_ n7_ n8_ n9_
                      (try clear hb)
                      (try clear hb2)
                      (try clear hk)
                      (try clear hi)
                      refine hK.out _ _ ⟨v119, m5_, (by rw [ha.out]; exact putSel_upk 2 hb_ rfl rfl rfl), z14, z24, z33, z74, z15, z4, z6, z7, z20, z3, z_HO214, fun h0_ => absurd ((hoff 5 (by kernel_rfl)).symm.trans h0_) (by decide)⟩
                    refine steps_cons ?_ ?_
                    · rintro b a w' ⟨v119, m5_, ha, Q_HO0_0, Q_HO200, Q_HO203, Q_HO209, Q_HO2_0, Q_BK190, Q_BK191, Q_BK192, Q_BK211, Q_HB, Q_HO214, Q_X5_⟩ hb_ hon hoff
                      refine ⟨_, rfl, fun K hK => ?_⟩
                      have e61 : a.tmps[61]? = some (.int .i64 t103) := by rw [ha]; exact putSel_on (e := (2, 61, .int .i64 t103)) 2 rfl rfl (hon 2 (by kernel_rfl)) rfl
                      have e62 : a.tmps[62]? = some (.int .i64 (rd l2_0 0)) := by rw [ha]; exact (putSel_off rfl).trans rfl
                      replace ha := Aside0.mk ha
                      have HO0_0 := Aside0.mk Q_HO0_0
                      have HO111 := Aside0.mk Q_HO200
                      have HO113 := Aside0.mk Q_HO203
                      have HO117 := Aside0.mk Q_HO209
                      have HO2_0 := Aside0.mk Q_HO2_0
                      have BK108 := Aside0.mk Q_BK190
                      have BK109 := Aside0.mk Q_BK191
                      have BK110 := Aside0.mk Q_BK192
                      have BK118 := Aside0.mk Q_BK211
                      have HB := Aside0.mk Q_HB
                      refine value_ (w1 := w') (v := .int .i64 (wrap64 (Int.tdiv t103 (rd l2_0 0)))) (by rfl) rfl ?_ ?_
                      · go_simp
                        (try simp only [i64_w])
                        try rfl
                      refine hK.out _ _ ⟨v119, m5_, (by rw [ha.out]; exact putSel_upk 3 hb_ rfl rfl rfl), Q_HO0_0, Q_HO200, Q_HO203, Q_HO209, Q_HO2_0, Q_BK190, Q_BK191, Q_BK192, Q_BK211, Q_HB, Q_HO214, Q_X5_⟩
                    refine steps_cons ?_ ?_
                    · rintro b a w' ⟨v119, m5_, ha, Q_HO0_0, Q_HO200, Q_HO203, Q_HO209, Q_HO2_0, Q_BK190, Q_BK191, Q_BK192, Q_BK211, Q_HB, Q_HO214, Q_X5_⟩ hb_ hon hoff
                      refine ⟨_, rfl, fun K hK => ?_⟩
                      have e59 : a.tmps[59]? = some (v119) := by rw [ha]; exact putSel_on (e := (0, 59, v119)) 0 rfl rfl (hon 0 (by kernel_rfl)) rfl
                      replace ha := Aside0.mk ha
                      have HO0_0 := Aside0.mk Q_HO0_0
                      have HO111 := Aside0.mk Q_HO200
                      have HO113 := Aside0.mk Q_HO203
                      have HO117 := Aside0.mk Q_HO209
                      have HO2_0 := Aside0.mk Q_HO2_0
                      have BK108 := Aside0.mk Q_BK190
                      have BK109 := Aside0.mk Q_BK191
                      have BK110 := Aside0.mk Q_BK192
                      have BK118 := Aside0.mk Q_BK211
                      have HB := Aside0.mk Q_HB
                      have HO120 := Aside0.mk (Q_HO214 (hon 0 (by kernel_rfl)))
                      refine value_ (w1 := w') (v := v119) (by rfl) rfl ?_ ?_
                      · go_simp
                        (try simp only [i64_w])
                        try rfl
                      refine hK.out _ _ ⟨v119, (v119), (by rw [ha.out]; exact putSel_upk 4 hb_ rfl rfl rfl), Q_HO0_0, Q_HO200, Q_HO203, Q_HO209, Q_HO2_0, Q_BK190, Q_BK191, Q_BK192, Q_BK211, Q_HB, Q_HO214, fun _ => rfl⟩
                    refine steps_cons ?_ ?_
                    · rintro b a w' ⟨v119, m5_, ha, Q_HO0_0, Q_HO200, Q_HO203, Q_HO209, Q_HO2_0, Q_BK190, Q_BK191, Q_BK192, Q_BK211, Q_HB, Q_HO214, Q_X5_⟩ hb_ hon hoff
                      refine ⟨_, rfl, fun K hK => ?_⟩
                      have e63 : a.tmps[63]? = some (.int .i64 (wrap64 (Int.tdiv t103 (rd l2_0 0)))) := by rw [ha]; exact putSel_on (e := (4, 63, .int .i64 (wrap64 (Int.tdiv t103 (rd l2_0 0))))) 3 rfl rfl (hon 4 (by kernel_rfl)) rfl
                      replace ha := Aside0.mk ha
                      have HO0_0 := Aside0.mk Q_HO0_0
                      have HO111 := Aside0.mk Q_HO200
                      have HO113 := Aside0.mk Q_HO203
                      have HO117 := Aside0.mk Q_HO209
                      have HO2_0 := Aside0.mk Q_HO2_0
                      have BK108 := Aside0.mk Q_BK190
                      have BK109 := Aside0.mk Q_BK191
                      have BK110 := Aside0.mk Q_BK192
                      have BK118 := Aside0.mk Q_BK211
                      have HB := Aside0.mk Q_HB
                      have HO120 := Aside0.mk (Q_HO214 (hon 0 (by kernel_rfl)))
                      refine value_ (w1 := w') (v := .int .i64 (wrap64 (Int.tdiv t103 (rd l2_0 0)))) (by rfl) rfl ?_ ?_
                      · go_simp
                        (try simp only [i64_w])
                        try rfl
                      refine hK.out _ _ ⟨v119, m5_, (by rw [ha.out]; exact putSel_upk 5 hb_ rfl rfl rfl), Q_HO0_0, Q_HO200, Q_HO203, Q_HO209, Q_HO2_0, Q_BK190, Q_BK191, Q_BK192, Q_BK211, Q_HB, Q_HO214, Q_X5_⟩
                    exact steps_nil
                  rintro b a w46 hall ⟨v119, m5_, ha, Q_HO0_0, Q_HO200, Q_HO203, Q_HO209, Q_HO2_0, Q_BK190, Q_BK191, Q_BK192, Q_BK211, Q_HB, Q_HO214, Q_X5_⟩
                  clear BK108 BK109 BK110 BK118 HB HO0_0 HO111 HO113 HO117 HO2_0
                  have hb0_ := hall 0 (by kernel_rfl)
                  have hb1_ := hall 1 (by kernel_rfl)
                  have hb2_ := hall 2 (by kernel_rfl)
                  have hb4_ := hall 4 (by kernel_rfl)
                  have hb5_ := hall 5 (by kernel_rfl)
                  have hb6_ := hall 6 (by kernel_rfl)
                  subst ha
                  obtain rfl := Q_X5_ hb5_
                  simp only [putSel, hb0_, hb1_, hb2_, hb4_, hb5_, hb6_, if_true, Act.put, List.setIfInBounds_toArray, List.set_cons_zero, List.set_cons_succ]
                  have HO0_0 := Aside0.mk Q_HO0_0
                  clear Q_HO0_0
                  have HO111 := Aside0.mk Q_HO200
                  clear Q_HO200
                  have HO113 := Aside0.mk Q_HO203
                  clear Q_HO203
                  have HO117 := Aside0.mk Q_HO209
                  clear Q_HO209
                  have HO2_0 := Aside0.mk Q_HO2_0
                  clear Q_HO2_0
                  have BK108 := Aside0.mk Q_BK190
                  clear Q_BK190
                  have BK109 := Aside0.mk Q_BK191
                  clear Q_BK191
                  have BK110 := Aside0.mk Q_BK192
                  clear Q_BK192
                  have BK118 := Aside0.mk Q_BK211
                  clear Q_BK211
                  have HB := Aside0.mk Q_HB
                  clear Q_HB
                  have HO120 := Aside0.mk (Q_HO214 hb0_)
                  clear Q_HO214
                  clear hall hb0_ hb1_ hb2_ hb4_ hb5_ hb6_
                  try go_wp2
                  go_loopg [15, 66] k (fun kq v15 v66 w' => ∃ (x15_1 : List Int) (x66_1 : Int), v66 = .int .i64 x66_1 ∧ Aside0 (impl_JoinOverPlace.l0 kq l3 (rd l2_0 0) x15_1 (wrap64 (Int.tdiv t103 (rd l2_0 0))) l1 (l1.length : Int) x66_1 t102 = some (r1, r2, r3)) ∧ Aside0 (kq ≤ k) ∧ Aside0 (Kd.R (Kd.int .i64) 2 w' w.heap.size (fun k_ => (w.heap.size ≤ k_) ∧ some k_ ≠ ((.slice Ao39 t102.length co39) : Value).ownBlock) v15 x15_1) ∧ Aside0 True ∧ Aside0 True ∧ Aside0 (Kd.R (Kd.int .i64) 2 w' w.heap.size (fun k_ => (w.heap.size ≤ k_) ∧ some k_ ≠ (v15 : Value).ownBlock) (.slice Ao39 t102.length co39) t102) ∧ Aside0 (w'.heap[gb108]? = some (.cells #[(.slice (some ad195) l0_0.length c0_0)] 30 (0, 0))) ∧ Aside0 (w'.heap[gb109]? = some (.cells #[(.slice (some ad194) l2_0.length c2_0)] 30 (0, 0))) ∧ Aside0 (w'.heap[gb110]? = some (.cells #[(.slice none 0 0)] 30 (0, 0))) ∧ Aside0 (w'.heap[gb118]? = some (.cells #[(.slice Ao39 t102.length co39)] 30 (0, 0))) ∧ Aside0 (Below w.heap.size w w'))
                  case atStart => exact ⟨(y107), (0), z18, H', ⟨Nat.le_refl _⟩, ⟨(by (with_reducible repeat (first | apply Kd.R_alloc | apply Kd.R_drewN | apply Kd.R_drew)); exact HO120.out)⟩, ⟨trivial⟩, ⟨trivial⟩, ⟨(by (with_reducible repeat (first | apply Kd.R_alloc | apply Kd.R_drewN | apply Kd.R_drew)); exact zs_impl HO117.out HO120.out)⟩, ⟨z4⟩, ⟨z6⟩, ⟨z7⟩, ⟨z20⟩, ⟨z3⟩⟩
                  case round =>
                    clear H'
                    try clear c2
                    try clear p2
                    try clear c3
                    try clear c4
                    try clear p6
                    try clear c30
                    try clear c44
                    try clear c45
                    try clear c46
                    obtain ⟨x15_1, x66_1, rfl, HA, HK1, HO_15, HO_191000, HO_192000, HO_212000, BK108, BK109, BK110, BK118, HB⟩ := hrel
                    cases gk with
                    | zero => exact absurd HA.out (by simp [impl_JoinOverPlace.l0])
                    | succ k1 =>
                      have H := HA.out
                      clear HA
                      simp only [impl_JoinOverPlace.l0] at H
                      by_cases c47 : x66_1 < (l1.length : Int)
                      · rw [if_pos c47] at H
                        have c47b0 : decide (x66_1 < (l1.length : Int)) = true := decide_eq_true c47
                        clear c47
                        by_cases c48 : 0 ≤ x66_1
                        · rw [if_pos c48] at H
                          have c48b0 : decide (0 ≤ x66_1) = true := decide_eq_true c48
                          clear c48
                          by_cases c49 : x66_1 < (l1.length : Int)
                          · rw [if_pos c49] at H
                            have c49b0 : decide (x66_1 < (l1.length : Int)) = true := decide_eq_true c49
                            clear c49
                            have H' := Aside0.mk H
                            clear H
                            have p216 : 0 ≤ (x66_1 : Int) := of_decide_eq_true z12
                            have q216 : x66_1 < (l1.length : Int) := of_decide_eq_true z12
                            obtain ⟨ad216, e216, hx216_0⟩ := Kd.at_int HR1.out x66_1 p216 q216
                            cases e216
                            try replace hx216_0 := (HB.out.cell (World.block_lt_of_cell? w _ hx216_0)).trans hx216_0
                            replace p216 := eq_true p216
                            replace q216 := eq_true q216
                            go_wp2
                            go_loopg [15, 72] k1 (fun kq v15 v72 w' => ∃ (x15_2 : List Int) (x72_2 : Int), v72 = .int .i64 x72_2 ∧ Aside0 (impl_JoinOverPlace.l1 kq l3 (rd l2_0 0) x15_2 (wrap64 (Int.tdiv t103 (rd l2_0 0))) (rd l1 x66_1) l1 (l1.length : Int) x66_1 l3 (l3.length : Int) x72_2 t102 = some (r1, r2, r3)) ∧ Aside0 (kq ≤ k1) ∧ Aside0 (Kd.R (Kd.int .i64) 2 w' w.heap.size (fun k_ => (w.heap.size ≤ k_) ∧ some k_ ≠ ((.slice Ao39 t102.length co39) : Value).ownBlock) v15 x15_2) ∧ Aside0 True ∧ Aside0 True ∧ Aside0 (Kd.R (Kd.int .i64) 2 w' w.heap.size (fun k_ => (w.heap.size ≤ k_) ∧ some k_ ≠ (v15 : Value).ownBlock) (.slice Ao39 t102.length co39) t102) ∧ Aside0 (w'.heap[gb108]? = some (.cells #[(.slice (some ad195) l0_0.length c0_0)] 30 (0, 0))) ∧ Aside0 (w'.heap[gb109]? = some (.cells #[(.slice (some ad194) l2_0.length c2_0)] 30 (0, 0))) ∧ Aside0 (w'.heap[gb110]? = some (.cells #[(.slice none 0 0)] 30 (0, 0))) ∧ Aside0 (w'.heap[gb118]? = some (.cells #[(.slice Ao39 t102.length co39)] 30 (0, 0))) ∧ Aside0 (Below w.heap.size w w'))
                            case atStart => exact ⟨(x15_1), (0), z18, H', ⟨Nat.le_refl _⟩, ⟨z69⟩, ⟨trivial⟩, ⟨trivial⟩, ⟨z51⟩, ⟨z4⟩, ⟨z6⟩, ⟨z7⟩, ⟨z20⟩, ⟨z3⟩⟩
                            case round =>
                              clear H'
                              try clear c2
                              try clear p2
                              try clear q2
                              try clear hx2
                              try clear c3
                              try clear c4
                              try clear p6
                              try clear p21
                              try clear q21
                              try clear hx21
                              try clear c30
                              try clear c44
                              try clear c45
                              try clear c46
                              try clear c47
                              try clear c47b0
                              try clear c48
                              try clear c48b0
                              try clear c49
                              try clear c49b0
                              try clear hx216_0
                              try clear p2
                              try clear p216
                              try clear p6
                              try clear q216
                              obtain ⟨x15_2, x72_2, rfl, HA, HK2, HO_15, HO_191000, HO_192000, HO_212000, BK108, BK109, BK110, BK118, HB⟩ := hrel
                              cases gk with
                              | zero => exact absurd HA.out (by simp [impl_JoinOverPlace.l1])
                              | succ k2 =>
                                have H := HA.out
                                clear HA
                                simp only [impl_JoinOverPlace.l1] at H
                                by_cases c50 : x72_2 < (l3.length : Int)
                                · rw [if_pos c50] at H
                                  have c50b0 : decide (x72_2 < (l3.length : Int)) = true := decide_eq_true c50
                                  clear c50
                                  by_cases c51 : 0 ≤ x72_2
                                  · rw [if_pos c51] at H
                                    have c51b0 : decide (0 ≤ x72_2) = true := decide_eq_true c51
                                    clear c51
                                    by_cases c52 : x72_2 < (l3.length : Int)
                                    · rw [if_pos c52] at H
                                      have c52b0 : decide (x72_2 < (l3.length : Int)) = true := decide_eq_true c52
                                      clear c52
                                      by_cases c53 : (rd l2_0 0) = 0
                                      · rw [if_pos c53] at H
                                        exact absurd H (by simp)
                                      · rw [if_neg c53] at H
                                        have c53b0 : ((rd l2_0 0) == 0) = false := beq_eq_false_iff_ne.mpr c53
                                        have c53b1 : ((rd l2_0 0) != 0) = true := bne_iff_ne.mpr c53
                                        by_cases c54 : (wrap64 (Int.tdiv t103 (rd l2_0 0))) = 0
                                        · rw [if_pos c54] at H
                                          exact absurd H (by simp)
                                        · rw [if_neg c54] at H
                                          have c54b0 : ((wrap64 (Int.tdiv t103 (rd l2_0 0))) == 0) = false := beq_eq_false_iff_ne.mpr c54
                                          have c54b1 : ((wrap64 (Int.tdiv t103 (rd l2_0 0))) != 0) = true := bne_iff_ne.mpr c54
                                          by_cases c55 : (Int.tmod (rd l1 x66_1) (rd l2_0 0)) = (wrap64 (Int.tdiv (rd l3 x72_2) (wrap64 (Int.tdiv t103 (rd l2_0 0)))))
                                          · rw [if_pos c55] at H
                                            have c55b0 : ((Int.tmod (rd l1 x66_1) (rd l2_0 0)) == (wrap64 (Int.tdiv (rd l3 x72_2) (wrap64 (Int.tdiv t103 (rd l2_0 0)))))) = true := beq_iff_eq.mpr c55
                                            have c55b1 : ((Int.tmod (rd l1 x66_1) (rd l2_0 0)) != (wrap64 (Int.tdiv (rd l3 x72_2) (wrap64 (Int.tdiv t103 (rd l2_0 0)))))) = false := bne_eq_false_iff_eq.mpr c55
                                            clear c55
                                            by_cases c56 : x15_2.length < 17592186044416
                                            · rw [if_pos c56] at H
                                              have LMc56 := Aside0.mk c56
                                              clear c56
                                              obtain ⟨y121, hy121⟩ : ∃ y_ : List Int, y_ = (x15_2 ++ [wrap64 ((wrap64 ((rd l1 x66_1) * (wrap64 (Int.tdiv t103 (rd l2_0 0))))) + (Int.tmod (rd l3 x72_2) (wrap64 (Int.tdiv t103 (rd l2_0 0)))))]) := ⟨_, rfl⟩
                                              replace H : (impl_JoinOverPlace.l1 k2 l3 (rd l2_0 0) y121 (wrap64 (Int.tdiv t103 (rd l2_0 0))) (rd l1 x66_1) l1 (l1.length : Int) x66_1 l3 (l3.length : Int) (wrap64 (x72_2 + 1)) t102) = some (r1, r2, r3) := by first | (rw [hy121]; with_reducible exact H) | (have H2_ := (Option.bind_some _ _).symm.trans H; rw [hy121]; with_reducible exact H2_) | (have H2_ := (Option.bind_some _ _).symm.trans H; with_reducible exact H2_) | with_reducible exact H | (rw [hy121]; exact H) | exact H
                                              have Ny121 := Aside0.mk hy121
                                              clear hy121
                                              have H' := Aside0.mk H
                                              clear H
                                              have p217 : 0 ≤ (x72_2 : Int) := of_decide_eq_true z12
                                              have q217 : x72_2 < (l3.length : Int) := of_decide_eq_true z12
                                              obtain ⟨ad217, e217, hx217_0⟩ := Kd.at_int HR3.out x72_2 p217 q217
                                              cases e217
                                              try replace hx217_0 := (HB.out.cell (World.block_lt_of_cell? w _ hx217_0)).trans hx217_0
                                              replace p217 := eq_true p217
                                              replace q217 := eq_true q217
                                              try go_wp2
                                              have n0_ := Aside0.mk (Kd.R_drew HO_15.out)
                                              have n1_ := Aside0.mk trivial
                                              have n2_ := Aside0.mk trivial
                                              have n3_ := Aside0.mk (Kd.R_drew HO_212000.out)
                                              have n4_ := Aside0.mk (blk_drew BK108.out)
                                              have n5_ := Aside0.mk (blk_drew BK109.out)
                                              have n6_ := Aside0.mk (blk_drew BK110.out)
                                              have n7_ := Aside0.mk (blk_drew BK118.out)
                                              have n8_ := Aside0.mk (below_drew1 HB.out)
                                              clear HO_15 HO_191000 HO_192000 HO_212000 BK108 BK109 BK110 BK118 HB
                                              have HO_15 := n0_
                                              have HO_191000 := n1_
                                              have HO_192000 := n2_
                                              have HO_212000 := n3_
                                              have BK108 := n4_
                                              have BK109 := n5_
                                              have BK110 := n6_
                                              have BK118 := n7_
                                              have HB := n8_
                                              clear n0_ n1_ n2_ n3_ n4_ n5_ n6_ n7_ n8_
                                              refine start_ (n := 7) (S := fun w' => True) (ds := []) #[false, false, false, false, false, false, false] (by kernel_rfl) rfl rfl trivial (fun hHeld => ?_)
                                              generalize wr.drew = w57 at HO_15 HO_191000 HO_192000 HO_212000 BK108 BK109 BK110 BK118 HB hHeld ⊢
                                              refine pure_ (i := 0) (N := some 76) (v := ?_) (a' := ?_) #[true, false, false, false, false, false, false] rfl rfl (by kernel_rfl) (fun _ _ _ h => h) (Or.inl ⟨(by rfl), ?_⟩) ?_ ?_
                                              rotate_left
                                              · exact z10
                                              rotate_left
                                              · exact z1
                                              refine pure_ (i := 1) (N := some 77) (v := ?_) (a' := ?_) #[true, true, false, false, false, false, false] rfl rfl (by kernel_rfl) (fun _ _ _ h => h) (Or.inl ⟨(by rfl), ?_⟩) ?_ ?_
                                              rotate_left
                                              · exact z10
                                              rotate_left
                                              · exact z1
                                              refine pure_ (i := 2) (N := some 78) (v := ?_) (a' := ?_) #[true, true, true, false, false, false, false] rfl rfl (by kernel_rfl) (fun _ _ _ h => h) (Or.inl ⟨(by rfl), ?_⟩) ?_ ?_
                                              rotate_left
                                              · exact z10
                                              rotate_left
                                              · exact z1
                                              refine pure_ (i := 3) (N := some 79) (v := ?_) (a' := ?_) #[true, true, true, true, false, false, false] rfl rfl (by kernel_rfl) (fun _ _ _ h => h) (Or.inl ⟨(by rfl), ?_⟩) ?_ ?_
                                              rotate_left
                                              · exact z10
                                              rotate_left
                                              · exact z1
                                              refine pure_ (i := 4) (N := some 80) (v := ?_) (a' := ?_) #[true, true, true, true, true, false, false] rfl rfl (by kernel_rfl) (fun _ _ _ h => h) (Or.inl ⟨(by rfl), ?_⟩) ?_ ?_
                                              rotate_left
                                              · exact z10
                                              rotate_left
                                              · exact z1
                                              refine pure_ (i := 5) (N := some 81) (v := ?_) (a' := ?_) #[true, true, true, true, true, true, false] rfl rfl (by kernel_rfl) (fun _ _ _ h => h) (Or.inl ⟨(by rfl), ?_⟩) ?_ ?_
                                              rotate_left
                                              · exact z10
                                              rotate_left
                                              · exact z1
                                              refine pure_ (i := 6) (N := some 82) (v := ?_) (a' := ?_) #[true, true, true, true, true, true, true] rfl rfl (by kernel_rfl) (fun _ _ _ h => h) (Or.inl ⟨(by rfl), ?_⟩) ?_ ?_
                                              rotate_left
                                              · exact z10
                                              rotate_left
                                              · exact z1
                                              refine done_ (by kernel_rfl) ?_
                                              try go_wp2_with (first | ((with_reducible refine gate_builtin (b := .append) (xs := #[.tmp 83, .tmp 91]) rfl ?_); at_builtin; refine Kd.R_append (Kd.int .i64) (w0 := w) w.heap.size rfl (.tmp 83) (.tmp 91) 22 2 (.int .i64 0) 8 rfl Try.underlying22 info2 rfl (by decide) (by omega) u15 x15_2 (wrap64 ((wrap64 ((rd l1 x66_1) * (wrap64 (Int.tdiv t103 (rd l2_0 0))))) + (Int.tmod (rd l3 x72_2) (wrap64 (Int.tdiv t103 (rd l2_0 0)))))) [.int .i64 (wrap64 ((wrap64 ((rd l1 x66_1) * (wrap64 (Int.tdiv t103 (rd l2_0 0))))) + (Int.tmod (rd l3 x72_2) (wrap64 (Int.tdiv t103 (rd l2_0 0))))))] (fun k_ => (w.heap.size ≤ k_) ∧ some k_ ≠ (.slice Ao39 t102.length co39 : Value).ownBlock) (fun _ => False) rfl rfl ?aP (fun _ hk => hk.elim) ?aF ?aO ?aB ?aS ?aL ?_; (case aP => exact rfl); (case aB => exact z3); (case aF => exact (fun k_ hk => ⟨(Nat.le_trans (below_size z3) hk), Kd.fresh' (Kd.R_lt z51) k_ hk⟩)); (case aO => exact z69); (case aS => exact (below_size z3)); (case aL => have := LMc56.out; omega); intro v122 w58 ho hb hg hat; rw [← Ny121.out] at ho; have n0_ := Aside0.mk trivial; have n1_ := Aside0.mk trivial; have n2_ := Aside0.mk (Kd.R_after (ok := (fun k_ => (w.heap.size ≤ k_))) z51 hg hat); have n3_ := Aside0.mk (blk_grown (g := gb108) (o := .cells #[.slice (some ad195) l0_0.length c0_0] 30 (0, 0)) z4 hg (Kd.R_ne HO_15.out BK108.out (by decide))); have n4_ := Aside0.mk (blk_grown (g := gb109) (o := .cells #[.slice (some ad194) l2_0.length c2_0] 30 (0, 0)) z6 hg (Kd.R_ne HO_15.out BK109.out (by decide))); have n5_ := Aside0.mk (blk_grown (g := gb110) (o := .cells #[.slice none 0 0] 30 (0, 0)) z7 hg (Kd.R_ne HO_15.out BK110.out (by decide))); have n6_ := Aside0.mk (blk_grown (g := gb118) (o := .cells #[.slice Ao39 t102.length co39] 30 (0, 0)) z20 hg (Kd.R_ne HO_15.out BK118.out (by decide))); have n7_ := Aside0.mk (hb); have n8_ := Aside0.mk (ho); clear HO_191000 HO_192000 HO_212000 BK108 BK109 BK110 BK118 HB HO_15; have HO_191000 := n0_; have HO_192000 := n1_; have HO_212000 := n2_; have BK108 := n3_; have BK109 := n4_; have BK110 := n5_; have BK118 := n6_; have HB := n7_; have HO123 := n8_; clear n0_ n1_ n2_ n3_ n4_ n5_ n6_ n7_ n8_; clear ho hb hg hat))
                                              go_roundg k2
                                              case measure => have := HK1.out; have := HK2.out; omega
                                              case rel => exact ⟨(y121), (wrap64 (x72_2 + 1)), z18, H', ⟨z85⟩, ⟨(by (with_reducible repeat (first | apply Kd.R_alloc | apply Kd.R_drewN | apply Kd.R_drew)); exact HO123.out)⟩, ⟨trivial⟩, ⟨trivial⟩, ⟨z51⟩, ⟨z4⟩, ⟨z6⟩, ⟨z7⟩, ⟨z20⟩, ⟨z3⟩⟩
                                            · rw [if_neg c56] at H
                                              exact absurd H (by simp)
                                          · rw [if_neg c55] at H
                                            have c55b0 : ((Int.tmod (rd l1 x66_1) (rd l2_0 0)) == (wrap64 (Int.tdiv (rd l3 x72_2) (wrap64 (Int.tdiv t103 (rd l2_0 0)))))) = false := beq_eq_false_iff_ne.mpr c55
                                            have c55b1 : ((Int.tmod (rd l1 x66_1) (rd l2_0 0)) != (wrap64 (Int.tdiv (rd l3 x72_2) (wrap64 (Int.tdiv t103 (rd l2_0 0)))))) = true := bne_iff_ne.mpr c55
                                            have H' := Aside0.mk H
                                            clear H
                                            have p217 : 0 ≤ (x72_2 : Int) := of_decide_eq_true z12
                                            have q217 : x72_2 < (l3.length : Int) := of_decide_eq_true z12
                                            obtain ⟨ad217, e217, hx217_0⟩ := Kd.at_int HR3.out x72_2 p217 q217
                                            cases e217
                                            try replace hx217_0 := (HB.out.cell (World.block_lt_of_cell? w _ hx217_0)).trans hx217_0
                                            replace p217 := eq_true p217
                                            replace q217 := eq_true q217
                                            try go_wp2
                                            have n0_ := Aside0.mk (Kd.R_drew HO_15.out)
                                            have n1_ := Aside0.mk trivial
                                            have n2_ := Aside0.mk trivial
                                            have n3_ := Aside0.mk (Kd.R_drew HO_212000.out)
                                            have n4_ := Aside0.mk (blk_drew BK108.out)
                                            have n5_ := Aside0.mk (blk_drew BK109.out)
                                            have n6_ := Aside0.mk (blk_drew BK110.out)
                                            have n7_ := Aside0.mk (blk_drew BK118.out)
                                            have n8_ := Aside0.mk (below_drew1 HB.out)
                                            clear HO_15 HO_191000 HO_192000 HO_212000 BK108 BK109 BK110 BK118 HB
                                            have HO_15 := n0_
                                            have HO_191000 := n1_
                                            have HO_192000 := n2_
                                            have HO_212000 := n3_
                                            have BK108 := n4_
                                            have BK109 := n5_
                                            have BK110 := n6_
                                            have BK118 := n7_
                                            have HB := n8_
                                            clear n0_ n1_ n2_ n3_ n4_ n5_ n6_ n7_ n8_
                                            refine start_ (n := 7) (S := fun w' => True) (ds := []) #[false, false, false, false, false, false, false] (by kernel_rfl) rfl rfl trivial (fun hHeld => ?_)
                                            generalize wr.drew = w59 at HO_15 HO_191000 HO_192000 HO_212000 BK108 BK109 BK110 BK118 HB hHeld ⊢
                                            refine pure_ (i := 0) (N := some 76) (v := ?_) (a' := ?_) #[true, false, false, false, false, false, false] rfl rfl (by kernel_rfl) (fun _ _ _ h => h) (Or.inl ⟨(by rfl), ?_⟩) ?_ ?_
                                            rotate_left
                                            · exact z10
                                            rotate_left
                                            · exact z1
                                            refine pure_ (i := 1) (N := some 77) (v := ?_) (a' := ?_) #[true, true, false, false, false, false, false] rfl rfl (by kernel_rfl) (fun _ _ _ h => h) (Or.inl ⟨(by rfl), ?_⟩) ?_ ?_
                                            rotate_left
                                            · exact z10
                                            rotate_left
                                            · exact z1
                                            refine pure_ (i := 2) (N := some 78) (v := ?_) (a' := ?_) #[true, true, true, false, false, false, false] rfl rfl (by kernel_rfl) (fun _ _ _ h => h) (Or.inl ⟨(by rfl), ?_⟩) ?_ ?_
                                            rotate_left
                                            · exact z10
                                            rotate_left
                                            · exact z1
                                            refine pure_ (i := 3) (N := some 79) (v := ?_) (a' := ?_) #[true, true, true, true, false, false, false] rfl rfl (by kernel_rfl) (fun _ _ _ h => h) (Or.inl ⟨(by rfl), ?_⟩) ?_ ?_
                                            rotate_left
                                            · exact z10
                                            rotate_left
                                            · exact z1
                                            refine pure_ (i := 4) (N := some 80) (v := ?_) (a' := ?_) #[true, true, true, true, true, false, false] rfl rfl (by kernel_rfl) (fun _ _ _ h => h) (Or.inl ⟨(by rfl), ?_⟩) ?_ ?_
                                            rotate_left
                                            · exact z10
                                            rotate_left
                                            · exact z1
                                            refine pure_ (i := 5) (N := some 81) (v := ?_) (a' := ?_) #[true, true, true, true, true, true, false] rfl rfl (by kernel_rfl) (fun _ _ _ h => h) (Or.inl ⟨(by rfl), ?_⟩) ?_ ?_
                                            rotate_left
                                            · exact z10
                                            rotate_left
                                            · exact z1
                                            refine pure_ (i := 6) (N := some 82) (v := ?_) (a' := ?_) #[true, true, true, true, true, true, true] rfl rfl (by kernel_rfl) (fun _ _ _ h => h) (Or.inl ⟨(by rfl), ?_⟩) ?_ ?_
                                            rotate_left
                                            · exact z10
                                            rotate_left
                                            · exact z1
                                            refine done_ (by kernel_rfl) ?_
                                            try go_wp2
                                            go_roundg k2
                                            case measure => have := HK1.out; have := HK2.out; omega
                                            case rel => exact ⟨(x15_2), (wrap64 (x72_2 + 1)), z18, H', ⟨z85⟩, ⟨z69⟩, ⟨trivial⟩, ⟨trivial⟩, ⟨z51⟩, ⟨z4⟩, ⟨z6⟩, ⟨z7⟩, ⟨z20⟩, ⟨z3⟩⟩
                                    · rw [if_neg c52] at H
                                      exact absurd H (by simp)
                                  · rw [if_neg c51] at H
                                    exact absurd H (by simp)
                                · rw [if_neg c50] at H
                                  have c50b0 : decide (x72_2 < (l3.length : Int)) = false := decide_eq_false c50
                                  clear c50
                                  have H' := Aside0.mk H
                                  clear H
                                  go_wp2
                                  go_roundg k2
                                  case measure => have := HK1.out; have := HK2.out; omega
                                  case rel => exact ⟨(x15_2), (wrap64 (x66_1 + 1)), z18, H', ⟨z85⟩, ⟨z69⟩, ⟨trivial⟩, ⟨trivial⟩, ⟨z51⟩, ⟨z4⟩, ⟨z6⟩, ⟨z7⟩, ⟨z20⟩, ⟨z3⟩⟩
                          · rw [if_neg c49] at H
                            exact absurd H (by simp)
                        · rw [if_neg c48] at H
                          exact absurd H (by simp)
                      · rw [if_neg c47] at H
                        have c47b0 : decide (x66_1 < (l1.length : Int)) = false := decide_eq_false c47
                        clear c47
                        simp only [Option.some.injEq, Prod.mk.injEq] at H
                        obtain ⟨rfl, rfl, rfl⟩ := H
                        have hnb60 := NB118_108.out
                        have hnc60 := NB108_118.out
                        have hnb61 := NB118_109.out
                        have hnc61 := NB109_118.out
                        have hnb62 := NB118_110.out
                        have hnc62 := NB110_118.out
                        obtain ⟨hcz63_0, hfz63_0⟩ := zC1 BK118.out
                        have hnb64 := NB110_108.out
                        have hnc64 := NB108_110.out
                        have hnb65 := NB110_109.out
                        have hnc65 := NB109_110.out
                        obtain ⟨hcz66_0, hfz66_0⟩ := zC1 BK110.out
                        go_wp2
                        refine bodyPost_ret (results_ctt rfl _ _ gb110 30 #[.slice Ao39 t102.length co39] (0, 0) _ rfl z25 Try.underlying30 rfl (by kernel_rfl)) rfl ?_
                        exact ⟨_, _, z60, (by (with_reducible repeat (first | apply Kd.R_alloc | apply Kd.R_drewN | apply Kd.R_drew)); exact Kd.R_mono (Kd.R_far (p := ⟨gb110, 0, none⟩) (Kd.R_types HO_212000.out BK110.out (by decide)) (fun _ hk => by first | exact hk.2 | simp only [hk, ne_eq, not_false_eq_true, and_self]) (.slice Ao39 t102.length co39)) (fun _ hk => by first | exact ⟨hk.1.1, hk.1.2⟩ | simp only [hk, ne_eq, not_false_eq_true, and_self])), (by (with_reducible repeat (first | apply Kd.R_alloc | apply Kd.R_drewN | apply Kd.R_drew)); exact Kd.R_mono (Kd.R_far (p := ⟨gb110, 0, none⟩) (Kd.R_types HO_15.out BK110.out (by decide)) (fun _ hk => by first | exact hk.2 | simp only [hk, ne_eq, not_false_eq_true, and_self]) (.slice Ao39 t102.length co39)) (fun _ hk => by first | exact ⟨hk.1.1, hk.1.2⟩ | simp only [hk, ne_eq, not_false_eq_true, and_self])), z3⟩
              · replace c15 := Bool.eq_false_iff.mpr c15
                subst c15
                have H1 : (some (([] : List Int), ([] : List Int), 3)) = some (r1, r2, r3) := by rw [if_neg (show ¬ (false = true) by decide)] at H; exact H
                clear H
                have H := H1
                clear H1
                simp only [Option.some.injEq, Prod.mk.injEq] at H
                obtain ⟨rfl, rfl, rfl⟩ := H
                go_enter Try.func18, Try.ntmps18
                try go_wp2_with (first | ((with_reducible refine gate_dst (N := 4) rfl ?_); refine box_event ?hg (N := 4) ?hd (cs := #[.slice A0_0 l0_0.length c0_0]) (t := 30) ?hr ?_; (case hd => rfl); (case hg => rfl); (case hr => first | (go_simp; done) | (go_simp; rfl)); intro gb108 hg w67 hbox hb; have n0_ := Aside0.mk (Kd.V_below (Kd.V_elderB z14 gb108 (Nat.le_of_eq hg.symm)) hb); have n1_ := Aside0.mk (Kd.V_below (Kd.V_elderB z15 gb108 (Nat.le_of_eq hg.symm)) hb); have n2_ := Aside0.mk (below_step z5 hb); have n3_ := Aside0.mk (hbox); have n4_ := Aside0.mk ((z86 : w.heap.size ≤ gb108)); have n5_ := Aside0.mk ((z86 : w.heap.size ≤ gb108)); clear HO0_0 HO2_0 HB; have HO0_0 := n0_; have HO2_0 := n1_; have HB := n2_; have BK108 := n3_; have GW108 := n4_; have GE108 := n5_; clear n0_ n1_ n2_ n3_ n4_ n5_; clear hb hbox hg) | ((with_reducible refine gate_dst (N := 6) rfl ?_); refine box_event ?hg (N := 6) ?hd (cs := #[.slice A2_0 l2_0.length c2_0]) (t := 30) ?hr ?_; (case hd => rfl); (case hg => rfl); (case hr => first | (go_simp; done) | (go_simp; rfl)); intro gb109 hg w68 hbox hb; have n0_ := Aside0.mk (Kd.V_below (Kd.V_elderB z14 gb109 (Nat.le_of_eq hg.symm)) hb); have n1_ := Aside0.mk (Kd.V_below (Kd.V_elderB z15 gb109 (Nat.le_of_eq hg.symm)) hb); have n2_ := zBB BK108 hb; have n3_ := Aside0.mk (below_step z22 hb); have n4_ := Aside0.mk (hbox); have n5_ := Aside0.mk ((z102 : w.heap.size ≤ gb109)); have n6_ := Aside0.mk ((z102 : w.heap.size ≤ gb109)); have n7_ := Aside0.mk ((z89 : gb108 ≠ gb109)); have n8_ := Aside0.mk ((z90 : gb109 ≠ gb108)); clear HO0_0 HO2_0 BK108 HB; have HO0_0 := n0_; have HO2_0 := n1_; have BK108 := n2_; have HB := n3_; have BK109 := n4_; have GW109 := n5_; have GE109 := n6_; have NB108_109 := n7_; have NB109_108 := n8_; clear n0_ n1_ n2_ n3_ n4_ n5_ n6_ n7_ n8_; clear hb hbox hg) | ((with_reducible refine gate_dst (N := 8) rfl ?_); refine box_event ?hg (N := 8) ?hd (cs := #[.slice none 0 0]) (t := 30) ?hr ?_; (case hd => rfl); (case hg => rfl); (case hr => first | (go_simp; done) | (go_simp; rfl)); intro gb110 hg w69 hbox hb; have n0_ := Aside0.mk (Kd.V_below (Kd.V_elderB z14 gb110 (Nat.le_of_eq hg.symm)) hb); have n1_ := Aside0.mk (Kd.V_below (Kd.V_elderB z15 gb110 (Nat.le_of_eq hg.symm)) hb); have n2_ := zBB BK108 hb; have n3_ := zBB BK109 hb; have n4_ := Aside0.mk (below_step z19 hb); have n5_ := Aside0.mk (hbox); have n6_ := Aside0.mk ((z103 : w.heap.size ≤ gb110)); have n7_ := Aside0.mk ((z103 : w.heap.size ≤ gb110)); have n8_ := Aside0.mk ((z89 : gb108 ≠ gb110)); have n9_ := Aside0.mk ((z90 : gb110 ≠ gb108)); have n10_ := Aside0.mk ((z100 : gb109 ≠ gb110)); have n11_ := Aside0.mk ((z101 : gb110 ≠ gb109)); clear HO0_0 HO2_0 BK108 BK109 HB; have HO0_0 := n0_; have HO2_0 := n1_; have BK108 := n2_; have BK109 := n3_; have HB := n4_; have BK110 := n5_; have GW110 := n6_; have GE110 := n7_; have NB108_110 := n8_; have NB110_108 := n9_; have NB109_110 := n10_; have NB110_109 := n11_; clear n0_ n1_ n2_ n3_ n4_ n5_ n6_ n7_ n8_ n9_ n10_ n11_; clear hb hbox hg; have hnb70 := NB108_109.out; have hnc70 := NB109_108.out; have hnb71 := NB108_110.out; have hnc71 := NB110_108.out; obtain ⟨hcz72_0, hfz72_0⟩ := zC1 BK108.out; have hnb73 := NB109_110.out; have hnc73 := NB110_109.out; obtain ⟨hcz74_0, hfz74_0⟩ := zC1 BK109.out) | ((with_reducible refine gate_callee (f := 43) rfl ?_); refine goesL_ (some 25) rfl rfl Try.func43 (by kernel_rfl) rfl #[.agg #[.slice A0_0 l0_0.length c0_0], .slice A1 l1.length c1, .agg #[.slice A2_0 l2_0.length c2_0], .slice A3 l3.length c3] rfl z9 ?_; (with_reducible refine (impl_twoCode.calls k _ _ l0_0 _ _ l1 _ _ l2_0 _ _ l3 t100 _ ?side1 ?side2 ?side3 ?side4 ?side5 ?side6 ?side7 ?side8 A5.out).mono ?_); (case side1 => exact z49); (case side2 => exact (Kd.V_reads' HO0_0.out).2.1); (case side3 => exact z27); (case side4 => exact HC1.out); (case side5 => exact z46); (case side6 => exact (Kd.V_reads' HO2_0.out).2.1); (case side7 => exact z39); (case side8 => exact HC3.out); rintro e w75 ⟨rfl, hb⟩; refine ⟨_, rfl, ?_⟩; have n0_ := Aside0.mk (Kd.V_below z14 hb); have n1_ := Aside0.mk (Kd.V_below z15 hb); have n2_ := zBB BK108 hb; have n3_ := zBB BK109 hb; have n4_ := zBB BK110 hb; have n5_ := Aside0.mk (below_step z2 hb); clear HO0_0 HO2_0 BK108 BK109 BK110 HB; have HO0_0 := n0_; have HO2_0 := n1_; have BK108 := n2_; have BK109 := n3_; have BK110 := n4_; have HB := n5_; clear n0_ n1_ n2_ n3_ n4_ n5_; (try clear hb); (try clear hb2); (try clear hk); (try clear hi); obtain ⟨hcz76_0, hfz76_0⟩ := zC1 BK109.out; have p194 : 0 ≤ (0 : Int) := (by omega); have q194 : 0 < (l2_0.length : Int) := of_decide_eq_true z12; obtain ⟨ad194, e194, hx194_0⟩ := Kd.at_int (Kd.V_reads' HO2_0.out).2.2 0 p194 q194; cases e194; have qi194 : (0 < l2_0.length) = True := eq_true (by omega); (try rw [show ((0 : Int)).toNat = 0 from rfl] at hx194_0); (try rw [Addr.add_zero'] at hx194_0); replace p194 := eq_true p194; replace q194 := eq_true q194; obtain ⟨hcz77_0, hfz77_0⟩ := zC1 BK108.out; have p195 : 0 ≤ ((ji8) : Int) := of_decide_eq_true z12; have q195 : (ji8) < (l0_0.length : Int) := of_decide_eq_true z12; obtain ⟨ad195, e195, hx195_0⟩ := Kd.at_int (Kd.V_reads' HO0_0.out).2.2 (ji8) p195 q195; cases e195; replace p195 := eq_true p195; replace q195 := eq_true q195))
                have n0_ := Aside0.mk (Kd.V_drew HO0_0.out)
                have n1_ := Aside0.mk (Kd.V_drew HO2_0.out)
                have n2_ := Aside0.mk (blk_drew BK108.out)
                have n3_ := Aside0.mk (blk_drew BK109.out)
                have n4_ := Aside0.mk (blk_drew BK110.out)
                have n5_ := Aside0.mk (below_drew1 HB.out)
                clear HO0_0 HO2_0 BK108 BK109 BK110 HB
                have HO0_0 := n0_
                have HO2_0 := n1_
                have BK108 := n2_
                have BK109 := n3_
                have BK110 := n4_
                have HB := n5_
                clear n0_ n1_ n2_ n3_ n4_ n5_
                have q79 : (1 : Int) ≤ ((l2_0.length : Int) : Int) := of_decide_eq_true z12
                obtain ⟨i079, hi079, _, hsz79, _⟩ := info_parts info2
                have hroom79 : l2_0.length ≤ c2_0 := (Kd.V_reads' HO2_0.out).2.1
                have hC79 : Kd.F (Kd.int .i64) _ _ (some ad194) l2_0.length l2_0 := (Kd.V_at (base := w.heap.size) HO2_0.out).2.2
                have hcut79 := cut_from (P := Try.prog) 22 2 .i64 Try.underlying22 hi079 1 hsz79 (some ad194) l2_0.length c2_0 1 (by omega) q79
                have hr79 := Kd.F_cut (m := (1 : Int).toNat) (c := c2_0) hC79 (by omega) hroom79
                obtain ⟨A79, hA79⟩ : ∃ A1, A1 = (if c2_0 = (1 : Int).toNat then (some ad194) else ((some ad194) : Option Addr).map (·.add ((1 : Int).toNat * 1))) := ⟨_, rfl⟩
                obtain ⟨c79, hc79⟩ : ∃ c1, c1 = c2_0 - (1 : Int).toNat := ⟨_, rfl⟩
                have hy79 : y104.length = l2_0.length - (1 : Int).toNat := (by rw [Ny104.out, List.length_drop] <;> omega)
                rw [show (l2_0).drop (1 : Int).toNat = y104 from Ny104.out.symm] at hr79
                replace hr79 : Kd.F (Kd.int .i64) _ _ A79 y104.length y104 := (by rw [hA79]; exact hr79)
                rw [← hy79, ← hA79, ← hc79] at hcut79
                have HO111 := Aside0.mk (show Kd.V (Kd.int .i64) 2 _ w.heap.size _ (.slice A79 y104.length c79) y104 from Kd.V_mk (by rw [hy79, hc79]; exact Nat.sub_le_sub_right hroom79 _) hr79)
                have HC200 := Aside0.mk (show y104.length ≤ c79 from by rw [hy79, hc79]; exact Nat.sub_le_sub_right hroom79 _)
                clear hr79 hC79 hroom79 hi079 hsz79 hc79
                have KY79 := Aside0.mk hy79
                have KA79 := Aside0.mk hA79
                clear hy79 hA79
                replace q79 := eq_true q79
                refine start_ (n := 14) (S := fun w' => w'.cell? ⟨gb108, 0, none⟩ = some (.slice (some ad195) l0_0.length c0_0) ∧ w'.cell? ⟨gb109, 0, none⟩ = some (.slice (some ad194) l2_0.length c2_0)) (ds := []) #[false, false, false, false, false, false, false, false, false, false, false, false, false, false] (by kernel_rfl) rfl rfl ⟨(blk_cell BK108.out 0).trans rfl, (blk_cell BK109.out 0).trans rfl⟩ (fun hHeld => ?_); refine with_tabW impl_JoinOverPlace.tab7 impl_JoinOverPlace.bits7 (fun HT_ HW_ => ?_)
                generalize w75.drew = w78 at HO0_0 HO2_0 BK108 BK109 BK110 HB HO111 hHeld ⊢
                refine pure_ (i := 0) (N := some 46) (v := ?_) (a' := ?_) #[true, false, false, false, false, false, false, false, false, false, false, false, false, false] rfl rfl (any_of HT_.out (by kernel_rfl)) (fun _ _ _ h => h) (Or.inl ⟨(by rfl), ?_⟩) ?_ ?_
                rotate_left
                · exact z10
                rotate_left
                · exact z1
                refine pure_ (i := 2) (N := some 48) (v := ?_) (a' := ?_) #[true, false, true, false, false, false, false, false, false, false, false, false, false, false] rfl rfl (any_of HT_.out (by kernel_rfl)) (fun _ _ _ h => h) (Or.inl ⟨(by rfl), ?_⟩) ?_ ?_
                rotate_left
                · exact z10
                rotate_left
                · exact z1
                refine take_ (i := 1) (N := some 47) (v := ?_) (a' := ?_) #[true, true, true, false, false, false, false, false, false, false, false, false, false, false] rfl rfl (take_ofW HT_.out HW_.out (by kernel_rfl)) (fun _ _ _ h => h) (Or.inl ⟨(by rfl), ?_⟩) hHeld ?_ ?_
                rotate_left
                · rintro w' ⟨s0, s1⟩
                  go_simp
                  with_reducible rfl
                rotate_left
                · exact z1
                refine take_ (i := 3) (N := some 49) (v := ?_) (a' := ?_) #[true, true, true, true, false, false, false, false, false, false, false, false, false, false] rfl rfl (take_ofW HT_.out HW_.out (by kernel_rfl)) (fun _ _ _ h => h) (Or.inl ⟨(by rfl), ?_⟩) hHeld ?_ ?_
                rotate_left
                · rintro w' ⟨s0, s1⟩
                  go_simp
                  with_reducible rfl
                rotate_left
                · exact z1
                refine pure_ (i := 4) (N := some 50) (v := ?_) (a' := ?_) #[true, true, true, true, true, false, false, false, false, false, false, false, false, false] rfl rfl (any_of HT_.out (by kernel_rfl)) (fun _ _ _ h => h) (Or.inl ⟨(by rfl), ?_⟩) ?_ ?_
                rotate_left
                · exact z10
                rotate_left
                · exact z1
                refine join_ (σ := Value × Value × Value × Nat) 2 #[true, true, true, true, true, true, true, true, true, true, true, true, false, false] (fun s_ => [(51, s_.1), (52, s_.2.1), (53, .tuple #[.agg #[s_.2.2.1], .bool false]), (13, .pointer (some ⟨s_.2.2.2, 0, none⟩)), (45, .tuple #[.agg #[s_.2.2.1], .bool false]), (54, .agg #[s_.2.2.1]), (55, .bool false)]) (fun s_ w' => (w'.cell? ⟨gb108, 0, none⟩ = some (.slice (some ad195) l0_0.length c0_0) ∧ w'.cell? ⟨gb109, 0, none⟩ = some (.slice (some ad194) l2_0.length c2_0)) ∧ (Kd.V (Kd.int .i64) 2 w' w.heap.size (fun k_ => ((P0_0_ k_ ∨ P2_0_ k_) ∨ w.heap.size ≤ k_) ∧ some k_ ≠ (s_.1 : Value).ownBlock ∧ some k_ ≠ (s_.2.2.1 : Value).ownBlock ∧ k_ ≠ gb108 ∧ k_ ≠ gb109 ∧ k_ ≠ gb110 ∧ k_ ≠ s_.2.2.2) (.slice (some ad195) l0_0.length c0_0) l0_0) ∧ (Kd.V (Kd.int .i64) 2 w' w.heap.size (fun k_ => ((P0_0_ k_ ∨ P2_0_ k_) ∨ w.heap.size ≤ k_) ∧ some k_ ≠ (s_.1 : Value).ownBlock ∧ some k_ ≠ (s_.2.2.1 : Value).ownBlock ∧ k_ ≠ gb108 ∧ k_ ≠ gb109 ∧ k_ ≠ gb110 ∧ k_ ≠ s_.2.2.2) (.slice A79 y104.length c79) y104) ∧ (Kd.N (Kd.slice 2 (Kd.int .i64)) 22 w' w.heap.size (fun k_ => ((P0_0_ k_ ∨ P2_0_ k_) ∨ w.heap.size ≤ k_) ∧ some k_ ≠ (s_.2.2.1 : Value).ownBlock ∧ k_ ≠ gb108 ∧ k_ ≠ gb109 ∧ k_ ≠ gb110 ∧ k_ ≠ s_.2.2.2) s_.1 y105) ∧ (Kd.R (Kd.int .i64) 2 w' w.heap.size (fun k_ => (w.heap.size ≤ k_)) s_.2.2.1 t102) ∧ (Kd.V (Kd.int .i64) 2 w' w.heap.size (fun k_ => ((P0_0_ k_ ∨ P2_0_ k_) ∨ w.heap.size ≤ k_) ∧ some k_ ≠ (s_.1 : Value).ownBlock ∧ some k_ ≠ (s_.2.2.1 : Value).ownBlock ∧ k_ ≠ gb108 ∧ k_ ≠ gb109 ∧ k_ ≠ gb110 ∧ k_ ≠ s_.2.2.2) (.slice (some ad194) l2_0.length c2_0) l2_0) ∧ (w'.heap[gb108]? = some (.cells #[.slice (some ad195) l0_0.length c0_0] 30 (0, 0))) ∧ (w'.heap[gb109]? = some (.cells #[.slice (some ad194) l2_0.length c2_0] 30 (0, 0))) ∧ (w'.heap[gb110]? = some (.cells #[.slice none 0 0] 30 (0, 0))) ∧ (w'.heap[s_.2.2.2]? = some (.cells #[.slice none 0 0] 30 (0, 0))) ∧ (w.heap.size ≤ s_.2.2.2) ∧ (w.heap.size ≤ s_.2.2.2) ∧ (gb108 ≠ s_.2.2.2) ∧ (s_.2.2.2 ≠ gb108) ∧ (gb109 ≠ s_.2.2.2) ∧ (s_.2.2.2 ≠ gb109) ∧ (gb110 ≠ s_.2.2.2) ∧ (s_.2.2.2 ≠ gb110) ∧ (Below w.heap.size w w')) ?_ ?_
                rotate_left
                · intro hCont
                  refine two_ (i := 5) (j := 11) (Ni := some 51) (Nj := some 13) #[true, true, true, true, true, true, false, false, false, false, false, false, false, false] #[true, true, true, true, true, false, false, false, false, false, false, true, false, false] rfl rfl rfl rfl (two_of HT_.out (by kernel_rfl)) (by decide) (by decide) (fun K hK => ?_) (fun K hK => ?_)
                  · skip
                    refine Kd.N_lit_step (Kd.slice 2 (Kd.int .i64)) _ 22 ?hg (N' := 51) ?hd (xs := ([l0_0, y104] : List (List Int))) (inner := [.slice (some ad195) l0_0.length c0_0, .slice A79 y104.length c79]) (ok := (fun k_ => ((P0_0_ k_ ∨ P2_0_ k_) ∨ w.heap.size ≤ k_) ∧ k_ ≠ gb108 ∧ k_ ≠ gb109 ∧ k_ ≠ gb110)) (okp := (fun k_ => ((P0_0_ k_ ∨ P2_0_ k_) ∨ w.heap.size ≤ k_) ∧ k_ ≠ gb108 ∧ k_ ≠ gb109 ∧ k_ ≠ gb110)) ?hr ?hp (fun _ hk => hk) ((show ∀ k_, w78.heap.size ≤ k_ → (fun k_ => ((P0_0_ k_ ∨ P2_0_ k_) ∨ w.heap.size ≤ k_) ∧ k_ ≠ gb108 ∧ k_ ≠ gb109 ∧ k_ ≠ gb110) k_ from fun k_ hk => ⟨(.inr (Nat.le_trans (below_size z2) hk)), Kd.freshB (g := gb108) (o := .cells #[.slice (some ad195) l0_0.length c0_0] 30 (0, 0)) z4 k_ hk, Kd.freshB (g := gb109) (o := .cells #[.slice (some ad194) l2_0.length c2_0] 30 (0, 0)) z6 k_ hk, Kd.freshB (g := gb110) (o := .cells #[.slice none 0 0] 30 (0, 0)) z7 k_ hk⟩) _ (Nat.le_refl _)) (Below.refl _ _) (Nat.le_refl _) (by simp) ?_; (case hd => rfl); (case hg => rfl); (case hr => first | (go_simp; done) | (go_simp; rfl)); (case hp => exact (Reps.one (show Kd.FK (Kd.slice 2 (Kd.int .i64)) _ _ l0_0 [.slice (some ad195) l0_0.length c0_0] from (Kd.FK_slice_mk (Kd.V_reads' (Kd.V_mono (ok' := (fun k_ => ((P0_0_ k_ ∨ P2_0_ k_) ∨ w.heap.size ≤ k_) ∧ k_ ≠ gb108 ∧ k_ ≠ gb109 ∧ k_ ≠ gb110)) (HO0_0.out) (fun k_ hk => ⟨hk.1.1.1, ⟨hk.1.1.2, ⟨hk.1.2, hk.2⟩⟩⟩))).2.1 (Kd.V_F (Kd.V_mono (ok' := (fun k_ => ((P0_0_ k_ ∨ P2_0_ k_) ∨ w.heap.size ≤ k_) ∧ k_ ≠ gb108 ∧ k_ ≠ gb109 ∧ k_ ≠ gb110)) (HO0_0.out) (fun k_ hk => ⟨hk.1.1.1, ⟨hk.1.1.2, ⟨hk.1.2, hk.2⟩⟩⟩))))) (Reps.one (show Kd.FK (Kd.slice 2 (Kd.int .i64)) _ _ y104 [.slice A79 y104.length c79] from (Kd.FK_slice_mk (Kd.V_reads' (Kd.V_mono (ok' := (fun k_ => ((P0_0_ k_ ∨ P2_0_ k_) ∨ w.heap.size ≤ k_) ∧ k_ ≠ gb108 ∧ k_ ≠ gb109 ∧ k_ ≠ gb110)) (HO111.out) (fun k_ hk => ⟨hk.1.1.1, ⟨hk.1.1.2, ⟨hk.1.2, hk.2⟩⟩⟩))).2.1 (Kd.V_F (Kd.V_mono (ok' := (fun k_ => ((P0_0_ k_ ∨ P2_0_ k_) ∨ w.heap.size ≤ k_) ∧ k_ ≠ gb108 ∧ k_ ≠ gb109 ∧ k_ ≠ gb110)) (HO111.out) (fun k_ hk => ⟨hk.1.1.1, ⟨hk.1.1.2, ⟨hk.1.2, hk.2⟩⟩⟩))))) (Reps.none _ _))))
                    intro v112 w80 ho81 hb hg_ hnew_
                    clear hg_ hnew_
                    (first | rw [← Ny105.out] at ho81 | (simp only [Int.reduceToNat] at ho81; rw [← Ny105.out] at ho81))
                    have n0_ := Aside0.mk (Kd.V_elder' z14 (Kd.N_base ho81) hb)
                    have n1_ := Aside0.mk (Kd.V_elder' z15 (Kd.N_base ho81) hb)
                    have n2_ := Aside0.mk (Kd.V_elder' z24 (Kd.N_base ho81) hb)
                    have n3_ := Aside0.mk (Kd.N_lower ho81 (below_size z2))
                    have n4_ := zBB BK108 hb
                    have n5_ := zBB BK109 hb
                    have n6_ := zBB BK110 hb
                    have n7_ := Aside0.mk (below_step z2 hb)
                    clear HO0_0 HO2_0 HO111 BK108 BK109 BK110 HB
                    have HO0_0 := n0_
                    have HO2_0 := n1_
                    have HO111 := n2_
                    have HO113 := n3_
                    have BK108 := n4_
                    have BK109 := n5_
                    have BK110 := n6_
                    have HB := n7_
                    clear n0_ n1_ n2_ n3_ n4_ n5_ n6_ n7_
                    clear hb ho81
                    obtain ⟨Ao82, co82, eo82⟩ := Kd.N_slice HO113.out
                    (first | subst eo82 | (injection eo82 with f1_ f2_ f3_; have f4_ := f1_.symm; have f5_ := f3_.symm; clear f1_ f2_ f3_; subst f4_; subst f5_))
                    refine hK.out _ _ ⟨(blk_cell BK108.out 0).trans rfl, (blk_cell BK109.out 0).trans rfl⟩ (fun hHeld => ?_)
                    clear hK K
                    refine norm_ (a' := ?_) ?_ ?_
                    rotate_left
                    · show Act.put _ (some 51) _ = _
                      simp only [Act.put, List.setIfInBounds_toArray, List.set_cons_zero, List.set_cons_succ, i64_w, i32_w]
                      rfl
                    refine two_ (i := 6) (j := 11) (Ni := some 52) (Nj := some 13) #[true, true, true, true, true, true, true, false, false, false, false, false, false, false] #[true, true, true, true, true, true, false, false, false, false, false, true, false, false] rfl rfl rfl rfl (two_of HT_.out (by kernel_rfl)) (by decide) (by decide) (fun K hK => ?_) (fun K hK => ?_)
                    · skip
                      refine goes_ Try.func45 (by kernel_rfl) rfl #[.slice Ao82 y105.length co82] (by rfl) rfl rfl z9 ?_
                      with_reducible refine (slices_Concat_int64_int64.calls k _ _ y105 t101 _ ?side1 ?side2 A13.out).mono ?_
                      (case side1 => exact z42)
                      (case side2 => exact (Kd.N_reads' HO113.out).2.1)
                      rintro e w83 ⟨v114, rfl, ho0, hb⟩
                      refine ⟨_, rfl, ?_⟩
                      have n0_ := Aside0.mk (Kd.V_elder' z14 (Kd.R_base ho0) hb)
                      have n1_ := Aside0.mk (Kd.V_elder' z15 (Kd.R_base ho0) hb)
                      have n2_ := Aside0.mk (Kd.V_elder' z24 (Kd.R_base ho0) hb)
                      have n3_ := Aside0.mk (Kd.N_elder' z33 (Kd.R_base ho0) hb)
                      have n4_ := Aside0.mk (Kd.R_lower (Kd.R_newM (M := fun k_ => (w.heap.size ≤ k_)) ho0 (below_size z2) (fun k_ h_ => h_)) (below_size z2))
                      have n5_ := zBB BK108 hb
                      have n6_ := zBB BK109 hb
                      have n7_ := zBB BK110 hb
                      have n8_ := Aside0.mk (below_step z2 hb)
                      clear HO0_0 HO2_0 HO111 HO113 BK108 BK109 BK110 HB
                      have HO0_0 := n0_
                      have HO2_0 := n1_
                      have HO111 := n2_
                      have HO113 := n3_
                      have HO115 := n4_
                      have BK108 := n5_
                      have BK109 := n6_
                      have BK110 := n7_
                      have HB := n8_
                      clear n0_ n1_ n2_ n3_ n4_ n5_ n6_ n7_ n8_
                      (try clear hb)
                      (try clear hb2)
                      (try clear hk)
                      (try clear hi)
                      (try clear ho0)
                      obtain ⟨Ao84, co84, eo84⟩ := Kd.R_slice HO115.out
                      (first | subst eo84 | (injection eo84 with f1_ f2_ f3_; have f4_ := f1_.symm; have f5_ := f3_.symm; clear f1_ f2_ f3_; subst f4_; subst f5_))
                      refine hK.out _ _ ⟨(blk_cell BK108.out 0).trans rfl, (blk_cell BK109.out 0).trans rfl⟩ (fun hHeld => ?_)
                      clear hK K
                      refine norm_ (a' := ?_) ?_ ?_
                      rotate_left
                      · show Act.put _ (some 52) _ = _
                        simp only [Act.put, List.setIfInBounds_toArray, List.set_cons_zero, List.set_cons_succ, i64_w, i32_w]
                        rfl
                      refine two_ (i := 7) (j := 11) (Ni := some 53) (Nj := some 13) #[true, true, true, true, true, true, true, true, false, false, false, false, false, false] #[true, true, true, true, true, true, true, false, false, false, false, true, false, false] rfl rfl rfl rfl (two_of HT_.out (by kernel_rfl)) (by decide) (by decide) (fun K hK => ?_) (fun K hK => ?_)
                      · skip
                        refine goes_ Try.func44 (by kernel_rfl) rfl #[.slice Ao84 t101.length co84] (by rfl) rfl rfl z9 ?_
                        with_reducible refine (impl_limitedSpace.calls k (fun k_ => some k_ = (.slice Ao84 t101.length co84 : Value).ownBlock) (.slice Ao84 t101.length co84) t101 t102 false w _ ?side1 ?side2 A14.out).mono ?_
                        (case side1 => exact z2)
                        (case side2 => exact Kd.R_tight rfl HO115.out)
                        rintro e w85 ⟨v116, rfl, ho0, hb, hkp⟩
                        refine ⟨_, rfl, ?_⟩
                        have n0_ := Aside0.mk (Kd.V_mono (ok' := fun k_ => ((P0_0_ k_ ∨ P2_0_ k_) ∨ w.heap.size ≤ k_) ∧ some k_ ≠ (.slice Ao82 y105.length co82 : Value).ownBlock ∧ k_ ≠ gb108 ∧ k_ ≠ gb109 ∧ k_ ≠ gb110 ∧ some k_ ≠ (v116 : Value).ownBlock) (Kd.V_keptB (HO0_0.out) hkp (fun k_ hk_ hs_ => (hk_.2) hs_)) (fun k_ hk_ => ⟨hk_.1.1.1.1.1.1, hk_.1.1.2, hk_.1.1.1.1.1.2, hk_.1.1.1.1.2, hk_.1.1.1.2, fun e_ => Or.elim (ho0.1 k_ e_.symm) (fun hs_ => hk_.2.1 hs_) (fun hn_ => Nat.not_le.2 hk_.2.2 hn_)⟩))
                        have n1_ := Aside0.mk (Kd.V_mono (ok' := fun k_ => ((P0_0_ k_ ∨ P2_0_ k_) ∨ w.heap.size ≤ k_) ∧ some k_ ≠ (.slice Ao82 y105.length co82 : Value).ownBlock ∧ k_ ≠ gb108 ∧ k_ ≠ gb109 ∧ k_ ≠ gb110 ∧ some k_ ≠ (v116 : Value).ownBlock) (Kd.V_keptB (HO2_0.out) hkp (fun k_ hk_ hs_ => (hk_.2) hs_)) (fun k_ hk_ => ⟨hk_.1.1.1.1.1.1, hk_.1.1.2, hk_.1.1.1.1.1.2, hk_.1.1.1.1.2, hk_.1.1.1.2, fun e_ => Or.elim (ho0.1 k_ e_.symm) (fun hs_ => hk_.2.1 hs_) (fun hn_ => Nat.not_le.2 hk_.2.2 hn_)⟩))
                        have n2_ := Aside0.mk (blk_kept z4 hkp (fun hs_ => (fun e_ => (Kd.R_ne HO115.out BK108.out (by decide)) e_) hs_))
                        have n3_ := Aside0.mk (blk_kept z6 hkp (fun hs_ => (fun e_ => (Kd.R_ne HO115.out BK109.out (by decide)) e_) hs_))
                        have n4_ := Aside0.mk (blk_kept z7 hkp (fun hs_ => (fun e_ => (Kd.R_ne HO115.out BK110.out (by decide)) e_) hs_))
                        have n5_ := Aside0.mk (Kd.V_mono (ok' := fun k_ => ((P0_0_ k_ ∨ P2_0_ k_) ∨ w.heap.size ≤ k_) ∧ some k_ ≠ (.slice Ao82 y105.length co82 : Value).ownBlock ∧ k_ ≠ gb108 ∧ k_ ≠ gb109 ∧ k_ ≠ gb110 ∧ some k_ ≠ (v116 : Value).ownBlock) (Kd.V_keptB (HO111.out) hkp (fun k_ hk_ hs_ => (hk_.2) hs_)) (fun k_ hk_ => ⟨hk_.1.1.1.1.1.1, hk_.1.1.2, hk_.1.1.1.1.1.2, hk_.1.1.1.1.2, hk_.1.1.1.2, fun e_ => Or.elim (ho0.1 k_ e_.symm) (fun hs_ => hk_.2.1 hs_) (fun hn_ => Nat.not_le.2 hk_.2.2 hn_)⟩))
                        have n6_ := Aside0.mk (Kd.N_mono (ok' := fun k_ => ((P0_0_ k_ ∨ P2_0_ k_) ∨ w.heap.size ≤ k_) ∧ k_ ≠ gb108 ∧ k_ ≠ gb109 ∧ k_ ≠ gb110 ∧ some k_ ≠ (v116 : Value).ownBlock) (Kd.N_keptB (HO113.out) hkp (fun k_ hk_ hs_ => (hk_.2) hs_)) (fun k_ hk_ => ⟨hk_.1.1.1, hk_.1.1.2.1, hk_.1.1.2.2.1, hk_.1.1.2.2.2, fun e_ => Or.elim (ho0.1 k_ e_.symm) (fun hs_ => hk_.2.1 hs_) (fun hn_ => Nat.not_le.2 hk_.2.2 hn_)⟩))
                        have n7_ := Aside0.mk (Kd.R_mono (ok' := fun k_ => (w.heap.size ≤ k_)) ho0 (fun k_ hk_ => Or.elim hk_ (fun hs_ => (HO115.out.1 k_ (hs_).symm).1) (fun hn_ => (Nat.le_trans (below_size z2) hn_))))
                        have n8_ := Aside0.mk (hb)
                        clear HO0_0 HO2_0 BK108 BK109 BK110 HO111 HO113 HB HO115
                        have HO0_0 := n0_
                        have HO2_0 := n1_
                        have BK108 := n2_
                        have BK109 := n3_
                        have BK110 := n4_
                        have HO111 := n5_
                        have HO113 := n6_
                        have HO117 := n7_
                        have HB := n8_
                        clear n0_ n1_ n2_ n3_ n4_ n5_ n6_ n7_ n8_
                        (try clear hb)
                        (try clear hkp)
                        (try clear ho0)
                        refine hK.out _ _ ⟨(blk_cell BK108.out 0).trans rfl, (blk_cell BK109.out 0).trans rfl⟩ (fun hHeld => ?_)
                        clear hK K
                        refine norm_ (a' := ?_) ?_ ?_
                        rotate_left
                        · show Act.put _ (some 53) _ = _
                          simp only [Act.put, List.setIfInBounds_toArray, List.set_cons_zero, List.set_cons_succ, i64_w, i32_w]
                          rfl
                        refine pure_ (i := 8) (N := some 45) (v := ?_) (a' := ?_) #[true, true, true, true, true, true, true, true, true, false, false, false, false, false] rfl rfl (any_of HT_.out (by kernel_rfl)) (fun _ _ _ h => h) (Or.inl ⟨(by rfl), ?_⟩) ?_ ?_
                        rotate_left
                        · exact z10
                        rotate_left
                        · exact z1
                        refine pure_ (i := 9) (N := some 54) (v := ?_) (a' := ?_) #[true, true, true, true, true, true, true, true, true, true, false, false, false, false] rfl rfl (any_of HT_.out (by kernel_rfl)) (fun _ _ _ h => h) (Or.inl ⟨(by rfl), ?_⟩) ?_ ?_
                        rotate_left
                        · exact z10
                        rotate_left
                        · exact z1
                        refine pure_ (i := 10) (N := some 55) (v := ?_) (a' := ?_) #[true, true, true, true, true, true, true, true, true, true, true, false, false, false] rfl rfl (any_of HT_.out (by kernel_rfl)) (fun _ _ _ h => h) (Or.inl ⟨(by rfl), ?_⟩) ?_ ?_
                        rotate_left
                        · exact z10
                        rotate_left
                        · exact z1
                        refine one_ (i := 11) (N := some 13) #[true, true, true, true, true, true, true, true, true, true, true, true, false, false] rfl rfl (one_of HT_.out (by kernel_rfl)) (by decide) (fun K hK => ?_)
                        refine box_step ?hg (N := 13) ?hd (cs := #[.slice none 0 0]) (t := 30) ?hr ?_; (case hd => rfl); (case hg => rfl); (case hr => first | (go_simp; done) | (go_simp; rfl))
                        intro gb118 hg w86 hbox hb
                        have n0_ := Aside0.mk (Kd.V_below (Kd.V_elderB z14 gb118 (Nat.le_of_eq hg.symm)) hb)
                        have n1_ := Aside0.mk (Kd.V_below (Kd.V_elderB z15 gb118 (Nat.le_of_eq hg.symm)) hb)
                        have n2_ := Aside0.mk (Kd.V_below (Kd.V_elderB z24 gb118 (Nat.le_of_eq hg.symm)) hb)
                        have n3_ := Aside0.mk (Kd.N_below (Kd.N_elderB z33 gb118 (Nat.le_of_eq hg.symm)) hb)
                        have n4_ := Aside0.mk (Kd.R_below z37 hb)
                        have n5_ := zBB BK108 hb
                        have n6_ := zBB BK109 hb
                        have n7_ := zBB BK110 hb
                        have n8_ := Aside0.mk (below_step z2 hb)
                        have n9_ := Aside0.mk (hbox)
                        have n10_ := Aside0.mk ((z91 : w.heap.size ≤ gb118))
                        have n11_ := Aside0.mk ((z91 : w.heap.size ≤ gb118))
                        have n12_ := Aside0.mk ((z92 : gb108 ≠ gb118))
                        have n13_ := Aside0.mk ((z93 : gb118 ≠ gb108))
                        have n14_ := Aside0.mk ((z94 : gb109 ≠ gb118))
                        have n15_ := Aside0.mk ((z95 : gb118 ≠ gb109))
                        have n16_ := Aside0.mk ((z87 : gb110 ≠ gb118))
                        have n17_ := Aside0.mk ((z88 : gb118 ≠ gb110))
                        clear HO0_0 HO2_0 HO111 HO113 HO117 BK108 BK109 BK110 HB
                        have HO0_0 := n0_
                        have HO2_0 := n1_
                        have HO111 := n2_
                        have HO113 := n3_
                        have HO117 := n4_
                        have BK108 := n5_
                        have BK109 := n6_
                        have BK110 := n7_
                        have HB := n8_
                        have BK118 := n9_
                        have GW118 := n10_
                        have GE118 := n11_
                        have NB108_118 := n12_
                        have NB118_108 := n13_
                        have NB109_118 := n14_
                        have NB118_109 := n15_
                        have NB110_118 := n16_
                        have NB118_110 := n17_
                        clear n0_ n1_ n2_ n3_ n4_ n5_ n6_ n7_ n8_ n9_ n10_ n11_ n12_ n13_ n14_ n15_ n16_ n17_
                        clear hb hbox hg
                        refine hK.out _ _ ⟨(blk_cell BK108.out 0).trans rfl, (blk_cell BK109.out 0).trans rfl⟩ (fun hHeld => ?_)
                        clear hK K
                        refine norm_ (a' := ?_) ?_ ?_
                        rotate_left
                        · show Act.put _ (some 13) _ = _
                          simp only [Act.put, List.setIfInBounds_toArray, List.set_cons_zero, List.set_cons_succ, i64_w, i32_w]
                          rfl
                        exact norm_ z38 (hCont (.slice Ao82 y105.length co82, .slice Ao84 t101.length co84, v116, gb118) _ ⟨hHeld, z53, z54, z56, z37, z55, z4, z6, z7, z20, GW118.out, GE118.out, NB108_118.out, NB118_108.out, NB109_118.out, NB118_109.out, NB110_118.out, NB118_110.out, z3⟩)
                      · skip
                        refine box_step ?hg (N := 13) ?hd (cs := #[.slice none 0 0]) (t := 30) ?hr ?_; (case hd => rfl); (case hg => rfl); (case hr => first | (go_simp; done) | (go_simp; rfl))
                        intro gb118 hg w84 hbox hb
                        have n0_ := Aside0.mk (Kd.V_below (Kd.V_elderB z14 gb118 (Nat.le_of_eq hg.symm)) hb)
                        have n1_ := Aside0.mk (Kd.V_below (Kd.V_elderB z15 gb118 (Nat.le_of_eq hg.symm)) hb)
                        have n2_ := Aside0.mk (Kd.V_below (Kd.V_elderB z24 gb118 (Nat.le_of_eq hg.symm)) hb)
                        have n3_ := Aside0.mk (Kd.N_below (Kd.N_elderB z33 gb118 (Nat.le_of_eq hg.symm)) hb)
                        have n4_ := Aside0.mk (Kd.R_below z35 hb)
                        have n5_ := zBB BK108 hb
                        have n6_ := zBB BK109 hb
                        have n7_ := zBB BK110 hb
                        have n8_ := Aside0.mk (below_step z2 hb)
                        have n9_ := Aside0.mk (hbox)
                        have n10_ := Aside0.mk ((z91 : w.heap.size ≤ gb118))
                        have n11_ := Aside0.mk ((z91 : w.heap.size ≤ gb118))
                        have n12_ := Aside0.mk ((z92 : gb108 ≠ gb118))
                        have n13_ := Aside0.mk ((z93 : gb118 ≠ gb108))
                        have n14_ := Aside0.mk ((z94 : gb109 ≠ gb118))
                        have n15_ := Aside0.mk ((z95 : gb118 ≠ gb109))
                        have n16_ := Aside0.mk ((z87 : gb110 ≠ gb118))
                        have n17_ := Aside0.mk ((z88 : gb118 ≠ gb110))
                        clear HO0_0 HO2_0 HO111 HO113 HO115 BK108 BK109 BK110 HB
                        have HO0_0 := n0_
                        have HO2_0 := n1_
                        have HO111 := n2_
                        have HO113 := n3_
                        have HO115 := n4_
                        have BK108 := n5_
                        have BK109 := n6_
                        have BK110 := n7_
                        have HB := n8_
                        have BK118 := n9_
                        have GW118 := n10_
                        have GE118 := n11_
                        have NB108_118 := n12_
                        have NB118_108 := n13_
                        have NB109_118 := n14_
                        have NB118_109 := n15_
                        have NB110_118 := n16_
                        have NB118_110 := n17_
                        clear n0_ n1_ n2_ n3_ n4_ n5_ n6_ n7_ n8_ n9_ n10_ n11_ n12_ n13_ n14_ n15_ n16_ n17_
                        clear hb hbox hg
                        obtain ⟨Ao85, co85, eo85⟩ := Kd.R_slice HO115.out
                        (first | subst eo85 | (injection eo85 with f1_ f2_ f3_; have f4_ := f1_.symm; have f5_ := f3_.symm; clear f1_ f2_ f3_; subst f4_; subst f5_))
                        refine hK.out _ _ ⟨(blk_cell BK108.out 0).trans rfl, (blk_cell BK109.out 0).trans rfl⟩ (fun hHeld => ?_)
                        clear hK K
                        refine norm_ (a' := ?_) ?_ ?_
                        rotate_left
                        · show Act.put _ (some 13) _ = _
                          simp only [Act.put, List.setIfInBounds_toArray, List.set_cons_zero, List.set_cons_succ, i64_w, i32_w]
                          rfl
                        refine one_ (i := 7) (N := some 53) #[true, true, true, true, true, true, true, true, false, false, false, true, false, false] rfl rfl (one_of HT_.out (by kernel_rfl)) (by decide) (fun K hK => ?_)
                        refine goes_ Try.func44 (by kernel_rfl) rfl #[.slice Ao85 t101.length co85] (by rfl) rfl rfl z9 ?_
                        with_reducible refine (impl_limitedSpace.calls k (fun k_ => some k_ = (.slice Ao85 t101.length co85 : Value).ownBlock) (.slice Ao85 t101.length co85) t101 t102 false w _ ?side1 ?side2 A14.out).mono ?_
                        (case side1 => exact z3)
                        (case side2 => exact Kd.R_tight rfl HO115.out)
                        rintro e w86 ⟨v116, rfl, ho0, hb, hkp⟩
                        refine ⟨_, rfl, ?_⟩
                        have n0_ := Aside0.mk (Kd.V_mono (ok' := fun k_ => ((P0_0_ k_ ∨ P2_0_ k_) ∨ w.heap.size ≤ k_) ∧ some k_ ≠ (.slice Ao82 y105.length co82 : Value).ownBlock ∧ k_ ≠ gb108 ∧ k_ ≠ gb109 ∧ k_ ≠ gb110 ∧ k_ ≠ gb118 ∧ some k_ ≠ (v116 : Value).ownBlock) (Kd.V_keptB (HO0_0.out) hkp (fun k_ hk_ hs_ => (hk_.1.2) hs_)) (fun k_ hk_ => ⟨hk_.1.1.1.1.1.1.1, hk_.1.1.1.2, hk_.1.1.1.1.1.1.2, hk_.1.1.1.1.1.2, hk_.1.1.1.1.2, hk_.1.2, fun e_ => Or.elim (ho0.1 k_ e_.symm) (fun hs_ => hk_.2.1 hs_) (fun hn_ => Nat.not_le.2 hk_.2.2 hn_)⟩))
                        have n1_ := Aside0.mk (Kd.V_mono (ok' := fun k_ => ((P0_0_ k_ ∨ P2_0_ k_) ∨ w.heap.size ≤ k_) ∧ some k_ ≠ (.slice Ao82 y105.length co82 : Value).ownBlock ∧ k_ ≠ gb108 ∧ k_ ≠ gb109 ∧ k_ ≠ gb110 ∧ k_ ≠ gb118 ∧ some k_ ≠ (v116 : Value).ownBlock) (Kd.V_keptB (HO2_0.out) hkp (fun k_ hk_ hs_ => (hk_.1.2) hs_)) (fun k_ hk_ => ⟨hk_.1.1.1.1.1.1.1, hk_.1.1.1.2, hk_.1.1.1.1.1.1.2, hk_.1.1.1.1.1.2, hk_.1.1.1.1.2, hk_.1.2, fun e_ => Or.elim (ho0.1 k_ e_.symm) (fun hs_ => hk_.2.1 hs_) (fun hn_ => Nat.not_le.2 hk_.2.2 hn_)⟩))
                        have n2_ := Aside0.mk (blk_kept z4 hkp (fun hs_ => (fun e_ => (Kd.R_ne HO115.out BK108.out (by decide)) e_) hs_))
                        have n3_ := Aside0.mk (blk_kept z6 hkp (fun hs_ => (fun e_ => (Kd.R_ne HO115.out BK109.out (by decide)) e_) hs_))
                        have n4_ := Aside0.mk (blk_kept z7 hkp (fun hs_ => (fun e_ => (Kd.R_ne HO115.out BK110.out (by decide)) e_) hs_))
                        have n5_ := Aside0.mk (Kd.V_mono (ok' := fun k_ => ((P0_0_ k_ ∨ P2_0_ k_) ∨ w.heap.size ≤ k_) ∧ some k_ ≠ (.slice Ao82 y105.length co82 : Value).ownBlock ∧ k_ ≠ gb108 ∧ k_ ≠ gb109 ∧ k_ ≠ gb110 ∧ k_ ≠ gb118 ∧ some k_ ≠ (v116 : Value).ownBlock) (Kd.V_keptB (HO111.out) hkp (fun k_ hk_ hs_ => (hk_.1.2) hs_)) (fun k_ hk_ => ⟨hk_.1.1.1.1.1.1.1, hk_.1.1.1.2, hk_.1.1.1.1.1.1.2, hk_.1.1.1.1.1.2, hk_.1.1.1.1.2, hk_.1.2, fun e_ => Or.elim (ho0.1 k_ e_.symm) (fun hs_ => hk_.2.1 hs_) (fun hn_ => Nat.not_le.2 hk_.2.2 hn_)⟩))
                        have n6_ := Aside0.mk (Kd.N_mono (ok' := fun k_ => ((P0_0_ k_ ∨ P2_0_ k_) ∨ w.heap.size ≤ k_) ∧ k_ ≠ gb108 ∧ k_ ≠ gb109 ∧ k_ ≠ gb110 ∧ k_ ≠ gb118 ∧ some k_ ≠ (v116 : Value).ownBlock) (Kd.N_keptB (HO113.out) hkp (fun k_ hk_ hs_ => (hk_.1.2) hs_)) (fun k_ hk_ => ⟨hk_.1.1.1.1, hk_.1.1.1.2.1, hk_.1.1.1.2.2.1, hk_.1.1.1.2.2.2, hk_.1.2, fun e_ => Or.elim (ho0.1 k_ e_.symm) (fun hs_ => hk_.2.1 hs_) (fun hn_ => Nat.not_le.2 hk_.2.2 hn_)⟩))
                        have n7_ := Aside0.mk (blk_kept z20 hkp (fun hs_ => (fun e_ => (Kd.R_ne HO115.out BK118.out (by decide)) e_) hs_))
                        have n8_ := Aside0.mk (Kd.R_mono (ok' := fun k_ => (w.heap.size ≤ k_)) ho0 (fun k_ hk_ => Or.elim hk_ (fun hs_ => (HO115.out.1 k_ (hs_).symm).1) (fun hn_ => (Nat.le_trans (below_size z3) hn_))))
                        have n9_ := Aside0.mk (hb)
                        clear HO0_0 HO2_0 BK108 BK109 BK110 HO111 HO113 BK118 HB HO115
                        have HO0_0 := n0_
                        have HO2_0 := n1_
                        have BK108 := n2_
                        have BK109 := n3_
                        have BK110 := n4_
                        have HO111 := n5_
                        have HO113 := n6_
                        have BK118 := n7_
                        have HO117 := n8_
                        have HB := n9_
                        clear n0_ n1_ n2_ n3_ n4_ n5_ n6_ n7_ n8_ n9_
                        (try clear hb)
                        (try clear hkp)
                        (try clear ho0)
                        refine hK.out _ _ ⟨(blk_cell BK108.out 0).trans rfl, (blk_cell BK109.out 0).trans rfl⟩ (fun hHeld => ?_)
                        clear hK K
                        refine norm_ (a' := ?_) ?_ ?_
                        rotate_left
                        · show Act.put _ (some 53) _ = _
                          simp only [Act.put, List.setIfInBounds_toArray, List.set_cons_zero, List.set_cons_succ, i64_w, i32_w]
                          rfl
                        refine pure_ (i := 8) (N := some 45) (v := ?_) (a' := ?_) #[true, true, true, true, true, true, true, true, true, false, false, true, false, false] rfl rfl (any_of HT_.out (by kernel_rfl)) (fun _ _ _ h => h) (Or.inl ⟨(by rfl), ?_⟩) ?_ ?_
                        rotate_left
                        · exact z10
                        rotate_left
                        · exact z1
                        refine pure_ (i := 9) (N := some 54) (v := ?_) (a' := ?_) #[true, true, true, true, true, true, true, true, true, true, false, true, false, false] rfl rfl (any_of HT_.out (by kernel_rfl)) (fun _ _ _ h => h) (Or.inl ⟨(by rfl), ?_⟩) ?_ ?_
                        rotate_left
                        · exact z10
                        rotate_left
                        · exact z1
                        refine pure_ (i := 10) (N := some 55) (v := ?_) (a' := ?_) #[true, true, true, true, true, true, true, true, true, true, true, true, false, false] rfl rfl (any_of HT_.out (by kernel_rfl)) (fun _ _ _ h => h) (Or.inl ⟨(by rfl), ?_⟩) ?_ ?_
                        rotate_left
                        · exact z10
                        rotate_left
                        · exact z1
                        exact norm_ z38 (hCont (.slice Ao82 y105.length co82, .slice Ao85 t101.length co85, v116, gb118) _ ⟨hHeld, z29, z30, z32, z37, z31, z4, z6, z7, z20, GW118.out, GE118.out, NB108_118.out, NB118_108.out, NB109_118.out, NB118_109.out, NB110_118.out, NB118_110.out, z3⟩)
                    · skip
                      refine box_step ?hg (N := 13) ?hd (cs := #[.slice none 0 0]) (t := 30) ?hr ?_; (case hd => rfl); (case hg => rfl); (case hr => first | (go_simp; done) | (go_simp; rfl))
                      intro gb118 hg w82 hbox hb
                      have n0_ := Aside0.mk (Kd.V_below (Kd.V_elderB z14 gb118 (Nat.le_of_eq hg.symm)) hb)
                      have n1_ := Aside0.mk (Kd.V_below (Kd.V_elderB z15 gb118 (Nat.le_of_eq hg.symm)) hb)
                      have n2_ := Aside0.mk (Kd.V_below (Kd.V_elderB z24 gb118 (Nat.le_of_eq hg.symm)) hb)
                      have n3_ := Aside0.mk (Kd.N_below (Kd.N_elderB z33 gb118 (Nat.le_of_eq hg.symm)) hb)
                      have n4_ := zBB BK108 hb
                      have n5_ := zBB BK109 hb
                      have n6_ := zBB BK110 hb
                      have n7_ := Aside0.mk (below_step z2 hb)
                      have n8_ := Aside0.mk (hbox)
                      have n9_ := Aside0.mk ((z91 : w.heap.size ≤ gb118))
                      have n10_ := Aside0.mk ((z91 : w.heap.size ≤ gb118))
                      have n11_ := Aside0.mk ((z92 : gb108 ≠ gb118))
                      have n12_ := Aside0.mk ((z93 : gb118 ≠ gb108))
                      have n13_ := Aside0.mk ((z94 : gb109 ≠ gb118))
                      have n14_ := Aside0.mk ((z95 : gb118 ≠ gb109))
                      have n15_ := Aside0.mk ((z87 : gb110 ≠ gb118))
                      have n16_ := Aside0.mk ((z88 : gb118 ≠ gb110))
                      clear HO0_0 HO2_0 HO111 HO113 BK108 BK109 BK110 HB
                      have HO0_0 := n0_
                      have HO2_0 := n1_
                      have HO111 := n2_
                      have HO113 := n3_
                      have BK108 := n4_
                      have BK109 := n5_
                      have BK110 := n6_
                      have HB := n7_
                      have BK118 := n8_
                      have GW118 := n9_
                      have GE118 := n10_
                      have NB108_118 := n11_
                      have NB118_108 := n12_
                      have NB109_118 := n13_
                      have NB118_109 := n14_
                      have NB110_118 := n15_
                      have NB118_110 := n16_
                      clear n0_ n1_ n2_ n3_ n4_ n5_ n6_ n7_ n8_ n9_ n10_ n11_ n12_ n13_ n14_ n15_ n16_
                      clear hb hbox hg
                      obtain ⟨Ao83, co83, eo83⟩ := Kd.N_slice HO113.out
                      (first | subst eo83 | (injection eo83 with f1_ f2_ f3_; have f4_ := f1_.symm; have f5_ := f3_.symm; clear f1_ f2_ f3_; subst f4_; subst f5_))
                      refine hK.out _ _ ⟨(blk_cell BK108.out 0).trans rfl, (blk_cell BK109.out 0).trans rfl⟩ (fun hHeld => ?_)
                      clear hK K
                      refine norm_ (a' := ?_) ?_ ?_
                      rotate_left
                      · show Act.put _ (some 13) _ = _
                        simp only [Act.put, List.setIfInBounds_toArray, List.set_cons_zero, List.set_cons_succ, i64_w, i32_w]
                        rfl
                      refine one_ (i := 6) (N := some 52) #[true, true, true, true, true, true, true, false, false, false, false, true, false, false] rfl rfl (one_of HT_.out (by kernel_rfl)) (by decide) (fun K hK => ?_)
                      refine goes_ Try.func45 (by kernel_rfl) rfl #[.slice Ao83 y105.length co83] (by rfl) rfl rfl z9 ?_
                      with_reducible refine (slices_Concat_int64_int64.calls k _ _ y105 t101 _ ?side1 ?side2 A13.out).mono ?_
                      (case side1 => exact z42)
                      (case side2 => exact (Kd.N_reads' HO113.out).2.1)
                      rintro e w84 ⟨v114, rfl, ho0, hb⟩
                      refine ⟨_, rfl, ?_⟩
                      have n0_ := Aside0.mk (Kd.V_elder' z14 (Kd.R_base ho0) hb)
                      have n1_ := Aside0.mk (Kd.V_elder' z15 (Kd.R_base ho0) hb)
                      have n2_ := Aside0.mk (Kd.V_elder' z24 (Kd.R_base ho0) hb)
                      have n3_ := Aside0.mk (Kd.N_elder' z33 (Kd.R_base ho0) hb)
                      have n4_ := Aside0.mk (Kd.R_lower (Kd.R_newM (M := fun k_ => (w.heap.size ≤ k_)) ho0 (below_size z3) (fun k_ h_ => h_)) (below_size z3))
                      have n5_ := zBB BK108 hb
                      have n6_ := zBB BK109 hb
                      have n7_ := zBB BK110 hb
                      have n8_ := zBB BK118 hb
                      have n9_ := Aside0.mk (below_step z3 hb)
                      clear HO0_0 HO2_0 HO111 HO113 BK108 BK109 BK110 BK118 HB
                      have HO0_0 := n0_
                      have HO2_0 := n1_
                      have HO111 := n2_
                      have HO113 := n3_
                      have HO115 := n4_
                      have BK108 := n5_
                      have BK109 := n6_
                      have BK110 := n7_
                      have BK118 := n8_
                      have HB := n9_
                      clear n0_ n1_ n2_ n3_ n4_ n5_ n6_ n7_ n8_ n9_
                      (try clear hb)
                      (try clear hb2)
                      (try clear hk)
                      (try clear hi)
                      (try clear ho0)
                      obtain ⟨Ao85, co85, eo85⟩ := Kd.R_slice HO115.out
                      (first | subst eo85 | (injection eo85 with f1_ f2_ f3_; have f4_ := f1_.symm; have f5_ := f3_.symm; clear f1_ f2_ f3_; subst f4_; subst f5_))
                      refine hK.out _ _ ⟨(blk_cell BK108.out 0).trans rfl, (blk_cell BK109.out 0).trans rfl⟩ (fun hHeld => ?_)
                      clear hK K
                      refine norm_ (a' := ?_) ?_ ?_
                      rotate_left
                      · show Act.put _ (some 52) _ = _
                        simp only [Act.put, List.setIfInBounds_toArray, List.set_cons_zero, List.set_cons_succ, i64_w, i32_w]
                        rfl
                      refine one_ (i := 7) (N := some 53) #[true, true, true, true, true, true, true, true, false, false, false, true, false, false] rfl rfl (one_of HT_.out (by kernel_rfl)) (by decide) (fun K hK => ?_)
                      refine goes_ Try.func44 (by kernel_rfl) rfl #[.slice Ao85 t101.length co85] (by rfl) rfl rfl z9 ?_
                      with_reducible refine (impl_limitedSpace.calls k (fun k_ => some k_ = (.slice Ao85 t101.length co85 : Value).ownBlock) (.slice Ao85 t101.length co85) t101 t102 false w _ ?side1 ?side2 A14.out).mono ?_
                      (case side1 => exact z3)
                      (case side2 => exact Kd.R_tight rfl HO115.out)
                      rintro e w86 ⟨v116, rfl, ho0, hb, hkp⟩
                      refine ⟨_, rfl, ?_⟩
                      have n0_ := Aside0.mk (Kd.V_mono (ok' := fun k_ => ((P0_0_ k_ ∨ P2_0_ k_) ∨ w.heap.size ≤ k_) ∧ some k_ ≠ (.slice Ao83 y105.length co83 : Value).ownBlock ∧ k_ ≠ gb108 ∧ k_ ≠ gb109 ∧ k_ ≠ gb110 ∧ k_ ≠ gb118 ∧ some k_ ≠ (v116 : Value).ownBlock) (Kd.V_keptB (HO0_0.out) hkp (fun k_ hk_ hs_ => (hk_.2) hs_)) (fun k_ hk_ => ⟨hk_.1.1.1.1.1.1.1, hk_.1.1.1.2, hk_.1.1.1.1.1.1.2, hk_.1.1.1.1.1.2, hk_.1.1.1.1.2, hk_.1.1.2, fun e_ => Or.elim (ho0.1 k_ e_.symm) (fun hs_ => hk_.2.1 hs_) (fun hn_ => Nat.not_le.2 hk_.2.2 hn_)⟩))
                      have n1_ := Aside0.mk (Kd.V_mono (ok' := fun k_ => ((P0_0_ k_ ∨ P2_0_ k_) ∨ w.heap.size ≤ k_) ∧ some k_ ≠ (.slice Ao83 y105.length co83 : Value).ownBlock ∧ k_ ≠ gb108 ∧ k_ ≠ gb109 ∧ k_ ≠ gb110 ∧ k_ ≠ gb118 ∧ some k_ ≠ (v116 : Value).ownBlock) (Kd.V_keptB (HO2_0.out) hkp (fun k_ hk_ hs_ => (hk_.2) hs_)) (fun k_ hk_ => ⟨hk_.1.1.1.1.1.1.1, hk_.1.1.1.2, hk_.1.1.1.1.1.1.2, hk_.1.1.1.1.1.2, hk_.1.1.1.1.2, hk_.1.1.2, fun e_ => Or.elim (ho0.1 k_ e_.symm) (fun hs_ => hk_.2.1 hs_) (fun hn_ => Nat.not_le.2 hk_.2.2 hn_)⟩))
                      have n2_ := Aside0.mk (blk_kept z4 hkp (fun hs_ => (fun e_ => (Kd.R_ne HO115.out BK108.out (by decide)) e_) hs_))
                      have n3_ := Aside0.mk (blk_kept z6 hkp (fun hs_ => (fun e_ => (Kd.R_ne HO115.out BK109.out (by decide)) e_) hs_))
                      have n4_ := Aside0.mk (blk_kept z7 hkp (fun hs_ => (fun e_ => (Kd.R_ne HO115.out BK110.out (by decide)) e_) hs_))
                      have n5_ := Aside0.mk (Kd.V_mono (ok' := fun k_ => ((P0_0_ k_ ∨ P2_0_ k_) ∨ w.heap.size ≤ k_) ∧ some k_ ≠ (.slice Ao83 y105.length co83 : Value).ownBlock ∧ k_ ≠ gb108 ∧ k_ ≠ gb109 ∧ k_ ≠ gb110 ∧ k_ ≠ gb118 ∧ some k_ ≠ (v116 : Value).ownBlock) (Kd.V_keptB (HO111.out) hkp (fun k_ hk_ hs_ => (hk_.2) hs_)) (fun k_ hk_ => ⟨hk_.1.1.1.1.1.1.1, hk_.1.1.1.2, hk_.1.1.1.1.1.1.2, hk_.1.1.1.1.1.2, hk_.1.1.1.1.2, hk_.1.1.2, fun e_ => Or.elim (ho0.1 k_ e_.symm) (fun hs_ => hk_.2.1 hs_) (fun hn_ => Nat.not_le.2 hk_.2.2 hn_)⟩))
                      have n6_ := Aside0.mk (Kd.N_mono (ok' := fun k_ => ((P0_0_ k_ ∨ P2_0_ k_) ∨ w.heap.size ≤ k_) ∧ k_ ≠ gb108 ∧ k_ ≠ gb109 ∧ k_ ≠ gb110 ∧ k_ ≠ gb118 ∧ some k_ ≠ (v116 : Value).ownBlock) (Kd.N_keptB (HO113.out) hkp (fun k_ hk_ hs_ => (hk_.2) hs_)) (fun k_ hk_ => ⟨hk_.1.1.1.1, hk_.1.1.1.2.1, hk_.1.1.1.2.2.1, hk_.1.1.1.2.2.2, hk_.1.1.2, fun e_ => Or.elim (ho0.1 k_ e_.symm) (fun hs_ => hk_.2.1 hs_) (fun hn_ => Nat.not_le.2 hk_.2.2 hn_)⟩))
                      have n7_ := Aside0.mk (blk_kept z20 hkp (fun hs_ => (fun e_ => (Kd.R_ne HO115.out BK118.out (by decide)) e_) hs_))
                      have n8_ := Aside0.mk (Kd.R_mono (ok' := fun k_ => (w.heap.size ≤ k_)) ho0 (fun k_ hk_ => Or.elim hk_ (fun hs_ => (HO115.out.1 k_ (hs_).symm).1) (fun hn_ => (Nat.le_trans (below_size z3) hn_))))
                      have n9_ := Aside0.mk (hb)
                      clear HO0_0 HO2_0 BK108 BK109 BK110 HO111 HO113 BK118 HB HO115
                      have HO0_0 := n0_
                      have HO2_0 := n1_
                      have BK108 := n2_
                      have BK109 := n3_
                      have BK110 := n4_
                      have HO111 := n5_
                      have HO113 := n6_
                      have BK118 := n7_
                      have HO117 := n8_
                      have HB := n9_
                      clear n0_ n1_ n2_ n3_ n4_ n5_ n6_ n7_ n8_ n9_
                      (try clear hb)
                      (try clear hkp)
                      (try clear ho0)
                      refine hK.out _ _ ⟨(blk_cell BK108.out 0).trans rfl, (blk_cell BK109.out 0).trans rfl⟩ (fun hHeld => ?_)
                      clear hK K
                      refine norm_ (a' := ?_) ?_ ?_
                      rotate_left
                      · show Act.put _ (some 53) _ = _
                        simp only [Act.put, List.setIfInBounds_toArray, List.set_cons_zero, List.set_cons_succ, i64_w, i32_w]
                        rfl
                      refine pure_ (i := 8) (N := some 45) (v := ?_) (a' := ?_) #[true, true, true, true, true, true, true, true, true, false, false, true, false, false] rfl rfl (any_of HT_.out (by kernel_rfl)) (fun _ _ _ h => h) (Or.inl ⟨(by rfl), ?_⟩) ?_ ?_
                      rotate_left
                      · exact z10
                      rotate_left
                      · exact z1
                      refine pure_ (i := 9) (N := some 54) (v := ?_) (a' := ?_) #[true, true, true, true, true, true, true, true, true, true, false, true, false, false] rfl rfl (any_of HT_.out (by kernel_rfl)) (fun _ _ _ h => h) (Or.inl ⟨(by rfl), ?_⟩) ?_ ?_
                      rotate_left
                      · exact z10
                      rotate_left
                      · exact z1
                      refine pure_ (i := 10) (N := some 55) (v := ?_) (a' := ?_) #[true, true, true, true, true, true, true, true, true, true, true, true, false, false] rfl rfl (any_of HT_.out (by kernel_rfl)) (fun _ _ _ h => h) (Or.inl ⟨(by rfl), ?_⟩) ?_ ?_
                      rotate_left
                      · exact z10
                      rotate_left
                      · exact z1
                      exact norm_ z38 (hCont (.slice Ao83 y105.length co83, .slice Ao85 t101.length co85, v116, gb118) _ ⟨hHeld, z29, z30, z32, z37, z31, z4, z6, z7, z20, GW118.out, GE118.out, NB108_118.out, NB118_108.out, NB109_118.out, NB118_109.out, NB110_118.out, NB118_110.out, z3⟩)
                  · skip
                    refine box_step ?hg (N := 13) ?hd (cs := #[.slice none 0 0]) (t := 30) ?hr ?_; (case hd => rfl); (case hg => rfl); (case hr => first | (go_simp; done) | (go_simp; rfl))
                    intro gb118 hg w80 hbox hb
                    have n0_ := Aside0.mk (Kd.V_below (Kd.V_elderB z14 gb118 (Nat.le_of_eq hg.symm)) hb)
                    have n1_ := Aside0.mk (Kd.V_below (Kd.V_elderB z15 gb118 (Nat.le_of_eq hg.symm)) hb)
                    have n2_ := Aside0.mk (Kd.V_below (Kd.V_elderB z24 gb118 (Nat.le_of_eq hg.symm)) hb)
                    have n3_ := zBB BK108 hb
                    have n4_ := zBB BK109 hb
                    have n5_ := zBB BK110 hb
                    have n6_ := Aside0.mk (below_step z2 hb)
                    have n7_ := Aside0.mk (hbox)
                    have n8_ := Aside0.mk ((z91 : w.heap.size ≤ gb118))
                    have n9_ := Aside0.mk ((z91 : w.heap.size ≤ gb118))
                    have n10_ := Aside0.mk ((z92 : gb108 ≠ gb118))
                    have n11_ := Aside0.mk ((z93 : gb118 ≠ gb108))
                    have n12_ := Aside0.mk ((z94 : gb109 ≠ gb118))
                    have n13_ := Aside0.mk ((z95 : gb118 ≠ gb109))
                    have n14_ := Aside0.mk ((z87 : gb110 ≠ gb118))
                    have n15_ := Aside0.mk ((z88 : gb118 ≠ gb110))
                    clear HO0_0 HO2_0 HO111 BK108 BK109 BK110 HB
                    have HO0_0 := n0_
                    have HO2_0 := n1_
                    have HO111 := n2_
                    have BK108 := n3_
                    have BK109 := n4_
                    have BK110 := n5_
                    have HB := n6_
                    have BK118 := n7_
                    have GW118 := n8_
                    have GE118 := n9_
                    have NB108_118 := n10_
                    have NB118_108 := n11_
                    have NB109_118 := n12_
                    have NB118_109 := n13_
                    have NB110_118 := n14_
                    have NB118_110 := n15_
                    clear n0_ n1_ n2_ n3_ n4_ n5_ n6_ n7_ n8_ n9_ n10_ n11_ n12_ n13_ n14_ n15_
                    clear hb hbox hg
                    refine hK.out _ _ ⟨(blk_cell BK108.out 0).trans rfl, (blk_cell BK109.out 0).trans rfl⟩ (fun hHeld => ?_)
                    clear hK K
                    refine norm_ (a' := ?_) ?_ ?_
                    rotate_left
                    · show Act.put _ (some 13) _ = _
                      simp only [Act.put, List.setIfInBounds_toArray, List.set_cons_zero, List.set_cons_succ, i64_w, i32_w]
                      rfl
                    refine one_ (i := 5) (N := some 51) #[true, true, true, true, true, true, false, false, false, false, false, true, false, false] rfl rfl (one_of HT_.out (by kernel_rfl)) (by decide) (fun K hK => ?_)
                    refine Kd.N_lit_step (Kd.slice 2 (Kd.int .i64)) _ 22 ?hg (N' := 51) ?hd (xs := ([l0_0, y104] : List (List Int))) (inner := [.slice (some ad195) l0_0.length c0_0, .slice A79 y104.length c79]) (ok := (fun k_ => ((P0_0_ k_ ∨ P2_0_ k_) ∨ w.heap.size ≤ k_) ∧ k_ ≠ gb108 ∧ k_ ≠ gb109 ∧ k_ ≠ gb110 ∧ k_ ≠ gb118)) (okp := (fun k_ => ((P0_0_ k_ ∨ P2_0_ k_) ∨ w.heap.size ≤ k_) ∧ k_ ≠ gb108 ∧ k_ ≠ gb109 ∧ k_ ≠ gb110 ∧ k_ ≠ gb118)) ?hr ?hp (fun _ hk => hk) ((show ∀ k_, w80.heap.size ≤ k_ → (fun k_ => ((P0_0_ k_ ∨ P2_0_ k_) ∨ w.heap.size ≤ k_) ∧ k_ ≠ gb108 ∧ k_ ≠ gb109 ∧ k_ ≠ gb110 ∧ k_ ≠ gb118) k_ from fun k_ hk => ⟨(.inr (Nat.le_trans (below_size z3) hk)), Kd.freshB (g := gb108) (o := .cells #[.slice (some ad195) l0_0.length c0_0] 30 (0, 0)) z4 k_ hk, Kd.freshB (g := gb109) (o := .cells #[.slice (some ad194) l2_0.length c2_0] 30 (0, 0)) z6 k_ hk, Kd.freshB (g := gb110) (o := .cells #[.slice none 0 0] 30 (0, 0)) z7 k_ hk, Kd.freshB (g := gb118) (o := .cells #[.slice none 0 0] 30 (0, 0)) z20 k_ hk⟩) _ (Nat.le_refl _)) (Below.refl _ _) (Nat.le_refl _) (by simp) ?_; (case hd => rfl); (case hg => rfl); (case hr => first | (go_simp; done) | (go_simp; rfl)); (case hp => exact (Reps.one (show Kd.FK (Kd.slice 2 (Kd.int .i64)) _ _ l0_0 [.slice (some ad195) l0_0.length c0_0] from (Kd.FK_slice_mk (Kd.V_reads' (Kd.V_mono (ok' := (fun k_ => ((P0_0_ k_ ∨ P2_0_ k_) ∨ w.heap.size ≤ k_) ∧ k_ ≠ gb108 ∧ k_ ≠ gb109 ∧ k_ ≠ gb110 ∧ k_ ≠ gb118)) (HO0_0.out) (fun k_ hk => ⟨hk.1.1.1.1, ⟨hk.1.1.1.2, ⟨hk.1.1.2, ⟨hk.1.2, hk.2⟩⟩⟩⟩))).2.1 (Kd.V_F (Kd.V_mono (ok' := (fun k_ => ((P0_0_ k_ ∨ P2_0_ k_) ∨ w.heap.size ≤ k_) ∧ k_ ≠ gb108 ∧ k_ ≠ gb109 ∧ k_ ≠ gb110 ∧ k_ ≠ gb118)) (HO0_0.out) (fun k_ hk => ⟨hk.1.1.1.1, ⟨hk.1.1.1.2, ⟨hk.1.1.2, ⟨hk.1.2, hk.2⟩⟩⟩⟩))))) (Reps.one (show Kd.FK (Kd.slice 2 (Kd.int .i64)) _ _ y104 [.slice A79 y104.length c79] from (Kd.FK_slice_mk (Kd.V_reads' (Kd.V_mono (ok' := (fun k_ => ((P0_0_ k_ ∨ P2_0_ k_) ∨ w.heap.size ≤ k_) ∧ k_ ≠ gb108 ∧ k_ ≠ gb109 ∧ k_ ≠ gb110 ∧ k_ ≠ gb118)) (HO111.out) (fun k_ hk => ⟨hk.1.1.1.1, ⟨hk.1.1.1.2, ⟨hk.1.1.2, ⟨hk.1.2, hk.2⟩⟩⟩⟩))).2.1 (Kd.V_F (Kd.V_mono (ok' := (fun k_ => ((P0_0_ k_ ∨ P2_0_ k_) ∨ w.heap.size ≤ k_) ∧ k_ ≠ gb108 ∧ k_ ≠ gb109 ∧ k_ ≠ gb110 ∧ k_ ≠ gb118)) (HO111.out) (fun k_ hk => ⟨hk.1.1.1.1, ⟨hk.1.1.1.2, ⟨hk.1.1.2, ⟨hk.1.2, hk.2⟩⟩⟩⟩))))) (Reps.none _ _))))
                    intro v112 w81 ho82 hb hg_ hnew_
                    clear hg_ hnew_
                    (first | rw [← Ny105.out] at ho82 | (simp only [Int.reduceToNat] at ho82; rw [← Ny105.out] at ho82))
                    have n0_ := Aside0.mk (Kd.V_elder' z14 (Kd.N_base ho82) hb)
                    have n1_ := Aside0.mk (Kd.V_elder' z15 (Kd.N_base ho82) hb)
                    have n2_ := Aside0.mk (Kd.V_elder' z24 (Kd.N_base ho82) hb)
                    have n3_ := Aside0.mk (Kd.N_lower ho82 (below_size z3))
                    have n4_ := zBB BK108 hb
                    have n5_ := zBB BK109 hb
                    have n6_ := zBB BK110 hb
                    have n7_ := zBB BK118 hb
                    have n8_ := Aside0.mk (below_step z3 hb)
                    clear HO0_0 HO2_0 HO111 BK108 BK109 BK110 BK118 HB
                    have HO0_0 := n0_
                    have HO2_0 := n1_
                    have HO111 := n2_
                    have HO113 := n3_
                    have BK108 := n4_
                    have BK109 := n5_
                    have BK110 := n6_
                    have BK118 := n7_
                    have HB := n8_
                    clear n0_ n1_ n2_ n3_ n4_ n5_ n6_ n7_ n8_
                    clear hb ho82
                    obtain ⟨Ao83, co83, eo83⟩ := Kd.N_slice HO113.out
                    (first | subst eo83 | (injection eo83 with f1_ f2_ f3_; have f4_ := f1_.symm; have f5_ := f3_.symm; clear f1_ f2_ f3_; subst f4_; subst f5_))
                    refine hK.out _ _ ⟨(blk_cell BK108.out 0).trans rfl, (blk_cell BK109.out 0).trans rfl⟩ (fun hHeld => ?_)
                    clear hK K
                    refine norm_ (a' := ?_) ?_ ?_
                    rotate_left
                    · show Act.put _ (some 51) _ = _
                      simp only [Act.put, List.setIfInBounds_toArray, List.set_cons_zero, List.set_cons_succ, i64_w, i32_w]
                      rfl
                    refine one_ (i := 6) (N := some 52) #[true, true, true, true, true, true, true, false, false, false, false, true, false, false] rfl rfl (one_of HT_.out (by kernel_rfl)) (by decide) (fun K hK => ?_)
                    refine goes_ Try.func45 (by kernel_rfl) rfl #[.slice Ao83 y105.length co83] (by rfl) rfl rfl z9 ?_
                    with_reducible refine (slices_Concat_int64_int64.calls k _ _ y105 t101 _ ?side1 ?side2 A13.out).mono ?_
                    (case side1 => exact z42)
                    (case side2 => exact (Kd.N_reads' HO113.out).2.1)
                    rintro e w84 ⟨v114, rfl, ho0, hb⟩
                    refine ⟨_, rfl, ?_⟩
                    have n0_ := Aside0.mk (Kd.V_elder' z14 (Kd.R_base ho0) hb)
                    have n1_ := Aside0.mk (Kd.V_elder' z15 (Kd.R_base ho0) hb)
                    have n2_ := Aside0.mk (Kd.V_elder' z24 (Kd.R_base ho0) hb)
                    have n3_ := Aside0.mk (Kd.N_elder' z33 (Kd.R_base ho0) hb)
                    have n4_ := Aside0.mk (Kd.R_lower (Kd.R_newM (M := fun k_ => (w.heap.size ≤ k_)) ho0 (below_size z3) (fun k_ h_ => h_)) (below_size z3))
                    have n5_ := zBB BK108 hb
                    have n6_ := zBB BK109 hb
                    have n7_ := zBB BK110 hb
                    have n8_ := zBB BK118 hb
                    have n9_ := Aside0.mk (below_step z3 hb)
                    clear HO0_0 HO2_0 HO111 HO113 BK108 BK109 BK110 BK118 HB
                    have HO0_0 := n0_
                    have HO2_0 := n1_
                    have HO111 := n2_
                    have HO113 := n3_
                    have HO115 := n4_
                    have BK108 := n5_
                    have BK109 := n6_
                    have BK110 := n7_
                    have BK118 := n8_
                    have HB := n9_
                    clear n0_ n1_ n2_ n3_ n4_ n5_ n6_ n7_ n8_ n9_
                    (try clear hb)
                    (try clear hb2)
                    (try clear hk)
                    (try clear hi)
                    (try clear ho0)
                    obtain ⟨Ao85, co85, eo85⟩ := Kd.R_slice HO115.out
                    (first | subst eo85 | (injection eo85 with f1_ f2_ f3_; have f4_ := f1_.symm; have f5_ := f3_.symm; clear f1_ f2_ f3_; subst f4_; subst f5_))
                    refine hK.out _ _ ⟨(blk_cell BK108.out 0).trans rfl, (blk_cell BK109.out 0).trans rfl⟩ (fun hHeld => ?_)
                    clear hK K
                    refine norm_ (a' := ?_) ?_ ?_
                    rotate_left
                    · show Act.put _ (some 52) _ = _
                      simp only [Act.put, List.setIfInBounds_toArray, List.set_cons_zero, List.set_cons_succ, i64_w, i32_w]
                      rfl
                    refine one_ (i := 7) (N := some 53) #[true, true, true, true, true, true, true, true, false, false, false, true, false, false] rfl rfl (one_of HT_.out (by kernel_rfl)) (by decide) (fun K hK => ?_)
                    refine goes_ Try.func44 (by kernel_rfl) rfl #[.slice Ao85 t101.length co85] (by rfl) rfl rfl z9 ?_
                    with_reducible refine (impl_limitedSpace.calls k (fun k_ => some k_ = (.slice Ao85 t101.length co85 : Value).ownBlock) (.slice Ao85 t101.length co85) t101 t102 false w _ ?side1 ?side2 A14.out).mono ?_
                    (case side1 => exact z3)
                    (case side2 => exact Kd.R_tight rfl HO115.out)
                    rintro e w86 ⟨v116, rfl, ho0, hb, hkp⟩
                    refine ⟨_, rfl, ?_⟩
                    have n0_ := Aside0.mk (Kd.V_mono (ok' := fun k_ => ((P0_0_ k_ ∨ P2_0_ k_) ∨ w.heap.size ≤ k_) ∧ some k_ ≠ (.slice Ao83 y105.length co83 : Value).ownBlock ∧ k_ ≠ gb108 ∧ k_ ≠ gb109 ∧ k_ ≠ gb110 ∧ k_ ≠ gb118 ∧ some k_ ≠ (v116 : Value).ownBlock) (Kd.V_keptB (HO0_0.out) hkp (fun k_ hk_ hs_ => (hk_.2) hs_)) (fun k_ hk_ => ⟨hk_.1.1.1.1.1.1.1, hk_.1.1.2, hk_.1.1.1.1.1.1.2, hk_.1.1.1.1.1.2, hk_.1.1.1.1.2, hk_.1.1.1.2, fun e_ => Or.elim (ho0.1 k_ e_.symm) (fun hs_ => hk_.2.1 hs_) (fun hn_ => Nat.not_le.2 hk_.2.2 hn_)⟩))
                    have n1_ := Aside0.mk (Kd.V_mono (ok' := fun k_ => ((P0_0_ k_ ∨ P2_0_ k_) ∨ w.heap.size ≤ k_) ∧ some k_ ≠ (.slice Ao83 y105.length co83 : Value).ownBlock ∧ k_ ≠ gb108 ∧ k_ ≠ gb109 ∧ k_ ≠ gb110 ∧ k_ ≠ gb118 ∧ some k_ ≠ (v116 : Value).ownBlock) (Kd.V_keptB (HO2_0.out) hkp (fun k_ hk_ hs_ => (hk_.2) hs_)) (fun k_ hk_ => ⟨hk_.1.1.1.1.1.1.1, hk_.1.1.2, hk_.1.1.1.1.1.1.2, hk_.1.1.1.1.1.2, hk_.1.1.1.1.2, hk_.1.1.1.2, fun e_ => Or.elim (ho0.1 k_ e_.symm) (fun hs_ => hk_.2.1 hs_) (fun hn_ => Nat.not_le.2 hk_.2.2 hn_)⟩))
                    have n2_ := Aside0.mk (blk_kept z4 hkp (fun hs_ => (fun e_ => (Kd.R_ne HO115.out BK108.out (by decide)) e_) hs_))
                    have n3_ := Aside0.mk (blk_kept z6 hkp (fun hs_ => (fun e_ => (Kd.R_ne HO115.out BK109.out (by decide)) e_) hs_))
                    have n4_ := Aside0.mk (blk_kept z7 hkp (fun hs_ => (fun e_ => (Kd.R_ne HO115.out BK110.out (by decide)) e_) hs_))
                    have n5_ := Aside0.mk (Kd.V_mono (ok' := fun k_ => ((P0_0_ k_ ∨ P2_0_ k_) ∨ w.heap.size ≤ k_) ∧ some k_ ≠ (.slice Ao83 y105.length co83 : Value).ownBlock ∧ k_ ≠ gb108 ∧ k_ ≠ gb109 ∧ k_ ≠ gb110 ∧ k_ ≠ gb118 ∧ some k_ ≠ (v116 : Value).ownBlock) (Kd.V_keptB (HO111.out) hkp (fun k_ hk_ hs_ => (hk_.2) hs_)) (fun k_ hk_ => ⟨hk_.1.1.1.1.1.1.1, hk_.1.1.2, hk_.1.1.1.1.1.1.2, hk_.1.1.1.1.1.2, hk_.1.1.1.1.2, hk_.1.1.1.2, fun e_ => Or.elim (ho0.1 k_ e_.symm) (fun hs_ => hk_.2.1 hs_) (fun hn_ => Nat.not_le.2 hk_.2.2 hn_)⟩))
                    have n6_ := Aside0.mk (blk_kept z20 hkp (fun hs_ => (fun e_ => (Kd.R_ne HO115.out BK118.out (by decide)) e_) hs_))
                    have n7_ := Aside0.mk (Kd.N_mono (ok' := fun k_ => ((P0_0_ k_ ∨ P2_0_ k_) ∨ w.heap.size ≤ k_) ∧ k_ ≠ gb108 ∧ k_ ≠ gb109 ∧ k_ ≠ gb110 ∧ k_ ≠ gb118 ∧ some k_ ≠ (v116 : Value).ownBlock) (Kd.N_keptB (HO113.out) hkp (fun k_ hk_ hs_ => (hk_.2) hs_)) (fun k_ hk_ => ⟨hk_.1.1.1, hk_.1.1.2.1, hk_.1.1.2.2.1, hk_.1.1.2.2.2.1, hk_.1.1.2.2.2.2, fun e_ => Or.elim (ho0.1 k_ e_.symm) (fun hs_ => hk_.2.1 hs_) (fun hn_ => Nat.not_le.2 hk_.2.2 hn_)⟩))
                    have n8_ := Aside0.mk (Kd.R_mono (ok' := fun k_ => (w.heap.size ≤ k_)) ho0 (fun k_ hk_ => Or.elim hk_ (fun hs_ => (HO115.out.1 k_ (hs_).symm).1) (fun hn_ => (Nat.le_trans (below_size z3) hn_))))
                    have n9_ := Aside0.mk (hb)
                    clear HO0_0 HO2_0 BK108 BK109 BK110 HO111 BK118 HO113 HB HO115
                    have HO0_0 := n0_
                    have HO2_0 := n1_
                    have BK108 := n2_
                    have BK109 := n3_
                    have BK110 := n4_
                    have HO111 := n5_
                    have BK118 := n6_
                    have HO113 := n7_
                    have HO117 := n8_
                    have HB := n9_
                    clear n0_ n1_ n2_ n3_ n4_ n5_ n6_ n7_ n8_ n9_
                    (try clear hb)
                    (try clear hkp)
                    (try clear ho0)
                    refine hK.out _ _ ⟨(blk_cell BK108.out 0).trans rfl, (blk_cell BK109.out 0).trans rfl⟩ (fun hHeld => ?_)
                    clear hK K
                    refine norm_ (a' := ?_) ?_ ?_
                    rotate_left
                    · show Act.put _ (some 53) _ = _
                      simp only [Act.put, List.setIfInBounds_toArray, List.set_cons_zero, List.set_cons_succ, i64_w, i32_w]
                      rfl
                    refine pure_ (i := 8) (N := some 45) (v := ?_) (a' := ?_) #[true, true, true, true, true, true, true, true, true, false, false, true, false, false] rfl rfl (any_of HT_.out (by kernel_rfl)) (fun _ _ _ h => h) (Or.inl ⟨(by rfl), ?_⟩) ?_ ?_
                    rotate_left
                    · exact z10
                    rotate_left
                    · exact z1
                    refine pure_ (i := 9) (N := some 54) (v := ?_) (a' := ?_) #[true, true, true, true, true, true, true, true, true, true, false, true, false, false] rfl rfl (any_of HT_.out (by kernel_rfl)) (fun _ _ _ h => h) (Or.inl ⟨(by rfl), ?_⟩) ?_ ?_
                    rotate_left
                    · exact z10
                    rotate_left
                    · exact z1
                    refine pure_ (i := 10) (N := some 55) (v := ?_) (a' := ?_) #[true, true, true, true, true, true, true, true, true, true, true, true, false, false] rfl rfl (any_of HT_.out (by kernel_rfl)) (fun _ _ _ h => h) (Or.inl ⟨(by rfl), ?_⟩) ?_ ?_
                    rotate_left
                    · exact z10
                    rotate_left
                    · exact z1
                    exact norm_ z38 (hCont (.slice Ao83 y105.length co83, .slice Ao85 t101.length co85, v116, gb118) _ ⟨hHeld, z29, z30, z32, z37, z31, z4, z6, z7, z20, GW118.out, GE118.out, NB108_118.out, NB118_108.out, NB109_118.out, NB118_109.out, NB110_118.out, NB118_110.out, z3⟩)
                rintro ⟨v112, v114, v116, gb118⟩ w87 ⟨hS_, h0_, h1_, h2_, h3_, h4_, h5_, h6_, h7_, h8_, h9_, h10_, h11_, h12_, h13_, h14_, h15_, h16_, h17_⟩
                have n0_ : Aside0 (Kd.V (Kd.int .i64) 2 w87 w.heap.size (fun k_ => ((P0_0_ k_ ∨ P2_0_ k_) ∨ w.heap.size ≤ k_) ∧ some k_ ≠ (v112 : Value).ownBlock ∧ some k_ ≠ (v116 : Value).ownBlock ∧ k_ ≠ gb108 ∧ k_ ≠ gb109 ∧ k_ ≠ gb110 ∧ k_ ≠ gb118) (.slice (some ad195) l0_0.length c0_0) l0_0) := ⟨h0_⟩
                have n1_ : Aside0 (Kd.V (Kd.int .i64) 2 w87 w.heap.size (fun k_ => ((P0_0_ k_ ∨ P2_0_ k_) ∨ w.heap.size ≤ k_) ∧ some k_ ≠ (v112 : Value).ownBlock ∧ some k_ ≠ (v116 : Value).ownBlock ∧ k_ ≠ gb108 ∧ k_ ≠ gb109 ∧ k_ ≠ gb110 ∧ k_ ≠ gb118) (.slice A79 y104.length c79) y104) := ⟨h1_⟩
                have n2_ : Aside0 (Kd.N (Kd.slice 2 (Kd.int .i64)) 22 w87 w.heap.size (fun k_ => ((P0_0_ k_ ∨ P2_0_ k_) ∨ w.heap.size ≤ k_) ∧ some k_ ≠ (v116 : Value).ownBlock ∧ k_ ≠ gb108 ∧ k_ ≠ gb109 ∧ k_ ≠ gb110 ∧ k_ ≠ gb118) v112 y105) := ⟨h2_⟩
                have n3_ : Aside0 (Kd.R (Kd.int .i64) 2 w87 w.heap.size (fun k_ => (w.heap.size ≤ k_)) v116 t102) := ⟨h3_⟩
                have n4_ : Aside0 (Kd.V (Kd.int .i64) 2 w87 w.heap.size (fun k_ => ((P0_0_ k_ ∨ P2_0_ k_) ∨ w.heap.size ≤ k_) ∧ some k_ ≠ (v112 : Value).ownBlock ∧ some k_ ≠ (v116 : Value).ownBlock ∧ k_ ≠ gb108 ∧ k_ ≠ gb109 ∧ k_ ≠ gb110 ∧ k_ ≠ gb118) (.slice (some ad194) l2_0.length c2_0) l2_0) := ⟨h4_⟩
                have n5_ : Aside0 (w87.heap[gb108]? = some (.cells #[.slice (some ad195) l0_0.length c0_0] 30 (0, 0))) := ⟨h5_⟩
                have n6_ : Aside0 (w87.heap[gb109]? = some (.cells #[.slice (some ad194) l2_0.length c2_0] 30 (0, 0))) := ⟨h6_⟩
                have n7_ : Aside0 (w87.heap[gb110]? = some (.cells #[.slice none 0 0] 30 (0, 0))) := ⟨h7_⟩
                have n8_ : Aside0 (w87.heap[gb118]? = some (.cells #[.slice none 0 0] 30 (0, 0))) := ⟨h8_⟩
                have n9_ : Aside0 (w.heap.size ≤ gb118) := ⟨h9_⟩
                have n10_ : Aside0 (w.heap.size ≤ gb118) := ⟨h10_⟩
                have n11_ : Aside0 (gb108 ≠ gb118) := ⟨h11_⟩
                have n12_ : Aside0 (gb118 ≠ gb108) := ⟨h12_⟩
                have n13_ : Aside0 (gb109 ≠ gb118) := ⟨h13_⟩
                have n14_ : Aside0 (gb118 ≠ gb109) := ⟨h14_⟩
                have n15_ : Aside0 (gb110 ≠ gb118) := ⟨h15_⟩
                have n16_ : Aside0 (gb118 ≠ gb110) := ⟨h16_⟩
                have n17_ : Aside0 (Below w.heap.size w w87) := ⟨h17_⟩
                clear HO0_0 HO2_0 BK108 BK109 BK110 HB
                clear h0_ h1_ h2_ h3_ h4_ h5_ h6_ h7_ h8_ h9_ h10_ h11_ h12_ h13_ h14_ h15_ h16_ h17_
                have HO0_0 := n0_
                have HO111 := n1_
                have HO113 := n2_
                have HO117 := n3_
                have HO2_0 := n4_
                have BK108 := n5_
                have BK109 := n6_
                have BK110 := n7_
                have BK118 := n8_
                have GW118 := n9_
                have GE118 := n10_
                have NB108_118 := n11_
                have NB118_108 := n12_
                have NB109_118 := n13_
                have NB118_109 := n14_
                have NB110_118 := n15_
                have NB118_110 := n16_
                have HB := n17_
                clear n0_ n1_ n2_ n3_ n4_ n5_ n6_ n7_ n8_ n9_ n10_ n11_ n12_ n13_ n14_ n15_ n16_ n17_
                have hHeld : w87.cell? ⟨gb108, 0, none⟩ = some (.slice (some ad195) l0_0.length c0_0) ∧ w87.cell? ⟨gb109, 0, none⟩ = some (.slice (some ad194) l2_0.length c2_0) := hS_
                obtain ⟨Ao88, co88, eo88⟩ := Kd.R_slice HO117.out
                (first | subst eo88 | (injection eo88 with f1_ f2_ f3_; have f4_ := f1_.symm; have f5_ := f3_.symm; clear f1_ f2_ f3_; subst f4_; subst f5_))
                refine norm_ (a' := ?_) ?_ ?_
                rotate_left
                · simp only [putAll, Act.put, List.setIfInBounds_toArray, List.set_cons_zero, List.set_cons_succ]
                  rfl
                refine one_ (i := 12) (N := none) #[true, true, true, true, true, true, true, true, true, true, true, true, true, false] rfl rfl (one_of HT_.out (by kernel_rfl)) (by decide) (fun K hK => ?_)
                have hs89 : w87.cell? ⟨gb118, 0, none⟩ = some (.slice none 0 0) := (blk_cell BK118.out 0).trans rfl
                have hfs89 := blk_frozen BK118.out 0
                have hns89_0 := NB108_118.out
                have hns89_1 := NB109_118.out
                have hns89_2 := NB110_118.out
                have hms89_0 := NB118_108.out
                have hms89_1 := NB118_109.out
                have hms89_2 := NB118_110.out
                refine skip_ (w1 := ?_) (by rfl) rfl ?_ ?_
                rotate_left
                · go_simp
                  rfl
                refine hK.out _ _ ⟨((cell_far (p := ⟨gb118, _, none⟩) NB108_118.out _).trans (hHeld.1)), ((cell_far (p := ⟨gb118, _, none⟩) NB109_118.out _).trans (hHeld.2))⟩ (fun hHeld => ?_)
                clear hK K
                refine pure_ (i := 13) (N := some 14) (v := ?_) (a' := ?_) #[true, true, true, true, true, true, true, true, true, true, true, true, true, true] rfl rfl (any_of HT_.out (by kernel_rfl)) (fun _ _ _ h => h) (Or.inl ⟨(by rfl), ?_⟩) ?_ ?_
                rotate_left
                · exact z10
                rotate_left
                · exact z1
                refine done_ (done_of HT_.out (by kernel_rfl)) ?_
                have hnb90 := NB110_118.out
                have hnc90 := NB118_110.out
                obtain ⟨hcz91_0, hfz91_0⟩ := zC1 BK110.out
                try go_wp2
                refine bodyPost_ret (results_ctt rfl _ _ gb110 30 #[.slice none 0 0] (0, 0) _ rfl (by (with_reducible repeat (first | refine blk_drewN ?_ _ | refine blk_drew ?_ | refine blk_alloc ?_ _)); refine blk_put (cs := #[.slice none 0 0]) ?_ 0 _ rfl; (with_reducible repeat (first | refine blk_drewN ?_ _ | refine blk_drew ?_ | refine blk_alloc ?_ _)); refine blk_far ?_ NB110_118.out _; (with_reducible repeat (first | refine blk_drewN ?_ _ | refine blk_drew ?_ | refine blk_alloc ?_ _)); exact BK110.out) Try.underlying30 rfl (by kernel_rfl)) rfl ?_
                exact ⟨_, _, z60, z28, z28, z3⟩
            · rw [if_neg c12] at H
              exact absurd H (by simp)
          · rw [if_neg c11] at H
            have c11b0 : ((rd l0_0 (ji8)) == (rd l2_0 0)) = false := beq_eq_false_iff_ne.mpr c11
            have c11b1 : ((rd l0_0 (ji8)) != (rd l2_0 0)) = true := bne_iff_ne.mpr c11
            simp only [Option.some.injEq, Prod.mk.injEq] at H
            obtain ⟨rfl, rfl, rfl⟩ := H
            go_enter Try.func18, Try.ntmps18
            go_wp2_with (first | ((with_reducible refine gate_dst (N := 4) rfl ?_); refine box_event ?hg (N := 4) ?hd (cs := #[.slice A0_0 l0_0.length c0_0]) (t := 30) ?hr ?_; (case hd => rfl); (case hg => rfl); (case hr => first | (go_simp; done) | (go_simp; rfl)); intro gb108 hg w92 hbox hb; have n0_ := Aside0.mk (Kd.V_below (Kd.V_elderB z14 gb108 (Nat.le_of_eq hg.symm)) hb); have n1_ := Aside0.mk (Kd.V_below (Kd.V_elderB z15 gb108 (Nat.le_of_eq hg.symm)) hb); have n2_ := Aside0.mk (below_step z5 hb); have n3_ := Aside0.mk (hbox); have n4_ := Aside0.mk ((z86 : w.heap.size ≤ gb108)); have n5_ := Aside0.mk ((z86 : w.heap.size ≤ gb108)); clear HO0_0 HO2_0 HB; have HO0_0 := n0_; have HO2_0 := n1_; have HB := n2_; have BK108 := n3_; have GW108 := n4_; have GE108 := n5_; clear n0_ n1_ n2_ n3_ n4_ n5_; clear hb hbox hg) | ((with_reducible refine gate_dst (N := 6) rfl ?_); refine box_event ?hg (N := 6) ?hd (cs := #[.slice A2_0 l2_0.length c2_0]) (t := 30) ?hr ?_; (case hd => rfl); (case hg => rfl); (case hr => first | (go_simp; done) | (go_simp; rfl)); intro gb109 hg w93 hbox hb; have n0_ := Aside0.mk (Kd.V_below (Kd.V_elderB z14 gb109 (Nat.le_of_eq hg.symm)) hb); have n1_ := Aside0.mk (Kd.V_below (Kd.V_elderB z15 gb109 (Nat.le_of_eq hg.symm)) hb); have n2_ := zBB BK108 hb; have n3_ := Aside0.mk (below_step z22 hb); have n4_ := Aside0.mk (hbox); have n5_ := Aside0.mk ((z102 : w.heap.size ≤ gb109)); have n6_ := Aside0.mk ((z102 : w.heap.size ≤ gb109)); have n7_ := Aside0.mk ((z89 : gb108 ≠ gb109)); have n8_ := Aside0.mk ((z90 : gb109 ≠ gb108)); clear HO0_0 HO2_0 BK108 HB; have HO0_0 := n0_; have HO2_0 := n1_; have BK108 := n2_; have HB := n3_; have BK109 := n4_; have GW109 := n5_; have GE109 := n6_; have NB108_109 := n7_; have NB109_108 := n8_; clear n0_ n1_ n2_ n3_ n4_ n5_ n6_ n7_ n8_; clear hb hbox hg) | ((with_reducible refine gate_dst (N := 8) rfl ?_); refine box_event ?hg (N := 8) ?hd (cs := #[.slice none 0 0]) (t := 30) ?hr ?_; (case hd => rfl); (case hg => rfl); (case hr => first | (go_simp; done) | (go_simp; rfl)); intro gb110 hg w94 hbox hb; have n0_ := Aside0.mk (Kd.V_below (Kd.V_elderB z14 gb110 (Nat.le_of_eq hg.symm)) hb); have n1_ := Aside0.mk (Kd.V_below (Kd.V_elderB z15 gb110 (Nat.le_of_eq hg.symm)) hb); have n2_ := zBB BK108 hb; have n3_ := zBB BK109 hb; have n4_ := Aside0.mk (below_step z19 hb); have n5_ := Aside0.mk (hbox); have n6_ := Aside0.mk ((z103 : w.heap.size ≤ gb110)); have n7_ := Aside0.mk ((z103 : w.heap.size ≤ gb110)); have n8_ := Aside0.mk ((z89 : gb108 ≠ gb110)); have n9_ := Aside0.mk ((z90 : gb110 ≠ gb108)); have n10_ := Aside0.mk ((z100 : gb109 ≠ gb110)); have n11_ := Aside0.mk ((z101 : gb110 ≠ gb109)); clear HO0_0 HO2_0 BK108 BK109 HB; have HO0_0 := n0_; have HO2_0 := n1_; have BK108 := n2_; have BK109 := n3_; have HB := n4_; have BK110 := n5_; have GW110 := n6_; have GE110 := n7_; have NB108_110 := n8_; have NB110_108 := n9_; have NB109_110 := n10_; have NB110_109 := n11_; clear n0_ n1_ n2_ n3_ n4_ n5_ n6_ n7_ n8_ n9_ n10_ n11_; clear hb hbox hg; have hnb95 := NB108_109.out; have hnc95 := NB109_108.out; have hnb96 := NB108_110.out; have hnc96 := NB110_108.out; obtain ⟨hcz97_0, hfz97_0⟩ := zC1 BK108.out; have hnb98 := NB109_110.out; have hnc98 := NB110_109.out; obtain ⟨hcz99_0, hfz99_0⟩ := zC1 BK109.out) | ((with_reducible refine gate_callee (f := 43) rfl ?_); refine goesL_ (some 25) rfl rfl Try.func43 (by kernel_rfl) rfl #[.agg #[.slice A0_0 l0_0.length c0_0], .slice A1 l1.length c1, .agg #[.slice A2_0 l2_0.length c2_0], .slice A3 l3.length c3] rfl z9 ?_; (with_reducible refine (impl_twoCode.calls k _ _ l0_0 _ _ l1 _ _ l2_0 _ _ l3 t100 _ ?side1 ?side2 ?side3 ?side4 ?side5 ?side6 ?side7 ?side8 A5.out).mono ?_); (case side1 => exact z49); (case side2 => exact (Kd.V_reads' HO0_0.out).2.1); (case side3 => exact z27); (case side4 => exact HC1.out); (case side5 => exact z46); (case side6 => exact (Kd.V_reads' HO2_0.out).2.1); (case side7 => exact z39); (case side8 => exact HC3.out); rintro e w100 ⟨rfl, hb⟩; refine ⟨_, rfl, ?_⟩; have n0_ := Aside0.mk (Kd.V_below z14 hb); have n1_ := Aside0.mk (Kd.V_below z15 hb); have n2_ := zBB BK108 hb; have n3_ := zBB BK109 hb; have n4_ := zBB BK110 hb; have n5_ := Aside0.mk (below_step z2 hb); clear HO0_0 HO2_0 BK108 BK109 BK110 HB; have HO0_0 := n0_; have HO2_0 := n1_; have BK108 := n2_; have BK109 := n3_; have BK110 := n4_; have HB := n5_; clear n0_ n1_ n2_ n3_ n4_ n5_; (try clear hb); (try clear hb2); (try clear hk); (try clear hi); obtain ⟨hcz101_0, hfz101_0⟩ := zC1 BK109.out; have p194 : 0 ≤ (0 : Int) := (by omega); have q194 : 0 < (l2_0.length : Int) := of_decide_eq_true z12; obtain ⟨ad194, e194, hx194_0⟩ := Kd.at_int (Kd.V_reads' HO2_0.out).2.2 0 p194 q194; cases e194; have qi194 : (0 < l2_0.length) = True := eq_true (by omega); (try rw [show ((0 : Int)).toNat = 0 from rfl] at hx194_0); (try rw [Addr.add_zero'] at hx194_0); replace p194 := eq_true p194; replace q194 := eq_true q194; obtain ⟨hcz102_0, hfz102_0⟩ := zC1 BK108.out; have p195 : 0 ≤ ((ji8) : Int) := of_decide_eq_true z12; have q195 : (ji8) < (l0_0.length : Int) := of_decide_eq_true z12; obtain ⟨ad195, e195, hx195_0⟩ := Kd.at_int (Kd.V_reads' HO0_0.out).2.2 (ji8) p195 q195; cases e195; replace p195 := eq_true p195; replace q195 := eq_true q195; obtain ⟨hcz103_0, hfz103_0⟩ := zC1 BK110.out))
            refine bodyPost_ret (results_ctt rfl _ _ gb110 30 #[.slice none 0 0] (0, 0) _ rfl z25 Try.underlying30 rfl (by kernel_rfl)) rfl ?_
            exact ⟨_, _, z60, z28, z28, z2⟩
        · rw [if_neg c10] at H
          exact absurd H (by simp)
      · rw [if_neg c9] at H
        exact absurd H (by simp)
    · rw [if_neg c7] at H
      exact absurd H (by simp)
  · rw [if_neg c6] at H
    have c6b0 : (t100 == 0) = false := beq_eq_false_iff_ne.mpr c6
    have c6b1 : (t100 != 0) = true := bne_iff_ne.mpr c6
    simp only [Option.some.injEq, Prod.mk.injEq] at H
    obtain ⟨rfl, rfl, rfl⟩ := H
    go_enter Try.func18, Try.ntmps18
    go_wp2_with (first | ((with_reducible refine gate_dst (N := 4) rfl ?_); refine box_event ?hg (N := 4) ?hd (cs := #[.slice A0_0 l0_0.length c0_0]) (t := 30) ?hr ?_; (case hd => rfl); (case hg => rfl); (case hr => first | (go_simp; done) | (go_simp; rfl)); intro gb108 hg w104 hbox hb; have n0_ := Aside0.mk (Kd.V_below (Kd.V_elderB z14 gb108 (Nat.le_of_eq hg.symm)) hb); have n1_ := Aside0.mk (Kd.V_below (Kd.V_elderB z15 gb108 (Nat.le_of_eq hg.symm)) hb); have n2_ := Aside0.mk (below_step z5 hb); have n3_ := Aside0.mk (hbox); have n4_ := Aside0.mk ((z86 : w.heap.size ≤ gb108)); have n5_ := Aside0.mk ((z86 : w.heap.size ≤ gb108)); clear HO0_0 HO2_0 HB; have HO0_0 := n0_; have HO2_0 := n1_; have HB := n2_; have BK108 := n3_; have GW108 := n4_; have GE108 := n5_; clear n0_ n1_ n2_ n3_ n4_ n5_; clear hb hbox hg) | ((with_reducible refine gate_dst (N := 6) rfl ?_); refine box_event ?hg (N := 6) ?hd (cs := #[.slice A2_0 l2_0.length c2_0]) (t := 30) ?hr ?_; (case hd => rfl); (case hg => rfl); (case hr => first | (go_simp; done) | (go_simp; rfl)); intro gb109 hg w105 hbox hb; have n0_ := Aside0.mk (Kd.V_below (Kd.V_elderB z14 gb109 (Nat.le_of_eq hg.symm)) hb); have n1_ := Aside0.mk (Kd.V_below (Kd.V_elderB z15 gb109 (Nat.le_of_eq hg.symm)) hb); have n2_ := zBB BK108 hb; have n3_ := Aside0.mk (below_step z22 hb); have n4_ := Aside0.mk (hbox); have n5_ := Aside0.mk ((z102 : w.heap.size ≤ gb109)); have n6_ := Aside0.mk ((z102 : w.heap.size ≤ gb109)); have n7_ := Aside0.mk ((z89 : gb108 ≠ gb109)); have n8_ := Aside0.mk ((z90 : gb109 ≠ gb108)); clear HO0_0 HO2_0 BK108 HB; have HO0_0 := n0_; have HO2_0 := n1_; have BK108 := n2_; have HB := n3_; have BK109 := n4_; have GW109 := n5_; have GE109 := n6_; have NB108_109 := n7_; have NB109_108 := n8_; clear n0_ n1_ n2_ n3_ n4_ n5_ n6_ n7_ n8_; clear hb hbox hg) | ((with_reducible refine gate_dst (N := 8) rfl ?_); refine box_event ?hg (N := 8) ?hd (cs := #[.slice none 0 0]) (t := 30) ?hr ?_; (case hd => rfl); (case hg => rfl); (case hr => first | (go_simp; done) | (go_simp; rfl)); intro gb110 hg w106 hbox hb; have n0_ := Aside0.mk (Kd.V_below (Kd.V_elderB z14 gb110 (Nat.le_of_eq hg.symm)) hb); have n1_ := Aside0.mk (Kd.V_below (Kd.V_elderB z15 gb110 (Nat.le_of_eq hg.symm)) hb); have n2_ := zBB BK108 hb; have n3_ := zBB BK109 hb; have n4_ := Aside0.mk (below_step z19 hb); have n5_ := Aside0.mk (hbox); have n6_ := Aside0.mk ((z103 : w.heap.size ≤ gb110)); have n7_ := Aside0.mk ((z103 : w.heap.size ≤ gb110)); have n8_ := Aside0.mk ((z89 : gb108 ≠ gb110)); have n9_ := Aside0.mk ((z90 : gb110 ≠ gb108)); have n10_ := Aside0.mk ((z100 : gb109 ≠ gb110)); have n11_ := Aside0.mk ((z101 : gb110 ≠ gb109)); clear HO0_0 HO2_0 BK108 BK109 HB; have HO0_0 := n0_; have HO2_0 := n1_; have BK108 := n2_; have BK109 := n3_; have HB := n4_; have BK110 := n5_; have GW110 := n6_; have GE110 := n7_; have NB108_110 := n8_; have NB110_108 := n9_; have NB109_110 := n10_; have NB110_109 := n11_; clear n0_ n1_ n2_ n3_ n4_ n5_ n6_ n7_ n8_ n9_ n10_ n11_; clear hb hbox hg; have hnb107 := NB108_109.out; have hnc107 := NB109_108.out; have hnb108 := NB108_110.out; have hnc108 := NB110_108.out; obtain ⟨hcz109_0, hfz109_0⟩ := zC1 BK108.out; have hnb110 := NB109_110.out; have hnc110 := NB110_109.out; obtain ⟨hcz111_0, hfz111_0⟩ := zC1 BK109.out) | ((with_reducible refine gate_callee (f := 43) rfl ?_); refine goesL_ (some 25) rfl rfl Try.func43 (by kernel_rfl) rfl #[.agg #[.slice A0_0 l0_0.length c0_0], .slice A1 l1.length c1, .agg #[.slice A2_0 l2_0.length c2_0], .slice A3 l3.length c3] rfl z9 ?_; (with_reducible refine (impl_twoCode.calls k _ _ l0_0 _ _ l1 _ _ l2_0 _ _ l3 t100 _ ?side1 ?side2 ?side3 ?side4 ?side5 ?side6 ?side7 ?side8 A5.out).mono ?_); (case side1 => exact z49); (case side2 => exact (Kd.V_reads' HO0_0.out).2.1); (case side3 => exact z27); (case side4 => exact HC1.out); (case side5 => exact z46); (case side6 => exact (Kd.V_reads' HO2_0.out).2.1); (case side7 => exact z39); (case side8 => exact HC3.out); rintro e w112 ⟨rfl, hb⟩; refine ⟨_, rfl, ?_⟩; have n0_ := Aside0.mk (Kd.V_below z14 hb); have n1_ := Aside0.mk (Kd.V_below z15 hb); have n2_ := zBB BK108 hb; have n3_ := zBB BK109 hb; have n4_ := zBB BK110 hb; have n5_ := Aside0.mk (below_step z2 hb); clear HO0_0 HO2_0 BK108 BK109 BK110 HB; have HO0_0 := n0_; have HO2_0 := n1_; have BK108 := n2_; have BK109 := n3_; have BK110 := n4_; have HB := n5_; clear n0_ n1_ n2_ n3_ n4_ n5_; (try clear hb); (try clear hb2); (try clear hk); (try clear hi); obtain ⟨hcz113_0, hfz113_0⟩ := zC1 BK110.out))
    refine bodyPost_ret (results_ctt rfl _ _ gb110 30 #[.slice none 0 0] (0, 0) _ rfl z25 Try.underlying30 rfl (by kernel_rfl)) rfl ?_
    exact ⟨_, _, z17, z28, z28, z2⟩

end Go.Proofs.Ythbfaefneoeadaa.PFnExactJoinOverPlace
