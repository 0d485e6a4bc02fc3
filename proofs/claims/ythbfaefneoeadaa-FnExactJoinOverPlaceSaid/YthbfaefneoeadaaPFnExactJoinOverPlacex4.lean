-- WALKS, by a program and by hand
import Derived.Test.YthbfaefneoeadaaPFnExactJoinOverPlacex0
import Derived.Test.YthbfaefneoeadaaPFnExactJoinOverPlacex1
import Derived.Test.YthbfaefneoeadaaPFnExactJoinOverPlacex2
import Derived.Test.YthbfaefneoeadaaPFnExactJoinOverPlacex3
namespace Go.Proofs.Ythbfaefneoeadaa.PFnExactJoinOverPlace
open Go.RowKit Go.Proofs.Ythbfaefneoeadaa.DG Go.Proofs.YthbfaefneoeadaaW.PrintWords Go.Proofs.YthbfaefneoeadaaW.PrintLast Go.Proofs.YthbfaefneoeadaaW.PrintMore
attribute [local go_sem] max2_int min2_int max_two min_two max_three min_three max_four min_four   -- for this text's walks alone
set_option linter.unusedVariables false
set_option linter.unusedSimpArgs false

/-! ### spec_JoinOverPlace: function 16 -/
theorem zs_spec {k : IntKind} {e base : Nat} {w : World} {P P' Q : Nat → Prop} {u v : Value} {l m : List Int} (h : (Kd.int k).R e w base P v l) (g : (Kd.int k).R e w base Q u m) (hok : ∀ j, P j → some j ≠ u.ownBlock → P' j := by intro j h1 h2; first | exact h2 | exact ⟨h1, h2⟩) (hq : ∀ j, Q j → some j ≠ v.ownBlock := by intro j h1; first | exact h1 | exact h1.2 | exact h1.1) : (Kd.int k).R e w base P' v l :=
  ⟨fun j hj => hok j (h.1 j hj) (fun e => hq j (g.1 j e.symm) hj.symm), h.2.imp_ (fun _ _ hp => hp)⟩
mutual
def spec_JoinOverPlace.j0 : Nat → List Int → List Int → Bool → List Int → List Int → Option (List Int × List Int × Int)
  | 0, _, _, _, _, _ => none
  | k + 1, x1, x3, x17, x139000, x140000 => if x17 = true then (some (([] : List Int), ([] : List Int), 1)) else ((spec_l01Code.f k x139000 x1).bind fun t100 => (if t100 = true then ((spec_l01Code.f k x140000 x3).bind fun t101 => (spec_JoinOverPlace.j1 k x1 x3 (!t101) x139000 x140000)) else (spec_JoinOverPlace.j1 k x1 x3 true x139000 x140000)))
def spec_JoinOverPlace.j1 : Nat → List Int → List Int → Bool → List Int → List Int → Option (List Int × List Int × Int)
  | 0, _, _, _, _, _ => none
  | k + 1, x1, x3, x27, x139000, x140000 => if x27 = true then (some (([] : List Int), ([] : List Int), 2)) else (if 0 ≤ (wrap64 ((x139000.length : Int) - 1)) then (if (wrap64 ((x139000.length : Int) - 1)) < (x139000.length : Int) then (if 0 < (x140000.length : Int) then (if (rd x139000 (wrap64 ((x139000.length : Int) - 1))) = (rd x140000 0) then ((spec_l01Own.f x139000).bind fun t102 => (if 1 ≤ (x140000.length : Int) then (if t102.length + (x140000.drop 1).length < 17592186044416 then ((some (t102 ++ (x140000.drop 1) : List Int)).bind fun y103 => ((spec_l01Is.f k y103).bind fun t104 => (if t104 = true then ((spec_l01N.f k x140000).bind fun t105 => (if (rd x140000 0) = 0 then (none) else (spec_JoinOverPlace.l0 k x1 x3 (rd x140000 0) (wrap64 (Int.tdiv t105 (rd x140000 0))) (([] : List Int)) (x1.length : Int) 0 y103))) else (some (([] : List Int), ([] : List Int), 3))))) else (none)) else (none))) else (some (([] : List Int), ([] : List Int), 5))) else (none)) else (none)) else (none))
def spec_JoinOverPlace.l0 : Nat → List Int → List Int → Int → Int → List Int → Int → Int → List Int → Option (List Int × List Int × Int)
  | 0, _, _, _, _, _, _, _, _ => none
  | k + 1, x1, x3, x12, x13, x14, x79, x80, x155000 => if x80 < x79 then (spec_JoinOverPlace.l1 k x1 x3 x12 x13 x14 x80 x79 x80 (x3.length : Int) 0 x155000) else (some (x155000, x14, 0))
def spec_JoinOverPlace.l1 : Nat → List Int → List Int → Int → Int → List Int → Int → Int → Int → Int → Int → List Int → Option (List Int × List Int × Int)
  | 0, _, _, _, _, _, _, _, _, _, _, _ => none
  | k + 1, x1, x3, x12, x13, x14, x15, x79, x80, x84, x85, x155000 => if x85 < x84 then (if 0 ≤ x15 then (if x15 < (x1.length : Int) then (if x12 = 0 then (none) else (if 0 ≤ x85 then (if x85 < (x3.length : Int) then (if x13 = 0 then (none) else (if (Int.tmod (rd x1 x15) x12) = (wrap64 (Int.tdiv (rd x3 x85) x13)) then (if x14.length < 17592186044416 then (spec_JoinOverPlace.l1 k x1 x3 x12 x13 (x14 ++ [wrap64 ((wrap64 ((rd x1 x15) * x13)) + (Int.tmod (rd x3 x85) x13))]) x15 x79 x80 x84 (wrap64 (x85 + 1)) x155000) else (none)) else (spec_JoinOverPlace.l1 k x1 x3 x12 x13 x14 x15 x79 x80 x84 (wrap64 (x85 + 1)) x155000))) else (none)) else (none))) else (none)) else (none)) else (spec_JoinOverPlace.l0 k x1 x3 x12 x13 x14 x79 (wrap64 (x80 + 1)) x155000)
end
def spec_JoinOverPlace.f (k : Nat) (l0_0 : List Int) (l1 : List Int) (l2_0 : List Int) (l3 : List Int) : Option (List Int × List Int × Int) := (spec_l01Is.f k l0_0).bind fun t106 => (if t106 = true then ((spec_l01Is.f k l2_0).bind fun t107 => (spec_JoinOverPlace.j0 k l1 l3 (!t107) l0_0 l2_0)) else (spec_JoinOverPlace.j0 k l1 l3 true l0_0 l2_0))
theorem spec_JoinOverPlace.mono_l : ∀ k, (∀ y0 y1 y2 y3 y4, LeO (spec_JoinOverPlace.j0 k y0 y1 y2 y3 y4) (spec_JoinOverPlace.j0 (k + 1) y0 y1 y2 y3 y4)) ∧ (∀ y0 y1 y2 y3 y4, LeO (spec_JoinOverPlace.j1 k y0 y1 y2 y3 y4) (spec_JoinOverPlace.j1 (k + 1) y0 y1 y2 y3 y4)) ∧ (∀ y0 y1 y2 y3 y4 y5 y6 y7, LeO (spec_JoinOverPlace.l0 k y0 y1 y2 y3 y4 y5 y6 y7) (spec_JoinOverPlace.l0 (k + 1) y0 y1 y2 y3 y4 y5 y6 y7)) ∧ (∀ y0 y1 y2 y3 y4 y5 y6 y7 y8 y9 y10, LeO (spec_JoinOverPlace.l1 k y0 y1 y2 y3 y4 y5 y6 y7 y8 y9 y10) (spec_JoinOverPlace.l1 (k + 1) y0 y1 y2 y3 y4 y5 y6 y7 y8 y9 y10))
  | 0 => ⟨fun _ _ _ _ _ r h => by simp [spec_JoinOverPlace.j0] at h, fun _ _ _ _ _ r h => by simp [spec_JoinOverPlace.j1] at h, fun _ _ _ _ _ _ _ _ r h => by simp [spec_JoinOverPlace.l0] at h, fun _ _ _ _ _ _ _ _ _ _ _ r h => by simp [spec_JoinOverPlace.l1] at h⟩
  | k + 1 => by
    obtain ⟨ih0, ih1, ih2, ih3⟩ := spec_JoinOverPlace.mono_l k
    refine ⟨?_, ?_, ?_, ?_⟩
    · intro y0 y1 y2 y3 y4
      unfold spec_JoinOverPlace.j0
      repeat' first
      | (with_reducible exact ih0 _ _ _ _ _)
      | (with_reducible exact ih1 _ _ _ _ _)
      | (with_reducible exact ih2 _ _ _ _ _ _ _ _)
      | (with_reducible exact ih3 _ _ _ _ _ _ _ _ _ _ _)
      | (with_reducible exact spec_l01Code.mono _ _ _)
      | (with_reducible exact spec_l01Is.mono _ _)
      | (with_reducible exact spec_l01N.mono _ _)
      | (with_reducible exact LeO.refl _)
      | (with_reducible exact LeO.none _)
      | (with_reducible refine LeO.ite ?_ ?_)
      | (with_reducible refine LeO.bind ?_ (fun _ => ?_))
    · intro y0 y1 y2 y3 y4
      unfold spec_JoinOverPlace.j1
      repeat' first
      | (with_reducible exact ih0 _ _ _ _ _)
      | (with_reducible exact ih1 _ _ _ _ _)
      | (with_reducible exact ih2 _ _ _ _ _ _ _ _)
      | (with_reducible exact ih3 _ _ _ _ _ _ _ _ _ _ _)
      | (with_reducible exact spec_l01Code.mono _ _ _)
      | (with_reducible exact spec_l01Is.mono _ _)
      | (with_reducible exact spec_l01N.mono _ _)
      | (with_reducible exact LeO.refl _)
      | (with_reducible exact LeO.none _)
      | (with_reducible refine LeO.ite ?_ ?_)
      | (with_reducible refine LeO.bind ?_ (fun _ => ?_))
    · intro y0 y1 y2 y3 y4 y5 y6 y7
      unfold spec_JoinOverPlace.l0
      repeat' first
      | (with_reducible exact ih0 _ _ _ _ _)
      | (with_reducible exact ih1 _ _ _ _ _)
      | (with_reducible exact ih2 _ _ _ _ _ _ _ _)
      | (with_reducible exact ih3 _ _ _ _ _ _ _ _ _ _ _)
      | (with_reducible exact spec_l01Code.mono _ _ _)
      | (with_reducible exact spec_l01Is.mono _ _)
      | (with_reducible exact spec_l01N.mono _ _)
      | (with_reducible exact LeO.refl _)
      | (with_reducible exact LeO.none _)
      | (with_reducible refine LeO.ite ?_ ?_)
      | (with_reducible refine LeO.bind ?_ (fun _ => ?_))
    · intro y0 y1 y2 y3 y4 y5 y6 y7 y8 y9 y10
      unfold spec_JoinOverPlace.l1
      repeat' first
      | (with_reducible exact ih0 _ _ _ _ _)
      | (with_reducible exact ih1 _ _ _ _ _)
      | (with_reducible exact ih2 _ _ _ _ _ _ _ _)
      | (with_reducible exact ih3 _ _ _ _ _ _ _ _ _ _ _)
      | (with_reducible exact spec_l01Code.mono _ _ _)
      | (with_reducible exact spec_l01Is.mono _ _)
      | (with_reducible exact spec_l01N.mono _ _)
      | (with_reducible exact LeO.refl _)
      | (with_reducible exact LeO.none _)
      | (with_reducible refine LeO.ite ?_ ?_)
      | (with_reducible refine LeO.bind ?_ (fun _ => ?_))
theorem spec_JoinOverPlace.mono : ∀ a0 a1 a2 a3 k, LeO (spec_JoinOverPlace.f k a0 a1 a2 a3) (spec_JoinOverPlace.f (k + 1) a0 a1 a2 a3) := by
  intro a0 a1 a2 a3 k
  obtain ⟨ih0, ih1, ih2, ih3⟩ := spec_JoinOverPlace.mono_l k
  unfold spec_JoinOverPlace.f
  repeat' first
      | (with_reducible exact ih0 _ _ _ _ _)
      | (with_reducible exact ih1 _ _ _ _ _)
      | (with_reducible exact ih2 _ _ _ _ _ _ _ _)
      | (with_reducible exact ih3 _ _ _ _ _ _ _ _ _ _ _)
      | (with_reducible exact spec_l01Code.mono _ _ _)
      | (with_reducible exact spec_l01Is.mono _ _)
      | (with_reducible exact spec_l01N.mono _ _)
      | (with_reducible exact LeO.refl _)
      | (with_reducible exact LeO.none _)
      | (with_reducible refine LeO.ite ?_ ?_)
      | (with_reducible refine LeO.bind ?_ (fun _ => ?_))
def spec_JoinOverPlace.T5 : Bool × List (List Nat × List Nat) := (true, [([], []), ([0], [0]), ([], []), ([2], [2]), ([3], [3]), ([4], [4]), ([1, 5], [1, 5]), ([6], [6]), ([], []), ([8], [8]), ([9], [9]), ([10], [10]), ([7, 11], [7, 11]), ([12], [12])])
def spec_JoinOverPlace.B5 : List Nat := [0, 1, 0, 4, 12, 28, 63, 127, 0, 256, 768, 1792, 4095, 8191]
theorem spec_JoinOverPlace.tab5 : rtab .any (opsOf Try.f16 5) = spec_JoinOverPlace.T5 := by kernel_rfl
theorem spec_JoinOverPlace.bits5 : waitsOk spec_JoinOverPlace.T5.2 spec_JoinOverPlace.B5 = true := by kernel_rfl
def spec_JoinOverPlace.T7 : Bool × List (List Nat × List Nat) := (true, [([], []), ([0], [0]), ([1], [1]), ([], []), ([3], [3]), ([4], [4]), ([2, 5, 2], [2, 5]), ([6], [6]), ([], []), ([8, 7, 6, 0, 1, 2, 3, 4, 5, 6, 7, 8], [7, 8])])
def spec_JoinOverPlace.B7 : List Nat := [0, 1, 3, 0, 8, 24, 63, 127, 0, 511]
theorem spec_JoinOverPlace.tab7 : rtab .any (opsOf Try.f16 7) = spec_JoinOverPlace.T7 := by kernel_rfl
theorem spec_JoinOverPlace.bits7 : waitsOk spec_JoinOverPlace.T7.2 spec_JoinOverPlace.B7 = true := by kernel_rfl
def spec_JoinOverPlace.T10 : Bool × List (List Nat × List Nat) := (true, [([], []), ([0], [0]), ([1], [1]), ([2], [2]), ([], []), ([4], [4]), ([], []), ([6], [6]), ([7], [7]), ([8], [8]), ([5, 9], [5, 9]), ([], []), ([3, 5, 0, 1, 2, 3], [3]), ([10, 12, 0, 1, 2, 3, 4, 5, 6, 7, 8, 9, 10, 12], [10]), ([11, 13, 0, 1, 2, 3, 4, 5, 6, 7, 8, 9, 10, 11, 12, 13], [11])])
def spec_JoinOverPlace.B10 : List Nat := [0, 1, 3, 7, 0, 16, 0, 64, 192, 448, 1008, 0, 63, 6143, 16383]
theorem spec_JoinOverPlace.tab10 : rtab .any (opsOf Try.f16 10) = spec_JoinOverPlace.T10 := by kernel_rfl
theorem spec_JoinOverPlace.bits10 : waitsOk spec_JoinOverPlace.T10.2 spec_JoinOverPlace.B10 = true := by kernel_rfl
def spec_JoinOverPlace.T17 : Bool × List (List Nat × List Nat) := (true, [([], []), ([], []), ([0, 1], [0, 1]), ([2], [2]), ([], []), ([3, 4], [3, 4]), ([], []), ([], []), ([6, 7], [6, 7]), ([8], [8]), ([], []), ([9, 10], [9, 10]), ([5, 11], [5, 11])])
def spec_JoinOverPlace.B17 : List Nat := [0, 0, 3, 7, 0, 31, 0, 0, 192, 448, 0, 1984, 4095]
theorem spec_JoinOverPlace.tab17 : rtab .any (opsOf Try.f16 17) = spec_JoinOverPlace.T17 := by kernel_rfl
theorem spec_JoinOverPlace.bits17 : waitsOk spec_JoinOverPlace.T17.2 spec_JoinOverPlace.B17 = true := by kernel_rfl
def spec_JoinOverPlace.T18 : Bool × List (List Nat × List Nat) := (true, [([], []), ([], []), ([], []), ([1, 2], [1, 2]), ([3], [3]), ([], []), ([4, 5], [4, 5]), ([], []), ([], []), ([7, 8], [7, 8]), ([9], [9]), ([], []), ([10, 11], [10, 11]), ([6, 12], [6, 12]), ([13], [13]), ([0, 14], [0, 14]), ([15, 15, 0, 1, 2, 3, 4, 5, 6, 7, 8, 9, 10, 11, 12, 13, 14, 15], [0, 15])])
def spec_JoinOverPlace.B18 : List Nat := [0, 0, 0, 6, 14, 0, 62, 0, 0, 384, 896, 0, 3968, 8190, 16382, 32767, 65535]
theorem spec_JoinOverPlace.tab18 : rtab .any (opsOf Try.f16 18) = spec_JoinOverPlace.T18 := by kernel_rfl
theorem spec_JoinOverPlace.bits18 : waitsOk spec_JoinOverPlace.T18.2 spec_JoinOverPlace.B18 = true := by kernel_rfl
set_option maxHeartbeats 8000000 in
set_option maxRecDepth 100000 in
theorem spec_JoinOverPlace.calls (k : Nat) (A0_0 : Option Addr) (c0_0 : Nat) (l0_0 : List Int) (A1 : Option Addr) (c1 : Nat) (l1 : List Int) (A2_0 : Option Addr) (c2_0 : Nat) (l2_0 : List Int) (A3 : Option Addr) (c3 : Nat) (l3 : List Int) (r1 : List Int) (r2 : List Int) (r3 : Int) (w : World) (hr0_0 : Kd.C (Kd.int .i64) w A0_0 l0_0.length l0_0) (hc0_0 : l0_0.length ≤ c0_0) (hr1 : Kd.C (Kd.int .i64) w A1 l1.length l1) (hc1 : l1.length ≤ c1) (hr2_0 : Kd.C (Kd.int .i64) w A2_0 l2_0.length l2_0) (hc2_0 : l2_0.length ≤ c2_0) (hr3 : Kd.C (Kd.int .i64) w A3 l3.length l3) (hc3 : l3.length ≤ c3) (h : spec_JoinOverPlace.f k l0_0 l1 l2_0 l3 = some (r1, r2, r3)) :
    Calls Try.prog 16 #[.agg #[.slice A0_0 l0_0.length c0_0], .slice A1 l1.length c1, .agg #[.slice A2_0 l2_0.length c2_0], .slice A3 l3.length c3] w fun e w' => ∃ v0_ v1_ : Value, e = .returned (.tuple #[.agg #[v0_], v1_, .int .i64 r3]) ∧ Kd.R (Kd.int .i64) 2 w' w.heap.size (fun k_ => some k_ ≠ (v1_ : Value).ownBlock) v0_ r1 ∧ Kd.R (Kd.int .i64) 2 w' w.heap.size (fun k_ => some k_ ≠ (v0_ : Value).ownBlock) v1_ r2 ∧ Below w.heap.size w w' := by
  have hu30 := Try.underlying30
  have HR0_0 := Aside0.mk hr0_0
  have HC0_0 := Aside0.mk hc0_0
  clear hr0_0 hc0_0
  have HR1 := Aside0.mk hr1
  have HC1 := Aside0.mk hc1
  clear hr1 hc1
  have HR2_0 := Aside0.mk hr2_0
  have HC2_0 := Aside0.mk hc2_0
  clear hr2_0 hc2_0
  have HR3 := Aside0.mk hr3
  have HC3 := Aside0.mk hc3
  clear hr3 hc3
  have HB := Aside0.mk (Below.refl w.heap.size w)
  have H := h
  unfold spec_JoinOverPlace.f at H
  (try dsimp -simprocs only at H)
  clear h
  have HC5 := Aside0.mk H
  clear H
  go_enter Try.func16, Try.ntmps16
  go_upto_region 1 with (first | ((with_reducible refine gate_dst (N := 4) rfl ?_); refine box_event ?hg (N := 4) ?hd (cs := #[.slice A0_0 l0_0.length c0_0]) (t := 30) ?hr ?_; (case hd => rfl); (case hg => rfl); (case hr => first | (go_simp; done) | (go_simp; rfl)); intro gb108 hg w6 hbox hb; have n0_ := Aside0.mk (below_step z5 hb); have n1_ := Aside0.mk (hbox); have n2_ := Aside0.mk ((z86 : w.heap.size ≤ gb108)); have n3_ := Aside0.mk ((z86 : w.heap.size ≤ gb108)); clear HB; have HB := n0_; have BK108 := n1_; have GW108 := n2_; have GE108 := n3_; clear n0_ n1_ n2_ n3_; clear hb hbox hg) | ((with_reducible refine gate_dst (N := 6) rfl ?_); refine box_event ?hg (N := 6) ?hd (cs := #[.slice A2_0 l2_0.length c2_0]) (t := 30) ?hr ?_; (case hd => rfl); (case hg => rfl); (case hr => first | (go_simp; done) | (go_simp; rfl)); intro gb109 hg w7 hbox hb; have n0_ := zBB BK108 hb; have n1_ := Aside0.mk (below_step z22 hb); have n2_ := Aside0.mk (hbox); have n3_ := Aside0.mk ((z102 : w.heap.size ≤ gb109)); have n4_ := Aside0.mk ((z102 : w.heap.size ≤ gb109)); have n5_ := Aside0.mk ((z89 : gb108 ≠ gb109)); have n6_ := Aside0.mk ((z90 : gb109 ≠ gb108)); clear BK108 HB; have BK108 := n0_; have HB := n1_; have BK109 := n2_; have GW109 := n3_; have GE109 := n4_; have NB108_109 := n5_; have NB109_108 := n6_; clear n0_ n1_ n2_ n3_ n4_ n5_ n6_; clear hb hbox hg) | ((with_reducible refine gate_dst (N := 8) rfl ?_); refine box_event ?hg (N := 8) ?hd (cs := #[.slice none 0 0]) (t := 30) ?hr ?_; (case hd => rfl); (case hg => rfl); (case hr => first | (go_simp; done) | (go_simp; rfl)); intro gb110 hg w8 hbox hb; have n0_ := zBB BK108 hb; have n1_ := zBB BK109 hb; have n2_ := Aside0.mk (below_step z19 hb); have n3_ := Aside0.mk (hbox); have n4_ := Aside0.mk ((z103 : w.heap.size ≤ gb110)); have n5_ := Aside0.mk ((z103 : w.heap.size ≤ gb110)); have n6_ := Aside0.mk ((z89 : gb108 ≠ gb110)); have n7_ := Aside0.mk ((z90 : gb110 ≠ gb108)); have n8_ := Aside0.mk ((z100 : gb109 ≠ gb110)); have n9_ := Aside0.mk ((z101 : gb110 ≠ gb109)); clear BK108 BK109 HB; have BK108 := n0_; have BK109 := n1_; have HB := n2_; have BK110 := n3_; have GW110 := n4_; have GE110 := n5_; have NB108_110 := n6_; have NB110_108 := n7_; have NB109_110 := n8_; have NB110_109 := n9_; clear n0_ n1_ n2_ n3_ n4_ n5_ n6_ n7_ n8_ n9_; clear hb hbox hg))
  (try simp only [Act.put, List.setIfInBounds_toArray, List.set_cons_zero, List.set_cons_succ])
  go_cut [17] (fun v17 wc => ∃ (kq : Nat) (x17_4 : Bool), v17 = .bool x17_4 ∧ Aside0 (spec_JoinOverPlace.j0 kq l1 l3 x17_4 l0_0 l2_0 = some (r1, r2, r3)) ∧ Aside0 (kq ≤ k) ∧ Aside0 (wc.heap[gb108]? = some (.cells #[(.slice A0_0 l0_0.length c0_0)] 30 (0, 0))) ∧ Aside0 (wc.heap[gb109]? = some (.cells #[(.slice A2_0 l2_0.length c2_0)] 30 (0, 0))) ∧ Aside0 (wc.heap[gb110]? = some (.cells #[(.slice none 0 0)] 30 (0, 0))) ∧ Aside0 (Below w.heap.size w wc))
  case first =>
    have H := HC5.out
    clear HC5
    replace H := Option.bind_eq_some_iff.mp H
    obtain ⟨t106, A90, H⟩ := H
    (try dsimp -simprocs only at H)
    have A9 := Aside0.mk A90
    clear A90
    by_cases c10 : t106 = true
    · subst c10
      have H1 : ((spec_l01Is.f k l2_0).bind fun t107 => (spec_JoinOverPlace.j0 k l1 l3 (!t107) l0_0 l2_0)) = some (r1, r2, r3) := by rw [if_pos rfl] at H; exact H
      clear H
      have H := H1
      clear H1
      replace H := Option.bind_eq_some_iff.mp H
      obtain ⟨t107, A110, H⟩ := H
      (try dsimp -simprocs only at H)
      have A11 := Aside0.mk A110
      clear A110
      have H' := Aside0.mk H
      clear H
      have hnb12 := NB108_109.out
      have hnc12 := NB109_108.out
      have hnb13 := NB108_110.out
      have hnc13 := NB110_108.out
      obtain ⟨hcz14_0, hfz14_0⟩ := zC1 BK108.out
      go_wp2_with (first | ((with_reducible refine gate_callee (f := 33) rfl ?_); refine goesL_ (some 19) rfl rfl Try.func33 (by kernel_rfl) rfl #[.agg #[.slice A0_0 l0_0.length c0_0]] rfl z9 ?_; (with_reducible refine (spec_l01Is.calls k _ _ l0_0 true _ ?side1 ?side2 A9.out).mono ?_); (case side1 => exact z11); (case side2 => exact HC0_0.out); rintro e w15 ⟨rfl, hb⟩; refine ⟨_, rfl, ?_⟩; have n0_ := zBB BK108 hb; have n1_ := zBB BK109 hb; have n2_ := zBB BK110 hb; have n3_ := Aside0.mk (below_step z2 hb); clear BK108 BK109 BK110 HB; have BK108 := n0_; have BK109 := n1_; have BK110 := n2_; have HB := n3_; clear n0_ n1_ n2_ n3_; (try clear hb); (try clear hb2); (try clear hk); (try clear hi); have hnb16 := NB109_110.out; have hnc16 := NB110_109.out; obtain ⟨hcz17_0, hfz17_0⟩ := zC1 BK109.out) | (go_at_call 33; (with_reducible refine (spec_l01Is.calls k _ _ l2_0 t107 _ ?side1 ?side2 A11.out).mono ?_); (case side1 => exact z41); (case side2 => exact HC2_0.out); rintro e w18 ⟨rfl, hb⟩; have n0_ := zBB BK108 hb; have n1_ := zBB BK109 hb; have n2_ := zBB BK110 hb; have n3_ := Aside0.mk (below_step z2 hb); clear BK108 BK109 BK110 HB; have BK108 := n0_; have BK109 := n1_; have BK110 := n2_; have HB := n3_; clear n0_ n1_ n2_ n3_; (try clear hb); (try clear hb2); (try clear hk); (try clear hi)))
      go_meet
      case rel => exact ⟨_, (!t107), z18, H', ⟨z75⟩, ⟨z4⟩, ⟨z6⟩, ⟨z7⟩, ⟨z2⟩⟩
    · replace c10 := Bool.eq_false_iff.mpr c10
      subst c10
      have H1 : (spec_JoinOverPlace.j0 k l1 l3 true l0_0 l2_0) = some (r1, r2, r3) := by rw [if_neg (show ¬ (false = true) by decide)] at H; exact H
      clear H
      have H := H1
      clear H1
      have H' := Aside0.mk H
      clear H
      have hnb19 := NB108_109.out
      have hnc19 := NB109_108.out
      have hnb20 := NB108_110.out
      have hnc20 := NB110_108.out
      obtain ⟨hcz21_0, hfz21_0⟩ := zC1 BK108.out
      go_wp2_with (first | ((with_reducible refine gate_callee (f := 33) rfl ?_); refine goesL_ (some 19) rfl rfl Try.func33 (by kernel_rfl) rfl #[.agg #[.slice A0_0 l0_0.length c0_0]] rfl z9 ?_; (with_reducible refine (spec_l01Is.calls k _ _ l0_0 false _ ?side1 ?side2 A9.out).mono ?_); (case side1 => exact z11); (case side2 => exact HC0_0.out); rintro e w22 ⟨rfl, hb⟩; refine ⟨_, rfl, ?_⟩; have n0_ := zBB BK108 hb; have n1_ := zBB BK109 hb; have n2_ := zBB BK110 hb; have n3_ := Aside0.mk (below_step z2 hb); clear BK108 BK109 BK110 HB; have BK108 := n0_; have BK109 := n1_; have BK110 := n2_; have HB := n3_; clear n0_ n1_ n2_ n3_; (try clear hb); (try clear hb2); (try clear hk); (try clear hi)))
      go_meet
      case rel => exact ⟨_, (true), z18, H', ⟨z75⟩, ⟨z4⟩, ⟨z6⟩, ⟨z7⟩, ⟨z2⟩⟩
  case rest =>
    clear HC5
    try clear c1
    try clear c2
    try clear p2
    try clear c3
    try clear c10
    try clear c12
    try clear c13
    try clear c16
    try clear c19
    try clear c20
    try clear hcz14_0
    try clear hcz17_0
    try clear hcz21_0
    try clear hfz14_0
    try clear hfz17_0
    try clear hfz21_0
    obtain ⟨kq, x17_4, rfl, HA, HJ4, BK108, BK109, BK110, HB⟩ := hcut
    cases kq with
    | zero => exact absurd HA.out (by simp [spec_JoinOverPlace.j0])
    | succ kj4 =>
      have H := HA.out
      clear HA
      simp only [spec_JoinOverPlace.j0] at H
      by_cases c23 : x17_4 = true
      · subst c23
        have H1 : (some (([] : List Int), ([] : List Int), 1)) = some (r1, r2, r3) := by rw [if_pos rfl] at H; exact H
        clear H
        have H := H1
        clear H1
        simp only [Option.some.injEq, Prod.mk.injEq] at H
        obtain ⟨rfl, rfl, rfl⟩ := H
        have hnb24 := NB110_108.out
        have hnc24 := NB108_110.out
        have hnb25 := NB110_109.out
        have hnc25 := NB109_110.out
        obtain ⟨hcz26_0, hfz26_0⟩ := zC1 BK110.out
        go_wp2
        refine bodyPost_ret (results_ctt rfl _ _ gb110 30 #[.slice none 0 0] (0, 0) _ rfl z25 Try.underlying30 rfl (by kernel_rfl)) rfl ?_
        exact ⟨_, _, z17, z28, z28, z2⟩
      · replace c23 := Bool.eq_false_iff.mpr c23
        subst c23
        have H1 : ((spec_l01Code.f kj4 l0_0 l1).bind fun t100 => (if t100 = true then ((spec_l01Code.f kj4 l2_0 l3).bind fun t101 => (spec_JoinOverPlace.j1 kj4 l1 l3 (!t101) l0_0 l2_0)) else (spec_JoinOverPlace.j1 kj4 l1 l3 true l0_0 l2_0))) = some (r1, r2, r3) := by rw [if_neg (show ¬ (false = true) by decide)] at H; exact H
        clear H
        have H := H1
        clear H1
        have HC27 := Aside0.mk H
        clear H
        go_upto_region 3 with (fail)
        go_cut [27] (fun v27 wc => ∃ (kq : Nat) (x27_26 : Bool), v27 = .bool x27_26 ∧ Aside0 (spec_JoinOverPlace.j1 kq l1 l3 x27_26 l0_0 l2_0 = some (r1, r2, r3)) ∧ Aside0 (kq ≤ kj4) ∧ Aside0 (wc.heap[gb108]? = some (.cells #[(.slice A0_0 l0_0.length c0_0)] 30 (0, 0))) ∧ Aside0 (wc.heap[gb109]? = some (.cells #[(.slice A2_0 l2_0.length c2_0)] 30 (0, 0))) ∧ Aside0 (wc.heap[gb110]? = some (.cells #[(.slice none 0 0)] 30 (0, 0))) ∧ Aside0 (Below w.heap.size w wc))
        case first =>
          have H := HC27.out
          clear HC27
          replace H := Option.bind_eq_some_iff.mp H
          obtain ⟨t100, A280, H⟩ := H
          (try dsimp -simprocs only at H)
          have A28 := Aside0.mk A280
          clear A280
          by_cases c29 : t100 = true
          · subst c29
            have H1 : ((spec_l01Code.f kj4 l2_0 l3).bind fun t101 => (spec_JoinOverPlace.j1 kj4 l1 l3 (!t101) l0_0 l2_0)) = some (r1, r2, r3) := by rw [if_pos rfl] at H; exact H
            clear H
            have H := H1
            clear H1
            replace H := Option.bind_eq_some_iff.mp H
            obtain ⟨t101, A300, H⟩ := H
            (try dsimp -simprocs only at H)
            have A30 := Aside0.mk A300
            clear A300
            have H' := Aside0.mk H
            clear H
            have hnb31 := NB108_109.out
            have hnc31 := NB109_108.out
            have hnb32 := NB108_110.out
            have hnc32 := NB110_108.out
            obtain ⟨hcz33_0, hfz33_0⟩ := zC1 BK108.out
            go_wp2_with (first | ((with_reducible refine gate_callee (f := 34) rfl ?_); refine goesL_ (some 30) rfl rfl Try.func34 (by kernel_rfl) rfl #[.agg #[.slice A0_0 l0_0.length c0_0], .slice A1 l1.length c1] rfl z9 ?_; (with_reducible refine (spec_l01Code.calls kj4 _ _ l0_0 _ _ l1 true _ ?side1 ?side2 ?side3 ?side4 A28.out).mono ?_); (case side1 => exact z11); (case side2 => exact HC0_0.out); (case side3 => exact z27); (case side4 => exact HC1.out); rintro e w34 ⟨rfl, hb⟩; refine ⟨_, rfl, ?_⟩; have n0_ := zBB BK108 hb; have n1_ := zBB BK109 hb; have n2_ := zBB BK110 hb; have n3_ := Aside0.mk (below_step z2 hb); clear BK108 BK109 BK110 HB; have BK108 := n0_; have BK109 := n1_; have BK110 := n2_; have HB := n3_; clear n0_ n1_ n2_ n3_; (try clear hb); (try clear hb2); (try clear hk); (try clear hi); have hnb35 := NB109_110.out; have hnc35 := NB110_109.out; obtain ⟨hcz36_0, hfz36_0⟩ := zC1 BK109.out) | (go_at_call 34; (with_reducible refine (spec_l01Code.calls kj4 _ _ l2_0 _ _ l3 t101 _ ?side1 ?side2 ?side3 ?side4 A30.out).mono ?_); (case side1 => exact z41); (case side2 => exact HC2_0.out); (case side3 => exact z39); (case side4 => exact HC3.out); rintro e w37 ⟨rfl, hb⟩; have n0_ := zBB BK108 hb; have n1_ := zBB BK109 hb; have n2_ := zBB BK110 hb; have n3_ := Aside0.mk (below_step z2 hb); clear BK108 BK109 BK110 HB; have BK108 := n0_; have BK109 := n1_; have BK110 := n2_; have HB := n3_; clear n0_ n1_ n2_ n3_; (try clear hb); (try clear hb2); (try clear hk); (try clear hi)))
            go_meet
            case rel => exact ⟨_, (!t101), z18, H', ⟨(by have := HJ4.out; first | omega | exact Nat.le_refl _)⟩, ⟨z4⟩, ⟨z6⟩, ⟨z7⟩, ⟨z2⟩⟩
          · replace c29 := Bool.eq_false_iff.mpr c29
            subst c29
            have H1 : (spec_JoinOverPlace.j1 kj4 l1 l3 true l0_0 l2_0) = some (r1, r2, r3) := by rw [if_neg (show ¬ (false = true) by decide)] at H; exact H
            clear H
            have H := H1
            clear H1
            have H' := Aside0.mk H
            clear H
            have hnb38 := NB108_109.out
            have hnc38 := NB109_108.out
            have hnb39 := NB108_110.out
            have hnc39 := NB110_108.out
            obtain ⟨hcz40_0, hfz40_0⟩ := zC1 BK108.out
            go_wp2_with (first | ((with_reducible refine gate_callee (f := 34) rfl ?_); refine goesL_ (some 30) rfl rfl Try.func34 (by kernel_rfl) rfl #[.agg #[.slice A0_0 l0_0.length c0_0], .slice A1 l1.length c1] rfl z9 ?_; (with_reducible refine (spec_l01Code.calls kj4 _ _ l0_0 _ _ l1 false _ ?side1 ?side2 ?side3 ?side4 A28.out).mono ?_); (case side1 => exact z11); (case side2 => exact HC0_0.out); (case side3 => exact z27); (case side4 => exact HC1.out); rintro e w41 ⟨rfl, hb⟩; refine ⟨_, rfl, ?_⟩; have n0_ := zBB BK108 hb; have n1_ := zBB BK109 hb; have n2_ := zBB BK110 hb; have n3_ := Aside0.mk (below_step z2 hb); clear BK108 BK109 BK110 HB; have BK108 := n0_; have BK109 := n1_; have BK110 := n2_; have HB := n3_; clear n0_ n1_ n2_ n3_; (try clear hb); (try clear hb2); (try clear hk); (try clear hi)))
            go_meet
            case rel => exact ⟨_, (true), z18, H', ⟨(by have := HJ4.out; first | omega | exact Nat.le_refl _)⟩, ⟨z4⟩, ⟨z6⟩, ⟨z7⟩, ⟨z2⟩⟩
        case rest =>
          clear HC27
          try clear c1
          try clear c2
          try clear p2
          try clear c3
          try clear c10
          try clear c12
          try clear c13
          try clear c16
          try clear c19
          try clear c20
          try clear c23
          try clear c24
          try clear c25
          try clear c29
          try clear c31
          try clear c32
          try clear c33
          try clear c34
          try clear c35
          try clear c38
          try clear c39
          try clear hcz14_0
          try clear hcz17_0
          try clear hcz21_0
          try clear hcz26_0
          try clear hcz33_0
          try clear hcz36_0
          try clear hcz40_0
          try clear hfz14_0
          try clear hfz17_0
          try clear hfz21_0
          try clear hfz26_0
          try clear hfz33_0
          try clear hfz36_0
          try clear hfz40_0
          try clear p2
          obtain ⟨kq, x27_26, rfl, HA, HJ26, BK108, BK109, BK110, HB⟩ := hcut
          cases kq with
          | zero => exact absurd HA.out (by simp [spec_JoinOverPlace.j1])
          | succ kj26 =>
            have H := HA.out
            clear HA
            simp only [spec_JoinOverPlace.j1] at H
            by_cases c42 : x27_26 = true
            · subst c42
              have H1 : (some (([] : List Int), ([] : List Int), 2)) = some (r1, r2, r3) := by rw [if_pos rfl] at H; exact H
              clear H
              have H := H1
              clear H1
              simp only [Option.some.injEq, Prod.mk.injEq] at H
              obtain ⟨rfl, rfl, rfl⟩ := H
              have hnb43 := NB110_108.out
              have hnc43 := NB108_110.out
              have hnb44 := NB110_109.out
              have hnc44 := NB109_110.out
              obtain ⟨hcz45_0, hfz45_0⟩ := zC1 BK110.out
              go_wp2
              refine bodyPost_ret (results_ctt rfl _ _ gb110 30 #[.slice none 0 0] (0, 0) _ rfl z25 Try.underlying30 rfl (by kernel_rfl)) rfl ?_
              exact ⟨_, _, z17, z28, z28, z2⟩
            · replace c42 := Bool.eq_false_iff.mpr c42
              subst c42
              have H1 : (if 0 ≤ (wrap64 ((l0_0.length : Int) - 1)) then (if (wrap64 ((l0_0.length : Int) - 1)) < (l0_0.length : Int) then (if 0 < (l2_0.length : Int) then (if (rd l0_0 (wrap64 ((l0_0.length : Int) - 1))) = (rd l2_0 0) then ((spec_l01Own.f l0_0).bind fun t102 => (if 1 ≤ (l2_0.length : Int) then (if t102.length + (l2_0.drop 1).length < 17592186044416 then ((some (t102 ++ (l2_0.drop 1) : List Int)).bind fun y103 => ((spec_l01Is.f kj26 y103).bind fun t104 => (if t104 = true then ((spec_l01N.f kj26 l2_0).bind fun t105 => (if (rd l2_0 0) = 0 then (none) else (spec_JoinOverPlace.l0 kj26 l1 l3 (rd l2_0 0) (wrap64 (Int.tdiv t105 (rd l2_0 0))) (([] : List Int)) (l1.length : Int) 0 y103))) else (some (([] : List Int), ([] : List Int), 3))))) else (none)) else (none))) else (some (([] : List Int), ([] : List Int), 5))) else (none)) else (none)) else (none)) = some (r1, r2, r3) := by rw [if_neg (show ¬ (false = true) by decide)] at H; exact H
              clear H
              have H := H1
              clear H1
              obtain ⟨ji46, hji46⟩ : ∃ j_ : Int, (wrap64 ((l0_0.length : Int) - 1)) = j_ := ⟨_, rfl⟩
              replace H : (if 0 ≤ (ji46) then (if (ji46) < (l0_0.length : Int) then (if 0 < (l2_0.length : Int) then (if (rd l0_0 (ji46)) = (rd l2_0 0) then ((spec_l01Own.f l0_0).bind fun t102 => (if 1 ≤ (l2_0.length : Int) then (if t102.length + (l2_0.drop 1).length < 17592186044416 then ((some (t102 ++ (l2_0.drop 1) : List Int)).bind fun y103 => ((spec_l01Is.f kj26 y103).bind fun t104 => (if t104 = true then ((spec_l01N.f kj26 l2_0).bind fun t105 => (if (rd l2_0 0) = 0 then (none) else (spec_JoinOverPlace.l0 kj26 l1 l3 (rd l2_0 0) (wrap64 (Int.tdiv t105 (rd l2_0 0))) (([] : List Int)) (l1.length : Int) 0 y103))) else (some (([] : List Int), ([] : List Int), 3))))) else (none)) else (none))) else (some (([] : List Int), ([] : List Int), 5))) else (none)) else (none)) else (none)) = some (r1, r2, r3) := by first | (rw [hji46] at H; exact H) | (simp only [hji46] at H ⊢; exact H)
              have hji46w : (IntKind.i64.wrap ((l0_0.length : Int) - 1)) = ji46 := (i64_w _).trans hji46
              by_cases c47 : 0 ≤ (ji46)
              · rw [if_pos c47] at H
                have c47b0 : decide (0 ≤ (ji46)) = true := decide_eq_true c47
                clear c47
                by_cases c48 : (ji46) < (l0_0.length : Int)
                · rw [if_pos c48] at H
                  have c48b0 : decide ((ji46) < (l0_0.length : Int)) = true := decide_eq_true c48
                  clear c48
                  by_cases c49 : 0 < (l2_0.length : Int)
                  · rw [if_pos c49] at H
                    have c49b0 : decide (0 < (l2_0.length : Int)) = true := decide_eq_true c49
                    have c49b1 : decide (0 < l2_0.length) = true := decide_eq_true (by omega)
                    clear c49
                    by_cases c50 : (rd l0_0 (ji46)) = (rd l2_0 0)
                    · rw [if_pos c50] at H
                      have c50b0 : ((rd l0_0 (ji46)) == (rd l2_0 0)) = true := beq_iff_eq.mpr c50
                      have c50b1 : ((rd l0_0 (ji46)) != (rd l2_0 0)) = false := bne_eq_false_iff_eq.mpr c50
                      clear c50
                      replace H := Option.bind_eq_some_iff.mp H
                      obtain ⟨t102, A510, H⟩ := H
                      (try dsimp -simprocs only at H)
                      have A51 := Aside0.mk A510
                      clear A510
                      by_cases c52 : 1 ≤ (l2_0.length : Int)
                      · rw [if_pos c52] at H
                        have c52b0 := eq_true c52
                        have c52b1 : decide (1 ≤ (l2_0.length : Int)) = true := decide_eq_true c52
                        clear c52
                        by_cases c53 : t102.length + (l2_0.drop 1).length < 17592186044416
                        · rw [if_pos c53] at H
                          have LMc53 := Aside0.mk c53
                          clear c53
                          obtain ⟨y103, hy103⟩ : ∃ y_ : List Int, y_ = (t102 ++ (l2_0.drop 1)) := ⟨_, rfl⟩
                          replace H : ((spec_l01Is.f kj26 y103).bind fun t104 => (if t104 = true then ((spec_l01N.f kj26 l2_0).bind fun t105 => (if (rd l2_0 0) = 0 then (none) else (spec_JoinOverPlace.l0 kj26 l1 l3 (rd l2_0 0) (wrap64 (Int.tdiv t105 (rd l2_0 0))) (([] : List Int)) (l1.length : Int) 0 y103))) else (some (([] : List Int), ([] : List Int), 3)))) = some (r1, r2, r3) := by first | (rw [hy103]; with_reducible exact H) | (have H2_ := (Option.bind_some _ _).symm.trans H; rw [hy103]; with_reducible exact H2_) | (have H2_ := (Option.bind_some _ _).symm.trans H; with_reducible exact H2_) | with_reducible exact H | (rw [hy103]; exact H) | exact H
                          have Ny103 := Aside0.mk hy103
                          clear hy103
                          replace H := Option.bind_eq_some_iff.mp H
                          obtain ⟨t104, A540, H⟩ := H
                          (try dsimp -simprocs only at H)
                          have A54 := Aside0.mk A540
                          clear A540
                          by_cases c55 : t104 = true
                          · subst c55
                            have H1 : ((spec_l01N.f kj26 l2_0).bind fun t105 => (if (rd l2_0 0) = 0 then (none) else (spec_JoinOverPlace.l0 kj26 l1 l3 (rd l2_0 0) (wrap64 (Int.tdiv t105 (rd l2_0 0))) (([] : List Int)) (l1.length : Int) 0 y103))) = some (r1, r2, r3) := by rw [if_pos rfl] at H; exact H
                            clear H
                            have H := H1
                            clear H1
                            replace H := Option.bind_eq_some_iff.mp H
                            obtain ⟨t105, A560, H⟩ := H
                            (try dsimp -simprocs only at H)
                            have A56 := Aside0.mk A560
                            clear A560
                            by_cases c57 : (rd l2_0 0) = 0
                            · rw [if_pos c57] at H
                              exact absurd H (by simp)
                            · rw [if_neg c57] at H
                              have c57b0 : ((rd l2_0 0) == 0) = false := beq_eq_false_iff_ne.mpr c57
                              have c57b1 : ((rd l2_0 0) != 0) = true := bne_iff_ne.mpr c57
                              obtain ⟨y111, hy111⟩ : ∃ y_ : List Int, y_ = (([] : List Int)) := ⟨_, rfl⟩
                              replace H : (spec_JoinOverPlace.l0 kj26 l1 l3 (rd l2_0 0) (wrap64 (Int.tdiv t105 (rd l2_0 0))) y111 (l1.length : Int) 0 y103) = some (r1, r2, r3) := by first | (rw [hy111]; with_reducible exact H) | (have H2_ := (Option.bind_some _ _).symm.trans H; rw [hy111]; with_reducible exact H2_) | (have H2_ := (Option.bind_some _ _).symm.trans H; with_reducible exact H2_) | with_reducible exact H | (rw [hy111]; exact H) | exact H
                              have Ny111 := Aside0.mk hy111
                              clear hy111
                              have H' := Aside0.mk H
                              clear H
                              try go_wp2
                              have n0_ := Aside0.mk (blk_drew BK108.out)
                              have n1_ := Aside0.mk (blk_drew BK109.out)
                              have n2_ := Aside0.mk (blk_drew BK110.out)
                              have n3_ := Aside0.mk (below_drew1 HB.out)
                              clear BK108 BK109 BK110 HB
                              have BK108 := n0_
                              have BK109 := n1_
                              have BK110 := n2_
                              have HB := n3_
                              clear n0_ n1_ n2_ n3_
                              have p145 : 0 ≤ ((ji46) : Int) := of_decide_eq_true z12
                              have q145 : (ji46) < (l0_0.length : Int) := of_decide_eq_true z12
                              obtain ⟨ad145, e145, hx145_0⟩ := Kd.at_int HR0_0.out (ji46) p145 q145
                              have hw145_0 := hx145_0
                              cases e145
                              try replace hx145_0 := (HB.out.cell (World.block_lt_of_cell? w _ hx145_0)).trans hx145_0
                              replace p145 := eq_true p145
                              replace q145 := eq_true q145
                              have p146 : 0 ≤ (0 : Int) := (by omega)
                              have q146 : 0 < (l2_0.length : Int) := of_decide_eq_true z12
                              obtain ⟨ad146, e146, hx146_0⟩ := Kd.at_int HR2_0.out 0 p146 q146
                              have hw146_0 := hx146_0
                              (try rw [show ((0 : Int)).toNat = 0 from rfl] at hw146_0)
                              (try rw [show 0 * 1 = 0 from rfl] at hw146_0)
                              (try rw [Addr.add_zero'] at hw146_0)
                              cases e146
                              have qi146 : (0 < l2_0.length) = True := eq_true (by omega)
                              (try rw [show ((0 : Int)).toNat = 0 from rfl] at hx146_0)
                              (try rw [Addr.add_zero'] at hx146_0)
                              try replace hx146_0 := (HB.out.cell (World.block_lt_of_cell? w _ hx146_0)).trans hx146_0
                              replace p146 := eq_true p146
                              replace q146 := eq_true q146
                              refine start_ (n := 14) (S := fun w' => w'.cell? ⟨gb108, 0, none⟩ = some (.slice (some ad145) l0_0.length c0_0) ∧ w'.cell? ⟨gb109, 0, none⟩ = some (.slice (some ad146) l2_0.length c2_0) ∧ w'.cell? (ad145.add ((ji46)).toNat) = some (.int .i64 (rd l0_0 (ji46))) ∧ w'.cell? ad146 = some (.int .i64 (rd l2_0 0))) (ds := []) #[false, false, false, false, false, false, false, false, false, false, false, false, false, false] (by kernel_rfl) rfl rfl ⟨(blk_cell BK108.out 0).trans rfl, (blk_cell BK109.out 0).trans rfl, ((HB.out.cell (World.block_lt_of_cell? w _ hw145_0)).trans hw145_0), ((HB.out.cell (World.block_lt_of_cell? w _ hw146_0)).trans hw146_0)⟩ (fun hHeld => ?_); refine with_tabW spec_JoinOverPlace.tab5 spec_JoinOverPlace.bits5 (fun HT_ HW_ => ?_)
                              generalize wc.drew = w58 at BK108 BK109 BK110 HB hx145_0 hx146_0 hHeld ⊢
                              refine pure_ (i := 0) (N := some 40) (v := ?_) (a' := ?_) #[true, false, false, false, false, false, false, false, false, false, false, false, false, false] rfl rfl (any_of HT_.out (by kernel_rfl)) (fun _ _ _ h => h) (Or.inl ⟨(by rfl), ?_⟩) ?_ ?_
                              rotate_left
                              · exact z10
                              rotate_left
                              · exact z1
                              refine pure_ (i := 2) (N := some 42) (v := ?_) (a' := ?_) #[true, false, true, false, false, false, false, false, false, false, false, false, false, false] rfl rfl (any_of HT_.out (by kernel_rfl)) (fun _ _ _ h => h) (Or.inl ⟨(by rfl), ?_⟩) ?_ ?_
                              rotate_left
                              · exact z10
                              rotate_left
                              · exact z1
                              refine pure_ (i := 8) (N := some 48) (v := ?_) (a' := ?_) #[true, false, true, false, false, false, false, false, true, false, false, false, false, false] rfl rfl (any_of HT_.out (by kernel_rfl)) (fun _ _ _ h => h) (Or.inl ⟨(by rfl), ?_⟩) ?_ ?_
                              rotate_left
                              · exact z10
                              rotate_left
                              · exact z1
                              refine take_ (i := 1) (N := some 41) (v := ?_) (a' := ?_) #[true, true, true, false, false, false, false, false, true, false, false, false, false, false] rfl rfl (take_ofW HT_.out HW_.out (by kernel_rfl)) (fun _ _ _ h => h) (Or.inl ⟨(by rfl), ?_⟩) hHeld ?_ ?_
                              rotate_left
                              · rintro w' ⟨s0, s1, s2, s3⟩
                                go_simp
                                with_reducible rfl
                              rotate_left
                              · exact z1
                              refine take_ (i := 3) (N := some 43) (v := ?_) (a' := ?_) #[true, true, true, true, false, false, false, false, true, false, false, false, false, false] rfl rfl (take_ofW HT_.out HW_.out (by kernel_rfl)) (fun _ _ _ h => h) (Or.inl ⟨(by rfl), ?_⟩) hHeld ?_ ?_
                              rotate_left
                              · rintro w' ⟨s0, s1, s2, s3⟩
                                go_simp
                                with_reducible rfl
                              rotate_left
                              · exact z1
                              refine pure_ (i := 4) (N := some 44) (v := ?_) (a' := ?_) #[true, true, true, true, true, false, false, false, true, false, false, false, false, false] rfl rfl (any_of HT_.out (by kernel_rfl)) (fun _ _ _ h => h) (Or.inl ⟨(by rfl), ?_⟩) ?_ ?_
                              rotate_left
                              · exact z10
                              rotate_left
                              · exact z1
                              refine pure_ (i := 5) (N := some 45) (v := ?_) (a' := ?_) #[true, true, true, true, true, true, false, false, true, false, false, false, false, false] rfl rfl (any_of HT_.out (by kernel_rfl)) (fun _ _ _ h => h) (Or.inl ⟨(by rfl), ?_⟩) ?_ ?_
                              rotate_left
                              · exact z10
                              rotate_left
                              · exact z1
                              refine pure_ (i := 6) (N := some 46) (v := ?_) (a' := ?_) #[true, true, true, true, true, true, true, false, true, false, false, false, false, false] rfl rfl (any_of HT_.out (by kernel_rfl)) (fun _ _ _ h => h) (Or.inl ⟨(by rfl), ?_⟩) ?_ ?_
                              rotate_left
                              · exact z10
                              rotate_left
                              · exact z1
                              refine take_ (i := 7) (N := some 47) (v := ?_) (a' := ?_) #[true, true, true, true, true, true, true, true, true, false, false, false, false, false] rfl rfl (take_ofW HT_.out HW_.out (by kernel_rfl)) (fun _ _ _ h => h) (Or.inl ⟨(by rfl), ?_⟩) hHeld ?_ ?_
                              rotate_left
                              · rintro w' ⟨s0, s1, s2, s3⟩
                                go_simp
                                with_reducible rfl
                              rotate_left
                              · exact z1
                              refine take_ (i := 9) (N := some 49) (v := ?_) (a' := ?_) #[true, true, true, true, true, true, true, true, true, true, false, false, false, false] rfl rfl (take_ofW HT_.out HW_.out (by kernel_rfl)) (fun _ _ _ h => h) (Or.inl ⟨(by rfl), ?_⟩) hHeld ?_ ?_
                              rotate_left
                              · rintro w' ⟨s0, s1, s2, s3⟩
                                go_simp
                                with_reducible rfl
                              rotate_left
                              · exact z1
                              refine pure_ (i := 10) (N := some 50) (v := ?_) (a' := ?_) #[true, true, true, true, true, true, true, true, true, true, true, false, false, false] rfl rfl (any_of HT_.out (by kernel_rfl)) (fun _ _ _ h => h) (Or.inl ⟨(by rfl), ?_⟩) ?_ ?_
                              rotate_left
                              · exact z10
                              rotate_left
                              · exact z1
                              refine take_ (i := 11) (N := some 51) (v := ?_) (a' := ?_) #[true, true, true, true, true, true, true, true, true, true, true, true, false, false] rfl rfl (take_ofW HT_.out HW_.out (by kernel_rfl)) (fun _ _ _ h => h) (Or.inl ⟨(by rfl), ?_⟩) hHeld ?_ ?_
                              rotate_left
                              · rintro w' ⟨s0, s1, s2, s3⟩
                                go_simp
                                with_reducible rfl
                              rotate_left
                              · exact z1
                              refine pure_ (i := 12) (N := some 52) (v := ?_) (a' := ?_) #[true, true, true, true, true, true, true, true, true, true, true, true, true, false] rfl rfl (any_of HT_.out (by kernel_rfl)) (fun _ _ _ h => h) (Or.inl ⟨(by rfl), ?_⟩) ?_ ?_
                              rotate_left
                              · exact z10
                              rotate_left
                              · exact z1
                              refine pure_ (i := 13) (N := some 39) (v := ?_) (a' := ?_) #[true, true, true, true, true, true, true, true, true, true, true, true, true, true] rfl rfl (any_of HT_.out (by kernel_rfl)) (fun _ _ _ h => h) (Or.inl ⟨(by rfl), ?_⟩) ?_ ?_
                              rotate_left
                              · exact z10
                              rotate_left
                              · exact z1
                              refine done_ (done_of HT_.out (by kernel_rfl)) ?_
                              try go_wp2
                              have n0_ := Aside0.mk (blk_drew BK108.out)
                              have n1_ := Aside0.mk (blk_drew BK109.out)
                              have n2_ := Aside0.mk (blk_drew BK110.out)
                              have n3_ := Aside0.mk (below_drew1 HB.out)
                              clear BK108 BK109 BK110 HB
                              have BK108 := n0_
                              have BK109 := n1_
                              have BK110 := n2_
                              have HB := n3_
                              clear n0_ n1_ n2_ n3_
                              obtain ⟨i060, hi060, _, hsz60, _⟩ := info_parts info2
                              obtain ⟨A60, hcut60, hA60, hC60⟩ := print_drop_of (P := Try.prog) (Value.int .i64) 0 22 2 .i64 Try.underlying22 hi060 hsz60 (some ad146) c2_0 l2_0 1 (by omega) (of_decide_eq_true z12) HC2_0.out
                              have HR150 := Aside0.mk (Kd.C_of_reads (h1 := fun _ => rfl) (hA60 _ (Kd.reads_of_C HR2_0.out)))
                              have HC150 := Aside0.mk hC60
                              clear hA60 hC60 hi060 hsz60
                              refine start_ (n := 10) (S := fun w' => w'.cell? ⟨gb108, 0, none⟩ = some (.slice (some ad145) l0_0.length c0_0) ∧ w'.cell? ⟨gb109, 0, none⟩ = some (.slice (some ad146) l2_0.length c2_0)) (ds := []) #[false, false, false, false, false, false, false, false, false, false] (by kernel_rfl) rfl rfl ⟨(blk_cell BK108.out 0).trans rfl, (blk_cell BK109.out 0).trans rfl⟩ (fun hHeld => ?_); refine with_tabW spec_JoinOverPlace.tab7 spec_JoinOverPlace.bits7 (fun HT_ HW_ => ?_)
                              generalize w58.drew = w59 at BK108 BK109 BK110 HB HR150 hHeld ⊢
                              refine pure_ (i := 0) (N := some 54) (v := ?_) (a' := ?_) #[true, false, false, false, false, false, false, false, false, false] rfl rfl (any_of HT_.out (by kernel_rfl)) (fun _ _ _ h => h) (Or.inl ⟨(by rfl), ?_⟩) ?_ ?_
                              rotate_left
                              · exact z10
                              rotate_left
                              · exact z1
                              refine pure_ (i := 3) (N := some 57) (v := ?_) (a' := ?_) #[true, false, false, true, false, false, false, false, false, false] rfl rfl (any_of HT_.out (by kernel_rfl)) (fun _ _ _ h => h) (Or.inl ⟨(by rfl), ?_⟩) ?_ ?_
                              rotate_left
                              · exact z10
                              rotate_left
                              · exact z1
                              refine take_ (i := 1) (N := some 55) (v := ?_) (a' := ?_) #[true, true, false, true, false, false, false, false, false, false] rfl rfl (take_ofW HT_.out HW_.out (by kernel_rfl)) (fun _ _ _ h => h) (Or.inl ⟨(by rfl), ?_⟩) hHeld ?_ ?_
                              rotate_left
                              · rintro w' ⟨s0, s1⟩
                                go_simp
                                with_reducible rfl
                              rotate_left
                              · exact z1
                              refine take_ (i := 4) (N := some 58) (v := ?_) (a' := ?_) #[true, true, false, true, true, false, false, false, false, false] rfl rfl (take_ofW HT_.out HW_.out (by kernel_rfl)) (fun _ _ _ h => h) (Or.inl ⟨(by rfl), ?_⟩) hHeld ?_ ?_
                              rotate_left
                              · rintro w' ⟨s0, s1⟩
                                go_simp
                                with_reducible rfl
                              rotate_left
                              · exact z1
                              refine pure_ (i := 5) (N := some 59) (v := ?_) (a' := ?_) #[true, true, false, true, true, true, false, false, false, false] rfl rfl (any_of HT_.out (by kernel_rfl)) (fun _ _ _ h => h) (Or.inl ⟨(by rfl), ?_⟩) ?_ ?_
                              rotate_left
                              · exact z10
                              rotate_left
                              · exact z1
                              refine join_ (σ := Value × Value × Nat) 1 #[true, true, true, true, true, true, true, true, true, false] (fun s_ => [(56, s_.1), (60, s_.2.1), (11, .pointer (some ⟨s_.2.2, 0, none⟩)), (61, .agg #[s_.2.1])]) (fun s_ w' => (w'.cell? ⟨gb108, 0, none⟩ = some (.slice (some ad145) l0_0.length c0_0) ∧ w'.cell? ⟨gb109, 0, none⟩ = some (.slice (some ad146) l2_0.length c2_0)) ∧ (Kd.R (Kd.int .i64) 2 w' w.heap.size (fun _ => True) s_.2.1 y103) ∧ (w'.heap[gb108]? = some (.cells #[.slice (some ad145) l0_0.length c0_0] 30 (0, 0))) ∧ (w'.heap[gb109]? = some (.cells #[.slice (some ad146) l2_0.length c2_0] 30 (0, 0))) ∧ (w'.heap[gb110]? = some (.cells #[.slice none 0 0] 30 (0, 0))) ∧ (w'.heap[s_.2.2]? = some (.cells #[.slice none 0 0] 30 (0, 0))) ∧ (w.heap.size ≤ s_.2.2) ∧ (w.heap.size ≤ s_.2.2) ∧ (gb108 ≠ s_.2.2) ∧ (s_.2.2 ≠ gb108) ∧ (gb109 ≠ s_.2.2) ∧ (s_.2.2 ≠ gb109) ∧ (gb110 ≠ s_.2.2) ∧ (s_.2.2 ≠ gb110) ∧ (Below w.heap.size w w')) ?_ ?_
                              rotate_left
                              · intro hCont
                                refine two_ (i := 2) (j := 8) (Ni := some 56) (Nj := some 11) #[true, true, true, true, true, true, false, false, false, false] #[true, true, false, true, true, true, false, false, true, false] rfl rfl rfl rfl (two_of HT_.out (by kernel_rfl)) (by decide) (by decide) (fun K hK => ?_) (fun K hK => ?_)
                                · skip
                                  refine goes_ Try.func41 (by kernel_rfl) rfl #[.slice (some ad145) l0_0.length c0_0] (by rfl) rfl rfl z9 ?_
                                  with_reducible refine (spec_l01Own.calls _ _ l0_0 t102 _ ?side1 ?side2 A51.out).mono ?_
                                  (case side1 => exact z11)
                                  (case side2 => exact HC0_0.out)
                                  rintro e w61 ⟨v112, rfl, ho0, hb⟩
                                  refine ⟨_, rfl, ?_⟩
                                  have n0_ := Aside0.mk (Kd.R_lower ho0 (below_size z2))
                                  have n1_ := zBB BK108 hb
                                  have n2_ := zBB BK109 hb
                                  have n3_ := zBB BK110 hb
                                  have n4_ := Aside0.mk (below_step z2 hb)
                                  clear BK108 BK109 BK110 HB
                                  have HO113 := n0_
                                  have BK108 := n1_
                                  have BK109 := n2_
                                  have BK110 := n3_
                                  have HB := n4_
                                  clear n0_ n1_ n2_ n3_ n4_
                                  (try clear hb)
                                  (try clear hb2)
                                  (try clear hk)
                                  (try clear hi)
                                  (try clear ho0)
                                  refine hK.out _ _ ⟨(blk_cell BK108.out 0).trans rfl, (blk_cell BK109.out 0).trans rfl⟩ (fun hHeld => ?_)
                                  clear hK K
                                  refine norm_ (a' := ?_) ?_ ?_
                                  rotate_left
                                  · show Act.put _ (some 56) _ = _
                                    simp only [Act.put, List.setIfInBounds_toArray, List.set_cons_zero, List.set_cons_succ, i64_w, i32_w]
                                    rfl
                                  refine two_ (i := 6) (j := 8) (Ni := some 60) (Nj := some 11) #[true, true, true, true, true, true, true, false, false, false] #[true, true, true, true, true, true, false, false, true, false] rfl rfl rfl rfl (two_of HT_.out (by kernel_rfl)) (by decide) (by decide) (fun K hK => ?_) (fun K hK => ?_)
                                  · skip
                                    refine Kd.R_append_rows_step (Kd.int .i64) (w0 := w) w.heap.size (by rfl) (.tmp 56) (.tmp 59) 22 2 (.int .i64 0) 8 rfl Try.underlying22 info2 rfl (by decide) (by omega) v112 t102 (l2_0.drop 1) _ _ _ (fun _ => True) (fun _ => False) rfl rfl ?aO ?aR (fun _ _ h => h) (fun _ h => h.elim) ?aF ?aB ?aS ?aL ?_
                                    (case aR => first | (rw [← show (l2_0.drop 1).length = (l2_0.length - 1) from List.length_drop]; repeat (first | exact (Kd.C_below HR150.out HB.out) | (with_reducible refine Kd.C_alloc ?_ _) | (with_reducible refine Kd.C_drewN ?_ _) | (with_reducible refine Kd.C_drew ?_))) | (repeat (first | exact (Kd.C_below HR150.out HB.out) | (with_reducible refine Kd.C_alloc ?_ _) | (with_reducible refine Kd.C_drewN ?_ _) | (with_reducible refine Kd.C_drew ?_))))
                                    (case aB => exact z2)
                                    (case aF => exact (fun _ _ => trivial))
                                    (case aO => exact z47)
                                    (case aS => exact (below_size z2))
                                    (case aL => have := LMc53.out; have hlx_ := (show (l2_0.drop 1).length = (l2_0.length - 1) from List.length_drop); omega)
                                    intro v114 w62 ho hb hg hat
                                    rw [← Ny103.out] at ho
                                    have n0_ := Aside0.mk (blk_grown (g := gb108) (o := .cells #[.slice (some ad145) l0_0.length c0_0] 30 (0, 0)) z4 hg (Kd.R_ne HO113.out BK108.out (by decide)))
                                    have n1_ := Aside0.mk (blk_grown (g := gb109) (o := .cells #[.slice (some ad146) l2_0.length c2_0] 30 (0, 0)) z6 hg (Kd.R_ne HO113.out BK109.out (by decide)))
                                    have n2_ := Aside0.mk (blk_grown (g := gb110) (o := .cells #[.slice none 0 0] 30 (0, 0)) z7 hg (Kd.R_ne HO113.out BK110.out (by decide)))
                                    have n3_ := Aside0.mk (hb)
                                    have n4_ := Aside0.mk (ho)
                                    clear BK108 BK109 BK110 HB HO113
                                    have BK108 := n0_
                                    have BK109 := n1_
                                    have BK110 := n2_
                                    have HB := n3_
                                    have HO115 := n4_
                                    clear n0_ n1_ n2_ n3_ n4_
                                    clear ho hb hg hat
                                    obtain ⟨Ao63, co63, eo63⟩ := Kd.R_slice HO115.out
                                    (first | subst eo63 | (injection eo63 with f1_ f2_ f3_; have f4_ := f1_.symm; have f5_ := f3_.symm; clear f1_ f2_ f3_; subst f4_; subst f5_))
                                    refine hK.out _ _ ⟨(blk_cell BK108.out 0).trans rfl, (blk_cell BK109.out 0).trans rfl⟩ (fun hHeld => ?_)
                                    clear hK K
                                    refine norm_ (a' := ?_) ?_ ?_
                                    rotate_left
                                    · show Act.put _ (some 60) _ = _
                                      simp only [Act.put, List.setIfInBounds_toArray, List.set_cons_zero, List.set_cons_succ, i64_w, i32_w]
                                      rfl
                                    refine pure_ (i := 7) (N := some 61) (v := ?_) (a' := ?_) #[true, true, true, true, true, true, true, true, false, false] rfl rfl (any_of HT_.out (by kernel_rfl)) (fun _ _ _ h => h) (Or.inl ⟨(by rfl), ?_⟩) ?_ ?_
                                    rotate_left
                                    · exact z10
                                    rotate_left
                                    · exact z1
                                    refine one_ (i := 8) (N := some 11) #[true, true, true, true, true, true, true, true, true, false] rfl rfl (one_of HT_.out (by kernel_rfl)) (by decide) (fun K hK => ?_)
                                    refine box_step ?hg (N := 11) ?hd (cs := #[.slice none 0 0]) (t := 30) ?hr ?_; (case hd => rfl); (case hg => rfl); (case hr => first | (go_simp; done) | (go_simp; rfl))
                                    intro gb116 hg w64 hbox hb
                                    have n0_ := Aside0.mk (Kd.R_below z35 hb)
                                    have n1_ := zBB BK108 hb
                                    have n2_ := zBB BK109 hb
                                    have n3_ := zBB BK110 hb
                                    have n4_ := Aside0.mk (below_step z2 hb)
                                    have n5_ := Aside0.mk (hbox)
                                    have n6_ := Aside0.mk ((z91 : w.heap.size ≤ gb116))
                                    have n7_ := Aside0.mk ((z91 : w.heap.size ≤ gb116))
                                    have n8_ := Aside0.mk ((z96 : gb108 ≠ gb116))
                                    have n9_ := Aside0.mk ((z97 : gb116 ≠ gb108))
                                    have n10_ := Aside0.mk ((z98 : gb109 ≠ gb116))
                                    have n11_ := Aside0.mk ((z99 : gb116 ≠ gb109))
                                    have n12_ := Aside0.mk ((z87 : gb110 ≠ gb116))
                                    have n13_ := Aside0.mk ((z88 : gb116 ≠ gb110))
                                    clear HO115 BK108 BK109 BK110 HB
                                    have HO115 := n0_
                                    have BK108 := n1_
                                    have BK109 := n2_
                                    have BK110 := n3_
                                    have HB := n4_
                                    have BK116 := n5_
                                    have GW116 := n6_
                                    have GE116 := n7_
                                    have NB108_116 := n8_
                                    have NB116_108 := n9_
                                    have NB109_116 := n10_
                                    have NB116_109 := n11_
                                    have NB110_116 := n12_
                                    have NB116_110 := n13_
                                    clear n0_ n1_ n2_ n3_ n4_ n5_ n6_ n7_ n8_ n9_ n10_ n11_ n12_ n13_
                                    clear hb hbox hg
                                    refine hK.out _ _ ⟨(blk_cell BK108.out 0).trans rfl, (blk_cell BK109.out 0).trans rfl⟩ (fun hHeld => ?_)
                                    clear hK K
                                    refine norm_ (a' := ?_) ?_ ?_
                                    rotate_left
                                    · show Act.put _ (some 11) _ = _
                                      simp only [Act.put, List.setIfInBounds_toArray, List.set_cons_zero, List.set_cons_succ, i64_w, i32_w]
                                      rfl
                                    exact norm_ z38 (hCont (v112, .slice Ao63 y103.length co63, gb116) _ ⟨hHeld, z35, z4, z6, z7, z26, GW116.out, GE116.out, NB108_116.out, NB116_108.out, NB109_116.out, NB116_109.out, NB110_116.out, NB116_110.out, z8⟩)
                                  · skip
                                    refine box_step ?hg (N := 11) ?hd (cs := #[.slice none 0 0]) (t := 30) ?hr ?_; (case hd => rfl); (case hg => rfl); (case hr => first | (go_simp; done) | (go_simp; rfl))
                                    intro gb116 hg w62 hbox hb
                                    have n0_ := Aside0.mk (Kd.R_below z47 hb)
                                    have n1_ := zBB BK108 hb
                                    have n2_ := zBB BK109 hb
                                    have n3_ := zBB BK110 hb
                                    have n4_ := Aside0.mk (below_step z2 hb)
                                    have n5_ := Aside0.mk (hbox)
                                    have n6_ := Aside0.mk ((z91 : w.heap.size ≤ gb116))
                                    have n7_ := Aside0.mk ((z91 : w.heap.size ≤ gb116))
                                    have n8_ := Aside0.mk ((z96 : gb108 ≠ gb116))
                                    have n9_ := Aside0.mk ((z97 : gb116 ≠ gb108))
                                    have n10_ := Aside0.mk ((z98 : gb109 ≠ gb116))
                                    have n11_ := Aside0.mk ((z99 : gb116 ≠ gb109))
                                    have n12_ := Aside0.mk ((z87 : gb110 ≠ gb116))
                                    have n13_ := Aside0.mk ((z88 : gb116 ≠ gb110))
                                    clear HO113 BK108 BK109 BK110 HB
                                    have HO113 := n0_
                                    have BK108 := n1_
                                    have BK109 := n2_
                                    have BK110 := n3_
                                    have HB := n4_
                                    have BK116 := n5_
                                    have GW116 := n6_
                                    have GE116 := n7_
                                    have NB108_116 := n8_
                                    have NB116_108 := n9_
                                    have NB109_116 := n10_
                                    have NB116_109 := n11_
                                    have NB110_116 := n12_
                                    have NB116_110 := n13_
                                    clear n0_ n1_ n2_ n3_ n4_ n5_ n6_ n7_ n8_ n9_ n10_ n11_ n12_ n13_
                                    clear hb hbox hg
                                    refine hK.out _ _ ⟨(blk_cell BK108.out 0).trans rfl, (blk_cell BK109.out 0).trans rfl⟩ (fun hHeld => ?_)
                                    clear hK K
                                    refine norm_ (a' := ?_) ?_ ?_
                                    rotate_left
                                    · show Act.put _ (some 11) _ = _
                                      simp only [Act.put, List.setIfInBounds_toArray, List.set_cons_zero, List.set_cons_succ, i64_w, i32_w]
                                      rfl
                                    refine one_ (i := 6) (N := some 60) #[true, true, true, true, true, true, true, false, true, false] rfl rfl (one_of HT_.out (by kernel_rfl)) (by decide) (fun K hK => ?_)
                                    refine Kd.R_append_rows_step (Kd.int .i64) (w0 := w) w.heap.size (by rfl) (.tmp 56) (.tmp 59) 22 2 (.int .i64 0) 8 rfl Try.underlying22 info2 rfl (by decide) (by omega) v112 t102 (l2_0.drop 1) _ _ _ (fun _ => True) (fun _ => False) rfl rfl ?aO ?aR (fun _ _ h => h) (fun _ h => h.elim) ?aF ?aB ?aS ?aL ?_
                                    (case aR => first | (rw [← show (l2_0.drop 1).length = (l2_0.length - 1) from List.length_drop]; repeat (first | exact (Kd.C_below HR150.out HB.out) | (with_reducible refine Kd.C_alloc ?_ _) | (with_reducible refine Kd.C_drewN ?_ _) | (with_reducible refine Kd.C_drew ?_))) | (repeat (first | exact (Kd.C_below HR150.out HB.out) | (with_reducible refine Kd.C_alloc ?_ _) | (with_reducible refine Kd.C_drewN ?_ _) | (with_reducible refine Kd.C_drew ?_))))
                                    (case aB => exact z8)
                                    (case aF => exact (fun _ _ => trivial))
                                    (case aO => exact z47)
                                    (case aS => exact (below_size z8))
                                    (case aL => have := LMc53.out; have hlx_ := (show (l2_0.drop 1).length = (l2_0.length - 1) from List.length_drop); omega)
                                    intro v114 w63 ho hb hg hat
                                    rw [← Ny103.out] at ho
                                    have n0_ := Aside0.mk (blk_grown (g := gb108) (o := .cells #[.slice (some ad145) l0_0.length c0_0] 30 (0, 0)) z4 hg (Kd.R_ne HO113.out BK108.out (by decide)))
                                    have n1_ := Aside0.mk (blk_grown (g := gb109) (o := .cells #[.slice (some ad146) l2_0.length c2_0] 30 (0, 0)) z6 hg (Kd.R_ne HO113.out BK109.out (by decide)))
                                    have n2_ := Aside0.mk (blk_grown (g := gb110) (o := .cells #[.slice none 0 0] 30 (0, 0)) z7 hg (Kd.R_ne HO113.out BK110.out (by decide)))
                                    have n3_ := Aside0.mk (blk_grown (g := gb116) (o := .cells #[.slice none 0 0] 30 (0, 0)) z26 hg (Kd.R_ne HO113.out BK116.out (by decide)))
                                    have n4_ := Aside0.mk (hb)
                                    have n5_ := Aside0.mk (ho)
                                    clear BK108 BK109 BK110 BK116 HB HO113
                                    have BK108 := n0_
                                    have BK109 := n1_
                                    have BK110 := n2_
                                    have BK116 := n3_
                                    have HB := n4_
                                    have HO115 := n5_
                                    clear n0_ n1_ n2_ n3_ n4_ n5_
                                    clear ho hb hg hat
                                    obtain ⟨Ao64, co64, eo64⟩ := Kd.R_slice HO115.out
                                    (first | subst eo64 | (injection eo64 with f1_ f2_ f3_; have f4_ := f1_.symm; have f5_ := f3_.symm; clear f1_ f2_ f3_; subst f4_; subst f5_))
                                    refine hK.out _ _ ⟨(blk_cell BK108.out 0).trans rfl, (blk_cell BK109.out 0).trans rfl⟩ (fun hHeld => ?_)
                                    clear hK K
                                    refine norm_ (a' := ?_) ?_ ?_
                                    rotate_left
                                    · show Act.put _ (some 60) _ = _
                                      simp only [Act.put, List.setIfInBounds_toArray, List.set_cons_zero, List.set_cons_succ, i64_w, i32_w]
                                      rfl
                                    refine pure_ (i := 7) (N := some 61) (v := ?_) (a' := ?_) #[true, true, true, true, true, true, true, true, true, false] rfl rfl (any_of HT_.out (by kernel_rfl)) (fun _ _ _ h => h) (Or.inl ⟨(by rfl), ?_⟩) ?_ ?_
                                    rotate_left
                                    · exact z10
                                    rotate_left
                                    · exact z1
                                    exact norm_ z38 (hCont (v112, .slice Ao64 y103.length co64, gb116) _ ⟨hHeld, z35, z4, z6, z7, z26, GW116.out, GE116.out, NB108_116.out, NB116_108.out, NB109_116.out, NB116_109.out, NB110_116.out, NB116_110.out, z8⟩)
                                · skip
                                  refine box_step ?hg (N := 11) ?hd (cs := #[.slice none 0 0]) (t := 30) ?hr ?_; (case hd => rfl); (case hg => rfl); (case hr => first | (go_simp; done) | (go_simp; rfl))
                                  intro gb116 hg w61 hbox hb
                                  have n0_ := zBB BK108 hb
                                  have n1_ := zBB BK109 hb
                                  have n2_ := zBB BK110 hb
                                  have n3_ := Aside0.mk (below_step z2 hb)
                                  have n4_ := Aside0.mk (hbox)
                                  have n5_ := Aside0.mk ((z91 : w.heap.size ≤ gb116))
                                  have n6_ := Aside0.mk ((z91 : w.heap.size ≤ gb116))
                                  have n7_ := Aside0.mk ((z96 : gb108 ≠ gb116))
                                  have n8_ := Aside0.mk ((z97 : gb116 ≠ gb108))
                                  have n9_ := Aside0.mk ((z98 : gb109 ≠ gb116))
                                  have n10_ := Aside0.mk ((z99 : gb116 ≠ gb109))
                                  have n11_ := Aside0.mk ((z87 : gb110 ≠ gb116))
                                  have n12_ := Aside0.mk ((z88 : gb116 ≠ gb110))
                                  clear BK108 BK109 BK110 HB
                                  have BK108 := n0_
                                  have BK109 := n1_
                                  have BK110 := n2_
                                  have HB := n3_
                                  have BK116 := n4_
                                  have GW116 := n5_
                                  have GE116 := n6_
                                  have NB108_116 := n7_
                                  have NB116_108 := n8_
                                  have NB109_116 := n9_
                                  have NB116_109 := n10_
                                  have NB110_116 := n11_
                                  have NB116_110 := n12_
                                  clear n0_ n1_ n2_ n3_ n4_ n5_ n6_ n7_ n8_ n9_ n10_ n11_ n12_
                                  clear hb hbox hg
                                  refine hK.out _ _ ⟨(blk_cell BK108.out 0).trans rfl, (blk_cell BK109.out 0).trans rfl⟩ (fun hHeld => ?_)
                                  clear hK K
                                  refine norm_ (a' := ?_) ?_ ?_
                                  rotate_left
                                  · show Act.put _ (some 11) _ = _
                                    simp only [Act.put, List.setIfInBounds_toArray, List.set_cons_zero, List.set_cons_succ, i64_w, i32_w]
                                    rfl
                                  refine one_ (i := 2) (N := some 56) #[true, true, true, true, true, true, false, false, true, false] rfl rfl (one_of HT_.out (by kernel_rfl)) (by decide) (fun K hK => ?_)
                                  refine goes_ Try.func41 (by kernel_rfl) rfl #[.slice (some ad145) l0_0.length c0_0] (by rfl) rfl rfl z9 ?_
                                  with_reducible refine (spec_l01Own.calls _ _ l0_0 t102 _ ?side1 ?side2 A51.out).mono ?_
                                  (case side1 => exact z11)
                                  (case side2 => exact HC0_0.out)
                                  rintro e w62 ⟨v112, rfl, ho0, hb⟩
                                  refine ⟨_, rfl, ?_⟩
                                  have n0_ := Aside0.mk (Kd.R_lower ho0 (below_size z8))
                                  have n1_ := zBB BK108 hb
                                  have n2_ := zBB BK109 hb
                                  have n3_ := zBB BK110 hb
                                  have n4_ := zBB BK116 hb
                                  have n5_ := Aside0.mk (below_step z8 hb)
                                  clear BK108 BK109 BK110 BK116 HB
                                  have HO113 := n0_
                                  have BK108 := n1_
                                  have BK109 := n2_
                                  have BK110 := n3_
                                  have BK116 := n4_
                                  have HB := n5_
                                  clear n0_ n1_ n2_ n3_ n4_ n5_
                                  (try clear hb)
                                  (try clear hb2)
                                  (try clear hk)
                                  (try clear hi)
                                  (try clear ho0)
                                  refine hK.out _ _ ⟨(blk_cell BK108.out 0).trans rfl, (blk_cell BK109.out 0).trans rfl⟩ (fun hHeld => ?_)
                                  clear hK K
                                  refine norm_ (a' := ?_) ?_ ?_
                                  rotate_left
                                  · show Act.put _ (some 56) _ = _
                                    simp only [Act.put, List.setIfInBounds_toArray, List.set_cons_zero, List.set_cons_succ, i64_w, i32_w]
                                    rfl
                                  refine one_ (i := 6) (N := some 60) #[true, true, true, true, true, true, true, false, true, false] rfl rfl (one_of HT_.out (by kernel_rfl)) (by decide) (fun K hK => ?_)
                                  refine Kd.R_append_rows_step (Kd.int .i64) (w0 := w) w.heap.size (by rfl) (.tmp 56) (.tmp 59) 22 2 (.int .i64 0) 8 rfl Try.underlying22 info2 rfl (by decide) (by omega) v112 t102 (l2_0.drop 1) _ _ _ (fun _ => True) (fun _ => False) rfl rfl ?aO ?aR (fun _ _ h => h) (fun _ h => h.elim) ?aF ?aB ?aS ?aL ?_
                                  (case aR => first | (rw [← show (l2_0.drop 1).length = (l2_0.length - 1) from List.length_drop]; repeat (first | exact (Kd.C_below HR150.out HB.out) | (with_reducible refine Kd.C_alloc ?_ _) | (with_reducible refine Kd.C_drewN ?_ _) | (with_reducible refine Kd.C_drew ?_))) | (repeat (first | exact (Kd.C_below HR150.out HB.out) | (with_reducible refine Kd.C_alloc ?_ _) | (with_reducible refine Kd.C_drewN ?_ _) | (with_reducible refine Kd.C_drew ?_))))
                                  (case aB => exact z8)
                                  (case aF => exact (fun _ _ => trivial))
                                  (case aO => exact z47)
                                  (case aS => exact (below_size z8))
                                  (case aL => have := LMc53.out; have hlx_ := (show (l2_0.drop 1).length = (l2_0.length - 1) from List.length_drop); omega)
                                  intro v114 w63 ho hb hg hat
                                  rw [← Ny103.out] at ho
                                  have n0_ := Aside0.mk (blk_grown (g := gb108) (o := .cells #[.slice (some ad145) l0_0.length c0_0] 30 (0, 0)) z4 hg (Kd.R_ne HO113.out BK108.out (by decide)))
                                  have n1_ := Aside0.mk (blk_grown (g := gb109) (o := .cells #[.slice (some ad146) l2_0.length c2_0] 30 (0, 0)) z6 hg (Kd.R_ne HO113.out BK109.out (by decide)))
                                  have n2_ := Aside0.mk (blk_grown (g := gb110) (o := .cells #[.slice none 0 0] 30 (0, 0)) z7 hg (Kd.R_ne HO113.out BK110.out (by decide)))
                                  have n3_ := Aside0.mk (blk_grown (g := gb116) (o := .cells #[.slice none 0 0] 30 (0, 0)) z26 hg (Kd.R_ne HO113.out BK116.out (by decide)))
                                  have n4_ := Aside0.mk (hb)
                                  have n5_ := Aside0.mk (ho)
                                  clear BK108 BK109 BK110 BK116 HB HO113
                                  have BK108 := n0_
                                  have BK109 := n1_
                                  have BK110 := n2_
                                  have BK116 := n3_
                                  have HB := n4_
                                  have HO115 := n5_
                                  clear n0_ n1_ n2_ n3_ n4_ n5_
                                  clear ho hb hg hat
                                  obtain ⟨Ao64, co64, eo64⟩ := Kd.R_slice HO115.out
                                  (first | subst eo64 | (injection eo64 with f1_ f2_ f3_; have f4_ := f1_.symm; have f5_ := f3_.symm; clear f1_ f2_ f3_; subst f4_; subst f5_))
                                  refine hK.out _ _ ⟨(blk_cell BK108.out 0).trans rfl, (blk_cell BK109.out 0).trans rfl⟩ (fun hHeld => ?_)
                                  clear hK K
                                  refine norm_ (a' := ?_) ?_ ?_
                                  rotate_left
                                  · show Act.put _ (some 60) _ = _
                                    simp only [Act.put, List.setIfInBounds_toArray, List.set_cons_zero, List.set_cons_succ, i64_w, i32_w]
                                    rfl
                                  refine pure_ (i := 7) (N := some 61) (v := ?_) (a' := ?_) #[true, true, true, true, true, true, true, true, true, false] rfl rfl (any_of HT_.out (by kernel_rfl)) (fun _ _ _ h => h) (Or.inl ⟨(by rfl), ?_⟩) ?_ ?_
                                  rotate_left
                                  · exact z10
                                  rotate_left
                                  · exact z1
                                  exact norm_ z38 (hCont (v112, .slice Ao64 y103.length co64, gb116) _ ⟨hHeld, z35, z4, z6, z7, z26, GW116.out, GE116.out, NB108_116.out, NB116_108.out, NB109_116.out, NB116_109.out, NB110_116.out, NB116_110.out, z8⟩)
                              rintro ⟨v112, v114, gb116⟩ w65 ⟨hS_, h0_, h1_, h2_, h3_, h4_, h5_, h6_, h7_, h8_, h9_, h10_, h11_, h12_, h13_⟩
                              have n0_ : Aside0 (Kd.R (Kd.int .i64) 2 w65 w.heap.size (fun _ => True) v114 y103) := ⟨h0_⟩
                              have n1_ : Aside0 (w65.heap[gb108]? = some (.cells #[.slice (some ad145) l0_0.length c0_0] 30 (0, 0))) := ⟨h1_⟩
                              have n2_ : Aside0 (w65.heap[gb109]? = some (.cells #[.slice (some ad146) l2_0.length c2_0] 30 (0, 0))) := ⟨h2_⟩
                              have n3_ : Aside0 (w65.heap[gb110]? = some (.cells #[.slice none 0 0] 30 (0, 0))) := ⟨h3_⟩
                              have n4_ : Aside0 (w65.heap[gb116]? = some (.cells #[.slice none 0 0] 30 (0, 0))) := ⟨h4_⟩
                              have n5_ : Aside0 (w.heap.size ≤ gb116) := ⟨h5_⟩
                              have n6_ : Aside0 (w.heap.size ≤ gb116) := ⟨h6_⟩
                              have n7_ : Aside0 (gb108 ≠ gb116) := ⟨h7_⟩
                              have n8_ : Aside0 (gb116 ≠ gb108) := ⟨h8_⟩
                              have n9_ : Aside0 (gb109 ≠ gb116) := ⟨h9_⟩
                              have n10_ : Aside0 (gb116 ≠ gb109) := ⟨h10_⟩
                              have n11_ : Aside0 (gb110 ≠ gb116) := ⟨h11_⟩
                              have n12_ : Aside0 (gb116 ≠ gb110) := ⟨h12_⟩
                              have n13_ : Aside0 (Below w.heap.size w w65) := ⟨h13_⟩
                              clear BK108 BK109 BK110 HB
                              clear h0_ h1_ h2_ h3_ h4_ h5_ h6_ h7_ h8_ h9_ h10_ h11_ h12_ h13_
                              have HO115 := n0_
                              have BK108 := n1_
                              have BK109 := n2_
                              have BK110 := n3_
                              have BK116 := n4_
                              have GW116 := n5_
                              have GE116 := n6_
                              have NB108_116 := n7_
                              have NB116_108 := n8_
                              have NB109_116 := n9_
                              have NB116_109 := n10_
                              have NB110_116 := n11_
                              have NB116_110 := n12_
                              have HB := n13_
                              clear n0_ n1_ n2_ n3_ n4_ n5_ n6_ n7_ n8_ n9_ n10_ n11_ n12_ n13_
                              have hHeld : w65.cell? ⟨gb108, 0, none⟩ = some (.slice (some ad145) l0_0.length c0_0) ∧ w65.cell? ⟨gb109, 0, none⟩ = some (.slice (some ad146) l2_0.length c2_0) := hS_
                              obtain ⟨Ao66, co66, eo66⟩ := Kd.R_slice HO115.out
                              (first | subst eo66 | (injection eo66 with f1_ f2_ f3_; have f4_ := f1_.symm; have f5_ := f3_.symm; clear f1_ f2_ f3_; subst f4_; subst f5_))
                              refine norm_ (a' := ?_) ?_ ?_
                              rotate_left
                              · simp only [putAll, Act.put, List.setIfInBounds_toArray, List.set_cons_zero, List.set_cons_succ]
                                rfl
                              refine one_ (i := 9) (N := none) #[true, true, true, true, true, true, true, true, true, true] rfl rfl (one_of HT_.out (by kernel_rfl)) (by decide) (fun K hK => ?_)
                              have hs67 : w65.cell? ⟨gb116, 0, none⟩ = some (.slice none 0 0) := (blk_cell BK116.out 0).trans rfl
                              have hfs67 := blk_frozen BK116.out 0
                              have hns67_0 := NB108_116.out
                              have hns67_1 := NB109_116.out
                              have hns67_2 := NB110_116.out
                              have hms67_0 := NB116_108.out
                              have hms67_1 := NB116_109.out
                              have hms67_2 := NB116_110.out
                              refine skip_ (w1 := ?_) (by rfl) rfl ?_ ?_
                              rotate_left
                              · go_simp
                                rfl
                              refine hK.out _ _ ⟨((cell_far (p := ⟨gb116, _, none⟩) NB108_116.out _).trans (hHeld.1)), ((cell_far (p := ⟨gb116, _, none⟩) NB109_116.out _).trans (hHeld.2))⟩ (fun hHeld => ?_)
                              clear hK K
                              refine done_ (done_of HT_.out (by kernel_rfl)) ?_
                              have hnb68 := NB116_108.out
                              have hnc68 := NB108_116.out
                              have hnb69 := NB116_109.out
                              have hnc69 := NB109_116.out
                              have hnb70 := NB116_110.out
                              have hnc70 := NB110_116.out
                              obtain ⟨hcz71_0, hfz71_0⟩ := zC1 BK116.out
                              try go_wp2_with (first | ((with_reducible refine gate_callee (f := 33) rfl ?_); refine goesL_ (some 63) rfl rfl Try.func33 (by kernel_rfl) rfl #[.agg #[.slice Ao66 y103.length co66]] rfl z9 ?_; (with_reducible refine (spec_l01Is.calls kj26 _ _ y103 true _ ?side1 ?side2 A54.out).mono ?_); (case side1 => refine (Kd.R_reads' (e := 2) (base := w.heap.size) (ok := fun k_ => True) (n := y103.length) (c := co66) ?_).2.2; exact z61); (case side2 => exact (Kd.R_reads' HO115.out).2.1); rintro e w72 ⟨rfl, hb⟩; refine ⟨_, rfl, ?_⟩; have n0_ := Aside0.mk (Kd.R_below z61 hb); have n1_ := Aside0.mk (blk_below (g := gb108) (o := .cells #[.slice (some ad145) l0_0.length c0_0] 30 (0, 0)) z62 hb); have n2_ := Aside0.mk (blk_below (g := gb109) (o := .cells #[.slice (some ad146) l2_0.length c2_0] 30 (0, 0)) z63 hb); have n3_ := Aside0.mk (blk_below (g := gb110) (o := .cells #[.slice none 0 0] 30 (0, 0)) z64 hb); have n4_ := Aside0.mk (blk_below (g := gb116) (o := .cells #[.slice Ao66 y103.length co66] 30 (0, 0)) z57 hb); have n5_ := Aside0.mk (below_step z8 hb); clear HO115 BK108 BK109 BK110 BK116 HB; have HO115 := n0_; have BK108 := n1_; have BK109 := n2_; have BK110 := n3_; have BK116 := n4_; have HB := n5_; clear n0_ n1_ n2_ n3_ n4_ n5_; (try clear hb); (try clear hb2); (try clear hk); (try clear hi)))
                              have n0_ := Aside0.mk (Kd.R_drew HO115.out)
                              have n1_ := Aside0.mk (blk_drew BK108.out)
                              have n2_ := Aside0.mk (blk_drew BK109.out)
                              have n3_ := Aside0.mk (blk_drew BK110.out)
                              have n4_ := Aside0.mk (blk_drew BK116.out)
                              have n5_ := Aside0.mk (below_drew1 HB.out)
                              clear HO115 BK108 BK109 BK110 BK116 HB
                              have HO115 := n0_
                              have BK108 := n1_
                              have BK109 := n2_
                              have BK110 := n3_
                              have BK116 := n4_
                              have HB := n5_
                              clear n0_ n1_ n2_ n3_ n4_ n5_
                              have p156 : 0 ≤ (0 : Int) := (by omega)
                              have q156 : 0 < (l2_0.length : Int) := of_decide_eq_true z12
                              obtain ⟨ad156, e156, hx156_0⟩ := Kd.at_int HR2_0.out 0 p156 q156
                              have hw156_0 := hx156_0
                              (try rw [show ((0 : Int)).toNat = 0 from rfl] at hw156_0)
                              (try rw [show 0 * 1 = 0 from rfl] at hw156_0)
                              (try rw [Addr.add_zero'] at hw156_0)
                              obtain rfl : ad146 = ad156 := (by injection e156)
                              have qi156 : (0 < l2_0.length) = True := eq_true (by omega)
                              (try rw [show ((0 : Int)).toNat = 0 from rfl] at hx156_0)
                              (try rw [Addr.add_zero'] at hx156_0)
                              try replace hx156_0 := (HB.out.cell (World.block_lt_of_cell? w _ hx156_0)).trans hx156_0
                              replace p156 := eq_true p156
                              replace q156 := eq_true q156
                              have p158 : 0 ≤ (0 : Int) := (by omega)
                              have q158 : 0 < (l2_0.length : Int) := of_decide_eq_true z12
                              obtain ⟨ad158, e158, hx158_0⟩ := Kd.at_int HR2_0.out 0 p158 q158
                              have hw158_0 := hx158_0
                              (try rw [show ((0 : Int)).toNat = 0 from rfl] at hw158_0)
                              (try rw [show 0 * 1 = 0 from rfl] at hw158_0)
                              (try rw [Addr.add_zero'] at hw158_0)
                              obtain rfl : ad146 = ad158 := (by injection e158)
                              have qi158 : (0 < l2_0.length) = True := eq_true (by omega)
                              (try rw [show ((0 : Int)).toNat = 0 from rfl] at hx158_0)
                              (try rw [Addr.add_zero'] at hx158_0)
                              try replace hx158_0 := (HB.out.cell (World.block_lt_of_cell? w _ hx158_0)).trans hx158_0
                              replace p158 := eq_true p158
                              replace q158 := eq_true q158
                              refine start_ (n := 15) (S := fun w' => True) (ds := []) #[false, false, false, false, false, false, false, false, false, false, false, false, false, false, false] (by kernel_rfl) rfl rfl trivial (fun hHeld => ?_); refine with_tabW spec_JoinOverPlace.tab10 spec_JoinOverPlace.bits10 (fun HT_ HW_ => ?_)
                              generalize w72.drew = w73 at HO115 BK108 BK109 BK110 BK116 HB hx156_0 hx158_0 hHeld ⊢
                              refine pure_ (i := 0) (N := some 66) (v := ?_) (a' := ?_) #[true, false, false, false, false, false, false, false, false, false, false, false, false, false, false] rfl rfl (any_of HT_.out (by kernel_rfl)) (fun _ _ _ h => h) (Or.inl ⟨(by rfl), ?_⟩) ?_ ?_
                              rotate_left
                              · exact z10
                              rotate_left
                              · exact z1
                              refine pure_ (i := 6) (N := some 72) (v := ?_) (a' := ?_) #[true, false, false, false, false, false, true, false, false, false, false, false, false, false, false] rfl rfl (any_of HT_.out (by kernel_rfl)) (fun _ _ _ h => h) (Or.inl ⟨(by rfl), ?_⟩) ?_ ?_
                              rotate_left
                              · exact z10
                              rotate_left
                              · exact z1
                              refine inv_at [1, 2, 3, 4, 5, 7, 8, 9, 10, 11, 12, 13, 14] (fun a0_ b a w' => ∃ (v117 : Value) (m14_ : Value), a = putSel a0_ b [(1, 67, .slice (some ad146) l2_0.length c2_0), (2, 68, .pointer (some ad146)), (3, 69, .int .i64 (rd l2_0 0)), (4, 70, .agg #[.slice (some ad146) l2_0.length c2_0]), (5, 71, .int .i64 t105), (7, 73, .slice (some ad146) l2_0.length c2_0), (8, 74, .pointer (some ad146)), (9, 75, .int .i64 (rd l2_0 0)), (10, 76, .int .i64 (wrap64 (Int.tdiv t105 (rd l2_0 0)))), (11, 77, v117), (12, 12, .int .i64 (rd l2_0 0)), (13, 13, .int .i64 (wrap64 (Int.tdiv t105 (rd l2_0 0)))), (14, 14, m14_)] ∧ (Kd.R (Kd.int .i64) 2 w' w.heap.size (fun _ => True) (.slice Ao66 y103.length co66) y103) ∧ (w'.heap[gb108]? = some (.cells #[.slice (some ad145) l0_0.length c0_0] 30 (0, 0))) ∧ (w'.heap[gb109]? = some (.cells #[.slice (some ad146) l2_0.length c2_0] 30 (0, 0))) ∧ (w'.heap[gb110]? = some (.cells #[.slice none 0 0] 30 (0, 0))) ∧ (w'.heap[gb116]? = some (.cells #[.slice Ao66 y103.length co66] 30 (0, 0))) ∧ (Below w.heap.size w w') ∧ (b 11 = true → Kd.R (Kd.int .i64) 2 w' w.heap.size (fun k_ => some k_ ≠ (.slice Ao66 y103.length co66 : Value).ownBlock) v117 y111) ∧ (b 14 = true → (m14_ : Value) = v117)) HT_.out HW_.out (by kernel_rfl) (by kernel_rfl) ?_ ?_ ?_
                              · exact ⟨.bool false, .bool false, (by simp only [putSel, Bool.false_eq_true, if_false]), HO115.out, BK108.out, BK109.out, BK110.out, BK116.out, HB.out, fun h_ => absurd h_ (by decide), fun h_ => absurd h_ (by decide)⟩
                              · skip
                                clear BK108 BK109 BK110 BK116 HB HO115
                                refine steps_cons ?_ ?_
                                · rintro b a w' ⟨v117, m14_, ha, Q_HO153, Q_BK138, Q_BK139, Q_BK140, Q_BK154, Q_HB, Q_HO161, Q_X14_⟩ hb_ hon hoff
                                  refine ⟨_, rfl, fun K hK => ?_⟩
                                  have e66 : a.tmps[66]? = some (.pointer (some ⟨gb109, 0, none⟩)) := by rw [ha]; exact (putSel_off rfl).trans rfl
                                  replace ha := Aside0.mk ha
                                  have HO115 := Aside0.mk Q_HO153
                                  have BK108 := Aside0.mk Q_BK138
                                  have BK109 := Aside0.mk Q_BK139
                                  have BK110 := Aside0.mk Q_BK140
                                  have BK116 := Aside0.mk Q_BK154
                                  have HB := Aside0.mk Q_HB
                                  have hc0_ : w'.cell? ⟨gb109, 0, none⟩ = some (.slice (some ad146) l2_0.length c2_0) := (blk_cell BK109.out 0).trans rfl
                                  refine value_ (w1 := w') (v := .slice (some ad146) l2_0.length c2_0) (by rfl) rfl ?_ ?_
                                  · go_simp
                                    (try simp only [i64_w])
                                    try rfl
                                  refine hK.out _ _ ⟨v117, m14_, (by rw [ha.out]; exact putSel_upk 0 hb_ rfl rfl rfl), Q_HO153, Q_BK138, Q_BK139, Q_BK140, Q_BK154, Q_HB, Q_HO161, fun h0_ => absurd ((hoff 14 (by kernel_rfl)).symm.trans h0_) (by decide)⟩
                                refine steps_cons ?_ ?_
                                · rintro b a w' ⟨v117, m14_, ha, Q_HO153, Q_BK138, Q_BK139, Q_BK140, Q_BK154, Q_HB, Q_HO161, Q_X14_⟩ hb_ hon hoff
                                  refine ⟨_, rfl, fun K hK => ?_⟩
                                  have e67 : a.tmps[67]? = some (.slice (some ad146) l2_0.length c2_0) := by rw [ha]; exact putSel_on (e := (1, 67, .slice (some ad146) l2_0.length c2_0)) 0 rfl rfl (hon 1 (by kernel_rfl)) rfl
                                  replace ha := Aside0.mk ha
                                  have HO115 := Aside0.mk Q_HO153
                                  have BK108 := Aside0.mk Q_BK138
                                  have BK109 := Aside0.mk Q_BK139
                                  have BK110 := Aside0.mk Q_BK140
                                  have BK116 := Aside0.mk Q_BK154
                                  have HB := Aside0.mk Q_HB
                                  have hs0_ : w'.cell? ad146 = some (.int .i64 (rd l2_0 0)) := ((HB.out.cell (World.block_lt_of_cell? w _ hw156_0)).trans hw156_0)
                                  refine value_ (w1 := w') (v := .pointer (some ad146)) (by rfl) rfl ?_ ?_
                                  · go_simp
                                    (try simp only [i64_w])
                                    try rfl
                                  refine hK.out _ _ ⟨v117, m14_, (by rw [ha.out]; exact putSel_upk 1 hb_ rfl rfl rfl), Q_HO153, Q_BK138, Q_BK139, Q_BK140, Q_BK154, Q_HB, Q_HO161, fun h0_ => absurd ((hoff 14 (by kernel_rfl)).symm.trans h0_) (by decide)⟩
                                refine steps_cons ?_ ?_
                                · rintro b a w' ⟨v117, m14_, ha, Q_HO153, Q_BK138, Q_BK139, Q_BK140, Q_BK154, Q_HB, Q_HO161, Q_X14_⟩ hb_ hon hoff
                                  refine ⟨_, rfl, fun K hK => ?_⟩
                                  have e68 : a.tmps[68]? = some (.pointer (some ad146)) := by rw [ha]; exact putSel_on (e := (2, 68, .pointer (some ad146))) 1 rfl rfl (hon 2 (by kernel_rfl)) rfl
                                  replace ha := Aside0.mk ha
                                  have HO115 := Aside0.mk Q_HO153
                                  have BK108 := Aside0.mk Q_BK138
                                  have BK109 := Aside0.mk Q_BK139
                                  have BK110 := Aside0.mk Q_BK140
                                  have BK116 := Aside0.mk Q_BK154
                                  have HB := Aside0.mk Q_HB
                                  have hs0_ : w'.cell? ad146 = some (.int .i64 (rd l2_0 0)) := ((HB.out.cell (World.block_lt_of_cell? w _ hw156_0)).trans hw156_0)
                                  refine value_ (w1 := w') (v := .int .i64 (rd l2_0 0)) (by rfl) rfl ?_ ?_
                                  · go_simp
                                    (try simp only [i64_w])
                                    try rfl
                                  refine hK.out _ _ ⟨v117, m14_, (by rw [ha.out]; exact putSel_upk 2 hb_ rfl rfl rfl), Q_HO153, Q_BK138, Q_BK139, Q_BK140, Q_BK154, Q_HB, Q_HO161, fun h0_ => absurd ((hoff 14 (by kernel_rfl)).symm.trans h0_) (by decide)⟩
                                refine steps_cons ?_ ?_
                                · rintro b a w' ⟨v117, m14_, ha, Q_HO153, Q_BK138, Q_BK139, Q_BK140, Q_BK154, Q_HB, Q_HO161, Q_X14_⟩ hb_ hon hoff
                                  refine ⟨_, rfl, fun K hK => ?_⟩
                                  have e6 : a.tmps[6]? = some (.pointer (some ⟨gb109, 0, none⟩)) := by rw [ha]; exact (putSel_off rfl).trans rfl
                                  replace ha := Aside0.mk ha
                                  have HO115 := Aside0.mk Q_HO153
                                  have BK108 := Aside0.mk Q_BK138
                                  have BK109 := Aside0.mk Q_BK139
                                  have BK110 := Aside0.mk Q_BK140
                                  have BK116 := Aside0.mk Q_BK154
                                  have HB := Aside0.mk Q_HB
                                  have hc0_ : w'.cell? ⟨gb109, 0, none⟩ = some (.slice (some ad146) l2_0.length c2_0) := (blk_cell BK109.out 0).trans rfl
                                  refine value_ (w1 := w') (v := .agg #[.slice (some ad146) l2_0.length c2_0]) (by rfl) rfl ?_ ?_
                                  · go_simp
                                    (try simp only [i64_w])
                                    try rfl
                                  refine hK.out _ _ ⟨v117, m14_, (by rw [ha.out]; exact putSel_upk 3 hb_ rfl rfl rfl), Q_HO153, Q_BK138, Q_BK139, Q_BK140, Q_BK154, Q_HB, Q_HO161, fun h0_ => absurd ((hoff 14 (by kernel_rfl)).symm.trans h0_) (by decide)⟩
                                refine steps_cons ?_ ?_
                                · rintro b a w' ⟨v117, m14_, ha, Q_HO153, Q_BK138, Q_BK139, Q_BK140, Q_BK154, Q_HB, Q_HO161, Q_X14_⟩ hb_ hon hoff
                                  refine ⟨_, rfl, fun K hK => ?_⟩
                                  have e70 : a.tmps[70]? = some (.agg #[.slice (some ad146) l2_0.length c2_0]) := by rw [ha]; exact putSel_on (e := (4, 70, .agg #[.slice (some ad146) l2_0.length c2_0])) 3 rfl rfl (hon 4 (by kernel_rfl)) rfl
                                  replace ha := Aside0.mk ha
                                  have HO115 := Aside0.mk Q_HO153
                                  have BK108 := Aside0.mk Q_BK138
                                  have BK109 := Aside0.mk Q_BK139
                                  have BK110 := Aside0.mk Q_BK140
                                  have BK116 := Aside0.mk Q_BK154
                                  have HB := Aside0.mk Q_HB
                                  refine goes_ Try.func42 (by kernel_rfl) rfl #[.agg #[.slice (some ad146) l2_0.length c2_0]] (by rfl) rfl rfl (by first | (simp only [List.map_toArray, List.map_cons, List.map_nil, Act.eval, Array.getD_eq_getD_getElem?, Option.getD_some, e70]; done) | (simp only [List.map_toArray, List.map_cons, List.map_nil, Act.eval, Array.getD_eq_getD_getElem?, Option.getD_some, e70]; rfl)) ?_
                                  with_reducible refine (spec_l01N.calls kj26 _ _ l2_0 t105 _ ?side1 ?side2 A56.out).mono ?_
                                  (case side1 => exact z41)
                                  (case side2 => exact HC2_0.out)
                                  rintro e w74 ⟨rfl, hb⟩
                                  refine ⟨_, rfl, ?_⟩
                                  have n0_ := Aside0.mk (Kd.R_below z35 hb)
                                  have n1_ := zBB BK108 hb
                                  have n2_ := zBB BK109 hb
                                  have n3_ := zBB BK110 hb
                                  have n4_ := zBB BK116 hb
                                  have n5_ := Aside0.mk (below_step z8 hb)
                                  have z_HO161 := fun (h0_ : b 11 = true) => (show Kd.R (Kd.int .i64) 2 w74 w.heap.size (fun k_ => some k_ ≠ (.slice Ao66 y103.length co66 : Value).ownBlock) v117 y111 from by first | exact (Kd.R_below z80 hb) | exact Kd.R_mono (Kd.R_below z80 hb) (fun _ h_ => by first | trivial | exact h_ | exact h_.1))
                                  clear HO115 BK108 BK109 BK110 BK116 HB
                                  have HO115 := n0_
                                  have BK108 := n1_
                                  have BK109 := n2_
                                  have BK110 := n3_
                                  have BK116 := n4_
                                  have HB := n5_
                                  clear n0_ n1_ n2_ n3_ n4_ n5_
                                  (try clear hb)
                                  (try clear hb2)
                                  (try clear hk)
                                  (try clear hi)
                                  refine hK.out _ _ ⟨v117, m14_, (by rw [ha.out]; exact putSel_upk 4 hb_ rfl rfl rfl), z35, z4, z6, z7, z26, z8, z_HO161, fun h0_ => absurd ((hoff 14 (by kernel_rfl)).symm.trans h0_) (by decide)⟩
                                refine steps_cons ?_ ?_
                                · rintro b a w' ⟨v117, m14_, ha, Q_HO153, Q_BK138, Q_BK139, Q_BK140, Q_BK154, Q_HB, Q_HO161, Q_X14_⟩ hb_ hon hoff
                                  refine ⟨_, rfl, fun K hK => ?_⟩
                                  have e72 : a.tmps[72]? = some (.pointer (some ⟨gb109, 0, none⟩)) := by rw [ha]; exact (putSel_off rfl).trans rfl
                                  replace ha := Aside0.mk ha
                                  have HO115 := Aside0.mk Q_HO153
                                  have BK108 := Aside0.mk Q_BK138
                                  have BK109 := Aside0.mk Q_BK139
                                  have BK110 := Aside0.mk Q_BK140
                                  have BK116 := Aside0.mk Q_BK154
                                  have HB := Aside0.mk Q_HB
                                  have hc0_ : w'.cell? ⟨gb109, 0, none⟩ = some (.slice (some ad146) l2_0.length c2_0) := (blk_cell BK109.out 0).trans rfl
                                  refine value_ (w1 := w') (v := .slice (some ad146) l2_0.length c2_0) (by rfl) rfl ?_ ?_
                                  · go_simp
                                    (try simp only [i64_w])
                                    try rfl
                                  refine hK.out _ _ ⟨v117, m14_, (by rw [ha.out]; exact putSel_upk 5 hb_ rfl rfl rfl), Q_HO153, Q_BK138, Q_BK139, Q_BK140, Q_BK154, Q_HB, Q_HO161, fun h0_ => absurd ((hoff 14 (by kernel_rfl)).symm.trans h0_) (by decide)⟩
                                refine steps_cons ?_ ?_
                                · rintro b a w' ⟨v117, m14_, ha, Q_HO153, Q_BK138, Q_BK139, Q_BK140, Q_BK154, Q_HB, Q_HO161, Q_X14_⟩ hb_ hon hoff
                                  refine ⟨_, rfl, fun K hK => ?_⟩
                                  have e73 : a.tmps[73]? = some (.slice (some ad146) l2_0.length c2_0) := by rw [ha]; exact putSel_on (e := (7, 73, .slice (some ad146) l2_0.length c2_0)) 5 rfl rfl (hon 7 (by kernel_rfl)) rfl
                                  replace ha := Aside0.mk ha
                                  have HO115 := Aside0.mk Q_HO153
                                  have BK108 := Aside0.mk Q_BK138
                                  have BK109 := Aside0.mk Q_BK139
                                  have BK110 := Aside0.mk Q_BK140
                                  have BK116 := Aside0.mk Q_BK154
                                  have HB := Aside0.mk Q_HB
                                  have hs1_ : w'.cell? ad146 = some (.int .i64 (rd l2_0 0)) := ((HB.out.cell (World.block_lt_of_cell? w _ hw158_0)).trans hw158_0)
                                  refine value_ (w1 := w') (v := .pointer (some ad146)) (by rfl) rfl ?_ ?_
                                  · go_simp
                                    (try simp only [i64_w])
                                    try rfl
                                  refine hK.out _ _ ⟨v117, m14_, (by rw [ha.out]; exact putSel_upk 6 hb_ rfl rfl rfl), Q_HO153, Q_BK138, Q_BK139, Q_BK140, Q_BK154, Q_HB, Q_HO161, fun h0_ => absurd ((hoff 14 (by kernel_rfl)).symm.trans h0_) (by decide)⟩
                                refine steps_cons ?_ ?_
                                · rintro b a w' ⟨v117, m14_, ha, Q_HO153, Q_BK138, Q_BK139, Q_BK140, Q_BK154, Q_HB, Q_HO161, Q_X14_⟩ hb_ hon hoff
                                  refine ⟨_, rfl, fun K hK => ?_⟩
                                  have e74 : a.tmps[74]? = some (.pointer (some ad146)) := by rw [ha]; exact putSel_on (e := (8, 74, .pointer (some ad146))) 6 rfl rfl (hon 8 (by kernel_rfl)) rfl
                                  replace ha := Aside0.mk ha
                                  have HO115 := Aside0.mk Q_HO153
                                  have BK108 := Aside0.mk Q_BK138
                                  have BK109 := Aside0.mk Q_BK139
                                  have BK110 := Aside0.mk Q_BK140
                                  have BK116 := Aside0.mk Q_BK154
                                  have HB := Aside0.mk Q_HB
                                  have hs1_ : w'.cell? ad146 = some (.int .i64 (rd l2_0 0)) := ((HB.out.cell (World.block_lt_of_cell? w _ hw158_0)).trans hw158_0)
                                  refine value_ (w1 := w') (v := .int .i64 (rd l2_0 0)) (by rfl) rfl ?_ ?_
                                  · go_simp
                                    (try simp only [i64_w])
                                    try rfl
                                  refine hK.out _ _ ⟨v117, m14_, (by rw [ha.out]; exact putSel_upk 7 hb_ rfl rfl rfl), Q_HO153, Q_BK138, Q_BK139, Q_BK140, Q_BK154, Q_HB, Q_HO161, fun h0_ => absurd ((hoff 14 (by kernel_rfl)).symm.trans h0_) (by decide)⟩
                                refine steps_cons ?_ ?_
                                · rintro b a w' ⟨v117, m14_, ha, Q_HO153, Q_BK138, Q_BK139, Q_BK140, Q_BK154, Q_HB, Q_HO161, Q_X14_⟩ hb_ hon hoff
                                  refine ⟨_, rfl, fun K hK => ?_⟩
                                  have e71 : a.tmps[71]? = some (.int .i64 t105) := by rw [ha]; exact putSel_on (e := (5, 71, .int .i64 t105)) 4 rfl rfl (hon 5 (by kernel_rfl)) rfl
                                  have e75 : a.tmps[75]? = some (.int .i64 (rd l2_0 0)) := by rw [ha]; exact putSel_on (e := (9, 75, .int .i64 (rd l2_0 0))) 7 rfl rfl (hon 9 (by kernel_rfl)) rfl
                                  replace ha := Aside0.mk ha
                                  have HO115 := Aside0.mk Q_HO153
                                  have BK108 := Aside0.mk Q_BK138
                                  have BK109 := Aside0.mk Q_BK139
                                  have BK110 := Aside0.mk Q_BK140
                                  have BK116 := Aside0.mk Q_BK154
                                  have HB := Aside0.mk Q_HB
                                  refine value_ (w1 := w') (v := .int .i64 (wrap64 (Int.tdiv t105 (rd l2_0 0)))) (by rfl) rfl ?_ ?_
                                  · go_simp
                                    (try simp only [i64_w])
                                    try rfl
                                  refine hK.out _ _ ⟨v117, m14_, (by rw [ha.out]; exact putSel_upk 8 hb_ rfl rfl rfl), Q_HO153, Q_BK138, Q_BK139, Q_BK140, Q_BK154, Q_HB, Q_HO161, fun h0_ => absurd ((hoff 14 (by kernel_rfl)).symm.trans h0_) (by decide)⟩
                                refine steps_cons ?_ ?_
                                · rintro b a w' ⟨v117, m14_, ha, Q_HO153, Q_BK138, Q_BK139, Q_BK140, Q_BK154, Q_HB, Q_HO161, Q_X14_⟩ hb_ hon hoff
                                  refine ⟨_, rfl, fun K hK => ?_⟩
                                  replace ha := Aside0.mk ha
                                  have HO115 := Aside0.mk Q_HO153
                                  have BK108 := Aside0.mk Q_BK138
                                  have BK109 := Aside0.mk Q_BK139
                                  have BK110 := Aside0.mk Q_BK140
                                  have BK116 := Aside0.mk Q_BK154
                                  have HB := Aside0.mk Q_HB
                                  refine Kd.R_lit_step (Kd.int .i64) _ 2 ?hg (N := 77) ?hd (xs := ([] : List Int)) (inner := []) (ok := fun _ => True) (okp := fun _ => True) ?hr ?hp (fun _ hk => hk) trivial (Below.refl _ _) (Nat.le_refl _) (by simp) ?_; (case hd => rfl); (case hg => rfl); (case hr => first | (go_simp; done) | (go_simp; rfl)); (case hp => exact (Reps.none _ _))
                                  intro v117 w74 ho75 hb hg_ hnew_
                                  clear hg_ hnew_
                                  (first | rw [← Ny111.out] at ho75 | (simp only [Int.reduceToNat] at ho75; rw [← Ny111.out] at ho75))
                                  have n0_ := Aside0.mk (Kd.R_elder' z35 (Kd.R_base ho75) hb)
                                  have n1_ := Aside0.mk (Kd.R_lower (Kd.R_new' ho75 (Kd.R_lt z35)) (below_size z8))
                                  have n2_ := zBB BK108 hb
                                  have n3_ := zBB BK109 hb
                                  have n4_ := zBB BK110 hb
                                  have n5_ := zBB BK116 hb
                                  have n6_ := Aside0.mk (below_step z8 hb)
                                  clear HO115 BK108 BK109 BK110 BK116 HB
                                  have HO115 := n0_
                                  have HO118 := n1_
                                  have BK108 := n2_
                                  have BK109 := n3_
                                  have BK110 := n4_
                                  have BK116 := n5_
                                  have HB := n6_
                                  clear n0_ n1_ n2_ n3_ n4_ n5_ n6_
                                  clear hb ho75
                                  refine hK.out _ _ ⟨v117, m14_, (by rw [ha.out]; exact putSel_upk 9 hb_ rfl rfl rfl), (by (with_reducible repeat (first | apply Kd.R_alloc | apply Kd.R_drewN | apply Kd.R_drew)); exact Kd.R_mono HO115.out (fun _ hk => by first | exact trivial | exact hk.1 | exact hk.2 | exact hk.1.1 | simp only [hk, ne_eq, not_false_eq_true, and_self])), z4, z6, z7, z26, z8, fun _ => (by (with_reducible repeat (first | apply Kd.R_alloc | apply Kd.R_drewN | apply Kd.R_drew)); exact Kd.R_mono HO118.out (fun _ hk => hk.2)), fun h0_ => absurd ((hoff 14 (by kernel_rfl)).symm.trans h0_) (by decide)⟩
                                refine steps_cons ?_ ?_
                                · rintro b a w' ⟨v117, m14_, ha, Q_HO153, Q_BK138, Q_BK139, Q_BK140, Q_BK154, Q_HB, Q_HO161, Q_X14_⟩ hb_ hon hoff
                                  refine ⟨_, rfl, fun K hK => ?_⟩
                                  have e69 : a.tmps[69]? = some (.int .i64 (rd l2_0 0)) := by rw [ha]; exact putSel_on (e := (3, 69, .int .i64 (rd l2_0 0))) 2 rfl rfl (hon 3 (by kernel_rfl)) rfl
                                  replace ha := Aside0.mk ha
                                  have HO115 := Aside0.mk Q_HO153
                                  have BK108 := Aside0.mk Q_BK138
                                  have BK109 := Aside0.mk Q_BK139
                                  have BK110 := Aside0.mk Q_BK140
                                  have BK116 := Aside0.mk Q_BK154
                                  have HB := Aside0.mk Q_HB
                                  refine value_ (w1 := w') (v := .int .i64 (rd l2_0 0)) (by rfl) rfl ?_ ?_
                                  · go_simp
                                    (try simp only [i64_w])
                                    try rfl
                                  refine hK.out _ _ ⟨v117, m14_, (by rw [ha.out]; exact putSel_upk 10 hb_ rfl rfl rfl), Q_HO153, Q_BK138, Q_BK139, Q_BK140, Q_BK154, Q_HB, Q_HO161, fun h0_ => absurd ((hoff 14 (by kernel_rfl)).symm.trans h0_) (by decide)⟩
                                refine steps_cons ?_ ?_
                                · rintro b a w' ⟨v117, m14_, ha, Q_HO153, Q_BK138, Q_BK139, Q_BK140, Q_BK154, Q_HB, Q_HO161, Q_X14_⟩ hb_ hon hoff
                                  refine ⟨_, rfl, fun K hK => ?_⟩
                                  have e76 : a.tmps[76]? = some (.int .i64 (wrap64 (Int.tdiv t105 (rd l2_0 0)))) := by rw [ha]; exact putSel_on (e := (10, 76, .int .i64 (wrap64 (Int.tdiv t105 (rd l2_0 0))))) 8 rfl rfl (hon 10 (by kernel_rfl)) rfl
                                  replace ha := Aside0.mk ha
                                  have HO115 := Aside0.mk Q_HO153
                                  have BK108 := Aside0.mk Q_BK138
                                  have BK109 := Aside0.mk Q_BK139
                                  have BK110 := Aside0.mk Q_BK140
                                  have BK116 := Aside0.mk Q_BK154
                                  have HB := Aside0.mk Q_HB
                                  refine value_ (w1 := w') (v := .int .i64 (wrap64 (Int.tdiv t105 (rd l2_0 0)))) (by rfl) rfl ?_ ?_
                                  · go_simp
                                    (try simp only [i64_w])
                                    try rfl
                                  refine hK.out _ _ ⟨v117, m14_, (by rw [ha.out]; exact putSel_upk 11 hb_ rfl rfl rfl), Q_HO153, Q_BK138, Q_BK139, Q_BK140, Q_BK154, Q_HB, Q_HO161, fun h0_ => absurd ((hoff 14 (by kernel_rfl)).symm.trans h0_) (by decide)⟩
                                refine steps_cons ?_ ?_
                                · rintro b a w' ⟨v117, m14_, ha, Q_HO153, Q_BK138, Q_BK139, Q_BK140, Q_BK154, Q_HB, Q_HO161, Q_X14_⟩ hb_ hon hoff
                                  refine ⟨_, rfl, fun K hK => ?_⟩
                                  have e77 : a.tmps[77]? = some (v117) := by rw [ha]; exact putSel_on (e := (11, 77, v117)) 9 rfl rfl (hon 11 (by kernel_rfl)) rfl
                                  replace ha := Aside0.mk ha
                                  have HO115 := Aside0.mk Q_HO153
                                  have BK108 := Aside0.mk Q_BK138
                                  have BK109 := Aside0.mk Q_BK139
                                  have BK110 := Aside0.mk Q_BK140
                                  have BK116 := Aside0.mk Q_BK154
                                  have HB := Aside0.mk Q_HB
                                  have HO118 := Aside0.mk (Q_HO161 (hon 11 (by kernel_rfl)))
                                  refine value_ (w1 := w') (v := v117) (by rfl) rfl ?_ ?_
                                  · go_simp
                                    (try simp only [i64_w])
                                    try rfl
                                  refine hK.out _ _ ⟨v117, (v117), (by rw [ha.out]; exact putSel_upk 12 hb_ rfl rfl rfl), Q_HO153, Q_BK138, Q_BK139, Q_BK140, Q_BK154, Q_HB, Q_HO161, fun _ => rfl⟩
                                exact steps_nil
                              rintro b a w77 hall ⟨v117, m14_, ha, Q_HO153, Q_BK138, Q_BK139, Q_BK140, Q_BK154, Q_HB, Q_HO161, Q_X14_⟩
                              clear BK108 BK109 BK110 BK116 HB HO115
                              have hb1_ := hall 1 (by kernel_rfl)
                              have hb2_ := hall 2 (by kernel_rfl)
                              have hb3_ := hall 3 (by kernel_rfl)
                              have hb4_ := hall 4 (by kernel_rfl)
                              have hb5_ := hall 5 (by kernel_rfl)
                              have hb7_ := hall 7 (by kernel_rfl)
                              have hb8_ := hall 8 (by kernel_rfl)
                              have hb9_ := hall 9 (by kernel_rfl)
                              have hb10_ := hall 10 (by kernel_rfl)
                              have hb11_ := hall 11 (by kernel_rfl)
                              have hb12_ := hall 12 (by kernel_rfl)
                              have hb13_ := hall 13 (by kernel_rfl)
                              have hb14_ := hall 14 (by kernel_rfl)
                              subst ha
                              obtain rfl := Q_X14_ hb14_
                              simp only [putSel, hb1_, hb2_, hb3_, hb4_, hb5_, hb7_, hb8_, hb9_, hb10_, hb11_, hb12_, hb13_, hb14_, if_true, Act.put, List.setIfInBounds_toArray, List.set_cons_zero, List.set_cons_succ]
                              have HO115 := Aside0.mk Q_HO153
                              clear Q_HO153
                              have BK108 := Aside0.mk Q_BK138
                              clear Q_BK138
                              have BK109 := Aside0.mk Q_BK139
                              clear Q_BK139
                              have BK110 := Aside0.mk Q_BK140
                              clear Q_BK140
                              have BK116 := Aside0.mk Q_BK154
                              clear Q_BK154
                              have HB := Aside0.mk Q_HB
                              clear Q_HB
                              have HO118 := Aside0.mk (Q_HO161 hb11_)
                              clear Q_HO161
                              clear hall hb1_ hb2_ hb3_ hb4_ hb5_ hb7_ hb8_ hb9_ hb10_ hb11_ hb12_ hb13_ hb14_
                              try go_wp2
                              go_loopg [14, 80] kj26 (fun kq v14 v80 w' => ∃ (x14_3 : List Int) (x80_3 : Int), v80 = .int .i64 x80_3 ∧ Aside0 (spec_JoinOverPlace.l0 kq l1 l3 (rd l2_0 0) (wrap64 (Int.tdiv t105 (rd l2_0 0))) x14_3 (l1.length : Int) x80_3 y103 = some (r1, r2, r3)) ∧ Aside0 (kq ≤ kj26) ∧ Aside0 (Kd.R (Kd.int .i64) 2 w' w.heap.size (fun k_ => some k_ ≠ ((.slice Ao66 y103.length co66) : Value).ownBlock) v14 x14_3) ∧ Aside0 (Kd.R (Kd.int .i64) 2 w' w.heap.size (fun k_ => some k_ ≠ (v14 : Value).ownBlock) (.slice Ao66 y103.length co66) y103) ∧ Aside0 (w'.heap[gb108]? = some (.cells #[(.slice (some ad145) l0_0.length c0_0)] 30 (0, 0))) ∧ Aside0 (w'.heap[gb109]? = some (.cells #[(.slice (some ad146) l2_0.length c2_0)] 30 (0, 0))) ∧ Aside0 (w'.heap[gb110]? = some (.cells #[(.slice none 0 0)] 30 (0, 0))) ∧ Aside0 (w'.heap[gb116]? = some (.cells #[(.slice Ao66 y103.length co66)] 30 (0, 0))) ∧ Aside0 (Below w.heap.size w w'))
                              case atStart => exact ⟨(y111), (0), z18, H', ⟨Nat.le_refl _⟩, ⟨(by (with_reducible repeat (first | apply Kd.R_alloc | apply Kd.R_drewN | apply Kd.R_drew)); exact HO118.out)⟩, ⟨(by (with_reducible repeat (first | apply Kd.R_alloc | apply Kd.R_drewN | apply Kd.R_drew)); exact zs_spec HO115.out HO118.out)⟩, ⟨z4⟩, ⟨z6⟩, ⟨z7⟩, ⟨z26⟩, ⟨z8⟩⟩
                              case round =>
                                clear H'
                                try clear p1
                                try clear q1
                                try clear hx1
                                try clear qi1
                                try clear c2
                                try clear p2
                                try clear c3
                                try clear c4
                                try clear c5
                                try clear c6
                                try clear p6
                                try clear c7
                                try clear p15
                                try clear q15
                                try clear hx15
                                try clear qi15
                                try clear c33
                                try clear c41
                                try clear c42
                                try clear c53
                                try clear p64
                                try clear c68
                                try clear c69
                                try clear c70
                                try clear hcz71_0
                                try clear hfz71_0
                                try clear hx156_0
                                try clear hx158_0
                                try clear p156
                                try clear p158
                                try clear q156
                                try clear q158
                                obtain ⟨x14_3, x80_3, rfl, HA, HK3, HO_14, HO_155000, BK108, BK109, BK110, BK116, HB⟩ := hrel
                                cases gk with
                                | zero => exact absurd HA.out (by simp [spec_JoinOverPlace.l0])
                                | succ k3 =>
                                  have H := HA.out
                                  clear HA
                                  simp only [spec_JoinOverPlace.l0] at H
                                  by_cases c78 : x80_3 < (l1.length : Int)
                                  · rw [if_pos c78] at H
                                    have c78b0 : decide (x80_3 < (l1.length : Int)) = true := decide_eq_true c78
                                    clear c78
                                    have H' := Aside0.mk H
                                    clear H
                                    go_wp2
                                    go_loopg [14, 85] k3 (fun kq v14 v85 w' => ∃ (x14_4 : List Int) (x85_4 : Int), v85 = .int .i64 x85_4 ∧ Aside0 (spec_JoinOverPlace.l1 kq l1 l3 (rd l2_0 0) (wrap64 (Int.tdiv t105 (rd l2_0 0))) x14_4 x80_3 (l1.length : Int) x80_3 (l3.length : Int) x85_4 y103 = some (r1, r2, r3)) ∧ Aside0 (kq ≤ k3) ∧ Aside0 (Kd.R (Kd.int .i64) 2 w' w.heap.size (fun k_ => some k_ ≠ ((.slice Ao66 y103.length co66) : Value).ownBlock) v14 x14_4) ∧ Aside0 (Kd.R (Kd.int .i64) 2 w' w.heap.size (fun k_ => some k_ ≠ (v14 : Value).ownBlock) (.slice Ao66 y103.length co66) y103) ∧ Aside0 (w'.heap[gb108]? = some (.cells #[(.slice (some ad145) l0_0.length c0_0)] 30 (0, 0))) ∧ Aside0 (w'.heap[gb109]? = some (.cells #[(.slice (some ad146) l2_0.length c2_0)] 30 (0, 0))) ∧ Aside0 (w'.heap[gb110]? = some (.cells #[(.slice none 0 0)] 30 (0, 0))) ∧ Aside0 (w'.heap[gb116]? = some (.cells #[(.slice Ao66 y103.length co66)] 30 (0, 0))) ∧ Aside0 (Below w.heap.size w w'))
                                    case atStart => exact ⟨(x14_3), (0), z18, H', ⟨Nat.le_refl _⟩, ⟨z68⟩, ⟨z67⟩, ⟨z4⟩, ⟨z6⟩, ⟨z7⟩, ⟨z26⟩, ⟨z8⟩⟩
                                    case round =>
                                      clear H'
                                      try clear p1
                                      try clear q1
                                      try clear hx1
                                      try clear qi1
                                      try clear c2
                                      try clear p2
                                      try clear c3
                                      try clear c4
                                      try clear c5
                                      try clear c6
                                      try clear p6
                                      try clear c7
                                      try clear p15
                                      try clear q15
                                      try clear hx15
                                      try clear qi15
                                      try clear c33
                                      try clear c41
                                      try clear c42
                                      try clear c53
                                      try clear p64
                                      try clear c68
                                      try clear c69
                                      try clear c70
                                      try clear c78
                                      try clear c78b0
                                      try clear hcz71_0
                                      try clear hfz71_0
                                      try clear hx156_0
                                      try clear hx158_0
                                      try clear p1
                                      try clear p15
                                      try clear p156
                                      try clear p158
                                      try clear p2
                                      try clear p6
                                      try clear p64
                                      try clear q1
                                      try clear q15
                                      try clear q156
                                      try clear q158
                                      obtain ⟨x14_4, x85_4, rfl, HA, HK4, HO_14, HO_155000, BK108, BK109, BK110, BK116, HB⟩ := hrel
                                      cases gk with
                                      | zero => exact absurd HA.out (by simp [spec_JoinOverPlace.l1])
                                      | succ k4 =>
                                        have H := HA.out
                                        clear HA
                                        simp only [spec_JoinOverPlace.l1] at H
                                        by_cases c79 : x85_4 < (l3.length : Int)
                                        · rw [if_pos c79] at H
                                          have c79b0 : decide (x85_4 < (l3.length : Int)) = true := decide_eq_true c79
                                          clear c79
                                          by_cases c80 : 0 ≤ x80_3
                                          · rw [if_pos c80] at H
                                            have c80b0 : decide (0 ≤ x80_3) = true := decide_eq_true c80
                                            clear c80
                                            by_cases c81 : x80_3 < (l1.length : Int)
                                            · rw [if_pos c81] at H
                                              have c81b0 : decide (x80_3 < (l1.length : Int)) = true := decide_eq_true c81
                                              clear c81
                                              by_cases c82 : (rd l2_0 0) = 0
                                              · rw [if_pos c82] at H
                                                exact absurd H (by simp)
                                              · rw [if_neg c82] at H
                                                have c82b0 : ((rd l2_0 0) == 0) = false := beq_eq_false_iff_ne.mpr c82
                                                have c82b1 : ((rd l2_0 0) != 0) = true := bne_iff_ne.mpr c82
                                                by_cases c83 : 0 ≤ x85_4
                                                · rw [if_pos c83] at H
                                                  have c83b0 : decide (0 ≤ x85_4) = true := decide_eq_true c83
                                                  clear c83
                                                  by_cases c84 : x85_4 < (l3.length : Int)
                                                  · rw [if_pos c84] at H
                                                    have c84b0 : decide (x85_4 < (l3.length : Int)) = true := decide_eq_true c84
                                                    clear c84
                                                    by_cases c85 : (wrap64 (Int.tdiv t105 (rd l2_0 0))) = 0
                                                    · rw [if_pos c85] at H
                                                      exact absurd H (by simp)
                                                    · rw [if_neg c85] at H
                                                      have c85b0 : ((wrap64 (Int.tdiv t105 (rd l2_0 0))) == 0) = false := beq_eq_false_iff_ne.mpr c85
                                                      have c85b1 : ((wrap64 (Int.tdiv t105 (rd l2_0 0))) != 0) = true := bne_iff_ne.mpr c85
                                                      by_cases c86 : (Int.tmod (rd l1 x80_3) (rd l2_0 0)) = (wrap64 (Int.tdiv (rd l3 x85_4) (wrap64 (Int.tdiv t105 (rd l2_0 0)))))
                                                      · rw [if_pos c86] at H
                                                        have c86b0 : ((Int.tmod (rd l1 x80_3) (rd l2_0 0)) == (wrap64 (Int.tdiv (rd l3 x85_4) (wrap64 (Int.tdiv t105 (rd l2_0 0)))))) = true := beq_iff_eq.mpr c86
                                                        have c86b1 : ((Int.tmod (rd l1 x80_3) (rd l2_0 0)) != (wrap64 (Int.tdiv (rd l3 x85_4) (wrap64 (Int.tdiv t105 (rd l2_0 0)))))) = false := bne_eq_false_iff_eq.mpr c86
                                                        clear c86
                                                        by_cases c87 : x14_4.length < 17592186044416
                                                        · rw [if_pos c87] at H
                                                          have LMc87 := Aside0.mk c87
                                                          clear c87
                                                          obtain ⟨y119, hy119⟩ : ∃ y_ : List Int, y_ = (x14_4 ++ [wrap64 ((wrap64 ((rd l1 x80_3) * (wrap64 (Int.tdiv t105 (rd l2_0 0))))) + (Int.tmod (rd l3 x85_4) (wrap64 (Int.tdiv t105 (rd l2_0 0)))))]) := ⟨_, rfl⟩
                                                          replace H : (spec_JoinOverPlace.l1 k4 l1 l3 (rd l2_0 0) (wrap64 (Int.tdiv t105 (rd l2_0 0))) y119 x80_3 (l1.length : Int) x80_3 (l3.length : Int) (wrap64 (x85_4 + 1)) y103) = some (r1, r2, r3) := by first | (rw [hy119]; with_reducible exact H) | (have H2_ := (Option.bind_some _ _).symm.trans H; rw [hy119]; with_reducible exact H2_) | (have H2_ := (Option.bind_some _ _).symm.trans H; with_reducible exact H2_) | with_reducible exact H | (rw [hy119]; exact H) | exact H
                                                          have Ny119 := Aside0.mk hy119
                                                          clear hy119
                                                          have H' := Aside0.mk H
                                                          clear H
                                                          try go_wp2
                                                          have n0_ := Aside0.mk (Kd.R_drew HO_14.out)
                                                          have n1_ := Aside0.mk (Kd.R_drew HO_155000.out)
                                                          have n2_ := Aside0.mk (blk_drew BK108.out)
                                                          have n3_ := Aside0.mk (blk_drew BK109.out)
                                                          have n4_ := Aside0.mk (blk_drew BK110.out)
                                                          have n5_ := Aside0.mk (blk_drew BK116.out)
                                                          have n6_ := Aside0.mk (below_drew1 HB.out)
                                                          clear HO_14 HO_155000 BK108 BK109 BK110 BK116 HB
                                                          have HO_14 := n0_
                                                          have HO_155000 := n1_
                                                          have BK108 := n2_
                                                          have BK109 := n3_
                                                          have BK110 := n4_
                                                          have BK116 := n5_
                                                          have HB := n6_
                                                          clear n0_ n1_ n2_ n3_ n4_ n5_ n6_
                                                          have p162 : 0 ≤ (x80_3 : Int) := of_decide_eq_true z12
                                                          have q162 : x80_3 < (l1.length : Int) := of_decide_eq_true z12
                                                          obtain ⟨ad162, e162, hx162_0⟩ := Kd.at_int HR1.out x80_3 p162 q162
                                                          have hw162_0 := hx162_0
                                                          cases e162
                                                          try replace hx162_0 := (HB.out.cell (World.block_lt_of_cell? w _ hx162_0)).trans hx162_0
                                                          replace p162 := eq_true p162
                                                          replace q162 := eq_true q162
                                                          have p163 : 0 ≤ (x85_4 : Int) := of_decide_eq_true z12
                                                          have q163 : x85_4 < (l3.length : Int) := of_decide_eq_true z12
                                                          obtain ⟨ad163, e163, hx163_0⟩ := Kd.at_int HR3.out x85_4 p163 q163
                                                          have hw163_0 := hx163_0
                                                          cases e163
                                                          try replace hx163_0 := (HB.out.cell (World.block_lt_of_cell? w _ hx163_0)).trans hx163_0
                                                          replace p163 := eq_true p163
                                                          replace q163 := eq_true q163
                                                          refine start_ (n := 13) (S := fun w' => w'.cell? (ad162.add (x80_3).toNat) = some (.int .i64 (rd l1 x80_3)) ∧ w'.cell? (ad163.add (x85_4).toNat) = some (.int .i64 (rd l3 x85_4))) (ds := []) #[false, false, false, false, false, false, false, false, false, false, false, false, false] (by kernel_rfl) rfl rfl ⟨((HB.out.cell (World.block_lt_of_cell? w _ hw162_0)).trans hw162_0), ((HB.out.cell (World.block_lt_of_cell? w _ hw163_0)).trans hw163_0)⟩ (fun hHeld => ?_); refine with_tabW spec_JoinOverPlace.tab17 spec_JoinOverPlace.bits17 (fun HT_ HW_ => ?_)
                                                          generalize wr.drew = w88 at HO_14 HO_155000 BK108 BK109 BK110 BK116 HB hx162_0 hx163_0 hHeld ⊢
                                                          refine pure_ (i := 0) (N := some 88) (v := ?_) (a' := ?_) #[true, false, false, false, false, false, false, false, false, false, false, false, false] rfl rfl (any_of HT_.out (by kernel_rfl)) (fun _ _ _ h => h) (Or.inl ⟨(by rfl), ?_⟩) ?_ ?_
                                                          rotate_left
                                                          · exact z10
                                                          rotate_left
                                                          · exact z1
                                                          refine pure_ (i := 1) (N := some 89) (v := ?_) (a' := ?_) #[true, true, false, false, false, false, false, false, false, false, false, false, false] rfl rfl (any_of HT_.out (by kernel_rfl)) (fun _ _ _ h => h) (Or.inl ⟨(by rfl), ?_⟩) ?_ ?_
                                                          rotate_left
                                                          · exact z10
                                                          rotate_left
                                                          · exact z1
                                                          refine pure_ (i := 2) (N := some 90) (v := ?_) (a' := ?_) #[true, true, true, false, false, false, false, false, false, false, false, false, false] rfl rfl (any_of HT_.out (by kernel_rfl)) (fun _ _ _ h => h) (Or.inl ⟨(by rfl), ?_⟩) ?_ ?_
                                                          rotate_left
                                                          · exact z10
                                                          rotate_left
                                                          · exact z1
                                                          refine pure_ (i := 4) (N := some 92) (v := ?_) (a' := ?_) #[true, true, true, false, true, false, false, false, false, false, false, false, false] rfl rfl (any_of HT_.out (by kernel_rfl)) (fun _ _ _ h => h) (Or.inl ⟨(by rfl), ?_⟩) ?_ ?_
                                                          rotate_left
                                                          · exact z10
                                                          rotate_left
                                                          · exact z1
                                                          refine pure_ (i := 6) (N := some 94) (v := ?_) (a' := ?_) #[true, true, true, false, true, false, true, false, false, false, false, false, false] rfl rfl (any_of HT_.out (by kernel_rfl)) (fun _ _ _ h => h) (Or.inl ⟨(by rfl), ?_⟩) ?_ ?_
                                                          rotate_left
                                                          · exact z10
                                                          rotate_left
                                                          · exact z1
                                                          refine pure_ (i := 7) (N := some 95) (v := ?_) (a' := ?_) #[true, true, true, false, true, false, true, true, false, false, false, false, false] rfl rfl (any_of HT_.out (by kernel_rfl)) (fun _ _ _ h => h) (Or.inl ⟨(by rfl), ?_⟩) ?_ ?_
                                                          rotate_left
                                                          · exact z10
                                                          rotate_left
                                                          · exact z1
                                                          refine pure_ (i := 8) (N := some 96) (v := ?_) (a' := ?_) #[true, true, true, false, true, false, true, true, true, false, false, false, false] rfl rfl (any_of HT_.out (by kernel_rfl)) (fun _ _ _ h => h) (Or.inl ⟨(by rfl), ?_⟩) ?_ ?_
                                                          rotate_left
                                                          · exact z10
                                                          rotate_left
                                                          · exact z1
                                                          refine pure_ (i := 10) (N := some 98) (v := ?_) (a' := ?_) #[true, true, true, false, true, false, true, true, true, false, true, false, false] rfl rfl (any_of HT_.out (by kernel_rfl)) (fun _ _ _ h => h) (Or.inl ⟨(by rfl), ?_⟩) ?_ ?_
                                                          rotate_left
                                                          · exact z10
                                                          rotate_left
                                                          · exact z1
                                                          refine take_ (i := 3) (N := some 91) (v := ?_) (a' := ?_) #[true, true, true, true, true, false, true, true, true, false, true, false, false] rfl rfl (take_ofW HT_.out HW_.out (by kernel_rfl)) (fun _ _ _ h => h) (Or.inl ⟨(by rfl), ?_⟩) hHeld ?_ ?_
                                                          rotate_left
                                                          · rintro w' ⟨s0, s1⟩
                                                            go_simp
                                                            with_reducible rfl
                                                          rotate_left
                                                          · exact z1
                                                          refine pure_ (i := 5) (N := some 93) (v := ?_) (a' := ?_) #[true, true, true, true, true, true, true, true, true, false, true, false, false] rfl rfl (any_of HT_.out (by kernel_rfl)) (fun _ _ _ h => h) (Or.inl ⟨(by rfl), ?_⟩) ?_ ?_
                                                          rotate_left
                                                          · exact z10
                                                          rotate_left
                                                          · exact z1
                                                          refine take_ (i := 9) (N := some 97) (v := ?_) (a' := ?_) #[true, true, true, true, true, true, true, true, true, true, true, false, false] rfl rfl (take_ofW HT_.out HW_.out (by kernel_rfl)) (fun _ _ _ h => h) (Or.inl ⟨(by rfl), ?_⟩) hHeld ?_ ?_
                                                          rotate_left
                                                          · rintro w' ⟨s0, s1⟩
                                                            go_simp
                                                            with_reducible rfl
                                                          rotate_left
                                                          · exact z1
                                                          refine pure_ (i := 11) (N := some 99) (v := ?_) (a' := ?_) #[true, true, true, true, true, true, true, true, true, true, true, true, false] rfl rfl (any_of HT_.out (by kernel_rfl)) (fun _ _ _ h => h) (Or.inl ⟨(by rfl), ?_⟩) ?_ ?_
                                                          rotate_left
                                                          · exact z10
                                                          rotate_left
                                                          · exact z1
                                                          refine pure_ (i := 12) (N := some 100) (v := ?_) (a' := ?_) #[true, true, true, true, true, true, true, true, true, true, true, true, true] rfl rfl (any_of HT_.out (by kernel_rfl)) (fun _ _ _ h => h) (Or.inl ⟨(by rfl), ?_⟩) ?_ ?_
                                                          rotate_left
                                                          · exact z10
                                                          rotate_left
                                                          · exact z1
                                                          refine done_ (done_of HT_.out (by kernel_rfl)) ?_
                                                          try go_wp2
                                                          have n0_ := Aside0.mk (Kd.R_drew HO_14.out)
                                                          have n1_ := Aside0.mk (Kd.R_drew HO_155000.out)
                                                          have n2_ := Aside0.mk (blk_drew BK108.out)
                                                          have n3_ := Aside0.mk (blk_drew BK109.out)
                                                          have n4_ := Aside0.mk (blk_drew BK110.out)
                                                          have n5_ := Aside0.mk (blk_drew BK116.out)
                                                          have n6_ := Aside0.mk (below_drew1 HB.out)
                                                          clear HO_14 HO_155000 BK108 BK109 BK110 BK116 HB
                                                          have HO_14 := n0_
                                                          have HO_155000 := n1_
                                                          have BK108 := n2_
                                                          have BK109 := n3_
                                                          have BK110 := n4_
                                                          have BK116 := n5_
                                                          have HB := n6_
                                                          clear n0_ n1_ n2_ n3_ n4_ n5_ n6_
                                                          have p164 : 0 ≤ (x80_3 : Int) := of_decide_eq_true z12
                                                          have q164 : x80_3 < (l1.length : Int) := of_decide_eq_true z12
                                                          obtain ⟨ad164, e164, hx164_0⟩ := Kd.at_int HR1.out x80_3 p164 q164
                                                          have hw164_0 := hx164_0
                                                          obtain rfl : ad162 = ad164 := (by injection e164)
                                                          try replace hx164_0 := (HB.out.cell (World.block_lt_of_cell? w _ hx164_0)).trans hx164_0
                                                          replace p164 := eq_true p164
                                                          replace q164 := eq_true q164
                                                          have p165 : 0 ≤ (x85_4 : Int) := of_decide_eq_true z12
                                                          have q165 : x85_4 < (l3.length : Int) := of_decide_eq_true z12
                                                          obtain ⟨ad165, e165, hx165_0⟩ := Kd.at_int HR3.out x85_4 p165 q165
                                                          have hw165_0 := hx165_0
                                                          obtain rfl : ad163 = ad165 := (by injection e165)
                                                          try replace hx165_0 := (HB.out.cell (World.block_lt_of_cell? w _ hx165_0)).trans hx165_0
                                                          replace p165 := eq_true p165
                                                          replace q165 := eq_true q165
                                                          refine start_ (n := 17) (S := fun w' => w'.cell? (ad162.add (x80_3).toNat) = some (.int .i64 (rd l1 x80_3)) ∧ w'.cell? (ad163.add (x85_4).toNat) = some (.int .i64 (rd l3 x85_4))) (ds := []) #[false, false, false, false, false, false, false, false, false, false, false, false, false, false, false, false, false] (by kernel_rfl) rfl rfl ⟨((HB.out.cell (World.block_lt_of_cell? w _ hw164_0)).trans hw164_0), ((HB.out.cell (World.block_lt_of_cell? w _ hw165_0)).trans hw165_0)⟩ (fun hHeld => ?_); refine with_tabW spec_JoinOverPlace.tab18 spec_JoinOverPlace.bits18 (fun HT_ HW_ => ?_)
                                                          generalize w88.drew = w89 at HO_14 HO_155000 BK108 BK109 BK110 BK116 HB hx164_0 hx165_0 hHeld ⊢
                                                          refine pure_ (i := 0) (N := some 101) (v := ?_) (a' := ?_) #[true, false, false, false, false, false, false, false, false, false, false, false, false, false, false, false, false] rfl rfl (any_of HT_.out (by kernel_rfl)) (fun _ _ _ h => h) (Or.inl ⟨(by rfl), ?_⟩) ?_ ?_
                                                          rotate_left
                                                          · exact z10
                                                          rotate_left
                                                          · exact z1
                                                          refine pure_ (i := 1) (N := some 102) (v := ?_) (a' := ?_) #[true, true, false, false, false, false, false, false, false, false, false, false, false, false, false, false, false] rfl rfl (any_of HT_.out (by kernel_rfl)) (fun _ _ _ h => h) (Or.inl ⟨(by rfl), ?_⟩) ?_ ?_
                                                          rotate_left
                                                          · exact z10
                                                          rotate_left
                                                          · exact z1
                                                          refine pure_ (i := 2) (N := some 103) (v := ?_) (a' := ?_) #[true, true, true, false, false, false, false, false, false, false, false, false, false, false, false, false, false] rfl rfl (any_of HT_.out (by kernel_rfl)) (fun _ _ _ h => h) (Or.inl ⟨(by rfl), ?_⟩) ?_ ?_
                                                          rotate_left
                                                          · exact z10
                                                          rotate_left
                                                          · exact z1
                                                          refine pure_ (i := 3) (N := some 104) (v := ?_) (a' := ?_) #[true, true, true, true, false, false, false, false, false, false, false, false, false, false, false, false, false] rfl rfl (any_of HT_.out (by kernel_rfl)) (fun _ _ _ h => h) (Or.inl ⟨(by rfl), ?_⟩) ?_ ?_
                                                          rotate_left
                                                          · exact z10
                                                          rotate_left
                                                          · exact z1
                                                          refine pure_ (i := 5) (N := some 106) (v := ?_) (a' := ?_) #[true, true, true, true, false, true, false, false, false, false, false, false, false, false, false, false, false] rfl rfl (any_of HT_.out (by kernel_rfl)) (fun _ _ _ h => h) (Or.inl ⟨(by rfl), ?_⟩) ?_ ?_
                                                          rotate_left
                                                          · exact z10
                                                          rotate_left
                                                          · exact z1
                                                          refine pure_ (i := 7) (N := some 108) (v := ?_) (a' := ?_) #[true, true, true, true, false, true, false, true, false, false, false, false, false, false, false, false, false] rfl rfl (any_of HT_.out (by kernel_rfl)) (fun _ _ _ h => h) (Or.inl ⟨(by rfl), ?_⟩) ?_ ?_
                                                          rotate_left
                                                          · exact z10
                                                          rotate_left
                                                          · exact z1
                                                          refine pure_ (i := 8) (N := some 109) (v := ?_) (a' := ?_) #[true, true, true, true, false, true, false, true, true, false, false, false, false, false, false, false, false] rfl rfl (any_of HT_.out (by kernel_rfl)) (fun _ _ _ h => h) (Or.inl ⟨(by rfl), ?_⟩) ?_ ?_
                                                          rotate_left
                                                          · exact z10
                                                          rotate_left
                                                          · exact z1
                                                          refine pure_ (i := 9) (N := some 110) (v := ?_) (a' := ?_) #[true, true, true, true, false, true, false, true, true, true, false, false, false, false, false, false, false] rfl rfl (any_of HT_.out (by kernel_rfl)) (fun _ _ _ h => h) (Or.inl ⟨(by rfl), ?_⟩) ?_ ?_
                                                          rotate_left
                                                          · exact z10
                                                          rotate_left
                                                          · exact z1
                                                          refine pure_ (i := 11) (N := some 112) (v := ?_) (a' := ?_) #[true, true, true, true, false, true, false, true, true, true, false, true, false, false, false, false, false] rfl rfl (any_of HT_.out (by kernel_rfl)) (fun _ _ _ h => h) (Or.inl ⟨(by rfl), ?_⟩) ?_ ?_
                                                          rotate_left
                                                          · exact z10
                                                          rotate_left
                                                          · exact z1
                                                          refine take_ (i := 4) (N := some 105) (v := ?_) (a' := ?_) #[true, true, true, true, true, true, false, true, true, true, false, true, false, false, false, false, false] rfl rfl (take_ofW HT_.out HW_.out (by kernel_rfl)) (fun _ _ _ h => h) (Or.inl ⟨(by rfl), ?_⟩) hHeld ?_ ?_
                                                          rotate_left
                                                          · rintro w' ⟨s0, s1⟩
                                                            go_simp
                                                            with_reducible rfl
                                                          rotate_left
                                                          · exact z1
                                                          refine pure_ (i := 6) (N := some 107) (v := ?_) (a' := ?_) #[true, true, true, true, true, true, true, true, true, true, false, true, false, false, false, false, false] rfl rfl (any_of HT_.out (by kernel_rfl)) (fun _ _ _ h => h) (Or.inl ⟨(by rfl), ?_⟩) ?_ ?_
                                                          rotate_left
                                                          · exact z10
                                                          rotate_left
                                                          · exact z1
                                                          refine take_ (i := 10) (N := some 111) (v := ?_) (a' := ?_) #[true, true, true, true, true, true, true, true, true, true, true, true, false, false, false, false, false] rfl rfl (take_ofW HT_.out HW_.out (by kernel_rfl)) (fun _ _ _ h => h) (Or.inl ⟨(by rfl), ?_⟩) hHeld ?_ ?_
                                                          rotate_left
                                                          · rintro w' ⟨s0, s1⟩
                                                            go_simp
                                                            with_reducible rfl
                                                          rotate_left
                                                          · exact z1
                                                          refine pure_ (i := 12) (N := some 113) (v := ?_) (a' := ?_) #[true, true, true, true, true, true, true, true, true, true, true, true, true, false, false, false, false] rfl rfl (any_of HT_.out (by kernel_rfl)) (fun _ _ _ h => h) (Or.inl ⟨(by rfl), ?_⟩) ?_ ?_
                                                          rotate_left
                                                          · exact z10
                                                          rotate_left
                                                          · exact z1
                                                          refine pure_ (i := 13) (N := some 114) (v := ?_) (a' := ?_) #[true, true, true, true, true, true, true, true, true, true, true, true, true, true, false, false, false] rfl rfl (any_of HT_.out (by kernel_rfl)) (fun _ _ _ h => h) (Or.inl ⟨(by rfl), ?_⟩) ?_ ?_
                                                          rotate_left
                                                          · exact z10
                                                          rotate_left
                                                          · exact z1
                                                          refine one_ (i := 14) (N := some 115) #[true, true, true, true, true, true, true, true, true, true, true, true, true, true, true, false, false] rfl rfl (one_of HT_.out (by kernel_rfl)) (by decide) (fun K hK => ?_)
                                                          refine value_ (w1 := ?_) (v := ?_) (by rfl) rfl ?_ ?_
                                                          rotate_left 2
                                                          · go_simp
                                                            constructor
                                                            · rfl
                                                            · rfl
                                                          refine hK.out _ _ ⟨(World.cell?_alloc_lt _ _ _ (World.block_lt_of_cell? _ _ (((HB.out.cell (World.block_lt_of_cell? w _ hw164_0)).trans hw164_0)))).trans (((HB.out.cell (World.block_lt_of_cell? w _ hw164_0)).trans hw164_0)), (World.cell?_alloc_lt _ _ _ (World.block_lt_of_cell? _ _ (((HB.out.cell (World.block_lt_of_cell? w _ hw165_0)).trans hw165_0)))).trans (((HB.out.cell (World.block_lt_of_cell? w _ hw165_0)).trans hw165_0))⟩ (fun hHeld => ?_)
                                                          clear hK K
                                                          refine norm_ (a' := ?_) ?_ ?_
                                                          rotate_left
                                                          · show Act.put _ (some 115) _ = _
                                                            simp only [Act.put, List.setIfInBounds_toArray, List.set_cons_zero, List.set_cons_succ, i64_w, i32_w]
                                                            rfl
                                                          refine one_ (i := 15) (N := some 116) #[true, true, true, true, true, true, true, true, true, true, true, true, true, true, true, true, false] rfl rfl (one_of HT_.out (by kernel_rfl)) (by decide) (fun K hK => ?_)
                                                          refine Kd.R_append_step (Kd.int .i64) (w0 := w) w.heap.size (by rfl) (.tmp 101) (.tmp 115) 22 2 (.int .i64 0) 8 rfl Try.underlying22 info2 rfl (by decide) (by omega) u14 x14_4 (wrap64 ((wrap64 ((rd l1 x80_3) * (wrap64 (Int.tdiv t105 (rd l2_0 0))))) + (Int.tmod (rd l3 x85_4) (wrap64 (Int.tdiv t105 (rd l2_0 0)))))) [.int .i64 (wrap64 ((wrap64 ((rd l1 x80_3) * (wrap64 (Int.tdiv t105 (rd l2_0 0))))) + (Int.tmod (rd l3 x85_4) (wrap64 (Int.tdiv t105 (rd l2_0 0))))))] (fun k_ => some k_ ≠ (.slice Ao66 y103.length co66 : Value).ownBlock) (fun _ => False) rfl rfl ?aP (fun _ hk => hk.elim) ?aF ?aO ?aB ?aS ?aL ?_
                                                          (case aP => exact rfl)
                                                          (case aB => exact z8)
                                                          (case aF => exact (fun k_ hk => Kd.fresh' (Kd.R_lt z67) k_ hk))
                                                          (case aO => exact z68)
                                                          (case aS => exact (below_size z8))
                                                          (case aL => have := LMc87.out; omega)
                                                          intro v120 w90 ho hb hg hat
                                                          rw [← Ny119.out] at ho
                                                          have n0_ := Aside0.mk (Kd.R_after (ok := (fun _ => True)) (by (with_reducible repeat (first | apply Kd.R_alloc | apply Kd.R_drewN | apply Kd.R_drew)); exact Kd.R_mono HO_155000.out (fun _ hk => ⟨trivial, hk⟩)) hg hat)
                                                          have n1_ := Aside0.mk (blk_grown (g := gb108) (o := .cells #[.slice (some ad145) l0_0.length c0_0] 30 (0, 0)) z4 hg (Kd.R_ne HO_14.out BK108.out (by decide)))
                                                          have n2_ := Aside0.mk (blk_grown (g := gb109) (o := .cells #[.slice (some ad146) l2_0.length c2_0] 30 (0, 0)) z6 hg (Kd.R_ne HO_14.out BK109.out (by decide)))
                                                          have n3_ := Aside0.mk (blk_grown (g := gb110) (o := .cells #[.slice none 0 0] 30 (0, 0)) z7 hg (Kd.R_ne HO_14.out BK110.out (by decide)))
                                                          have n4_ := Aside0.mk (blk_grown (g := gb116) (o := .cells #[.slice Ao66 y103.length co66] 30 (0, 0)) z26 hg (Kd.R_ne HO_14.out BK116.out (by decide)))
                                                          have n5_ := Aside0.mk (hb)
                                                          have n6_ := Aside0.mk (ho)
                                                          clear HO_155000 BK108 BK109 BK110 BK116 HB HO_14
                                                          have HO_155000 := n0_
                                                          have BK108 := n1_
                                                          have BK109 := n2_
                                                          have BK110 := n3_
                                                          have BK116 := n4_
                                                          have HB := n5_
                                                          have HO121 := n6_
                                                          clear n0_ n1_ n2_ n3_ n4_ n5_ n6_
                                                          clear ho hb hg hat
                                                          refine hK.out _ _ ⟨((HB.out.cell (World.block_lt_of_cell? w _ hw164_0)).trans hw164_0), ((HB.out.cell (World.block_lt_of_cell? w _ hw165_0)).trans hw165_0)⟩ (fun hHeld => ?_)
                                                          clear hK K
                                                          refine norm_ (a' := ?_) ?_ ?_
                                                          rotate_left
                                                          · show Act.put _ (some 116) _ = _
                                                            simp only [Act.put, List.setIfInBounds_toArray, List.set_cons_zero, List.set_cons_succ, i64_w, i32_w]
                                                            rfl
                                                          refine pure_ (i := 16) (N := some 14) (v := ?_) (a' := ?_) #[true, true, true, true, true, true, true, true, true, true, true, true, true, true, true, true, true] rfl rfl (any_of HT_.out (by kernel_rfl)) (fun _ _ _ h => h) (Or.inl ⟨(by rfl), ?_⟩) ?_ ?_
                                                          rotate_left
                                                          · exact z10
                                                          rotate_left
                                                          · exact z1
                                                          refine done_ (done_of HT_.out (by kernel_rfl)) ?_
                                                          try go_wp2
                                                          go_roundg k4
                                                          case measure => have := HJ4.out; have := HJ26.out; have := HK3.out; have := HK4.out; omega
                                                          case rel => exact ⟨(y119), (wrap64 (x85_4 + 1)), z18, H', ⟨z79⟩, ⟨(by (with_reducible repeat (first | apply Kd.R_alloc | apply Kd.R_drewN | apply Kd.R_drew)); exact HO121.out)⟩, ⟨(by (with_reducible repeat (first | apply Kd.R_alloc | apply Kd.R_drewN | apply Kd.R_drew)); exact Kd.R_mono HO_155000.out (fun _ hk => hk.2))⟩, ⟨z4⟩, ⟨z6⟩, ⟨z7⟩, ⟨z26⟩, ⟨z8⟩⟩
                                                        · rw [if_neg c87] at H
                                                          exact absurd H (by simp)
                                                      · rw [if_neg c86] at H
                                                        have c86b0 : ((Int.tmod (rd l1 x80_3) (rd l2_0 0)) == (wrap64 (Int.tdiv (rd l3 x85_4) (wrap64 (Int.tdiv t105 (rd l2_0 0)))))) = false := beq_eq_false_iff_ne.mpr c86
                                                        have c86b1 : ((Int.tmod (rd l1 x80_3) (rd l2_0 0)) != (wrap64 (Int.tdiv (rd l3 x85_4) (wrap64 (Int.tdiv t105 (rd l2_0 0)))))) = true := bne_iff_ne.mpr c86
                                                        have H' := Aside0.mk H
                                                        clear H
                                                        try go_wp2
                                                        have n0_ := Aside0.mk (Kd.R_drew HO_14.out)
                                                        have n1_ := Aside0.mk (Kd.R_drew HO_155000.out)
                                                        have n2_ := Aside0.mk (blk_drew BK108.out)
                                                        have n3_ := Aside0.mk (blk_drew BK109.out)
                                                        have n4_ := Aside0.mk (blk_drew BK110.out)
                                                        have n5_ := Aside0.mk (blk_drew BK116.out)
                                                        have n6_ := Aside0.mk (below_drew1 HB.out)
                                                        clear HO_14 HO_155000 BK108 BK109 BK110 BK116 HB
                                                        have HO_14 := n0_
                                                        have HO_155000 := n1_
                                                        have BK108 := n2_
                                                        have BK109 := n3_
                                                        have BK110 := n4_
                                                        have BK116 := n5_
                                                        have HB := n6_
                                                        clear n0_ n1_ n2_ n3_ n4_ n5_ n6_
                                                        have p162 : 0 ≤ (x80_3 : Int) := of_decide_eq_true z12
                                                        have q162 : x80_3 < (l1.length : Int) := of_decide_eq_true z12
                                                        obtain ⟨ad162, e162, hx162_0⟩ := Kd.at_int HR1.out x80_3 p162 q162
                                                        have hw162_0 := hx162_0
                                                        cases e162
                                                        try replace hx162_0 := (HB.out.cell (World.block_lt_of_cell? w _ hx162_0)).trans hx162_0
                                                        replace p162 := eq_true p162
                                                        replace q162 := eq_true q162
                                                        have p163 : 0 ≤ (x85_4 : Int) := of_decide_eq_true z12
                                                        have q163 : x85_4 < (l3.length : Int) := of_decide_eq_true z12
                                                        obtain ⟨ad163, e163, hx163_0⟩ := Kd.at_int HR3.out x85_4 p163 q163
                                                        have hw163_0 := hx163_0
                                                        cases e163
                                                        try replace hx163_0 := (HB.out.cell (World.block_lt_of_cell? w _ hx163_0)).trans hx163_0
                                                        replace p163 := eq_true p163
                                                        replace q163 := eq_true q163
                                                        refine start_ (n := 13) (S := fun w' => w'.cell? (ad162.add (x80_3).toNat) = some (.int .i64 (rd l1 x80_3)) ∧ w'.cell? (ad163.add (x85_4).toNat) = some (.int .i64 (rd l3 x85_4))) (ds := []) #[false, false, false, false, false, false, false, false, false, false, false, false, false] (by kernel_rfl) rfl rfl ⟨((HB.out.cell (World.block_lt_of_cell? w _ hw162_0)).trans hw162_0), ((HB.out.cell (World.block_lt_of_cell? w _ hw163_0)).trans hw163_0)⟩ (fun hHeld => ?_); refine with_tabW spec_JoinOverPlace.tab17 spec_JoinOverPlace.bits17 (fun HT_ HW_ => ?_)
                                                        generalize wr.drew = w91 at HO_14 HO_155000 BK108 BK109 BK110 BK116 HB hx162_0 hx163_0 hHeld ⊢
                                                        refine pure_ (i := 0) (N := some 88) (v := ?_) (a' := ?_) #[true, false, false, false, false, false, false, false, false, false, false, false, false] rfl rfl (any_of HT_.out (by kernel_rfl)) (fun _ _ _ h => h) (Or.inl ⟨(by rfl), ?_⟩) ?_ ?_
                                                        rotate_left
                                                        · exact z10
                                                        rotate_left
                                                        · exact z1
                                                        refine pure_ (i := 1) (N := some 89) (v := ?_) (a' := ?_) #[true, true, false, false, false, false, false, false, false, false, false, false, false] rfl rfl (any_of HT_.out (by kernel_rfl)) (fun _ _ _ h => h) (Or.inl ⟨(by rfl), ?_⟩) ?_ ?_
                                                        rotate_left
                                                        · exact z10
                                                        rotate_left
                                                        · exact z1
                                                        refine pure_ (i := 2) (N := some 90) (v := ?_) (a' := ?_) #[true, true, true, false, false, false, false, false, false, false, false, false, false] rfl rfl (any_of HT_.out (by kernel_rfl)) (fun _ _ _ h => h) (Or.inl ⟨(by rfl), ?_⟩) ?_ ?_
                                                        rotate_left
                                                        · exact z10
                                                        rotate_left
                                                        · exact z1
                                                        refine pure_ (i := 4) (N := some 92) (v := ?_) (a' := ?_) #[true, true, true, false, true, false, false, false, false, false, false, false, false] rfl rfl (any_of HT_.out (by kernel_rfl)) (fun _ _ _ h => h) (Or.inl ⟨(by rfl), ?_⟩) ?_ ?_
                                                        rotate_left
                                                        · exact z10
                                                        rotate_left
                                                        · exact z1
                                                        refine pure_ (i := 6) (N := some 94) (v := ?_) (a' := ?_) #[true, true, true, false, true, false, true, false, false, false, false, false, false] rfl rfl (any_of HT_.out (by kernel_rfl)) (fun _ _ _ h => h) (Or.inl ⟨(by rfl), ?_⟩) ?_ ?_
                                                        rotate_left
                                                        · exact z10
                                                        rotate_left
                                                        · exact z1
                                                        refine pure_ (i := 7) (N := some 95) (v := ?_) (a' := ?_) #[true, true, true, false, true, false, true, true, false, false, false, false, false] rfl rfl (any_of HT_.out (by kernel_rfl)) (fun _ _ _ h => h) (Or.inl ⟨(by rfl), ?_⟩) ?_ ?_
                                                        rotate_left
                                                        · exact z10
                                                        rotate_left
                                                        · exact z1
                                                        refine pure_ (i := 8) (N := some 96) (v := ?_) (a' := ?_) #[true, true, true, false, true, false, true, true, true, false, false, false, false] rfl rfl (any_of HT_.out (by kernel_rfl)) (fun _ _ _ h => h) (Or.inl ⟨(by rfl), ?_⟩) ?_ ?_
                                                        rotate_left
                                                        · exact z10
                                                        rotate_left
                                                        · exact z1
                                                        refine pure_ (i := 10) (N := some 98) (v := ?_) (a' := ?_) #[true, true, true, false, true, false, true, true, true, false, true, false, false] rfl rfl (any_of HT_.out (by kernel_rfl)) (fun _ _ _ h => h) (Or.inl ⟨(by rfl), ?_⟩) ?_ ?_
                                                        rotate_left
                                                        · exact z10
                                                        rotate_left
                                                        · exact z1
                                                        refine take_ (i := 3) (N := some 91) (v := ?_) (a' := ?_) #[true, true, true, true, true, false, true, true, true, false, true, false, false] rfl rfl (take_ofW HT_.out HW_.out (by kernel_rfl)) (fun _ _ _ h => h) (Or.inl ⟨(by rfl), ?_⟩) hHeld ?_ ?_
                                                        rotate_left
                                                        · rintro w' ⟨s0, s1⟩
                                                          go_simp
                                                          with_reducible rfl
                                                        rotate_left
                                                        · exact z1
                                                        refine pure_ (i := 5) (N := some 93) (v := ?_) (a' := ?_) #[true, true, true, true, true, true, true, true, true, false, true, false, false] rfl rfl (any_of HT_.out (by kernel_rfl)) (fun _ _ _ h => h) (Or.inl ⟨(by rfl), ?_⟩) ?_ ?_
                                                        rotate_left
                                                        · exact z10
                                                        rotate_left
                                                        · exact z1
                                                        refine take_ (i := 9) (N := some 97) (v := ?_) (a' := ?_) #[true, true, true, true, true, true, true, true, true, true, true, false, false] rfl rfl (take_ofW HT_.out HW_.out (by kernel_rfl)) (fun _ _ _ h => h) (Or.inl ⟨(by rfl), ?_⟩) hHeld ?_ ?_
                                                        rotate_left
                                                        · rintro w' ⟨s0, s1⟩
                                                          go_simp
                                                          with_reducible rfl
                                                        rotate_left
                                                        · exact z1
                                                        refine pure_ (i := 11) (N := some 99) (v := ?_) (a' := ?_) #[true, true, true, true, true, true, true, true, true, true, true, true, false] rfl rfl (any_of HT_.out (by kernel_rfl)) (fun _ _ _ h => h) (Or.inl ⟨(by rfl), ?_⟩) ?_ ?_
                                                        rotate_left
                                                        · exact z10
                                                        rotate_left
                                                        · exact z1
                                                        refine pure_ (i := 12) (N := some 100) (v := ?_) (a' := ?_) #[true, true, true, true, true, true, true, true, true, true, true, true, true] rfl rfl (any_of HT_.out (by kernel_rfl)) (fun _ _ _ h => h) (Or.inl ⟨(by rfl), ?_⟩) ?_ ?_
                                                        rotate_left
                                                        · exact z10
                                                        rotate_left
                                                        · exact z1
                                                        refine done_ (done_of HT_.out (by kernel_rfl)) ?_
                                                        try go_wp2
                                                        go_roundg k4
                                                        case measure => have := HJ4.out; have := HJ26.out; have := HK3.out; have := HK4.out; omega
                                                        case rel => exact ⟨(x14_4), (wrap64 (x85_4 + 1)), z18, H', ⟨z79⟩, ⟨z68⟩, ⟨z67⟩, ⟨z4⟩, ⟨z6⟩, ⟨z7⟩, ⟨z26⟩, ⟨z8⟩⟩
                                                  · rw [if_neg c84] at H
                                                    exact absurd H (by simp)
                                                · rw [if_neg c83] at H
                                                  exact absurd H (by simp)
                                            · rw [if_neg c81] at H
                                              exact absurd H (by simp)
                                          · rw [if_neg c80] at H
                                            exact absurd H (by simp)
                                        · rw [if_neg c79] at H
                                          have c79b0 : decide (x85_4 < (l3.length : Int)) = false := decide_eq_false c79
                                          clear c79
                                          have H' := Aside0.mk H
                                          clear H
                                          go_wp2
                                          go_roundg k4
                                          case measure => have := HJ4.out; have := HJ26.out; have := HK3.out; have := HK4.out; omega
                                          case rel => exact ⟨(x14_4), (wrap64 (x80_3 + 1)), z18, H', ⟨z79⟩, ⟨z68⟩, ⟨z67⟩, ⟨z4⟩, ⟨z6⟩, ⟨z7⟩, ⟨z26⟩, ⟨z8⟩⟩
                                  · rw [if_neg c78] at H
                                    have c78b0 : decide (x80_3 < (l1.length : Int)) = false := decide_eq_false c78
                                    clear c78
                                    simp only [Option.some.injEq, Prod.mk.injEq] at H
                                    obtain ⟨rfl, rfl, rfl⟩ := H
                                    have hnb92 := NB116_108.out
                                    have hnc92 := NB108_116.out
                                    have hnb93 := NB116_109.out
                                    have hnc93 := NB109_116.out
                                    have hnb94 := NB116_110.out
                                    have hnc94 := NB110_116.out
                                    obtain ⟨hcz95_0, hfz95_0⟩ := zC1 BK116.out
                                    have hnb96 := NB110_108.out
                                    have hnc96 := NB108_110.out
                                    have hnb97 := NB110_109.out
                                    have hnc97 := NB109_110.out
                                    obtain ⟨hcz98_0, hfz98_0⟩ := zC1 BK110.out
                                    go_wp2
                                    refine bodyPost_ret (results_ctt rfl _ _ gb110 30 #[.slice Ao66 y103.length co66] (0, 0) _ rfl z25 Try.underlying30 rfl (by kernel_rfl)) rfl ?_
                                    exact ⟨_, _, z58, (by (with_reducible repeat (first | apply Kd.R_alloc | apply Kd.R_drewN | apply Kd.R_drew)); exact Kd.R_mono (Kd.R_far (p := ⟨gb110, 0, none⟩) (Kd.R_types HO_155000.out BK110.out (by decide)) (fun _ hk => hk.2) (.slice Ao66 y103.length co66)) (fun _ hk => hk.1)), (by (with_reducible repeat (first | apply Kd.R_alloc | apply Kd.R_drewN | apply Kd.R_drew)); exact Kd.R_mono (Kd.R_far (p := ⟨gb110, 0, none⟩) (Kd.R_types HO_14.out BK110.out (by decide)) (fun _ hk => hk.2) (.slice Ao66 y103.length co66)) (fun _ hk => hk.1)), z8⟩
                          · replace c55 := Bool.eq_false_iff.mpr c55
                            subst c55
                            have H1 : (some (([] : List Int), ([] : List Int), 3)) = some (r1, r2, r3) := by rw [if_neg (show ¬ (false = true) by decide)] at H; exact H
                            clear H
                            have H := H1
                            clear H1
                            simp only [Option.some.injEq, Prod.mk.injEq] at H
                            obtain ⟨rfl, rfl, rfl⟩ := H
                            try go_wp2
                            have n0_ := Aside0.mk (blk_drew BK108.out)
                            have n1_ := Aside0.mk (blk_drew BK109.out)
                            have n2_ := Aside0.mk (blk_drew BK110.out)
                            have n3_ := Aside0.mk (below_drew1 HB.out)
                            clear BK108 BK109 BK110 HB
                            have BK108 := n0_
                            have BK109 := n1_
                            have BK110 := n2_
                            have HB := n3_
                            clear n0_ n1_ n2_ n3_
                            have p145 : 0 ≤ ((ji46) : Int) := of_decide_eq_true z12
                            have q145 : (ji46) < (l0_0.length : Int) := of_decide_eq_true z12
                            obtain ⟨ad145, e145, hx145_0⟩ := Kd.at_int HR0_0.out (ji46) p145 q145
                            have hw145_0 := hx145_0
                            cases e145
                            try replace hx145_0 := (HB.out.cell (World.block_lt_of_cell? w _ hx145_0)).trans hx145_0
                            replace p145 := eq_true p145
                            replace q145 := eq_true q145
                            have p146 : 0 ≤ (0 : Int) := (by omega)
                            have q146 : 0 < (l2_0.length : Int) := of_decide_eq_true z12
                            obtain ⟨ad146, e146, hx146_0⟩ := Kd.at_int HR2_0.out 0 p146 q146
                            have hw146_0 := hx146_0
                            (try rw [show ((0 : Int)).toNat = 0 from rfl] at hw146_0)
                            (try rw [show 0 * 1 = 0 from rfl] at hw146_0)
                            (try rw [Addr.add_zero'] at hw146_0)
                            cases e146
                            have qi146 : (0 < l2_0.length) = True := eq_true (by omega)
                            (try rw [show ((0 : Int)).toNat = 0 from rfl] at hx146_0)
                            (try rw [Addr.add_zero'] at hx146_0)
                            try replace hx146_0 := (HB.out.cell (World.block_lt_of_cell? w _ hx146_0)).trans hx146_0
                            replace p146 := eq_true p146
                            replace q146 := eq_true q146
                            refine start_ (n := 14) (S := fun w' => w'.cell? ⟨gb108, 0, none⟩ = some (.slice (some ad145) l0_0.length c0_0) ∧ w'.cell? ⟨gb109, 0, none⟩ = some (.slice (some ad146) l2_0.length c2_0) ∧ w'.cell? (ad145.add ((ji46)).toNat) = some (.int .i64 (rd l0_0 (ji46))) ∧ w'.cell? ad146 = some (.int .i64 (rd l2_0 0))) (ds := []) #[false, false, false, false, false, false, false, false, false, false, false, false, false, false] (by kernel_rfl) rfl rfl ⟨(blk_cell BK108.out 0).trans rfl, (blk_cell BK109.out 0).trans rfl, ((HB.out.cell (World.block_lt_of_cell? w _ hw145_0)).trans hw145_0), ((HB.out.cell (World.block_lt_of_cell? w _ hw146_0)).trans hw146_0)⟩ (fun hHeld => ?_); refine with_tabW spec_JoinOverPlace.tab5 spec_JoinOverPlace.bits5 (fun HT_ HW_ => ?_)
                            generalize wc.drew = w99 at BK108 BK109 BK110 HB hx145_0 hx146_0 hHeld ⊢
                            refine pure_ (i := 0) (N := some 40) (v := ?_) (a' := ?_) #[true, false, false, false, false, false, false, false, false, false, false, false, false, false] rfl rfl (any_of HT_.out (by kernel_rfl)) (fun _ _ _ h => h) (Or.inl ⟨(by rfl), ?_⟩) ?_ ?_
                            rotate_left
                            · exact z10
                            rotate_left
                            · exact z1
                            refine pure_ (i := 2) (N := some 42) (v := ?_) (a' := ?_) #[true, false, true, false, false, false, false, false, false, false, false, false, false, false] rfl rfl (any_of HT_.out (by kernel_rfl)) (fun _ _ _ h => h) (Or.inl ⟨(by rfl), ?_⟩) ?_ ?_
                            rotate_left
                            · exact z10
                            rotate_left
                            · exact z1
                            refine pure_ (i := 8) (N := some 48) (v := ?_) (a' := ?_) #[true, false, true, false, false, false, false, false, true, false, false, false, false, false] rfl rfl (any_of HT_.out (by kernel_rfl)) (fun _ _ _ h => h) (Or.inl ⟨(by rfl), ?_⟩) ?_ ?_
                            rotate_left
                            · exact z10
                            rotate_left
                            · exact z1
                            refine take_ (i := 1) (N := some 41) (v := ?_) (a' := ?_) #[true, true, true, false, false, false, false, false, true, false, false, false, false, false] rfl rfl (take_ofW HT_.out HW_.out (by kernel_rfl)) (fun _ _ _ h => h) (Or.inl ⟨(by rfl), ?_⟩) hHeld ?_ ?_
                            rotate_left
                            · rintro w' ⟨s0, s1, s2, s3⟩
                              go_simp
                              with_reducible rfl
                            rotate_left
                            · exact z1
                            refine take_ (i := 3) (N := some 43) (v := ?_) (a' := ?_) #[true, true, true, true, false, false, false, false, true, false, false, false, false, false] rfl rfl (take_ofW HT_.out HW_.out (by kernel_rfl)) (fun _ _ _ h => h) (Or.inl ⟨(by rfl), ?_⟩) hHeld ?_ ?_
                            rotate_left
                            · rintro w' ⟨s0, s1, s2, s3⟩
                              go_simp
                              with_reducible rfl
                            rotate_left
                            · exact z1
                            refine pure_ (i := 4) (N := some 44) (v := ?_) (a' := ?_) #[true, true, true, true, true, false, false, false, true, false, false, false, false, false] rfl rfl (any_of HT_.out (by kernel_rfl)) (fun _ _ _ h => h) (Or.inl ⟨(by rfl), ?_⟩) ?_ ?_
                            rotate_left
                            · exact z10
                            rotate_left
                            · exact z1
                            refine pure_ (i := 5) (N := some 45) (v := ?_) (a' := ?_) #[true, true, true, true, true, true, false, false, true, false, false, false, false, false] rfl rfl (any_of HT_.out (by kernel_rfl)) (fun _ _ _ h => h) (Or.inl ⟨(by rfl), ?_⟩) ?_ ?_
                            rotate_left
                            · exact z10
                            rotate_left
                            · exact z1
                            refine pure_ (i := 6) (N := some 46) (v := ?_) (a' := ?_) #[true, true, true, true, true, true, true, false, true, false, false, false, false, false] rfl rfl (any_of HT_.out (by kernel_rfl)) (fun _ _ _ h => h) (Or.inl ⟨(by rfl), ?_⟩) ?_ ?_
                            rotate_left
                            · exact z10
                            rotate_left
                            · exact z1
                            refine take_ (i := 7) (N := some 47) (v := ?_) (a' := ?_) #[true, true, true, true, true, true, true, true, true, false, false, false, false, false] rfl rfl (take_ofW HT_.out HW_.out (by kernel_rfl)) (fun _ _ _ h => h) (Or.inl ⟨(by rfl), ?_⟩) hHeld ?_ ?_
                            rotate_left
                            · rintro w' ⟨s0, s1, s2, s3⟩
                              go_simp
                              with_reducible rfl
                            rotate_left
                            · exact z1
                            refine take_ (i := 9) (N := some 49) (v := ?_) (a' := ?_) #[true, true, true, true, true, true, true, true, true, true, false, false, false, false] rfl rfl (take_ofW HT_.out HW_.out (by kernel_rfl)) (fun _ _ _ h => h) (Or.inl ⟨(by rfl), ?_⟩) hHeld ?_ ?_
                            rotate_left
                            · rintro w' ⟨s0, s1, s2, s3⟩
                              go_simp
                              with_reducible rfl
                            rotate_left
                            · exact z1
                            refine pure_ (i := 10) (N := some 50) (v := ?_) (a' := ?_) #[true, true, true, true, true, true, true, true, true, true, true, false, false, false] rfl rfl (any_of HT_.out (by kernel_rfl)) (fun _ _ _ h => h) (Or.inl ⟨(by rfl), ?_⟩) ?_ ?_
                            rotate_left
                            · exact z10
                            rotate_left
                            · exact z1
                            refine take_ (i := 11) (N := some 51) (v := ?_) (a' := ?_) #[true, true, true, true, true, true, true, true, true, true, true, true, false, false] rfl rfl (take_ofW HT_.out HW_.out (by kernel_rfl)) (fun _ _ _ h => h) (Or.inl ⟨(by rfl), ?_⟩) hHeld ?_ ?_
                            rotate_left
                            · rintro w' ⟨s0, s1, s2, s3⟩
                              go_simp
                              with_reducible rfl
                            rotate_left
                            · exact z1
                            refine pure_ (i := 12) (N := some 52) (v := ?_) (a' := ?_) #[true, true, true, true, true, true, true, true, true, true, true, true, true, false] rfl rfl (any_of HT_.out (by kernel_rfl)) (fun _ _ _ h => h) (Or.inl ⟨(by rfl), ?_⟩) ?_ ?_
                            rotate_left
                            · exact z10
                            rotate_left
                            · exact z1
                            refine pure_ (i := 13) (N := some 39) (v := ?_) (a' := ?_) #[true, true, true, true, true, true, true, true, true, true, true, true, true, true] rfl rfl (any_of HT_.out (by kernel_rfl)) (fun _ _ _ h => h) (Or.inl ⟨(by rfl), ?_⟩) ?_ ?_
                            rotate_left
                            · exact z10
                            rotate_left
                            · exact z1
                            refine done_ (done_of HT_.out (by kernel_rfl)) ?_
                            try go_wp2
                            have n0_ := Aside0.mk (blk_drew BK108.out)
                            have n1_ := Aside0.mk (blk_drew BK109.out)
                            have n2_ := Aside0.mk (blk_drew BK110.out)
                            have n3_ := Aside0.mk (below_drew1 HB.out)
                            clear BK108 BK109 BK110 HB
                            have BK108 := n0_
                            have BK109 := n1_
                            have BK110 := n2_
                            have HB := n3_
                            clear n0_ n1_ n2_ n3_
                            obtain ⟨i0101, hi0101, _, hsz101, _⟩ := info_parts info2
                            obtain ⟨A101, hcut101, hA101, hC101⟩ := print_drop_of (P := Try.prog) (Value.int .i64) 0 22 2 .i64 Try.underlying22 hi0101 hsz101 (some ad146) c2_0 l2_0 1 (by omega) (of_decide_eq_true z12) HC2_0.out
                            have HR150 := Aside0.mk (Kd.C_of_reads (h1 := fun _ => rfl) (hA101 _ (Kd.reads_of_C HR2_0.out)))
                            have HC150 := Aside0.mk hC101
                            clear hA101 hC101 hi0101 hsz101
                            refine start_ (n := 10) (S := fun w' => w'.cell? ⟨gb108, 0, none⟩ = some (.slice (some ad145) l0_0.length c0_0) ∧ w'.cell? ⟨gb109, 0, none⟩ = some (.slice (some ad146) l2_0.length c2_0)) (ds := []) #[false, false, false, false, false, false, false, false, false, false] (by kernel_rfl) rfl rfl ⟨(blk_cell BK108.out 0).trans rfl, (blk_cell BK109.out 0).trans rfl⟩ (fun hHeld => ?_); refine with_tabW spec_JoinOverPlace.tab7 spec_JoinOverPlace.bits7 (fun HT_ HW_ => ?_)
                            generalize w99.drew = w100 at BK108 BK109 BK110 HB HR150 hHeld ⊢
                            refine pure_ (i := 0) (N := some 54) (v := ?_) (a' := ?_) #[true, false, false, false, false, false, false, false, false, false] rfl rfl (any_of HT_.out (by kernel_rfl)) (fun _ _ _ h => h) (Or.inl ⟨(by rfl), ?_⟩) ?_ ?_
                            rotate_left
                            · exact z10
                            rotate_left
                            · exact z1
                            refine pure_ (i := 3) (N := some 57) (v := ?_) (a' := ?_) #[true, false, false, true, false, false, false, false, false, false] rfl rfl (any_of HT_.out (by kernel_rfl)) (fun _ _ _ h => h) (Or.inl ⟨(by rfl), ?_⟩) ?_ ?_
                            rotate_left
                            · exact z10
                            rotate_left
                            · exact z1
                            refine take_ (i := 1) (N := some 55) (v := ?_) (a' := ?_) #[true, true, false, true, false, false, false, false, false, false] rfl rfl (take_ofW HT_.out HW_.out (by kernel_rfl)) (fun _ _ _ h => h) (Or.inl ⟨(by rfl), ?_⟩) hHeld ?_ ?_
                            rotate_left
                            · rintro w' ⟨s0, s1⟩
                              go_simp
                              with_reducible rfl
                            rotate_left
                            · exact z1
                            refine take_ (i := 4) (N := some 58) (v := ?_) (a' := ?_) #[true, true, false, true, true, false, false, false, false, false] rfl rfl (take_ofW HT_.out HW_.out (by kernel_rfl)) (fun _ _ _ h => h) (Or.inl ⟨(by rfl), ?_⟩) hHeld ?_ ?_
                            rotate_left
                            · rintro w' ⟨s0, s1⟩
                              go_simp
                              with_reducible rfl
                            rotate_left
                            · exact z1
                            refine pure_ (i := 5) (N := some 59) (v := ?_) (a' := ?_) #[true, true, false, true, true, true, false, false, false, false] rfl rfl (any_of HT_.out (by kernel_rfl)) (fun _ _ _ h => h) (Or.inl ⟨(by rfl), ?_⟩) ?_ ?_
                            rotate_left
                            · exact z10
                            rotate_left
                            · exact z1
                            refine join_ (σ := Value × Value × Nat) 1 #[true, true, true, true, true, true, true, true, true, false] (fun s_ => [(56, s_.1), (60, s_.2.1), (11, .pointer (some ⟨s_.2.2, 0, none⟩)), (61, .agg #[s_.2.1])]) (fun s_ w' => (w'.cell? ⟨gb108, 0, none⟩ = some (.slice (some ad145) l0_0.length c0_0) ∧ w'.cell? ⟨gb109, 0, none⟩ = some (.slice (some ad146) l2_0.length c2_0)) ∧ (Kd.R (Kd.int .i64) 2 w' w.heap.size (fun _ => True) s_.2.1 y103) ∧ (w'.heap[gb108]? = some (.cells #[.slice (some ad145) l0_0.length c0_0] 30 (0, 0))) ∧ (w'.heap[gb109]? = some (.cells #[.slice (some ad146) l2_0.length c2_0] 30 (0, 0))) ∧ (w'.heap[gb110]? = some (.cells #[.slice none 0 0] 30 (0, 0))) ∧ (w'.heap[s_.2.2]? = some (.cells #[.slice none 0 0] 30 (0, 0))) ∧ (w.heap.size ≤ s_.2.2) ∧ (w.heap.size ≤ s_.2.2) ∧ (gb108 ≠ s_.2.2) ∧ (s_.2.2 ≠ gb108) ∧ (gb109 ≠ s_.2.2) ∧ (s_.2.2 ≠ gb109) ∧ (gb110 ≠ s_.2.2) ∧ (s_.2.2 ≠ gb110) ∧ (Below w.heap.size w w')) ?_ ?_
                            rotate_left
                            · intro hCont
                              refine two_ (i := 2) (j := 8) (Ni := some 56) (Nj := some 11) #[true, true, true, true, true, true, false, false, false, false] #[true, true, false, true, true, true, false, false, true, false] rfl rfl rfl rfl (two_of HT_.out (by kernel_rfl)) (by decide) (by decide) (fun K hK => ?_) (fun K hK => ?_)
                              · skip
                                refine goes_ Try.func41 (by kernel_rfl) rfl #[.slice (some ad145) l0_0.length c0_0] (by rfl) rfl rfl z9 ?_
                                with_reducible refine (spec_l01Own.calls _ _ l0_0 t102 _ ?side1 ?side2 A51.out).mono ?_
                                (case side1 => exact z11)
                                (case side2 => exact HC0_0.out)
                                rintro e w102 ⟨v112, rfl, ho0, hb⟩
                                refine ⟨_, rfl, ?_⟩
                                have n0_ := Aside0.mk (Kd.R_lower ho0 (below_size z2))
                                have n1_ := zBB BK108 hb
                                have n2_ := zBB BK109 hb
                                have n3_ := zBB BK110 hb
                                have n4_ := Aside0.mk (below_step z2 hb)
                                clear BK108 BK109 BK110 HB
                                have HO113 := n0_
                                have BK108 := n1_
                                have BK109 := n2_
                                have BK110 := n3_
                                have HB := n4_
                                clear n0_ n1_ n2_ n3_ n4_
                                (try clear hb)
                                (try clear hb2)
                                (try clear hk)
                                (try clear hi)
                                (try clear ho0)
                                refine hK.out _ _ ⟨(blk_cell BK108.out 0).trans rfl, (blk_cell BK109.out 0).trans rfl⟩ (fun hHeld => ?_)
                                clear hK K
                                refine norm_ (a' := ?_) ?_ ?_
                                rotate_left
                                · show Act.put _ (some 56) _ = _
                                  simp only [Act.put, List.setIfInBounds_toArray, List.set_cons_zero, List.set_cons_succ, i64_w, i32_w]
                                  rfl
                                refine two_ (i := 6) (j := 8) (Ni := some 60) (Nj := some 11) #[true, true, true, true, true, true, true, false, false, false] #[true, true, true, true, true, true, false, false, true, false] rfl rfl rfl rfl (two_of HT_.out (by kernel_rfl)) (by decide) (by decide) (fun K hK => ?_) (fun K hK => ?_)
                                · skip
                                  refine Kd.R_append_rows_step (Kd.int .i64) (w0 := w) w.heap.size (by rfl) (.tmp 56) (.tmp 59) 22 2 (.int .i64 0) 8 rfl Try.underlying22 info2 rfl (by decide) (by omega) v112 t102 (l2_0.drop 1) _ _ _ (fun _ => True) (fun _ => False) rfl rfl ?aO ?aR (fun _ _ h => h) (fun _ h => h.elim) ?aF ?aB ?aS ?aL ?_
                                  (case aR => first | (rw [← show (l2_0.drop 1).length = (l2_0.length - 1) from List.length_drop]; repeat (first | exact (Kd.C_below HR150.out HB.out) | (with_reducible refine Kd.C_alloc ?_ _) | (with_reducible refine Kd.C_drewN ?_ _) | (with_reducible refine Kd.C_drew ?_))) | (repeat (first | exact (Kd.C_below HR150.out HB.out) | (with_reducible refine Kd.C_alloc ?_ _) | (with_reducible refine Kd.C_drewN ?_ _) | (with_reducible refine Kd.C_drew ?_))))
                                  (case aB => exact z2)
                                  (case aF => exact (fun _ _ => trivial))
                                  (case aO => exact z47)
                                  (case aS => exact (below_size z2))
                                  (case aL => have := LMc53.out; have hlx_ := (show (l2_0.drop 1).length = (l2_0.length - 1) from List.length_drop); omega)
                                  intro v114 w103 ho hb hg hat
                                  rw [← Ny103.out] at ho
                                  have n0_ := Aside0.mk (blk_grown (g := gb108) (o := .cells #[.slice (some ad145) l0_0.length c0_0] 30 (0, 0)) z4 hg (Kd.R_ne HO113.out BK108.out (by decide)))
                                  have n1_ := Aside0.mk (blk_grown (g := gb109) (o := .cells #[.slice (some ad146) l2_0.length c2_0] 30 (0, 0)) z6 hg (Kd.R_ne HO113.out BK109.out (by decide)))
                                  have n2_ := Aside0.mk (blk_grown (g := gb110) (o := .cells #[.slice none 0 0] 30 (0, 0)) z7 hg (Kd.R_ne HO113.out BK110.out (by decide)))
                                  have n3_ := Aside0.mk (hb)
                                  have n4_ := Aside0.mk (ho)
                                  clear BK108 BK109 BK110 HB HO113
                                  have BK108 := n0_
                                  have BK109 := n1_
                                  have BK110 := n2_
                                  have HB := n3_
                                  have HO115 := n4_
                                  clear n0_ n1_ n2_ n3_ n4_
                                  clear ho hb hg hat
                                  obtain ⟨Ao122, co122, eo122⟩ := Kd.R_slice HO115.out
                                  (first | subst eo122 | (injection eo122 with f1_ f2_ f3_; have f4_ := f1_.symm; have f5_ := f3_.symm; clear f1_ f2_ f3_; subst f4_; subst f5_))
                                  refine hK.out _ _ ⟨(blk_cell BK108.out 0).trans rfl, (blk_cell BK109.out 0).trans rfl⟩ (fun hHeld => ?_)
                                  clear hK K
                                  refine norm_ (a' := ?_) ?_ ?_
                                  rotate_left
                                  · show Act.put _ (some 60) _ = _
                                    simp only [Act.put, List.setIfInBounds_toArray, List.set_cons_zero, List.set_cons_succ, i64_w, i32_w]
                                    rfl
                                  refine pure_ (i := 7) (N := some 61) (v := ?_) (a' := ?_) #[true, true, true, true, true, true, true, true, false, false] rfl rfl (any_of HT_.out (by kernel_rfl)) (fun _ _ _ h => h) (Or.inl ⟨(by rfl), ?_⟩) ?_ ?_
                                  rotate_left
                                  · exact z10
                                  rotate_left
                                  · exact z1
                                  refine one_ (i := 8) (N := some 11) #[true, true, true, true, true, true, true, true, true, false] rfl rfl (one_of HT_.out (by kernel_rfl)) (by decide) (fun K hK => ?_)
                                  refine box_step ?hg (N := 11) ?hd (cs := #[.slice none 0 0]) (t := 30) ?hr ?_; (case hd => rfl); (case hg => rfl); (case hr => first | (go_simp; done) | (go_simp; rfl))
                                  intro gb116 hg w105 hbox hb
                                  have n0_ := Aside0.mk (Kd.R_below z35 hb)
                                  have n1_ := zBB BK108 hb
                                  have n2_ := zBB BK109 hb
                                  have n3_ := zBB BK110 hb
                                  have n4_ := Aside0.mk (below_step z2 hb)
                                  have n5_ := Aside0.mk (hbox)
                                  have n6_ := Aside0.mk ((z91 : w.heap.size ≤ gb116))
                                  have n7_ := Aside0.mk ((z91 : w.heap.size ≤ gb116))
                                  have n8_ := Aside0.mk ((z96 : gb108 ≠ gb116))
                                  have n9_ := Aside0.mk ((z97 : gb116 ≠ gb108))
                                  have n10_ := Aside0.mk ((z98 : gb109 ≠ gb116))
                                  have n11_ := Aside0.mk ((z99 : gb116 ≠ gb109))
                                  have n12_ := Aside0.mk ((z87 : gb110 ≠ gb116))
                                  have n13_ := Aside0.mk ((z88 : gb116 ≠ gb110))
                                  clear HO115 BK108 BK109 BK110 HB
                                  have HO115 := n0_
                                  have BK108 := n1_
                                  have BK109 := n2_
                                  have BK110 := n3_
                                  have HB := n4_
                                  have BK116 := n5_
                                  have GW116 := n6_
                                  have GE116 := n7_
                                  have NB108_116 := n8_
                                  have NB116_108 := n9_
                                  have NB109_116 := n10_
                                  have NB116_109 := n11_
                                  have NB110_116 := n12_
                                  have NB116_110 := n13_
                                  clear n0_ n1_ n2_ n3_ n4_ n5_ n6_ n7_ n8_ n9_ n10_ n11_ n12_ n13_
                                  clear hb hbox hg
                                  refine hK.out _ _ ⟨(blk_cell BK108.out 0).trans rfl, (blk_cell BK109.out 0).trans rfl⟩ (fun hHeld => ?_)
                                  clear hK K
                                  refine norm_ (a' := ?_) ?_ ?_
                                  rotate_left
                                  · show Act.put _ (some 11) _ = _
                                    simp only [Act.put, List.setIfInBounds_toArray, List.set_cons_zero, List.set_cons_succ, i64_w, i32_w]
                                    rfl
                                  exact norm_ z38 (hCont (v112, .slice Ao122 y103.length co122, gb116) _ ⟨hHeld, z35, z4, z6, z7, z26, GW116.out, GE116.out, NB108_116.out, NB116_108.out, NB109_116.out, NB116_109.out, NB110_116.out, NB116_110.out, z8⟩)
                                · skip
                                  refine box_step ?hg (N := 11) ?hd (cs := #[.slice none 0 0]) (t := 30) ?hr ?_; (case hd => rfl); (case hg => rfl); (case hr => first | (go_simp; done) | (go_simp; rfl))
                                  intro gb116 hg w103 hbox hb
                                  have n0_ := Aside0.mk (Kd.R_below z47 hb)
                                  have n1_ := zBB BK108 hb
                                  have n2_ := zBB BK109 hb
                                  have n3_ := zBB BK110 hb
                                  have n4_ := Aside0.mk (below_step z2 hb)
                                  have n5_ := Aside0.mk (hbox)
                                  have n6_ := Aside0.mk ((z91 : w.heap.size ≤ gb116))
                                  have n7_ := Aside0.mk ((z91 : w.heap.size ≤ gb116))
                                  have n8_ := Aside0.mk ((z96 : gb108 ≠ gb116))
                                  have n9_ := Aside0.mk ((z97 : gb116 ≠ gb108))
                                  have n10_ := Aside0.mk ((z98 : gb109 ≠ gb116))
                                  have n11_ := Aside0.mk ((z99 : gb116 ≠ gb109))
                                  have n12_ := Aside0.mk ((z87 : gb110 ≠ gb116))
                                  have n13_ := Aside0.mk ((z88 : gb116 ≠ gb110))
                                  clear HO113 BK108 BK109 BK110 HB
                                  have HO113 := n0_
                                  have BK108 := n1_
                                  have BK109 := n2_
                                  have BK110 := n3_
                                  have HB := n4_
                                  have BK116 := n5_
                                  have GW116 := n6_
                                  have GE116 := n7_
                                  have NB108_116 := n8_
                                  have NB116_108 := n9_
                                  have NB109_116 := n10_
                                  have NB116_109 := n11_
                                  have NB110_116 := n12_
                                  have NB116_110 := n13_
                                  clear n0_ n1_ n2_ n3_ n4_ n5_ n6_ n7_ n8_ n9_ n10_ n11_ n12_ n13_
                                  clear hb hbox hg
                                  refine hK.out _ _ ⟨(blk_cell BK108.out 0).trans rfl, (blk_cell BK109.out 0).trans rfl⟩ (fun hHeld => ?_)
                                  clear hK K
                                  refine norm_ (a' := ?_) ?_ ?_
                                  rotate_left
                                  · show Act.put _ (some 11) _ = _
                                    simp only [Act.put, List.setIfInBounds_toArray, List.set_cons_zero, List.set_cons_succ, i64_w, i32_w]
                                    rfl
                                  refine one_ (i := 6) (N := some 60) #[true, true, true, true, true, true, true, false, true, false] rfl rfl (one_of HT_.out (by kernel_rfl)) (by decide) (fun K hK => ?_)
                                  refine Kd.R_append_rows_step (Kd.int .i64) (w0 := w) w.heap.size (by rfl) (.tmp 56) (.tmp 59) 22 2 (.int .i64 0) 8 rfl Try.underlying22 info2 rfl (by decide) (by omega) v112 t102 (l2_0.drop 1) _ _ _ (fun _ => True) (fun _ => False) rfl rfl ?aO ?aR (fun _ _ h => h) (fun _ h => h.elim) ?aF ?aB ?aS ?aL ?_
                                  (case aR => first | (rw [← show (l2_0.drop 1).length = (l2_0.length - 1) from List.length_drop]; repeat (first | exact (Kd.C_below HR150.out HB.out) | (with_reducible refine Kd.C_alloc ?_ _) | (with_reducible refine Kd.C_drewN ?_ _) | (with_reducible refine Kd.C_drew ?_))) | (repeat (first | exact (Kd.C_below HR150.out HB.out) | (with_reducible refine Kd.C_alloc ?_ _) | (with_reducible refine Kd.C_drewN ?_ _) | (with_reducible refine Kd.C_drew ?_))))
                                  (case aB => exact z8)
                                  (case aF => exact (fun _ _ => trivial))
                                  (case aO => exact z47)
                                  (case aS => exact (below_size z8))
                                  (case aL => have := LMc53.out; have hlx_ := (show (l2_0.drop 1).length = (l2_0.length - 1) from List.length_drop); omega)
                                  intro v114 w104 ho hb hg hat
                                  rw [← Ny103.out] at ho
                                  have n0_ := Aside0.mk (blk_grown (g := gb108) (o := .cells #[.slice (some ad145) l0_0.length c0_0] 30 (0, 0)) z4 hg (Kd.R_ne HO113.out BK108.out (by decide)))
                                  have n1_ := Aside0.mk (blk_grown (g := gb109) (o := .cells #[.slice (some ad146) l2_0.length c2_0] 30 (0, 0)) z6 hg (Kd.R_ne HO113.out BK109.out (by decide)))
                                  have n2_ := Aside0.mk (blk_grown (g := gb110) (o := .cells #[.slice none 0 0] 30 (0, 0)) z7 hg (Kd.R_ne HO113.out BK110.out (by decide)))
                                  have n3_ := Aside0.mk (blk_grown (g := gb116) (o := .cells #[.slice none 0 0] 30 (0, 0)) z26 hg (Kd.R_ne HO113.out BK116.out (by decide)))
                                  have n4_ := Aside0.mk (hb)
                                  have n5_ := Aside0.mk (ho)
                                  clear BK108 BK109 BK110 BK116 HB HO113
                                  have BK108 := n0_
                                  have BK109 := n1_
                                  have BK110 := n2_
                                  have BK116 := n3_
                                  have HB := n4_
                                  have HO115 := n5_
                                  clear n0_ n1_ n2_ n3_ n4_ n5_
                                  clear ho hb hg hat
                                  obtain ⟨Ao123, co123, eo123⟩ := Kd.R_slice HO115.out
                                  (first | subst eo123 | (injection eo123 with f1_ f2_ f3_; have f4_ := f1_.symm; have f5_ := f3_.symm; clear f1_ f2_ f3_; subst f4_; subst f5_))
                                  refine hK.out _ _ ⟨(blk_cell BK108.out 0).trans rfl, (blk_cell BK109.out 0).trans rfl⟩ (fun hHeld => ?_)
                                  clear hK K
                                  refine norm_ (a' := ?_) ?_ ?_
                                  rotate_left
                                  · show Act.put _ (some 60) _ = _
                                    simp only [Act.put, List.setIfInBounds_toArray, List.set_cons_zero, List.set_cons_succ, i64_w, i32_w]
                                    rfl
                                  refine pure_ (i := 7) (N := some 61) (v := ?_) (a' := ?_) #[true, true, true, true, true, true, true, true, true, false] rfl rfl (any_of HT_.out (by kernel_rfl)) (fun _ _ _ h => h) (Or.inl ⟨(by rfl), ?_⟩) ?_ ?_
                                  rotate_left
                                  · exact z10
                                  rotate_left
                                  · exact z1
                                  exact norm_ z38 (hCont (v112, .slice Ao123 y103.length co123, gb116) _ ⟨hHeld, z35, z4, z6, z7, z26, GW116.out, GE116.out, NB108_116.out, NB116_108.out, NB109_116.out, NB116_109.out, NB110_116.out, NB116_110.out, z8⟩)
                              · skip
                                refine box_step ?hg (N := 11) ?hd (cs := #[.slice none 0 0]) (t := 30) ?hr ?_; (case hd => rfl); (case hg => rfl); (case hr => first | (go_simp; done) | (go_simp; rfl))
                                intro gb116 hg w102 hbox hb
                                have n0_ := zBB BK108 hb
                                have n1_ := zBB BK109 hb
                                have n2_ := zBB BK110 hb
                                have n3_ := Aside0.mk (below_step z2 hb)
                                have n4_ := Aside0.mk (hbox)
                                have n5_ := Aside0.mk ((z91 : w.heap.size ≤ gb116))
                                have n6_ := Aside0.mk ((z91 : w.heap.size ≤ gb116))
                                have n7_ := Aside0.mk ((z96 : gb108 ≠ gb116))
                                have n8_ := Aside0.mk ((z97 : gb116 ≠ gb108))
                                have n9_ := Aside0.mk ((z98 : gb109 ≠ gb116))
                                have n10_ := Aside0.mk ((z99 : gb116 ≠ gb109))
                                have n11_ := Aside0.mk ((z87 : gb110 ≠ gb116))
                                have n12_ := Aside0.mk ((z88 : gb116 ≠ gb110))
                                clear BK108 BK109 BK110 HB
                                have BK108 := n0_
                                have BK109 := n1_
                                have BK110 := n2_
                                have HB := n3_
                                have BK116 := n4_
                                have GW116 := n5_
                                have GE116 := n6_
                                have NB108_116 := n7_
                                have NB116_108 := n8_
                                have NB109_116 := n9_
                                have NB116_109 := n10_
                                have NB110_116 := n11_
                                have NB116_110 := n12_
                                clear n0_ n1_ n2_ n3_ n4_ n5_ n6_ n7_ n8_ n9_ n10_ n11_ n12_
                                clear hb hbox hg
                                refine hK.out _ _ ⟨(blk_cell BK108.out 0).trans rfl, (blk_cell BK109.out 0).trans rfl⟩ (fun hHeld => ?_)
                                clear hK K
                                refine norm_ (a' := ?_) ?_ ?_
                                rotate_left
                                · show Act.put _ (some 11) _ = _
                                  simp only [Act.put, List.setIfInBounds_toArray, List.set_cons_zero, List.set_cons_succ, i64_w, i32_w]
                                  rfl
                                refine one_ (i := 2) (N := some 56) #[true, true, true, true, true, true, false, false, true, false] rfl rfl (one_of HT_.out (by kernel_rfl)) (by decide) (fun K hK => ?_)
                                refine goes_ Try.func41 (by kernel_rfl) rfl #[.slice (some ad145) l0_0.length c0_0] (by rfl) rfl rfl z9 ?_
                                with_reducible refine (spec_l01Own.calls _ _ l0_0 t102 _ ?side1 ?side2 A51.out).mono ?_
                                (case side1 => exact z11)
                                (case side2 => exact HC0_0.out)
                                rintro e w103 ⟨v112, rfl, ho0, hb⟩
                                refine ⟨_, rfl, ?_⟩
                                have n0_ := Aside0.mk (Kd.R_lower ho0 (below_size z8))
                                have n1_ := zBB BK108 hb
                                have n2_ := zBB BK109 hb
                                have n3_ := zBB BK110 hb
                                have n4_ := zBB BK116 hb
                                have n5_ := Aside0.mk (below_step z8 hb)
                                clear BK108 BK109 BK110 BK116 HB
                                have HO113 := n0_
                                have BK108 := n1_
                                have BK109 := n2_
                                have BK110 := n3_
                                have BK116 := n4_
                                have HB := n5_
                                clear n0_ n1_ n2_ n3_ n4_ n5_
                                (try clear hb)
                                (try clear hb2)
                                (try clear hk)
                                (try clear hi)
                                (try clear ho0)
                                refine hK.out _ _ ⟨(blk_cell BK108.out 0).trans rfl, (blk_cell BK109.out 0).trans rfl⟩ (fun hHeld => ?_)
                                clear hK K
                                refine norm_ (a' := ?_) ?_ ?_
                                rotate_left
                                · show Act.put _ (some 56) _ = _
                                  simp only [Act.put, List.setIfInBounds_toArray, List.set_cons_zero, List.set_cons_succ, i64_w, i32_w]
                                  rfl
                                refine one_ (i := 6) (N := some 60) #[true, true, true, true, true, true, true, false, true, false] rfl rfl (one_of HT_.out (by kernel_rfl)) (by decide) (fun K hK => ?_)
                                refine Kd.R_append_rows_step (Kd.int .i64) (w0 := w) w.heap.size (by rfl) (.tmp 56) (.tmp 59) 22 2 (.int .i64 0) 8 rfl Try.underlying22 info2 rfl (by decide) (by omega) v112 t102 (l2_0.drop 1) _ _ _ (fun _ => True) (fun _ => False) rfl rfl ?aO ?aR (fun _ _ h => h) (fun _ h => h.elim) ?aF ?aB ?aS ?aL ?_
                                (case aR => first | (rw [← show (l2_0.drop 1).length = (l2_0.length - 1) from List.length_drop]; repeat (first | exact (Kd.C_below HR150.out HB.out) | (with_reducible refine Kd.C_alloc ?_ _) | (with_reducible refine Kd.C_drewN ?_ _) | (with_reducible refine Kd.C_drew ?_))) | (repeat (first | exact (Kd.C_below HR150.out HB.out) | (with_reducible refine Kd.C_alloc ?_ _) | (with_reducible refine Kd.C_drewN ?_ _) | (with_reducible refine Kd.C_drew ?_))))
                                (case aB => exact z8)
                                (case aF => exact (fun _ _ => trivial))
                                (case aO => exact z47)
                                (case aS => exact (below_size z8))
                                (case aL => have := LMc53.out; have hlx_ := (show (l2_0.drop 1).length = (l2_0.length - 1) from List.length_drop); omega)
                                intro v114 w104 ho hb hg hat
                                rw [← Ny103.out] at ho
                                have n0_ := Aside0.mk (blk_grown (g := gb108) (o := .cells #[.slice (some ad145) l0_0.length c0_0] 30 (0, 0)) z4 hg (Kd.R_ne HO113.out BK108.out (by decide)))
                                have n1_ := Aside0.mk (blk_grown (g := gb109) (o := .cells #[.slice (some ad146) l2_0.length c2_0] 30 (0, 0)) z6 hg (Kd.R_ne HO113.out BK109.out (by decide)))
                                have n2_ := Aside0.mk (blk_grown (g := gb110) (o := .cells #[.slice none 0 0] 30 (0, 0)) z7 hg (Kd.R_ne HO113.out BK110.out (by decide)))
                                have n3_ := Aside0.mk (blk_grown (g := gb116) (o := .cells #[.slice none 0 0] 30 (0, 0)) z26 hg (Kd.R_ne HO113.out BK116.out (by decide)))
                                have n4_ := Aside0.mk (hb)
                                have n5_ := Aside0.mk (ho)
                                clear BK108 BK109 BK110 BK116 HB HO113
                                have BK108 := n0_
                                have BK109 := n1_
                                have BK110 := n2_
                                have BK116 := n3_
                                have HB := n4_
                                have HO115 := n5_
                                clear n0_ n1_ n2_ n3_ n4_ n5_
                                clear ho hb hg hat
                                obtain ⟨Ao123, co123, eo123⟩ := Kd.R_slice HO115.out
                                (first | subst eo123 | (injection eo123 with f1_ f2_ f3_; have f4_ := f1_.symm; have f5_ := f3_.symm; clear f1_ f2_ f3_; subst f4_; subst f5_))
                                refine hK.out _ _ ⟨(blk_cell BK108.out 0).trans rfl, (blk_cell BK109.out 0).trans rfl⟩ (fun hHeld => ?_)
                                clear hK K
                                refine norm_ (a' := ?_) ?_ ?_
                                rotate_left
                                · show Act.put _ (some 60) _ = _
                                  simp only [Act.put, List.setIfInBounds_toArray, List.set_cons_zero, List.set_cons_succ, i64_w, i32_w]
                                  rfl
                                refine pure_ (i := 7) (N := some 61) (v := ?_) (a' := ?_) #[true, true, true, true, true, true, true, true, true, false] rfl rfl (any_of HT_.out (by kernel_rfl)) (fun _ _ _ h => h) (Or.inl ⟨(by rfl), ?_⟩) ?_ ?_
                                rotate_left
                                · exact z10
                                rotate_left
                                · exact z1
                                exact norm_ z38 (hCont (v112, .slice Ao123 y103.length co123, gb116) _ ⟨hHeld, z35, z4, z6, z7, z26, GW116.out, GE116.out, NB108_116.out, NB116_108.out, NB109_116.out, NB116_109.out, NB110_116.out, NB116_110.out, z8⟩)
                            rintro ⟨v112, v114, gb116⟩ w106 ⟨hS_, h0_, h1_, h2_, h3_, h4_, h5_, h6_, h7_, h8_, h9_, h10_, h11_, h12_, h13_⟩
                            have n0_ : Aside0 (Kd.R (Kd.int .i64) 2 w106 w.heap.size (fun _ => True) v114 y103) := ⟨h0_⟩
                            have n1_ : Aside0 (w106.heap[gb108]? = some (.cells #[.slice (some ad145) l0_0.length c0_0] 30 (0, 0))) := ⟨h1_⟩
                            have n2_ : Aside0 (w106.heap[gb109]? = some (.cells #[.slice (some ad146) l2_0.length c2_0] 30 (0, 0))) := ⟨h2_⟩
                            have n3_ : Aside0 (w106.heap[gb110]? = some (.cells #[.slice none 0 0] 30 (0, 0))) := ⟨h3_⟩
                            have n4_ : Aside0 (w106.heap[gb116]? = some (.cells #[.slice none 0 0] 30 (0, 0))) := ⟨h4_⟩
                            have n5_ : Aside0 (w.heap.size ≤ gb116) := ⟨h5_⟩
                            have n6_ : Aside0 (w.heap.size ≤ gb116) := ⟨h6_⟩
                            have n7_ : Aside0 (gb108 ≠ gb116) := ⟨h7_⟩
                            have n8_ : Aside0 (gb116 ≠ gb108) := ⟨h8_⟩
                            have n9_ : Aside0 (gb109 ≠ gb116) := ⟨h9_⟩
                            have n10_ : Aside0 (gb116 ≠ gb109) := ⟨h10_⟩
                            have n11_ : Aside0 (gb110 ≠ gb116) := ⟨h11_⟩
                            have n12_ : Aside0 (gb116 ≠ gb110) := ⟨h12_⟩
                            have n13_ : Aside0 (Below w.heap.size w w106) := ⟨h13_⟩
                            clear BK108 BK109 BK110 HB
                            clear h0_ h1_ h2_ h3_ h4_ h5_ h6_ h7_ h8_ h9_ h10_ h11_ h12_ h13_
                            have HO115 := n0_
                            have BK108 := n1_
                            have BK109 := n2_
                            have BK110 := n3_
                            have BK116 := n4_
                            have GW116 := n5_
                            have GE116 := n6_
                            have NB108_116 := n7_
                            have NB116_108 := n8_
                            have NB109_116 := n9_
                            have NB116_109 := n10_
                            have NB110_116 := n11_
                            have NB116_110 := n12_
                            have HB := n13_
                            clear n0_ n1_ n2_ n3_ n4_ n5_ n6_ n7_ n8_ n9_ n10_ n11_ n12_ n13_
                            have hHeld : w106.cell? ⟨gb108, 0, none⟩ = some (.slice (some ad145) l0_0.length c0_0) ∧ w106.cell? ⟨gb109, 0, none⟩ = some (.slice (some ad146) l2_0.length c2_0) := hS_
                            obtain ⟨Ao124, co124, eo124⟩ := Kd.R_slice HO115.out
                            (first | subst eo124 | (injection eo124 with f1_ f2_ f3_; have f4_ := f1_.symm; have f5_ := f3_.symm; clear f1_ f2_ f3_; subst f4_; subst f5_))
                            refine norm_ (a' := ?_) ?_ ?_
                            rotate_left
                            · simp only [putAll, Act.put, List.setIfInBounds_toArray, List.set_cons_zero, List.set_cons_succ]
                              rfl
                            refine one_ (i := 9) (N := none) #[true, true, true, true, true, true, true, true, true, true] rfl rfl (one_of HT_.out (by kernel_rfl)) (by decide) (fun K hK => ?_)
                            have hs108 : w106.cell? ⟨gb116, 0, none⟩ = some (.slice none 0 0) := (blk_cell BK116.out 0).trans rfl
                            have hfs108 := blk_frozen BK116.out 0
                            have hns108_0 := NB108_116.out
                            have hns108_1 := NB109_116.out
                            have hns108_2 := NB110_116.out
                            have hms108_0 := NB116_108.out
                            have hms108_1 := NB116_109.out
                            have hms108_2 := NB116_110.out
                            refine skip_ (w1 := ?_) (by rfl) rfl ?_ ?_
                            rotate_left
                            · go_simp
                              rfl
                            refine hK.out _ _ ⟨((cell_far (p := ⟨gb116, _, none⟩) NB108_116.out _).trans (hHeld.1)), ((cell_far (p := ⟨gb116, _, none⟩) NB109_116.out _).trans (hHeld.2))⟩ (fun hHeld => ?_)
                            clear hK K
                            refine done_ (done_of HT_.out (by kernel_rfl)) ?_
                            have hnb109 := NB116_108.out
                            have hnc109 := NB108_116.out
                            have hnb110 := NB116_109.out
                            have hnc110 := NB109_116.out
                            have hnb111 := NB116_110.out
                            have hnc111 := NB110_116.out
                            obtain ⟨hcz112_0, hfz112_0⟩ := zC1 BK116.out
                            try go_wp2_with (first | ((with_reducible refine gate_callee (f := 33) rfl ?_); refine goesL_ (some 63) rfl rfl Try.func33 (by kernel_rfl) rfl #[.agg #[.slice Ao124 y103.length co124]] rfl z9 ?_; (with_reducible refine (spec_l01Is.calls kj26 _ _ y103 false _ ?side1 ?side2 A54.out).mono ?_); (case side1 => refine (Kd.R_reads' (e := 2) (base := w.heap.size) (ok := fun k_ => True) (n := y103.length) (c := co124) ?_).2.2; exact z59); (case side2 => exact (Kd.R_reads' HO115.out).2.1); rintro e w113 ⟨rfl, hb⟩; refine ⟨_, rfl, ?_⟩; have n0_ := Aside0.mk (Kd.R_below z59 hb); have n1_ := Aside0.mk (blk_below (g := gb108) (o := .cells #[.slice (some ad145) l0_0.length c0_0] 30 (0, 0)) z62 hb); have n2_ := Aside0.mk (blk_below (g := gb109) (o := .cells #[.slice (some ad146) l2_0.length c2_0] 30 (0, 0)) z63 hb); have n3_ := Aside0.mk (blk_below (g := gb110) (o := .cells #[.slice none 0 0] 30 (0, 0)) z64 hb); have n4_ := Aside0.mk (blk_below (g := gb116) (o := .cells #[.slice Ao124 y103.length co124] 30 (0, 0)) z57 hb); have n5_ := Aside0.mk (below_step z8 hb); clear HO115 BK108 BK109 BK110 BK116 HB; have HO115 := n0_; have BK108 := n1_; have BK109 := n2_; have BK110 := n3_; have BK116 := n4_; have HB := n5_; clear n0_ n1_ n2_ n3_ n4_ n5_; (try clear hb); (try clear hb2); (try clear hk); (try clear hi); have hnb114 := NB110_108.out; have hnc114 := NB108_110.out; have hnb115 := NB110_109.out; have hnc115 := NB109_110.out; obtain ⟨hcz116_0, hfz116_0⟩ := zC1 BK110.out))
                            refine bodyPost_ret (results_ctt rfl _ _ gb110 30 #[.slice none 0 0] (0, 0) _ rfl z25 Try.underlying30 rfl (by kernel_rfl)) rfl ?_
                            exact ⟨_, _, z58, z28, z28, z8⟩
                        · rw [if_neg c53] at H
                          exact absurd H (by simp)
                      · rw [if_neg c52] at H
                        exact absurd H (by simp)
                    · rw [if_neg c50] at H
                      have c50b0 : ((rd l0_0 (ji46)) == (rd l2_0 0)) = false := beq_eq_false_iff_ne.mpr c50
                      have c50b1 : ((rd l0_0 (ji46)) != (rd l2_0 0)) = true := bne_iff_ne.mpr c50
                      simp only [Option.some.injEq, Prod.mk.injEq] at H
                      obtain ⟨rfl, rfl, rfl⟩ := H
                      try go_wp2
                      have n0_ := Aside0.mk (blk_drew BK108.out)
                      have n1_ := Aside0.mk (blk_drew BK109.out)
                      have n2_ := Aside0.mk (blk_drew BK110.out)
                      have n3_ := Aside0.mk (below_drew1 HB.out)
                      clear BK108 BK109 BK110 HB
                      have BK108 := n0_
                      have BK109 := n1_
                      have BK110 := n2_
                      have HB := n3_
                      clear n0_ n1_ n2_ n3_
                      have p145 : 0 ≤ ((ji46) : Int) := of_decide_eq_true z12
                      have q145 : (ji46) < (l0_0.length : Int) := of_decide_eq_true z12
                      obtain ⟨ad145, e145, hx145_0⟩ := Kd.at_int HR0_0.out (ji46) p145 q145
                      have hw145_0 := hx145_0
                      cases e145
                      try replace hx145_0 := (HB.out.cell (World.block_lt_of_cell? w _ hx145_0)).trans hx145_0
                      replace p145 := eq_true p145
                      replace q145 := eq_true q145
                      have p146 : 0 ≤ (0 : Int) := (by omega)
                      have q146 : 0 < (l2_0.length : Int) := of_decide_eq_true z12
                      obtain ⟨ad146, e146, hx146_0⟩ := Kd.at_int HR2_0.out 0 p146 q146
                      have hw146_0 := hx146_0
                      (try rw [show ((0 : Int)).toNat = 0 from rfl] at hw146_0)
                      (try rw [show 0 * 1 = 0 from rfl] at hw146_0)
                      (try rw [Addr.add_zero'] at hw146_0)
                      cases e146
                      have qi146 : (0 < l2_0.length) = True := eq_true (by omega)
                      (try rw [show ((0 : Int)).toNat = 0 from rfl] at hx146_0)
                      (try rw [Addr.add_zero'] at hx146_0)
                      try replace hx146_0 := (HB.out.cell (World.block_lt_of_cell? w _ hx146_0)).trans hx146_0
                      replace p146 := eq_true p146
                      replace q146 := eq_true q146
                      refine start_ (n := 14) (S := fun w' => w'.cell? ⟨gb108, 0, none⟩ = some (.slice (some ad145) l0_0.length c0_0) ∧ w'.cell? ⟨gb109, 0, none⟩ = some (.slice (some ad146) l2_0.length c2_0) ∧ w'.cell? (ad145.add ((ji46)).toNat) = some (.int .i64 (rd l0_0 (ji46))) ∧ w'.cell? ad146 = some (.int .i64 (rd l2_0 0))) (ds := []) #[false, false, false, false, false, false, false, false, false, false, false, false, false, false] (by kernel_rfl) rfl rfl ⟨(blk_cell BK108.out 0).trans rfl, (blk_cell BK109.out 0).trans rfl, ((HB.out.cell (World.block_lt_of_cell? w _ hw145_0)).trans hw145_0), ((HB.out.cell (World.block_lt_of_cell? w _ hw146_0)).trans hw146_0)⟩ (fun hHeld => ?_); refine with_tabW spec_JoinOverPlace.tab5 spec_JoinOverPlace.bits5 (fun HT_ HW_ => ?_)
                      generalize wc.drew = w117 at BK108 BK109 BK110 HB hx145_0 hx146_0 hHeld ⊢
                      refine pure_ (i := 0) (N := some 40) (v := ?_) (a' := ?_) #[true, false, false, false, false, false, false, false, false, false, false, false, false, false] rfl rfl (any_of HT_.out (by kernel_rfl)) (fun _ _ _ h => h) (Or.inl ⟨(by rfl), ?_⟩) ?_ ?_
                      rotate_left
                      · exact z10
                      rotate_left
                      · exact z1
                      refine pure_ (i := 2) (N := some 42) (v := ?_) (a' := ?_) #[true, false, true, false, false, false, false, false, false, false, false, false, false, false] rfl rfl (any_of HT_.out (by kernel_rfl)) (fun _ _ _ h => h) (Or.inl ⟨(by rfl), ?_⟩) ?_ ?_
                      rotate_left
                      · exact z10
                      rotate_left
                      · exact z1
                      refine pure_ (i := 8) (N := some 48) (v := ?_) (a' := ?_) #[true, false, true, false, false, false, false, false, true, false, false, false, false, false] rfl rfl (any_of HT_.out (by kernel_rfl)) (fun _ _ _ h => h) (Or.inl ⟨(by rfl), ?_⟩) ?_ ?_
                      rotate_left
                      · exact z10
                      rotate_left
                      · exact z1
                      refine take_ (i := 1) (N := some 41) (v := ?_) (a' := ?_) #[true, true, true, false, false, false, false, false, true, false, false, false, false, false] rfl rfl (take_ofW HT_.out HW_.out (by kernel_rfl)) (fun _ _ _ h => h) (Or.inl ⟨(by rfl), ?_⟩) hHeld ?_ ?_
                      rotate_left
                      · rintro w' ⟨s0, s1, s2, s3⟩
                        go_simp
                        with_reducible rfl
                      rotate_left
                      · exact z1
                      refine take_ (i := 3) (N := some 43) (v := ?_) (a' := ?_) #[true, true, true, true, false, false, false, false, true, false, false, false, false, false] rfl rfl (take_ofW HT_.out HW_.out (by kernel_rfl)) (fun _ _ _ h => h) (Or.inl ⟨(by rfl), ?_⟩) hHeld ?_ ?_
                      rotate_left
                      · rintro w' ⟨s0, s1, s2, s3⟩
                        go_simp
                        with_reducible rfl
                      rotate_left
                      · exact z1
                      refine pure_ (i := 4) (N := some 44) (v := ?_) (a' := ?_) #[true, true, true, true, true, false, false, false, true, false, false, false, false, false] rfl rfl (any_of HT_.out (by kernel_rfl)) (fun _ _ _ h => h) (Or.inl ⟨(by rfl), ?_⟩) ?_ ?_
                      rotate_left
                      · exact z10
                      rotate_left
                      · exact z1
                      refine pure_ (i := 5) (N := some 45) (v := ?_) (a' := ?_) #[true, true, true, true, true, true, false, false, true, false, false, false, false, false] rfl rfl (any_of HT_.out (by kernel_rfl)) (fun _ _ _ h => h) (Or.inl ⟨(by rfl), ?_⟩) ?_ ?_
                      rotate_left
                      · exact z10
                      rotate_left
                      · exact z1
                      refine pure_ (i := 6) (N := some 46) (v := ?_) (a' := ?_) #[true, true, true, true, true, true, true, false, true, false, false, false, false, false] rfl rfl (any_of HT_.out (by kernel_rfl)) (fun _ _ _ h => h) (Or.inl ⟨(by rfl), ?_⟩) ?_ ?_
                      rotate_left
                      · exact z10
                      rotate_left
                      · exact z1
                      refine take_ (i := 7) (N := some 47) (v := ?_) (a' := ?_) #[true, true, true, true, true, true, true, true, true, false, false, false, false, false] rfl rfl (take_ofW HT_.out HW_.out (by kernel_rfl)) (fun _ _ _ h => h) (Or.inl ⟨(by rfl), ?_⟩) hHeld ?_ ?_
                      rotate_left
                      · rintro w' ⟨s0, s1, s2, s3⟩
                        go_simp
                        with_reducible rfl
                      rotate_left
                      · exact z1
                      refine take_ (i := 9) (N := some 49) (v := ?_) (a' := ?_) #[true, true, true, true, true, true, true, true, true, true, false, false, false, false] rfl rfl (take_ofW HT_.out HW_.out (by kernel_rfl)) (fun _ _ _ h => h) (Or.inl ⟨(by rfl), ?_⟩) hHeld ?_ ?_
                      rotate_left
                      · rintro w' ⟨s0, s1, s2, s3⟩
                        go_simp
                        with_reducible rfl
                      rotate_left
                      · exact z1
                      refine pure_ (i := 10) (N := some 50) (v := ?_) (a' := ?_) #[true, true, true, true, true, true, true, true, true, true, true, false, false, false] rfl rfl (any_of HT_.out (by kernel_rfl)) (fun _ _ _ h => h) (Or.inl ⟨(by rfl), ?_⟩) ?_ ?_
                      rotate_left
                      · exact z10
                      rotate_left
                      · exact z1
                      refine take_ (i := 11) (N := some 51) (v := ?_) (a' := ?_) #[true, true, true, true, true, true, true, true, true, true, true, true, false, false] rfl rfl (take_ofW HT_.out HW_.out (by kernel_rfl)) (fun _ _ _ h => h) (Or.inl ⟨(by rfl), ?_⟩) hHeld ?_ ?_
                      rotate_left
                      · rintro w' ⟨s0, s1, s2, s3⟩
                        go_simp
                        with_reducible rfl
                      rotate_left
                      · exact z1
                      refine pure_ (i := 12) (N := some 52) (v := ?_) (a' := ?_) #[true, true, true, true, true, true, true, true, true, true, true, true, true, false] rfl rfl (any_of HT_.out (by kernel_rfl)) (fun _ _ _ h => h) (Or.inl ⟨(by rfl), ?_⟩) ?_ ?_
                      rotate_left
                      · exact z10
                      rotate_left
                      · exact z1
                      refine pure_ (i := 13) (N := some 39) (v := ?_) (a' := ?_) #[true, true, true, true, true, true, true, true, true, true, true, true, true, true] rfl rfl (any_of HT_.out (by kernel_rfl)) (fun _ _ _ h => h) (Or.inl ⟨(by rfl), ?_⟩) ?_ ?_
                      rotate_left
                      · exact z10
                      rotate_left
                      · exact z1
                      refine done_ (done_of HT_.out (by kernel_rfl)) ?_
                      have hnb118 := NB110_108.out
                      have hnc118 := NB108_110.out
                      have hnb119 := NB110_109.out
                      have hnc119 := NB109_110.out
                      obtain ⟨hcz120_0, hfz120_0⟩ := zC1 BK110.out
                      try go_wp2
                      refine bodyPost_ret (results_ctt rfl _ _ gb110 30 #[.slice none 0 0] (0, 0) _ rfl z25 Try.underlying30 rfl (by kernel_rfl)) rfl ?_
                      exact ⟨_, _, z58, z28, z28, z2⟩
                  · rw [if_neg c49] at H
                    exact absurd H (by simp)
                · rw [if_neg c48] at H
                  exact absurd H (by simp)
              · rw [if_neg c47] at H
                exact absurd H (by simp)

end Go.Proofs.Ythbfaefneoeadaa.PFnExactJoinOverPlace
